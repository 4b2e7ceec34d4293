/- The first line of wakes in plain Lean. No Go. -/
import Derived.Test.YteiknmcmaemcoaaDoorVu
namespace Go.Proofs.YteiknmcmaemcoaaDoor
set_option linter.unusedVariables false
set_option linter.unusedSimpArgs false
def wakeL : V.Bs := [109, 97, 105, 108, 32, 102, 114, 111, 109, 58, 60, 62, 32, 115, 105, 122, 101, 61, 53]
def wakeT : V.Bs := [77, 65, 73, 76, 32, 70, 82, 79, 77, 58, 60, 62, 32, 83, 73, 90, 69, 61, 53]
def wakeC : V.Cmd := ⟨2, [], ⟨true, [], []⟩, [(wSIZE, [53])]⟩
theorem number_five : V.number [53] = true := by decide +kernel
theorem wake_parse : V.parse wakeL = (some wakeC, 0) := by decide +kernel
theorem wake_frob : V.parse [70, 82, 79, 66] = (none, 500) := by decide +kernel
theorem wake_line : V.line wakeC = wakeT := by decide +kernel
theorem wake_back : V.parse wakeT = (some wakeC, 0) := by decide +kernel
theorem wake_text : V.text wakeC = some wakeT := by unfold V.text; rw [wake_line, wake_back]; rfl
theorem wake_param : V.param wSIZE wakeC.prms = some [53] := by decide +kernel
end Go.Proofs.YteiknmcmaemcoaaDoor
