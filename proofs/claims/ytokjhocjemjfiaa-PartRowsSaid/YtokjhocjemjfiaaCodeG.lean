/- code.Put, Get, Fix in the form that the printed texts use. -/
import Derived.Test.YtokjhocjemjfiaaCodeGet
set_option linter.unusedVariables false
set_option linter.unusedSimpArgs false
namespace Go.Proofs.Ytokjhocjemjfiaa.Given
open Go Go.RowKit Go.Proofs.Ytokjhocjemjfiaa.CodeW
def code_Put.f (n : Int) : Option ByteArray := if -9223372036854775808 ≤ n ∧ n < 9223372036854775808 then some (putS n.toNat) else none
theorem code_Put.calls (n : Int) (r : ByteArray) (w : World) (h : code_Put.f n = some r) :
    Calls Try.prog 22 #[.int .i64 n] w fun e w' => e = .returned (.string r) ∧ Below w.heap.size w w' := by
  unfold code_Put.f at h
  split at h
  · rename_i hc; cases h; exact put_calls n hc.1 hc.2 w
  · cases h
def code_Get.f (s : ByteArray) : Option (Int × Int × Int) := if s.size ≤ 140737488351232 then some (((getN s.data.toList 0 0).1 : Int), ((getN s.data.toList 0 0).2.1 : Int), ((getN s.data.toList 0 0).2.2 : Int)) else none
theorem code_Get.calls (s : ByteArray) (r1 r2 r3 : Int) (w : World) (h : code_Get.f s = some (r1, r2, r3)) :
    Calls Try.prog 55 #[.string s] w fun e w' => e = .returned (.tuple #[.int .i64 r1, .int .i64 r2, .int .i64 r3]) ∧ Below w.heap.size w w' := by
  unfold code_Get.f at h
  split at h
  · rename_i hc; cases h; exact get_calls s hc w
  · cases h
end Go.Proofs.Ytokjhocjemjfiaa.Given
