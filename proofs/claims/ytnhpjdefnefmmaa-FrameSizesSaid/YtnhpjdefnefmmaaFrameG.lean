/- frame.Read in the form that the printed texts use. -/
import Derived.Test.YtnhpjdefnefmmaaFrameW
namespace Go.Proofs.Ytnhpjdefnefmmaa.Given
open Go Go.RowKit Go.Proofs.Ytnhpjdefnefmmaa.FrameW
theorem ne_empty (l : List UInt8) : (l != ([] : List UInt8)) = !l.isEmpty := by cases l <;> rfl
def frame_Read.f (s : ByteArray) : Option (ByteArray × Int × Int) := if s.size ≤ 140737488351232 then some ((readN s).1, ((readN s).2.1 : Int), ((readN s).2.2 : Int)) else none
theorem frame_Read.calls (s r1 : ByteArray) (r2 r3 : Int) (w : World) (h : frame_Read.f s = some (r1, r2, r3)) :
    Calls Try.prog 12 #[.string s] w fun e w' => e = .returned (.tuple #[.string r1, .int .i64 r2, .int .i64 r3]) ∧ Below w.heap.size w w' := by
  unfold frame_Read.f at h
  split at h
  · rename_i hc; cases h; exact read_calls s hc w
  · cases h
end Go.Proofs.Ytnhpjdefnefmmaa.Given
