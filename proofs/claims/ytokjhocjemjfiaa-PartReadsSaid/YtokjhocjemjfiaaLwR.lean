/- A contract in letters. -/
import Derived.Test.YtokjhocjemjfiaaLw4
import Derived.Test.YtokjhocjemjfiaaRdD
set_option linter.unusedVariables false
namespace Go.Proofs.Ytokjhocjemjfiaa.PartW
open Go Go.RowKit Go.Shelf Go.Proofs.Ytokjhocjemjfiaa.A Go.Proofs.Ytokjhocjemjfiaa.Sp Go.Proofs.Ytokjhocjemjfiaa.Reg Go.Proofs.Ytokjhocjemjfiaa.Seq Go.Proofs.Ytokjhocjemjfiaa.CodeW Go.Proofs.Ytokjhocjemjfiaa.CodeQ Go.Proofs.Ytokjhocjemjfiaa.Given Go.Proofs.YtokjhocjemjfiaaW.PrintWords Go.Proofs.YtokjhocjemjfiaaW.PrintLast Go.Proofs.YtokjhocjemjfiaaW.PrintMore
theorem rreadc (s : ByteArray) (w : World) (hs : s.size ≤ 140737488351232) {P : Prt} {n e : Nat} (h : docR s = (P, (n, e))) : Calls Try.prog 21 #[.string s] w fun r w' => ∃ A c, r = .returned (.tuple #[vP P A c, .int .i64 (n : Int), .int .i64 (e : Int)]) ∧ Rd w' A c P.l ∧ Below w.heap.size w w' := by
  have := ref_ReadPart s w hs
  rw [h] at this; exact this
end Go.Proofs.Ytokjhocjemjfiaa.PartW
