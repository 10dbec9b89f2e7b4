import Derived.Test.YtfonigbkoligmaaPolyC
set_option linter.unusedVariables false
set_option linter.unusedSimpArgs false
namespace Go.Proofs.Ytfonigbkoligmaa.Cr
open Go.RowKit Go.Proofs.Ytfonigbkoligmaa.P Go.Proofs.YtfonigbkoligmaaW.PrintWords Go.Proofs.YtfonigbkoligmaaW.PrintLast Go.Proofs.YtfonigbkoligmaaW.PrintMore Go.Proofs.Ytfonigbkoligmaa.Ev
theorem cycE_rot (e : S33 → S33 → Int) (u v : List S33) : cycE e (v ++ u) = cycE e (u ++ v) := by
  cases u with
  | nil => simp
  | cons a A =>
    cases v with
    | nil => simp
    | cons b B =>
      show pathE e (b :: B ++ a :: A ++ [b]) = pathE e (a :: A ++ b :: B ++ [a])
      have k1 := pathE_append e a (A ++ [b]) (b :: B)
      have k2 := pathE_append e b (B ++ [a]) (a :: A)
      simp only [List.cons_append, List.append_assoc, List.nil_append] at k1 k2 ⊢
      omega
end Go.Proofs.Ytfonigbkoligmaa.Cr
