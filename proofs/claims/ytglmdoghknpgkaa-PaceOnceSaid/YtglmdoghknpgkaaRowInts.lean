/- A slice of int that comes in, read as a list. -/
import Derived.Test.YtglmdoghknpgkaaFreshW
import Derived.ChangeSlices
namespace Go.Proofs.Ytglmdoghknpgkaa
set_option linter.unusedVariables false
set_option linter.unusedSimpArgs false
open Go.RowKit
theorem rd_ints {w : World} {x : Addr} {l c : Nat} {zs : List Int} (hl : l ≤ c) (hm : c ≤ maxLen) (hz : zs.length = c) (hc : ∀ i, i < zs.length → w.cell? (x.add i) = some (.int .i64 (zs.getD i 0))) : Rd icv w (.slice (some x) l c) (zs.take l) := by
  have e : (zs.take l).length = l := by rw [List.length_take]; omega
  refine ⟨some x, c, by rw [e], by omega, (by unfold maxLen at hm; omega), (fun h => by cases h), ?_⟩
  rintro ad h j u hu
  injection h with h
  subst h
  have hj := (List.getElem?_eq_some_iff.1 hu).1
  rw [fl_length icv_len, Nat.mul_one] at hj
  rw [fl_icv _ j hj] at hu
  injection hu with hu
  subst hu
  rw [e] at hj
  have hz' : j < zs.length := by omega
  rw [hc j hz', List.getElem_take, List.getD_eq_getElem?_getD, List.getElem?_eq_getElem hz', Option.getD_some]
end Go.Proofs.Ytglmdoghknpgkaa
