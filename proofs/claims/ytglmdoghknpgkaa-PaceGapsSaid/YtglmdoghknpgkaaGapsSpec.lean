/- PaceGaps: what numbers with gaps come to. -/
import Derived.Test.YtglmdoghknpgkaaFreshSpec
namespace Go.Proofs.Ytglmdoghknpgkaa
set_option linter.unusedVariables false
set_option linter.unusedSimpArgs false

def gapsL (i : Nat) : List Int := if i = 0 then [] else (List.range (min i 63 + 1)).map (fun (j : Nat) => 2 * (j : Int))
theorem gaps_len (i : Nat) : (gapsL i).length ≤ 64 := by unfold gapsL; split <;> simp; omega
theorem gaps_ints (i : Nat) (x : Int) (h : x ∈ gapsL i) : 0 ≤ x ∧ x ≤ 126 := by
  unfold gapsL at h
  split at h
  · simp at h
  · simp at h; obtain ⟨j, hj, rfl⟩ := h; omega
theorem gaps_step_all : ∀ i : Fin 70, fresh (gapsL i) (2 * (((i : Nat) : Int) + 1)) = (gapsL (i + 1), decide ((i : Nat) + 1 < 64)) := by decide +kernel
theorem gaps_end_all : ∀ i : Fin 71, (fresh (gapsL i) 1).2 = true ∧ ((fresh (gapsL i) 1).1.length : Int) = (if (i : Nat) = 0 then 1 else ((min i 63 : Nat) : Int)) ∧ (fresh (gapsL i) 1).1.getD 0 0 = (if (i : Nat) = 0 then 1 else 2) := by decide +kernel
theorem gaps_step (i : Nat) (h : i < 70) : fresh (gapsL i) (2 * ((i : Int) + 1)) = (gapsL (i + 1), decide (i + 1 < 64)) := gaps_step_all ⟨i, h⟩
theorem gaps_end (i : Nat) (h : i < 71) : (fresh (gapsL i) 1).2 = true ∧ ((fresh (gapsL i) 1).1.length : Int) = (if i = 0 then 1 else ((min i 63 : Nat) : Int)) ∧ (fresh (gapsL i) 1).1.getD 0 0 = (if i = 0 then 1 else 2) := gaps_end_all ⟨i, h⟩

end Go.Proofs.Ytglmdoghknpgkaa
