/- An array in memory: its cells by place. -/
import Derived.Test.YtgnklbdbglnmaaaSymFrzM
namespace Go.Proofs.Ytgnklbdbglnmaaa
set_option linter.unusedVariables false
set_option linter.unusedSimpArgs false
set_option maxHeartbeats 8000000
open Go.RowKit

def arrV (b n : Nat) : Value := .slice (some ⟨b, 0, none⟩) n n
theorem addr_zero (a : Addr) : a.add 0 = a := by unfold Addr.add; simp
theorem arrRow {c : Ctx} {σ : Slots} {F : Rows} {K : Act → World → Prop} (d id sz n : Nat) {b b' T : Nat} {cs : List AV} (g : Nat → List AV) (h : F.lookup id = some (.blk b T cs)) (hd : σ.lookup d = some (.ptr id b' 0)) (hb : b' = b) (hl : cs.length = n * sz) (hn : n ≤ maxLen)
    (hg : ∀ i, i < n → (g i).length = sz ∧ ∀ j A, (g i)[j]? = some A → cs[i * sz + j]? = some A)
    (next : ∀ a w, R c ((d, .eptr id (arrV b n) sz 0 0) :: σ) (setF id id (.own (arrV b n) T sz n g) F) a w → K a w) : ∀ a w, R c σ F a w → K a w := by
  intro a w hR
  subst hb
  refine next a w ?_
  obtain ⟨L1, L2, h1, h2⟩ := setF_split h
  rw [h2]
  have hsat := hR.sat
  rw [h1] at hsat
  obtain ⟨g1, g2⟩ := hsat.turn (i' := id) (r' := .own (arrV b' n) T sz n g) (w' := w) hR.off (Nat.le_refl _) (fun _ _ _ => rfl) (fun b hb => .inl hb) fun he => by
    obtain ⟨us, hh, hl', hu, hr⟩ := hsat.rows (id, .blk b' T cs) (by simp)
    refine ⟨us, ⟨hl'.trans hl, .inr ⟨b', n, us.toArray, rfl, Nat.zero_le _, hh, Nat.le_refl _, hn, by simpa using hl'.trans hl, ?_⟩⟩, fun i hi => (hg i hi).1, hu, fun i hi j A hA => ?_⟩
    · show us.take (n * sz) = us
      exact List.take_of_length_le (by omega)
    · have hc := (hg i hi).2 j A hA
      have hlt : i * sz + j < us.length := by
        rw [hl']
        exact (List.getElem?_eq_some_iff.1 hc).1
      exact ⟨us[i * sz + j], List.getElem?_eq_getElem hlt, (hr _ A _ hc (List.getElem?_eq_getElem hlt)).ext he⟩
  refine ⟨hR.len, hR.defers, hR.hoff, hR.kept, fun s hs b hb => ?_, g1, fun k A hA => ?_⟩
  · rcases List.mem_append.1 hs with h3 | h3
    · exact hR.fresh s (by rw [h1]; simp [h3]) b hb
    · rcases List.mem_cons.1 h3 with rfl | h3
      · exact hR.fresh (id, .blk _ T cs) (by rw [h1]; simp) b hb
      · exact hR.fresh s (by rw [h1]; simp [h3]) b hb
  · rw [lookup_cons] at hA
    split at hA
    · rename_i e
      cases hA
      have h3 := hR.slots d _ hd
      rw [e]
      generalize a.tmps.getD d undef = v at h3 ⊢
      cases h3
      have h4 := Rep.eptr (own := Own c.off (L1 ++ (id, .own (arrV b' n) T sz n g) :: L2)) (w := w) id (arrV b' n) sz 0 0
      rw [show 0 * sz + 0 = 0 by omega, addr_zero] at h4
      exact h4
    · exact (hR.slots k A hA).ext (by rw [h1]; exact g2)

end Go.Proofs.Ytgnklbdbglnmaaa
