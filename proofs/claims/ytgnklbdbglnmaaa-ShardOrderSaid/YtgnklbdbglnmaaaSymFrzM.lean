/- A slice of one's own is given away in a region that draws its order. -/
import Derived.Test.YtgnklbdbglnmaaaMgJ
namespace Go.Proofs.Ytgnklbdbglnmaaa
set_option linter.unusedVariables false
set_option linter.unusedSimpArgs false
set_option maxHeartbeats 8000000
open Go.RowKit

theorem delF_mem {F : Rows} {id : Nat} {s : Nat × Row} (h : s ∈ F) (hn : s.1 ≠ id) : s ∈ delF id F := by
  induction F with
  | nil => cases h
  | cons x t ih =>
    obtain ⟨k, r⟩ := x
    unfold delF
    split
    · rename_i e
      rcases List.mem_cons.1 h with rfl | h
      · exact absurd e hn
      · exact h
    · rcases List.mem_cons.1 h with rfl | h
      · exact List.mem_cons_self
      · exact List.mem_cons_of_mem _ (ih h)

section
variable {P : Program} {c : Ctx} {σ σ1 : Slots} {F F1 : Rows} {rdf : List (Nat × List Nat)} {Q : Exit → Act → World → Prop} {ops : Array Oper} {fuel : Nat} {listed : Array Bool}
theorem H.freeze (d id : Nat) {id' : Nat} {x x' : Value} {E sz n : Nat} {g : Nat → List AV} (hrow : F.lookup id = some (.own x E sz n g)) (hd : σ.lookup d = some (.ref id' x')) (hx : x' = x) (hnr : rdf.all (fun p => !p.2.contains id) = true)
    (next : H P ops c ((d, .lst sz n g) :: σ) (delF id F) rdf fuel listed ((d, .lst sz n g) :: σ) (delF id F) Q) : H P ops c σ1 F1 rdf fuel listed σ F Q := by
  intro w1 a w hI
  have hno : ∀ k, id ∉ rdOf rdf k := by
    intro k hk
    unfold rdOf at hk
    cases hl : rdf.lookup k with
    | none => rw [hl] at hk; cases hk
    | some l =>
      rw [hl] at hk
      have hm : (k, l) ∈ rdf := by
        clear next hI hnr
        induction rdf with
        | nil => cases hl
        | cons y t ih =>
          obtain ⟨j, m⟩ := y
          rw [List.lookup_cons] at hl
          split at hl
          · rename_i e
            cases hl
            rw [beq_iff_eq] at e
            subst e
            exact List.mem_cons_self
          · exact List.mem_cons_of_mem _ (ih hl)
      have := List.all_eq_true.1 hnr _ hm
      simp only [Bool.not_eq_true', Bool.eq_false_iff] at this
      exact this (List.contains_iff_mem.2 (by simpa using hk))
  have hnow : R c ((d, .lst sz n g) :: σ) (delF id F) a w := freezeSlot (K := R c ((d, .lst sz n g) :: σ) (delF id F)) d id hrow hd hx (fun _ _ h => h) a w hI.now
  obtain ⟨L1, L2, e1, e2⟩ := delF_split hrow
  have hown : ∀ b, Own c.off (delF id F) b → Own c.off F b := fun b hb => Own.tail (fun r hr => by rw [e2] at hr; rw [e1]; rcases List.mem_append.1 hr with h | h <;> simp [h]) hb
  have hI' : HI ops c ((d, .lst sz n g) :: σ) (delF id F) rdf listed ((d, .lst sz n g) :: σ) (delF id F) w a w := ⟨hnow, hnow, Ext.refl _ _, hI.closed, fun _ _ s hs _ => hs, fun i _ => ⟨Nat.le_refl _, fun _ _ _ => rfl⟩⟩
  refine wpAnyG_base fuel listed a w (fun k v v' hk h1 h2 h3 => ?_) (fun k _ => ⟨Nat.le_refl _, fun _ _ _ => rfl⟩) (next w a w hI')
  refine ⟨Nat.le_trans hI.ext.size h2.1, fun b hb hr => ?_⟩
  have hbw : b < w.heap.size := Nat.lt_of_lt_of_le hb hI.ext.size
  have hw : ¬ Own c.off (delF id F) b ∨ ∃ s ∈ delF id F, s.1 ∈ rdOf rdf k ∧ s.2.block = some b := by
    rcases hr with hr | ⟨s, g1, g2, g3⟩
    · exact .inl fun h => hI.ext.own b hb hr (hown b h)
    · exact .inr ⟨s, delF_mem (hI.keep k hk s g1 g2) (fun e => hno k (e ▸ g2)), g2, g3⟩
  rw [h2.2 b hbw hw, ← h1.2 b hbw hw]
  exact h3.2 b hb hr

/-- One of three operations may come up. -/
theorem H.o3 {o o' o'' : Oper} {ids ids' ids'' : List Nat} {ι ι' ι'' : Type} {sl : ι → Slots} {ro : ι → Rows} {sl' : ι' → Slots} {ro' : ι' → Rows} {sl'' : ι'' → Slots} {ro'' : ι'' → Rows} (i i' i'' : Nat) {n : Nat} (hi : ops[i]? = some o) (hi' : ops[i']? = some o') (hi'' : ops[i'']? = some o'') (hn : Nat.blt 0 n = true) (hrd : Region.ready .any ops listed = [i, i', i''])
    (h : O P ops c o σ F Q ids ι sl ro) (h' : O P ops c o' σ F Q ids' ι' sl' ro') (h'' : O P ops c o'' σ F Q ids'' ι'' sl'' ro'') (ht : tch ops i = true ∨ ids = []) (ht' : tch ops i' = true ∨ ids' = []) (ht'' : tch ops i'' = true ∨ ids'' = [])
    (hdis : apartOk ops rdf i ids = true) (hdis' : apartOk ops rdf i' ids' = true) (hdis'' : apartOk ops rdf i'' ids'' = true)
    (next : ∀ k, H P ops c (headW o.dst (sl k) (σ1.filter fun p => !(o.dst == some p.1))) F1 rdf (n - 1) (listed.setIfInBounds i true) (sl k) (ro k) Q) (next' : ∀ k, H P ops c (headW o'.dst (sl' k) (σ1.filter fun p => !(o'.dst == some p.1))) F1 rdf (n - 1) (listed.setIfInBounds i' true) (sl' k) (ro' k) Q)
    (next'' : ∀ k, H P ops c (headW o''.dst (sl'' k) (σ1.filter fun p => !(o''.dst == some p.1))) F1 rdf (n - 1) (listed.setIfInBounds i'' true) (sl'' k) (ro'' k) Q) : H P ops c σ1 F1 rdf n listed σ F Q := by
  obtain ⟨m, rfl⟩ : ∃ m, n = m + 1 := ⟨n - 1, by have := of_blt hn; omega⟩
  intro w1 a w hI
  refine ⟨fun h0 => (by rw [hrd] at h0; cases h0), fun j hj => ?_⟩
  have hj' := hj
  rw [hrd] at hj'
  rcases (by simpa using hj' : j = i ∨ j = i' ∨ j = i'') with rfl | rfl | rfl
  · exact H.run hi h ht hdis next hI hj
  · exact H.run hi' h' ht' hdis' next' hI hj
  · exact H.run hi'' h'' ht'' hdis'' next'' hI hj

/-- The same at a slot that is told otherwise. -/
theorem H.tell (d : Nat) {A : AV} (B : AV) (hd : σ.lookup d = some A) (hi : Imp A B) (next : H P ops c ((d, B) :: σ) F rdf fuel listed ((d, B) :: σ) F Q) : H P ops c σ1 F1 rdf fuel listed σ F Q := by
  refine H.rebase ?_
  intro w1 a w hI
  have hb : R c ((d, B) :: σ) F a w1 := slotAs (K := R c ((d, B) :: σ) F) d B hd hi (fun _ _ h => h) a w1 hI.base
  have hn : R c ((d, B) :: σ) F a w := slotAs (K := R c ((d, B) :: σ) F) d B hd hi (fun _ _ h => h) a w hI.now
  exact next w1 a w ⟨hb, hn, hI.ext, hI.closed, hI.keep, hI.st⟩
end

end Go.Proofs.Ytgnklbdbglnmaaa
