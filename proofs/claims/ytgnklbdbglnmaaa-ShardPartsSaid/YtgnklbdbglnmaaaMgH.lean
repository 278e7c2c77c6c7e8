/- Texts of this proof, laid together: SymLen, SymReb, SymBlk, SymRd, SymArg, ApiRd, RefMay, RefA, RefB. -/
import Derived.Test.YtgnklbdbglnmaaaMgC
import Derived.ChangeArms
import Derived.DataReads
import Derived.Test.YtgnklbdbglnmaaaMgG
/- Lengths of slices within structs. -/
namespace Go.Proofs.Ytgnklbdbglnmaaa
set_option linter.unusedVariables false
set_option linter.unusedSimpArgs false
set_option maxHeartbeats 8000000
open Go.RowKit

theorem lenAgg {c : Ctx} {σ : Slots} {F : Rows} {K : Act → World → Prop} (d j : Nat) {cs : List AV} {sz n : Nat} {g : Nat → List AV} (h : σ.lookup d = some (.agg cs)) (hj : cs[j]? = some (.lst sz n g)) (next : n ≤ 9223372036854775807 → ∀ a w, R c σ F a w → K a w) : ∀ a w, R c σ F a w → K a w := by
  intro a w hR
  refine next ?_ a w hR
  have h1 := hR.slots d _ h
  generalize a.tmps.getD d undef = v at h1
  cases h1 with
  | @agg _ us hl h1 hr =>
    have hlt : j < us.length := by rw [hl]; exact (List.getElem?_eq_some_iff.1 hj).1
    have h2 := hr j _ _ hj (List.getElem?_eq_getElem hlt)
    generalize us[j] = v at h2
    cases h2 with
    | lst u hn hm => simp only [maxLen] at hm; omega

theorem upto_succ {P : Nat → Prop} {k : Nat} (h : ∀ j, j < k → P j) (hk : P k) : ∀ j, j < k + 1 → P j := fun j hj => by
  rcases Nat.lt_or_eq_of_le (Nat.le_of_lt_succ hj) with h1 | rfl
  · exact h j h1
  · exact hk

/-- The same row of one's own, told otherwise. -/
theorem ownAs {c : Ctx} {σ : Slots} {F : Rows} {K : Act → World → Prop} (id : Nat) {x : Value} {E sz n n' : Nat} {g : Nat → List AV} (g' : Nat → List AV) (h : F.lookup id = some (.own x E sz n g)) (hn : n = n') (hg : ∀ i, i < n → g i = g' i)
    (next : ∀ a w, R c σ (setF id id (.own x E sz n' g') F) a w → K a w) : ∀ a w, R c σ F a w → K a w := by
  intro a w hR
  refine next a w ?_
  subst hn
  obtain ⟨L1, L2, h1, h2⟩ := setF_split h
  rw [h2]
  have hsat := hR.sat
  rw [h1] at hsat
  obtain ⟨g1, g2⟩ := hsat.turn (i' := id) (r' := .own x E sz n g') (w' := w) hR.off (Nat.le_refl _) (fun _ _ _ => rfl) (fun b hb => .inl hb) fun he => by
    obtain ⟨us, ho, hl, hu, hr⟩ := hsat.rows (id, .own x E sz n g) (by simp)
    exact ⟨us, ho, fun i hi => by rw [← hg i hi]; exact hl i hi, hu, fun i hi j A hA => by
      obtain ⟨u, hu, hrep⟩ := hr i hi j A (by rw [hg i hi]; exact hA)
      exact ⟨u, hu, hrep.ext he⟩⟩
  refine ⟨hR.len, hR.defers, hR.hoff, hR.kept, fun s hs b hb => ?_, g1, fun k A hA => (hR.slots k A hA).ext (by rw [h1]; exact g2)⟩
  rcases List.mem_append.1 hs with h3 | h3
  · exact hR.fresh s (by rw [h1]; simp [h3]) b hb
  · rcases List.mem_cons.1 h3 with rfl | h3
    · exact hR.fresh (id, .own x E sz n g) (by rw [h1]; simp) b hb
    · exact hR.fresh s (by rw [h1]; simp [h3]) b hb

end Go.Proofs.Ytgnklbdbglnmaaa

/- A drawn region, told anew from where it stands. -/
namespace Go.Proofs.Ytgnklbdbglnmaaa
set_option linter.unusedVariables false
set_option linter.unusedSimpArgs false
set_option maxHeartbeats 8000000
open Go.RowKit

theorem wpAnyG_base {P : Program} {ops : Array Oper} {Q : Exit → Act → World → Prop} {S S' : Nat → World → Prop} : ∀ (n : Nat) (listed : Array Bool) (a : Act) (u : World), (∀ k v v', Still ops listed k → S' k v → S' k v' → S k v → S k v') → (∀ k, Still ops listed k → S' k u) →
    wpAnyG P ops Q S' n listed a u → wpAnyG P ops Q S n listed a u
  | 0, _, _, _, _, _, h => h
  | n + 1, listed, a, u, hS, h0, h => by
    refine ⟨h.1, fun j hj => wpOp_mono (fun a' w' h' => ⟨fun k hk hs => ?_, ?_⟩) (h.2 j hj)⟩
    · exact hS k u w' hk.less (h0 k hk.less) (h'.1 k hk (h0 k hk.less)) hs
    · exact wpAnyG_base n _ a' w' (fun k v v' hk => hS k v v' hk.less) (fun k hk => h'.1 k hk (h0 k hk.less)) h'.2

section
variable {P : Program} {c : Ctx} {σ σ1 : Slots} {F F1 : Rows} {rdf : List (Nat × List Nat)} {Q : Exit → Act → World → Prop} {ops : Array Oper} {fuel : Nat} {listed : Array Bool}
theorem H.rebase (next : H P ops c σ F rdf fuel listed σ F Q) : H P ops c σ1 F1 rdf fuel listed σ F Q := by
  intro w1 a w hI
  have hI' : HI ops c σ F rdf listed σ F w a w := ⟨hI.now, hI.now, Ext.refl _ _, hI.closed, fun _ _ s hs _ => hs, fun i _ => ⟨Nat.le_refl _, fun _ _ _ => rfl⟩⟩
  refine wpAnyG_base fuel listed a w (fun k v v' hk h1 h2 h3 => ?_) (fun k _ => ⟨Nat.le_refl _, fun _ _ _ => rfl⟩) (next w a w hI')
  refine ⟨Nat.le_trans hI.ext.size h2.1, fun b hb hr => ?_⟩
  have hbw : b < w.heap.size := Nat.lt_of_lt_of_le hb hI.ext.size
  have hw : ¬ Own c.off F b ∨ ∃ s ∈ F, s.1 ∈ rdOf rdf k ∧ s.2.block = some b := by
    rcases hr with hr | ⟨s, g1, g2, g3⟩
    · exact .inl (hI.ext.own b hb hr)
    · exact .inr ⟨s, hI.keep k hk s g1 g2, g2, g3⟩
  rw [h2.2 b hbw hw, ← h1.2 b hbw hw]
  exact h3.2 b hb hr
end

/-- Rows in another order, some of them dropped. -/
inductive Sub : Rows → Rows → Prop
  | refl (F : Rows) : Sub F []
  | pick {F F' G : Rows} {r : Nat × Row} (h : F.Perm (r :: F')) (t : Sub F' G) : Sub F (r :: G)
theorem Sub.perm {F G : Rows} (h : Sub F G) : ∃ H, F.Perm (G ++ H) := by
  induction h with
  | refl F => exact ⟨F, List.Perm.refl _⟩
  | pick h _ ih =>
    obtain ⟨H, hH⟩ := ih
    exact ⟨H, h.trans (List.Perm.cons _ hH)⟩
theorem p0 {r : Nat × Row} {F : Rows} : (r :: F).Perm (r :: F) := List.Perm.refl _
theorem p1 {a r : Nat × Row} {F : Rows} : (a :: r :: F).Perm (r :: a :: F) := List.Perm.swap _ _ _
theorem pS {a r : Nat × Row} {F F' : Rows} (h : F.Perm (r :: F')) : (a :: F).Perm (r :: a :: F') := (List.Perm.cons _ h).trans (List.Perm.swap _ _ _)
theorem R.weakP {c : Ctx} {σ σ' : Slots} {F G : Rows} {a : Act} {w : World} (hs : WeakOk σ σ') (hF : Sub F G) (h : R c σ F a w) : R c σ' G a w := by
  obtain ⟨H, hH⟩ := hF.perm
  exact (h.perm hH).weak hs (List.sublist_append_left _ _)

/-- A scope whose label is jumped back to: a pass is shown once. -/
theorem S.scopeE {P : Program} {c : Ctx} {σ : Slots} {F : Rows} {Q : Exit → Act → World → Prop} {ι : Type} {x B : Code} (l : Nat) (sl : ι → Slots) (ro : ι → Rows) (μ : ι → Nat) (hf : findLabel x l = some (.seq .skip B))
    (pass : ∀ i (J : Act → World → Prop), (∀ a w j, μ j < μ i → R c (sl j) (ro j) a w → J a w) → S P c B (sl i) (ro i) (Exit.jump l J Q))
    (first : (∀ i, S P c B (sl i) (ro i) (Exit.jump l (fun a w => ∃ i, R c (sl i) (ro i) a w) Q)) → S P c x σ F (Exit.jump l (fun a w => ∃ i, R c (sl i) (ro i) a w) Q)) : S P c (.scope x) σ F Q :=
  S.scope l sl ro μ hf (first fun i => pass i _ fun a w j _ hR => ⟨j, hR⟩) fun i => S.seq (S.skip (pass i _ fun a w j hj hR => ⟨j, hj, hR⟩))

end Go.Proofs.Ytgnklbdbglnmaaa

/- A block told otherwise; rows picked for a call. -/
namespace Go.Proofs.Ytgnklbdbglnmaaa
set_option linter.unusedVariables false
set_option linter.unusedSimpArgs false
set_option maxHeartbeats 8000000
open Go.RowKit

theorem blkAs {c : Ctx} {σ : Slots} {F : Rows} {K : Act → World → Prop} (id : Nat) {b : Nat} {T : TypeId} {cs : List AV} (cs' : List AV) (h : F.lookup id = some (.blk b T cs)) (hi : Imps cs cs')
    (next : ∀ a w, R c σ (setF id id (.blk b T cs') F) a w → K a w) : ∀ a w, R c σ F a w → K a w := by
  intro a w hR
  refine next a w ?_
  obtain ⟨L1, L2, h1, h2⟩ := setF_split h
  rw [h2]
  have hsat := hR.sat
  rw [h1] at hsat
  obtain ⟨i1, i2⟩ := hi.get
  obtain ⟨g1, g2⟩ := hsat.turn (i' := id) (r' := .blk b T cs') (w' := w) hR.off (Nat.le_refl _) (fun _ _ _ => rfl) (fun b hb => .inl hb) fun he => by
    obtain ⟨us, hh, hl, hu, hr⟩ := hsat.rows (id, .blk b T cs) (by simp)
    exact ⟨us, hh, hl.trans i1, hu, fun j A u hA hu => by
      obtain ⟨B, hB, hi⟩ := i2 j A hA
      exact hi _ _ _ ((hr j B u hB hu).ext he)⟩
  refine ⟨hR.len, hR.defers, hR.hoff, hR.kept, fun s hs b hb => ?_, g1, fun k A hA => (hR.slots k A hA).ext (by rw [h1]; exact g2)⟩
  rcases List.mem_append.1 hs with h3 | h3
  · exact hR.fresh s (by rw [h1]; simp [h3]) b hb
  · rcases List.mem_cons.1 h3 with rfl | h3
    · exact hR.fresh (id, .blk _ T cs) (by rw [h1]; simp) b hb
    · exact hR.fresh s (by rw [h1]; simp [h3]) b hb

theorem pickS {r : Nat × Row} {F F' G H : Rows} (h : F.Perm (r :: F')) (t : F'.Perm (G ++ H)) : F.Perm ((r :: G) ++ H) := h.trans (List.Perm.cons _ t)
theorem pick0 {F : Rows} : F.Perm ([] ++ F) := List.Perm.refl _

section
variable {P : Program} {c : Ctx} {σ : Slots} {F : Rows} {Q : Exit → Act → World → Prop} {ops : Array Oper} {rest : List Oper} {o : Oper}
/-- A guarded call that is made. -/
theorem O.callT {cl : Call} {x : Operand} {f d : Nat} {bb tt' : Bool} {caps As Bs : List AV} {p q : Prop} {G H : Rows} {Post : AV → Rows → Prop} (ho : o.op = .call cl) (hcl : cl.callee = .value x) (hg : guardA ops σ o = some (some (bb, tt'))) (hb : bb = tt') (hd : o.dst = some d) (hdN : Nat.blt d c.N = true) (hx : evalS σ x = some (.fn (.func f) caps, p)) (ha : argsA σ cl.args.toList = some (As, q))
    (hpq : p ∧ q) (hf : callable P f = true) (himp : Imps (As ++ caps) Bs) (hp : F.Perm (G ++ H)) (h : FnC P f Bs G Post) : O P ops c o σ F Q (G.map (·.1)) (PostOf Post) (fun i => (d, i.1.1) :: σ) (fun i => i.1.2 ++ H) := by
  intro a w hR K hK
  unfold Op1
  rw [if_pos ((guard_iff hR hg).2 hb)]
  obtain ⟨vs, h1, h2, h3⟩ := exec_call hR ho hcl hx ha hpq hf
  obtain ⟨i1, i2⟩ := himp.get
  simp only [Oper.wp]
  rw [h1, Oper.upon_enter, hd]
  exact call_core hR hp h (h2.trans i1) (fun j A u hA hu => by obtain ⟨B, hB, hi⟩ := i2 j A hA; exact hi _ _ _ (h3 j B u hB hu)) hdN fun r G' hP a' w' hR' hS hv => hK ⟨(r, G'), hP⟩ a' w' hR' hS (by rw [hd]; exact hv)
theorem L.callT {cl : Call} {x : Operand} {f d : Nat} {bb tt' : Bool} {caps As Bs : List AV} {p q : Prop} {G H : Rows} {Post : AV → Rows → Prop} (ho : o.op = .call cl) (hcl : cl.callee = .value x) (hg : guardA ops σ o = some (some (bb, tt'))) (hb : bb = tt') (hd : o.dst = some d) (hdN : Nat.blt d c.N = true) (hx : evalS σ x = some (.fn (.func f) caps, p)) (ha : argsA σ cl.args.toList = some (As, q))
    (hpq : p ∧ q) (hf : callable P f = true) (himp : Imps (As ++ caps) Bs) (hp : F.Perm (G ++ H)) (h : FnC P f Bs G Post) (next : ∀ r G', Post r G' → L P ops c rest ((d, r) :: σ) (G' ++ H) Q) : L P ops c (o :: rest) σ F Q :=
  L.of (O.callT ho hcl hg hb hd hdN hx ha hpq hf himp hp h) fun i => next i.1.1 i.1.2 i.2
end

end Go.Proofs.Ytgnklbdbglnmaaa

/- Arguments that can be read as data, as abstract values. -/
namespace Go.Proofs.Ytgnklbdbglnmaaa
set_option linter.unusedVariables false
set_option linter.unusedSimpArgs false
set_option maxHeartbeats 8000000
open Go.RowKit

def Rds (w : World) (As : List AV) (cs : List Value) : Prop := cs.length = As.length ∧ (∀ u ∈ cs, u.oneCell' = true) ∧ ∀ (j : Nat) A u, As[j]? = some A → cs[j]? = some u → Rep (fun _ => False) w A u

/-- What is read as a type is such a thing. -/
def RdP {α : Type} (P : Program) (t : TypeId) (enc : α → List AV) (ok : α → Prop) : Prop := ∀ (H : Type) (en : TypeId × Value → H) (W : World) (base : Nat) (spare : Nat → Bool) (held : Bool) (fuel : Nat) (cs : List Value) (x : DataW H × List MemPlace),
  DataW.trod en P W base spare held fuel t cs = some x → ∃ d, ok d ∧ Rds W (enc d) cs

theorem Rds.one {w : World} {A : AV} {v : Value} (h1 : v.oneCell' = true) (h : Rep (fun _ => False) w A v) : Rds w [A] [v] :=
  ⟨rfl, fun u hu => by rw [List.mem_singleton.1 hu]; exact h1, fun j B u hB hu => by
    cases j with
    | zero => simp at hB hu; subst hB; subst hu; exact h
    | succ j => simp at hB⟩
theorem Rds.app {w : World} {As Bs : List AV} {cs ds : List Value} (h : Rds w As cs) (k : Rds w Bs ds) : Rds w (As ++ Bs) (cs ++ ds) := by
  refine ⟨by simp [h.1, k.1], fun u hu => (List.mem_append.1 hu).elim (h.2.1 u) (k.2.1 u), fun j A u hA hu => ?_⟩
  rw [List.getElem?_append] at hA hu
  rw [h.1] at hu
  split at hA
  · rename_i hj; rw [if_pos hj] at hu; exact h.2.2 j A u hA hu
  · rename_i hj; rw [if_neg hj] at hu; exact k.2.2 _ A u hA hu

section
variable {P : Program} {t e : TypeId}
theorem rd_int {k : IntKind} (ht : P.underlying t = some (.int k)) : RdP P t (fun z : Int => [.v (.int k z)]) (fun z => (Lit.int k z).wf = true) := by
  intro H en W base spare held fuel cs x h
  obtain ⟨n, rfl, -, hw⟩ := DataW.trod_int ht h
  exact ⟨n, hw, Rds.one rfl (.v _)⟩
theorem rd_bool (ht : P.underlying t = some .bool) : RdP P t (fun z : Bool => [.v (.bool z)]) (fun _ => True) := by
  intro H en W base spare held fuel cs x h
  obtain ⟨n, rfl, -⟩ := DataW.trod_bool ht h
  exact ⟨n, trivial, Rds.one rfl (.v _)⟩
theorem rd_str (ht : P.underlying t = some .string) : RdP P t (fun z : ByteArray => [.v (.string z)]) (fun z => z.size ≤ maxLen) := by
  intro H en W base spare held fuel cs x h
  obtain ⟨n, rfl, -, hw⟩ := DataW.trod_string ht h
  exact ⟨n, hw, Rds.one rfl (.v _)⟩
theorem RdP.map {α β : Type} {enc : α → List AV} {ok : α → Prop} {enc' : β → List AV} {ok' : β → Prop} (h : RdP P t enc ok) (f : α → β) (he : ∀ d, enc' (f d) = enc d) (hk : ∀ d, ok d → ok' (f d)) : RdP P t enc' ok' := by
  intro H en W base spare held fuel cs x hx
  obtain ⟨d, h1, h2⟩ := h H en W base spare held fuel cs x hx
  exact ⟨f d, hk d h1, by rw [he]; exact h2⟩

theorem list_of {α : Type} {Q : Nat → α → Prop} : ∀ (n : Nat), (∀ i, i < n → ∃ d, Q i d) → ∃ l : List α, l.length = n ∧ ∀ i (h : i < l.length), Q i l[i]
  | 0, _ => ⟨[], rfl, fun i h => absurd h (by simp)⟩
  | n + 1, h => by
    obtain ⟨l, h1, h2⟩ := list_of (Q := Q) n fun i hi => h i (by omega)
    obtain ⟨d, hd⟩ := h n (by omega)
    refine ⟨l ++ [d], by simp [h1], fun i hi => ?_⟩
    rw [List.getElem_append]
    split
    · rename_i h3; exact h2 i h3
    · rename_i h3
      have : i = n := by simp at hi; omega
      subst this
      simpa [h1] using hd

theorem rd_slice {α : Type} [Inhabited α] {enc : α → List AV} {ok : α → Prop} {sz : Nat} (ht : P.underlying t = some (.slice e)) (hc : P.cellsOf e = sz) (hl : ∀ d, (enc d).length = sz) (he : RdP P e enc ok) :
    RdP P t (fun l : List α => [.lst sz l.length (gOf enc l)]) (fun l => l.length ≤ maxLen ∧ ∀ d ∈ l, ok d) := by
  intro H en W base spare held fuel cs x h
  rcases DataW.trod_slice ht h with ⟨rfl, -⟩ | ⟨a, len, cap, elems, rest, n, -, rfl, -, hb, hle, hm, hlen, hel, -, -⟩
  · exact ⟨[], ⟨by simp [maxLen], by simp⟩, Rds.one rfl (Imp.nil _ _ _ _ _ (.v _))⟩
  · have each : ∀ i, i < len → ∃ d, ok d ∧ ∃ cs' : List Value, W.cells? base (a.add (i * sz)) sz = some cs' ∧ Rds W (enc d) cs' := by
      intro i hi
      have h1 := hel i hi
      rw [hc, List.getElem?_eq_getElem (by omega), Option.bind_eq_some_iff] at h1
      obtain ⟨cs', h2, h3⟩ := h1
      obtain ⟨d, h4, h5⟩ := he H en W base spare held n cs' _ h3
      exact ⟨d, h4, cs', h2, h5⟩
    obtain ⟨l, h1, h2⟩ := list_of len each
    have h3 : ∀ i, ∃ cs' : List Value, ∀ (hi : i < l.length), W.cells? base (a.add (i * sz)) sz = some cs' ∧ Rds W (enc l[i]) cs' := fun i => by
      by_cases hi : i < l.length
      · obtain ⟨-, cs', h4, h5⟩ := h2 i hi; exact ⟨cs', fun _ => ⟨h4, h5⟩⟩
      · exact ⟨[], fun h => absurd h hi⟩
    obtain ⟨cf, hcf⟩ := Classical.axiomOfChoice h3
    subst h1
    refine ⟨l, ⟨by omega, fun d hd => ?_⟩, Rds.one rfl ?_⟩
    · obtain ⟨i, hi, rfl⟩ := List.getElem_of_mem hd
      exact (h2 i hi).1
    have hg : ∀ i (hi : i < l.length), gOf enc l i = enc l[i] := fun i hi => by rw [gOf, List.getD_eq_getElem?_getD, List.getElem?_eq_getElem hi]; rfl
    refine .lst (fun i j => if i < l.length then (cf i).getD j (.bool false) else .bool false) hle hm (fun h => by cases h) (fun i hi => by rw [hg i hi]; exact hl _) (fun i j => ?_) (fun ad had i hi j hj => ?_) (fun _ _ _ _ h => h) (fun i hi j B hB => ?_)
    · split
      · rename_i hi
        rw [List.getD_eq_getElem?_getD]
        cases hq : (cf i)[j]? with
        | none => rfl
        | some u => exact (hcf i hi).2.2.1 u (List.mem_of_getElem? hq)
      · rfl
    · cases had
      obtain ⟨g1, g2⟩ := hcf i hi
      rw [if_pos hi, ← add_add]
      have hlen' : j < (cf i).length := by rw [g2.1, hl]; exact hj
      have g3 := World.cells?_some g1
      rw [List.getD_eq_getElem?_getD, List.getElem?_eq_getElem hlen']
      have := g3.2.2 j hj
      rw [this, List.getElem?_eq_getElem hlen']
      rfl
    · rw [hg i hi] at hB
      rw [if_pos hi]
      obtain ⟨g1, g2⟩ := hcf i hi
      have hlen' : j < (cf i).length := by rw [g2.1]; exact (List.getElem?_eq_some_iff.1 hB).1
      rw [List.getD_eq_getElem?_getD, List.getElem?_eq_getElem hlen']
      exact g2.2.2 j B _ hB (List.getElem?_eq_getElem hlen')

/-- Fields, from a place on. -/
def RdF {α : Type} (P : Program) (fs : List (Nat × TypeId × Nat)) (k : Nat) (enc : α → List AV) (ok : α → Prop) : Prop := ∀ (H : Type) (en : TypeId × Value → H) (W : World) (base : Nat) (spare : Nat → Bool) (held : Bool) (cs : List Value),
  (∀ f ∈ fs, ∃ fuel x, DataW.trod en P W base spare held fuel f.2.1 ((cs.drop f.1).take f.2.2) = some x) → cs.length = k + (fs.map (·.2.2)).sum → ∃ d, ok d ∧ Rds W (enc d) (cs.drop k)
theorem rdf_nil {k : Nat} : RdF P [] k (fun _ : Unit => []) (fun _ => True) := by
  intro H en W base spare held cs _ hl
  refine ⟨(), trivial, ?_⟩
  rw [List.drop_of_length_le (by simp at hl; omega)]
  exact ⟨rfl, by simp, by simp⟩
theorem rdf_cons {α β : Type} {enc1 : α → List AV} {ok1 : α → Prop} {enc2 : β → List AV} {ok2 : β → Prop} {fs : List (Nat × TypeId × Nat)} {k n : Nat} (h1 : RdP P t enc1 ok1) (h2 : RdF P fs (k + n) enc2 ok2) :
    RdF P ((k, t, n) :: fs) k (fun d : α × β => enc1 d.1 ++ enc2 d.2) (fun d => ok1 d.1 ∧ ok2 d.2) := by
  intro H en W base spare held cs hf hl
  obtain ⟨fuel, x, hx⟩ := hf _ (List.mem_cons_self ..)
  obtain ⟨d1, g1, g2⟩ := h1 H en W base spare held fuel _ x hx
  simp only [List.map_cons, List.sum_cons] at hl
  obtain ⟨d2, g3, g4⟩ := h2 H en W base spare held cs (fun f hf' => hf f (List.mem_cons_of_mem _ hf')) (by omega)
  refine ⟨(d1, d2), ⟨g1, g3⟩, ?_⟩
  have e : cs.drop k = (cs.drop k).take n ++ cs.drop (k + n) := by
    rw [← List.drop_drop, List.take_append_drop]
  rw [e]
  exact g2.app g4
theorem rd_struct {α : Type} {T : Types} (hT : TOk P T) {i : TI} {fs : List (Nat × TypeId × Nat)} {enc : α → List AV} {ok : α → Prop} (ht : T.lookup t = some i) (hd : i.d = .struct fs) (hs : i.size = (fs.map (·.2.2)).sum) (h : RdF P fs 0 enc ok) : RdP P t enc ok := by
  intro H en W base spare held fuel cs x hx
  have told := hT.told ht
  obtain ⟨l, hu, hf⟩ := told.struct hd
  obtain ⟨xs, n, -, -, hl, hlen, hall⟩ := DataW.trod_struct hu hx
  have hsz : P.cellsOf t = i.size := by
    obtain ⟨j, z, h1, h2, -⟩ := told.info
    simp [Program.cellsOf, h1, h2]
  have hh : ∀ f ∈ fs, ∃ fuel x, DataW.trod en P W base spare held fuel f.2.1 ((cs.drop f.1).take f.2.2) = some x := by
    intro f hfm
    obtain ⟨j, hj⟩ := List.getElem?_of_mem hfm
    obtain ⟨o, tf, m⟩ := f
    obtain ⟨g, g1, rfl, rfl, g4, -⟩ := fsOk_get hf hj
    have hg : l[j]? = some g := by simpa using g1
    have hjl : j < xs.length := by rw [hlen]; exact (Array.getElem?_eq_some_iff.1 hg).1
    have h5 := hall j g hg
    have h6 : P.cellsOf g.type = m := by simp [Program.cellsOf, g4]
    rw [List.getElem?_eq_getElem hjl, h6] at h5
    exact ⟨n, _, h5⟩
  obtain ⟨d, h1, h2⟩ := h H en W base spare held cs hh (by omega)
  exact ⟨d, h1, by simpa using h2⟩
theorem RdP.read {α : Type} {enc : α → List AV} {ok : α → Prop} (h : RdP P t enc ok) {H : Type} {en : TypeId × Value → H} {W : World} {base : Nat} {spare : Nat → Bool} {held : Bool} {v : Value} {d : DataW H} {ps : List MemPlace} (hd : DataW.Trod en P W base spare held t v d ps) :
    ∃ d, ok d ∧ Rds W (enc d) v.cells.toList := by
  obtain ⟨fuel, hf⟩ := hd
  exact h H en W base spare held fuel _ _ hf
end

theorem wf_fit {z : Int} (h : (Lit.int .i64 z).wf = true) : fitI z := by
  have e1 : IntKind.i64.min = -9223372036854775808 := rfl
  have e2 : IntKind.i64.max = 9223372036854775807 := rfl
  simp only [Lit.wf, Bool.and_eq_true, decide_eq_true_eq, e1, e2] at h
  unfold fitI
  omega
theorem reads_slice {w : World} {A : AV} {v : Value} {a : Option Addr} {l c : Nat} (hv : v = .slice a l c) (h : Rds w [A] v.cells.toList) : Rep (fun _ => False) w A v := by
  subst hv
  exact h.2.2 0 A _ rfl rfl

end Go.Proofs.Ytgnklbdbglnmaaa

/- Structs that come in. -/
namespace Go.Proofs.Ytgnklbdbglnmaaa
set_option linter.unusedVariables false
set_option linter.unusedSimpArgs false
set_option maxHeartbeats 8000000
open Go.RowKit
theorem reads_agg {w : World} {cs : List AV} {v : Value} {us : Array Value} (hv : v = .agg us) (h : Rds w cs v.cells.toList) : Rep (fun _ => False) w (.agg cs) v := by
  subst hv
  have h' : Rds w cs us.toList := h
  have := Rep.agg (own := fun _ => False) (w := w) (us := us.toList) h'.1 h'.2.1 h'.2.2
  simpa using this
end Go.Proofs.Ytgnklbdbglnmaaa

/- Messages, marks, shards that come in. -/
namespace Go.Proofs.Ytgnklbdbglnmaaa
set_option linter.unusedVariables false
set_option linter.unusedSimpArgs false
set_option maxHeartbeats 8000000
open Go.RowKit

theorem u_int : Try.prog.underlying 3 = some (.int .i64) := by kernel_rfl
theorem u_str : Try.prog.underlying 9 = some .string := by kernel_rfl
theorem u_bool : Try.prog.underlying 4 = some .bool := by kernel_rfl
theorem r_int : RdP Try.prog 3 (fun z : Int => [.v (.int .i64 z)]) fitI := (rd_int u_int).map id (fun _ => rfl) fun _ h => wf_fit h
theorem r_str : RdP Try.prog 9 (fun z : ByteArray => [.v (.string z)]) fitS := (rd_str u_str).map id (fun _ => rfl) fun d h => by have h : d.size ≤ 2 ^ 63 - 1 := h; unfold fitS; simp only [id]; omega
theorem r_bool : RdP Try.prog 4 (fun z : Bool => [.v (.bool z)]) (fun _ => True) := rd_bool u_bool

theorem rd_msg : RdP Try.prog 46 Msg.cells Msg.ok :=
  (rd_struct (T := tt) tt_ok rfl rfl rfl (rdf_cons r_int (rdf_cons r_int (rdf_cons r_str (rdf_cons r_str (rdf_cons r_bool rdf_nil)))))).map (fun d => ⟨d.1, d.2.1, d.2.2.1, d.2.2.2.1, d.2.2.2.2.1⟩) (fun _ => rfl) fun d h => ⟨h.1, h.2.1, h.2.2.1, h.2.2.2.1⟩
theorem rd_mark : RdP Try.prog 82 Mark.cells Mark.ok :=
  (rd_struct (T := tt) tt_ok rfl rfl rfl (rdf_cons r_int (rdf_cons r_str (rdf_cons r_int rdf_nil)))).map (fun d => ⟨d.1, d.2.1, d.2.2.1⟩) (fun _ => rfl) fun d h => ⟨h.1, h.2.1, h.2.2.1⟩
theorem rd_held : RdP Try.prog 53 Held.cells Held.ok :=
  (rd_struct (T := tt) tt_ok rfl rfl rfl (rdf_cons r_int (rdf_cons rd_msg rdf_nil))).map (fun d => ⟨d.1, d.2.1⟩) (fun _ => rfl) fun d h => ⟨h.1, h.2.1⟩
theorem rd_msgs : RdP Try.prog 28 (fun l : List Msg => [msgs l]) (fun l => l.length ≤ maxLen ∧ ∀ m ∈ l, m.ok) := rd_slice (sz := 5) (by kernel_rfl) (by kernel_rfl) (fun _ => rfl) rd_msg
theorem rd_shard : RdP Try.prog 35 Shard.cells Shard.ok :=
  (rd_struct (T := tt) tt_ok rfl rfl rfl (rdf_cons r_bool (rdf_cons r_int (rdf_cons rd_msgs (rdf_cons (rd_slice (sz := 6) (by kernel_rfl) (by kernel_rfl) (fun _ => rfl) rd_held) (rdf_cons (rd_slice (sz := 3) (by kernel_rfl) (by kernel_rfl) (fun _ => rfl) rd_mark) rdf_nil)))))).map
    (fun d => ⟨d.1, d.2.1, d.2.2.1, d.2.2.2.1, d.2.2.2.2.1⟩) (fun _ => rfl) fun d h => ⟨h.2.1, h.2.2.1.2, h.2.2.2.1.2, h.2.2.2.2.1.2⟩

end Go.Proofs.Ytgnklbdbglnmaaa

/- Which shards may be, as the reference asks. -/
namespace Go.Proofs.Ytgnklbdbglnmaaa
set_option linter.unusedVariables false
set_option linter.unusedSimpArgs false
set_option maxHeartbeats 8000000
open Go.RowKit

def markC (s : Shard) (k : Nat) : Prop := mayMsg (markMsg (s.marks.getD k default)) = true ∧ ∀ j, j < k → ¬ nm (s.marks.getD j default) (s.marks.getD k default).pub (s.marks.getD k default).key
def heldC (s : Shard) (k : Nat) : Prop :=
  (mayMsg (s.held.getD k default).m = true ∧ 1 ≤ (s.held.getD k default).tag ∧ (s.held.getD k default).tag < s.next ∧ ¬ ((k : Int) > 0 ∧ (s.held.getD k default).tag ≤ (s.held.getD (k - 1) default).tag) ∧
    ¬ lastOf s.marks (s.held.getD k default).m.pub (s.held.getD k default).m.key < (s.held.getD k default).m.seq) ∧
  ∀ j, j < k → (s.held.getD j default).m.key ≠ (s.held.getD k default).m.key
def hits (a b : Msg) : Prop := a.pub = b.pub ∧ a.key = b.key ∧ a.seq ≥ b.seq
def readyC (s : Shard) (k : Nat) : Prop :=
  ((mayMsg (s.ready.getD k default) = true ∧ ¬ lastOf s.marks (s.ready.getD k default).pub (s.ready.getD k default).key < (s.ready.getD k default).seq) ∧
    ∀ j, j < k → ¬ hits (s.ready.getD j default) (s.ready.getD k default)) ∧ ∀ j, j < s.held.length → ¬ hits (s.held.getD j default).m (s.ready.getD k default)
structure RMay (s : Shard) : Prop where
  size : 1 ≤ s.next ∧ s.next ≤ 1073741824 ∧ s.ready.length + s.held.length ≤ 48 ∧ s.marks.length ≤ 64
  marks : ∀ k, k < s.marks.length → markC s k
  held : ∀ k, k < s.held.length → heldC s k
  ready : ∀ k, k < s.ready.length → readyC s k

theorem all_get {α : Type} [Inhabited α] {l : List α} {P : α → Prop} : (∀ x ∈ l, P x) ↔ ∀ k, k < l.length → P (l.getD k default) := by
  constructor
  · intro h k hk; rw [getD_get hk]; exact h _ (List.getElem_mem hk)
  · intro h x hx
    obtain ⟨k, hk, rfl⟩ := List.getElem_of_mem hx
    have := h k hk; rwa [getD_get hk] at this
theorem pair_get {α : Type} [Inhabited α] {l : List α} {R : α → α → Prop} : l.Pairwise R ↔ ∀ k, k < l.length → ∀ j, j < k → R (l.getD j default) (l.getD k default) := by
  rw [List.pairwise_iff_getElem]
  constructor
  · intro h k hk j hj; rw [getD_get hk, getD_get (by omega)]; exact h j k (by omega) hk hj
  · intro h i j hi hj hij; have := h j hj i hij; rwa [getD_get hi, getD_get hj] at this

theorem rmay_iff (s : Shard) : mayShard s = true ↔ RMay s := by
  rw [may_iff]
  constructor
  · intro m
    have ha := pair_get.1 m.apart
    have hk := pair_get.1 m.keys
    have ht := pair_get.1 m.tags
    obtain ⟨-, i2, i3⟩ := List.pairwise_append.1 m.inc
    have i2' := List.pairwise_map.1 i2
    have ir := pair_get.1 i2'
    refine ⟨⟨m.next.1, m.next.2, m.all, m.few⟩, fun k h => ⟨all_get.1 m.marks k h, fun j hj => ha k h j hj⟩, fun k h => ?_, fun k h => ?_⟩
    · obtain ⟨h1, h2, h3, h4⟩ := all_get.1 m.held k h
      refine ⟨⟨h3, h1, h2, fun ⟨h5, h6⟩ => ?_, ?_⟩, fun j hj => hk k h j hj⟩
      · have := ht k h (k - 1) (by omega); omega
      · rw [lastOf_eq m.apart]; omega
    · obtain ⟨h1, h2⟩ := all_get.1 m.ready k h
      refine ⟨⟨⟨h1, by rw [lastOf_eq m.apart]; omega⟩, fun j hj ⟨e1, e2, e3⟩ => ?_⟩, fun j hj ⟨e1, e2, e3⟩ => ?_⟩
      · have := ir k h j hj e1 e2
        simp only [Msg.mark] at this
        omega
      · rw [getD_get h, getD_get hj] at *
        have := i3 s.held[j].m.mark (List.mem_map.2 ⟨_, List.getElem_mem hj, rfl⟩) s.ready[k].mark (List.mem_map.2 ⟨_, List.getElem_mem h, rfl⟩) e1 e2
        simp only [Msg.mark] at this
        omega
  · intro r
    have ha : s.marks.Pairwise apart := pair_get.2 fun k hk j hj => (r.marks k hk).2 j hj
    have ht : ∀ k, k < s.held.length → ∀ j, j < k → (s.held.getD j default).tag < (s.held.getD k default).tag := by
      intro k
      induction k with
      | zero => intro _ j hj; omega
      | succ k ih =>
        intro hk j hj
        have h1 := (r.held (k + 1) hk).1.2.2.2.1
        have e : k + 1 - 1 = k := rfl
        rw [e] at h1
        have h2 : (s.held.getD k default).tag < (s.held.getD (k + 1) default).tag := by
          have : ¬ (s.held.getD (k + 1) default).tag ≤ (s.held.getD k default).tag := fun h => h1 ⟨by omega, h⟩
          omega
        rcases Nat.lt_or_eq_of_le (Nat.le_of_lt_succ hj) with h | h
        · have := ih (by omega) j h; omega
        · rw [h]; exact h2
    have hkeys : s.held.Pairwise fun a b => a.m.key ≠ b.m.key := pair_get.2 fun k hk j hj => (r.held k hk).2 j hj
    refine ⟨all_get.2 fun k hk => (r.marks k hk).1, ha, r.size.2.2.2, ⟨r.size.1, r.size.2.1⟩, r.size.2.2.1, all_get.2 fun k hk => ?_, pair_get.2 ht, hkeys, all_get.2 fun k hk => ?_, ?_⟩
    · obtain ⟨⟨h1, h2, h3, h4, h5⟩, -⟩ := r.held k hk
      rw [lastOf_eq ha] at h5
      exact ⟨h2, h3, h1, by omega⟩
    · obtain ⟨⟨⟨h1, h2⟩, -⟩, -⟩ := r.ready k hk
      rw [lastOf_eq ha] at h2
      exact ⟨h1, by omega⟩
    · rw [List.pairwise_append]
      refine ⟨apart_inc (heldMarks_apart hkeys), List.pairwise_map.2 (pair_get.2 fun k hk j hj e1 e2 => ?_), fun a ha b hb e1 e2 => ?_⟩
      · have := (r.ready k hk).1.2 j hj
        simp only [Msg.mark] at e1 e2 ⊢
        have h3 : ¬ (s.ready.getD j default).seq ≥ (s.ready.getD k default).seq := fun h => this ⟨e1, e2, h⟩
        omega
      · obtain ⟨x, hx, rfl⟩ := List.mem_map.1 ha
        obtain ⟨y, hy, rfl⟩ := List.mem_map.1 hb
        obtain ⟨j, hj, rfl⟩ := List.getElem_of_mem hx
        obtain ⟨k, hk, rfl⟩ := List.getElem_of_mem hy
        have := (r.ready k hk).2 j hj
        rw [getD_get hj, getD_get hk] at this
        simp only [Msg.mark] at e1 e2 ⊢
        have h3 : ¬ s.held[j].m.seq ≥ s.ready[k].seq := fun h => this ⟨e1, e2, h⟩
        omega

end Go.Proofs.Ytgnklbdbglnmaaa

/- The reference: which shards may be. -/
namespace Go.Proofs.Ytgnklbdbglnmaaa
set_option linter.unusedVariables false
set_option linter.unusedSimpArgs false
set_option maxHeartbeats 8000000
open Go.RowKit
set_option maxRecDepth 4000

theorem lastOf_first {l : List Mark} {p : Int} {k : ByteArray} {i : Nat} (hi : i < l.length) (hn : nm (l.getD i default) p k) (hno : ∀ j, j < i → ¬ nm (l.getD j default) p k) : lastOf l p k = (l.getD i default).seq := by
  have : markAt l p k = i := pidx_some hi ((nm_b _ _ _).2 hn) fun j hj => Bool.eq_false_iff.2 fun h => hno j hj ((nm_b _ _ _).1 h)
  rw [lastOf, this, if_neg (by omega), Int.toNat_natCast]
theorem lastOf_none {l : List Mark} {p : Int} {k : ByteArray} (hno : ∀ j, j < l.length → ¬ nm (l.getD j default) p k) : lastOf l p k = 0 := by
  have : markAt l p k = -1 := pidx_none fun j hj => Bool.eq_false_iff.2 fun h => hno j hj ((nm_b _ _ _).1 h)
  rw [lastOf, this]; rfl
theorem b_nm {m : Mark} {p : Int} {k : ByteArray} (h : (m.pub == p && m.key == k) = false) : ¬ nm m p k := fun e => by rw [(nm_b m p k).2 e] at h; cases h
theorem heldB (s : Shard) (k : Nat) : (!mayMsg (s.held.getD k default).m || decide ((s.held.getD k default).tag < 1) || decide ((s.held.getD k default).tag ≥ s.next) || decide ((k : Int) > 0) && decide ((s.held.getD k default).tag ≤ (s.held.getD ((k : Int) - 1).toNat default).tag) ||
    decide (lastOf s.marks (s.held.getD k default).m.pub (s.held.getD k default).m.key < (s.held.getD k default).m.seq)) = false ↔ (mayMsg (s.held.getD k default).m = true ∧ 1 ≤ (s.held.getD k default).tag ∧ (s.held.getD k default).tag < s.next ∧ ¬ ((k : Int) > 0 ∧ (s.held.getD k default).tag ≤ (s.held.getD (k - 1) default).tag) ∧
    ¬ lastOf s.marks (s.held.getD k default).m.pub (s.held.getD k default).m.key < (s.held.getD k default).m.seq) := by
  rw [show ((k : Int) - 1).toNat = k - 1 by omega]
  simp only [Bool.or_eq_false_iff, Bool.and_eq_false_iff, Bool.not_eq_false', decide_eq_false_iff_not, Int.not_lt, Int.not_le, ge_iff_le, gt_iff_lt, and_assoc]
  constructor <;> (rintro ⟨a, b, c, d, e⟩; exact ⟨a, b, c, by omega, e⟩)
theorem readyB (s : Shard) (x : Msg) : (!mayMsg x || decide (lastOf s.marks x.pub x.key < x.seq)) = false ↔ mayMsg x = true ∧ ¬ lastOf s.marks x.pub x.key < x.seq := by simp
theorem hitsB (a b : Msg) : (a.pub == b.pub && a.key == b.key && decide (a.seq ≥ b.seq)) = true ↔ hits a b := by simp [hits, and_assoc]
theorem hitsB' {a b : Msg} (h : (a.pub == b.pub && a.key == b.key && decide (a.seq ≥ b.seq)) = false) : ¬ hits a b := fun e => by rw [(hitsB a b).2 e] at h; cases h
theorem bad {b : Bool} (h : b = true) (h' : b = false) : False := by rw [h] at h'; cases h'
theorem notMay {s : Shard} (h : ¬ RMay s) : mayShard s = false := Bool.eq_false_iff.2 fun e => h ((rmay_iff s).1 e)

theorem rmayMsg_p (m : Msg) : PFn Try.prog 75 [m.av] (.v (.bool (mayMsg m))) := by
  refine FnC.intro Try.func75 rfl Try.ntmps75 rfl ?_; intro off w0
  repeat refine S.seq ?_
  refine S.region ?_
  refine L.box 1 rfl rfl rfl rfl rfl trivial rfl fun b1 => ?_
  (refine L.go (T := tt) tt_ok rfl rfl ?sd278 ?_; (try (case sd278 => (repeat' (first | exact trivial | exact zA | with_reducible refine zI ?_ ?_ | exact zB | exact zC | exact zD | exact zE | rfl | exact zN rfl | omega | assumption | (simp; done) | (simp [splice]; done) | (simp; omega) | (unfold fits; omega) | (unfold fits; simp_all; omega) | (simp_all; omega) | (simp_all; done) | intro _)))); try (refine L.nil ?_))
  ((repeat refine S.seq ?_); refine S.region (L.go (T := tt) tt_ok rfl rfl ?sd236 ?_); (try (case sd236 => (repeat' (first | exact trivial | exact zA | with_reducible refine zI ?_ ?_ | exact zB | exact zC | exact zD | exact zE | rfl | exact zN rfl | omega | assumption | (simp; done) | (simp [splice]; done) | (simp; omega) | (unfold fits; omega) | (unfold fits; simp_all; omega) | (simp_all; omega) | (simp_all; done) | intro _)))); try (refine L.nil ?_))
  (((repeat refine S.seq ?_); refine S.ret ?_); refine E.retP (T := tt) tt_ok rfl rfl (by (repeat' (first | exact trivial | exact zA | with_reducible refine zI ?_ ?_ | exact zB | exact zC | exact zD | exact zE | rfl | exact zN rfl | omega | assumption | (simp; done) | (simp [splice]; done) | (simp; omega) | (unfold fits; omega) | (unfold fits; simp_all; omega) | (simp_all; omega) | (simp_all; done) | intro _))) (Imp.of_eq ?_))
  rfl

theorem rlast_p (s : Shard) (p : Int) (key : ByteArray) : PFn Try.prog 56 [s.av, .v (.int .i64 p), .v (.string key)] (.v (.int .i64 (lastOf s.marks p key))) := by
  refine FnC.intro Try.func56 rfl Try.ntmps56 rfl ?_; intro off w0
  refine lenAgg (cs := s.cells) (n := s.marks.length) 0 4 rfl rfl fun hn => ?_
  repeat refine S.seq ?_
  refine S.region ?_
  refine L.box 3 rfl rfl rfl rfl rfl trivial rfl fun b3 => ?_
  (refine L.go (T := tt) tt_ok rfl rfl ?sd279 ?_; (try (case sd279 => (repeat' (first | exact trivial | exact zA | with_reducible refine zI ?_ ?_ | exact zB | exact zC | exact zD | exact zE | rfl | exact zN rfl | omega | assumption | (simp; done) | (simp [splice]; done) | (simp; omega) | (unfold fits; omega) | (unfold fits; simp_all; omega) | (simp_all; omega) | (simp_all; done) | intro _)))); try (refine L.nil ?_))
  ((repeat refine S.seq ?_); refine S.region (L.go (T := tt) tt_ok rfl rfl ?sd237 ?_); (try (case sd237 => (repeat' (first | exact trivial | exact zA | with_reducible refine zI ?_ ?_ | exact zB | exact zC | exact zD | exact zE | rfl | exact zN rfl | omega | assumption | (simp; done) | (simp [splice]; done) | (simp; omega) | (unfold fits; omega) | (unfold fits; simp_all; omega) | (simp_all; omega) | (simp_all; done) | intro _)))); try (refine L.nil ?_))
  repeat refine S.seq ?_
  refine S.block (S.loop (ι := { k : Nat // k ≤ s.marks.length ∧ ∀ j, j < k → ¬ nm (s.marks.getD j default) p key }) (fun k => [(1, .v (.int .i64 p)), (2, .v (.string key)), (3, .ptr 3 b3 0), (7, .v (.int .i64 k.1))])
    (fun k => [(3, .blk b3 35 s.cells)]) (fun k => s.marks.length - k.1) ?_ ?_)
  · refine fun a w h => ⟨⟨0, Nat.zero_le _, ?_⟩, h.weak (by (repeat' (first | exact True.intro | exact Imp.refl _ | refine ⟨?_, ?_⟩))) (by (repeat (first | exact List.nil_sublist _ | refine List.Sublist.cons_cons _ ?_ | refine List.Sublist.cons _ ?_)))⟩
    exact fun j hj => absurd hj (by omega)
  rintro ⟨k, hk, ik⟩
  dsimp only
  ((repeat refine S.seq ?_); refine S.region (L.go (T := tt) tt_ok rfl rfl ?sd238 ?_); (try (case sd238 => (repeat' (first | exact trivial | exact zA | with_reducible refine zI ?_ ?_ | exact zB | exact zC | exact zD | exact zE | rfl | exact zN rfl | omega | assumption | (simp; done) | (simp [splice]; done) | (simp; omega) | (unfold fits; omega) | (unfold fits; simp_all; omega) | (simp_all; omega) | (simp_all; done) | intro _)))); try (refine L.nil ?_))
  ((repeat refine S.seq ?_); refine S.cond rfl (fun h1 => ?_) (fun h1 => ?_) <;> (try first | refine S.skip ?_ | refine S.exit ?_))
  · have h1 := of_dec h1
    repeat refine S.seq ?_
    refine S.block ?_
    ((repeat refine S.seq ?_); refine S.region (L.go (T := tt) tt_ok rfl rfl ?sd239 ?_); (try (case sd239 => (repeat' (first | exact trivial | exact zA | with_reducible refine zI ?_ ?_ | exact zB | exact zC | exact zD | exact zE | rfl | exact zN rfl | omega | assumption | (simp; done) | (simp [splice]; done) | (simp; omega) | (unfold fits; omega) | (unfold fits; simp_all; omega) | (simp_all; omega) | (simp_all; done) | intro _)))); try (refine L.nil ?_))
    ((repeat refine S.seq ?_); refine S.cond rfl (fun h2 => ?_) (fun h2 => ?_) <;> (try first | refine S.skip ?_ | refine S.exit ?_))
    · skip
      ((repeat refine S.seq ?_); refine S.region (L.go (T := tt) tt_ok rfl rfl ?sd240 ?_); (try (case sd240 => (repeat' (first | exact trivial | exact zA | with_reducible refine zI ?_ ?_ | exact zB | exact zC | exact zD | exact zE | rfl | exact zN rfl | omega | assumption | (simp; done) | (simp [splice]; done) | (simp; omega) | (unfold fits; omega) | (unfold fits; simp_all; omega) | (simp_all; omega) | (simp_all; done) | intro _)))); try (refine L.nil ?_))
      (((repeat refine S.seq ?_); refine S.ret ?_); refine E.retP (T := tt) tt_ok rfl rfl (by (repeat' (first | exact trivial | exact zA | with_reducible refine zI ?_ ?_ | exact zB | exact zC | exact zD | exact zE | rfl | exact zN rfl | omega | assumption | (simp; done) | (simp [splice]; done) | (simp; omega) | (unfold fits; omega) | (unfold fits; simp_all; omega) | (simp_all; omega) | (simp_all; done) | intro _))) (Imp.of_eq ?_))
      rw [lastOf_first (by omega) ((nm_b _ _ _).1 h2) ik]
      rfl
    ((repeat refine S.seq ?_); refine S.region (L.go (T := tt) tt_ok rfl rfl ?sd241 ?_); (try (case sd241 => (repeat' (first | exact trivial | exact zA | with_reducible refine zI ?_ ?_ | exact zB | exact zC | exact zD | exact zE | rfl | exact zN rfl | omega | assumption | (simp; done) | (simp [splice]; done) | (simp; omega) | (unfold fits; omega) | (unfold fits; simp_all; omega) | (simp_all; omega) | (simp_all; done) | intro _)))); try (refine L.nil ?_))
    refine fun a w hR => ⟨⟨k + 1, by omega, ?_⟩, by simp only; omega, hR.weak (by (repeat' (first | exact True.intro | exact Imp.refl _ | refine ⟨?_, ?_⟩))) (by (repeat (first | exact List.nil_sublist _ | refine List.Sublist.cons_cons _ ?_ | refine List.Sublist.cons _ ?_)))⟩
    exact upto_succ ik (b_nm h2)
  · have h1 := of_dec' h1
    ((repeat refine S.seq ?_); refine S.region (L.go (T := tt) tt_ok rfl rfl ?sd242 ?_); (try (case sd242 => (repeat' (first | exact trivial | exact zA | with_reducible refine zI ?_ ?_ | exact zB | exact zC | exact zD | exact zE | rfl | exact zN rfl | omega | assumption | (simp; done) | (simp [splice]; done) | (simp; omega) | (unfold fits; omega) | (unfold fits; simp_all; omega) | (simp_all; omega) | (simp_all; done) | intro _)))); try (refine L.nil ?_))
    (((repeat refine S.seq ?_); refine S.ret ?_); refine E.retP (T := tt) tt_ok rfl rfl (by (repeat' (first | exact trivial | exact zA | with_reducible refine zI ?_ ?_ | exact zB | exact zC | exact zD | exact zE | rfl | exact zN rfl | omega | assumption | (simp; done) | (simp [splice]; done) | (simp; omega) | (unfold fits; omega) | (unfold fits; simp_all; omega) | (simp_all; omega) | (simp_all; done) | intro _))) (Imp.of_eq ?_))
    rw [lastOf_none fun j hj => ik j (by omega)]
    rfl

theorem rmay_p (s : Shard) (hs : s.small) : PFn Try.prog 43 [s.av] (.v (.bool (mayShard s))) := by
  have ⟨hs1, hs2, hs3⟩ := hs
  refine FnC.intro Try.func43 rfl Try.ntmps43 rfl ?_; intro off w0
  repeat refine S.seq ?_
  refine S.region ?_
  refine L.box 1 rfl rfl rfl rfl rfl trivial rfl fun b1 => ?_
  (refine L.go (T := tt) tt_ok rfl rfl ?sd280 ?_; (try (case sd280 => (repeat' (first | exact trivial | exact zA | with_reducible refine zI ?_ ?_ | exact zB | exact zC | exact zD | exact zE | rfl | exact zN rfl | omega | assumption | (simp; done) | (simp [splice]; done) | (simp; omega) | (unfold fits; omega) | (unfold fits; simp_all; omega) | (simp_all; omega) | (simp_all; done) | intro _)))); try (refine L.nil ?_))
  ((repeat refine S.seq ?_); refine S.region (L.go (T := tt) tt_ok rfl rfl ?sd243 ?_); (try (case sd243 => (repeat' (first | exact trivial | exact zA | with_reducible refine zI ?_ ?_ | exact zB | exact zC | exact zD | exact zE | rfl | exact zN rfl | omega | assumption | (simp; done) | (simp [splice]; done) | (simp; omega) | (unfold fits; omega) | (unfold fits; simp_all; omega) | (simp_all; omega) | (simp_all; done) | intro _)))); try (refine L.nil ?_))
  ((repeat refine S.seq ?_); refine S.cond rfl (fun h1 => ?_) (fun h1 => ?_) <;> (try first | refine S.skip ?_ | refine S.exit ?_))
  · skip
    ((repeat refine S.seq ?_); refine S.region (L.go (T := tt) tt_ok rfl rfl ?sd244 ?_); (try (case sd244 => (repeat' (first | exact trivial | exact zA | with_reducible refine zI ?_ ?_ | exact zB | exact zC | exact zD | exact zE | rfl | exact zN rfl | omega | assumption | (simp; done) | (simp [splice]; done) | (simp; omega) | (unfold fits; omega) | (unfold fits; simp_all; omega) | (simp_all; omega) | (simp_all; done) | intro _)))); try (refine L.nil ?_))
    (((repeat refine S.seq ?_); refine S.ret ?_); refine E.retP (T := tt) tt_ok rfl rfl (by (repeat' (first | exact trivial | exact zA | with_reducible refine zI ?_ ?_ | exact zB | exact zC | exact zD | exact zE | rfl | exact zN rfl | omega | assumption | (simp; done) | (simp [splice]; done) | (simp; omega) | (unfold fits; omega) | (unfold fits; simp_all; omega) | (simp_all; omega) | (simp_all; done) | intro _))) (Imp.of_eq ?_))
    have hno : mayShard s = false := notMay fun r => by
      obtain ⟨q1, q2, q3, q4⟩ := r.size
      simp only [Bool.or_eq_true, decide_eq_true_eq] at h1
      omega
    rw [hno]
    rfl
  have hsz : 1 ≤ s.next ∧ s.next ≤ 1073741824 ∧ s.ready.length + s.held.length ≤ 48 ∧ s.marks.length ≤ 64 := by
    simp only [Bool.or_eq_false_iff, decide_eq_false_iff_not] at h1
    omega
  ((repeat refine S.seq ?_); refine S.region (L.go (T := tt) tt_ok rfl rfl ?sd245 ?_); (try (case sd245 => (repeat' (first | exact trivial | exact zA | with_reducible refine zI ?_ ?_ | exact zB | exact zC | exact zD | exact zE | rfl | exact zN rfl | omega | assumption | (simp; done) | (simp [splice]; done) | (simp; omega) | (unfold fits; omega) | (unfold fits; simp_all; omega) | (simp_all; omega) | (simp_all; done) | intro _)))); try (refine L.nil ?_))
  repeat refine S.seq ?_
  refine S.block (S.loop (ι := { k : Nat // k ≤ s.marks.length ∧ ∀ j, j < k → markC s j }) (fun k => [(1, .ptr 1 b1 0), (3, .v (.int .i64 k.1))])
    (fun k => [(1, .blk b1 35 s.cells)]) (fun k => s.marks.length - k.1) ?_ ?_)
  · refine fun a w h => ⟨⟨0, Nat.zero_le _, ?_⟩, h.weak (by (repeat' (first | exact True.intro | exact Imp.refl _ | refine ⟨?_, ?_⟩))) (by (repeat (first | exact List.nil_sublist _ | refine List.Sublist.cons_cons _ ?_ | refine List.Sublist.cons _ ?_)))⟩
    exact fun j hj => absurd hj (by omega)
  rintro ⟨k, hk, ik⟩
  dsimp only
  ((repeat refine S.seq ?_); refine S.region (L.go (T := tt) tt_ok rfl rfl ?sd246 ?_); (try (case sd246 => (repeat' (first | exact trivial | exact zA | with_reducible refine zI ?_ ?_ | exact zB | exact zC | exact zD | exact zE | rfl | exact zN rfl | omega | assumption | (simp; done) | (simp [splice]; done) | (simp; omega) | (unfold fits; omega) | (unfold fits; simp_all; omega) | (simp_all; omega) | (simp_all; done) | intro _)))); try (refine L.nil ?_))
  ((repeat refine S.seq ?_); refine S.cond rfl (fun h2 => ?_) (fun h2 => ?_) <;> (try first | refine S.skip ?_ | refine S.exit ?_))
  · have h2 := of_dec h2
    repeat refine S.seq ?_
    refine S.block ?_
    ((repeat refine S.seq ?_); refine S.region (L.go (T := tt) tt_ok rfl rfl ?sd247 ?_); (try (case sd247 => (repeat' (first | exact trivial | exact zA | with_reducible refine zI ?_ ?_ | exact zB | exact zC | exact zD | exact zE | rfl | exact zN rfl | omega | assumption | (simp; done) | (simp [splice]; done) | (simp; omega) | (unfold fits; omega) | (unfold fits; simp_all; omega) | (simp_all; omega) | (simp_all; done) | intro _)))); try (refine L.nil ?_))
    refine L.alloc (T := tt) 4 tt_ok rfl rfl rfl rfl rfl fun b4 => ?_
    (refine L.store (T := tt) tt_ok rfl rfl rfl rfl rfl rfl ?sd282 ?_; (try (case sd282 => (repeat' (first | exact trivial | exact zA | with_reducible refine zI ?_ ?_ | exact zB | exact zC | exact zD | exact zE | rfl | exact zN rfl | omega | assumption | (simp; done) | (simp [splice]; done) | (simp; omega) | (unfold fits; omega) | (unfold fits; simp_all; omega) | (simp_all; omega) | (simp_all; done) | intro _)))))
    refine L.nil ?_
    ((repeat refine S.seq ?_); refine S.region (L.go (T := tt) tt_ok rfl rfl ?sd248 ?_); (try (case sd248 => (repeat' (first | exact trivial | exact zA | with_reducible refine zI ?_ ?_ | exact zB | exact zC | exact zD | exact zE | rfl | exact zN rfl | omega | assumption | (simp; done) | (simp [splice]; done) | (simp; omega) | (unfold fits; omega) | (unfold fits; simp_all; omega) | (simp_all; omega) | (simp_all; done) | intro _)))); try (refine L.nil ?_))
    refine L.callP rfl rfl rfl rfl rfl rfl rfl ⟨trivial, by (repeat' (first | exact trivial | exact zA | with_reducible refine zI ?_ ?_ | exact zB | exact zC | exact zD | exact zE | rfl | exact zN rfl | omega | assumption | (simp; done) | (simp [splice]; done) | (simp; omega) | (unfold fits; omega) | (unfold fits; simp_all; omega) | (simp_all; omega) | (simp_all; done) | intro _))⟩ rfl (Imps.refl _) (rmayMsg_p (markMsg (s.marks.getD k default))) ?_
    (refine L.go (T := tt) tt_ok rfl rfl ?sd281 ?_; (try (case sd281 => (repeat' (first | exact trivial | exact zA | with_reducible refine zI ?_ ?_ | exact zB | exact zC | exact zD | exact zE | rfl | exact zN rfl | omega | assumption | (simp; done) | (simp [splice]; done) | (simp; omega) | (unfold fits; omega) | (unfold fits; simp_all; omega) | (simp_all; omega) | (simp_all; done) | intro _)))); try (refine L.nil ?_))
    ((repeat refine S.seq ?_); refine S.cond rfl (fun h3 => ?_) (fun h3 => ?_) <;> (try first | refine S.skip ?_ | refine S.exit ?_))
    · skip
      ((repeat refine S.seq ?_); refine S.region (L.go (T := tt) tt_ok rfl rfl ?sd249 ?_); (try (case sd249 => (repeat' (first | exact trivial | exact zA | with_reducible refine zI ?_ ?_ | exact zB | exact zC | exact zD | exact zE | rfl | exact zN rfl | omega | assumption | (simp; done) | (simp [splice]; done) | (simp; omega) | (unfold fits; omega) | (unfold fits; simp_all; omega) | (simp_all; omega) | (simp_all; done) | intro _)))); try (refine L.nil ?_))
      (((repeat refine S.seq ?_); refine S.ret ?_); refine E.retP (T := tt) tt_ok rfl rfl (by (repeat' (first | exact trivial | exact zA | with_reducible refine zI ?_ ?_ | exact zB | exact zC | exact zD | exact zE | rfl | exact zN rfl | omega | assumption | (simp; done) | (simp [splice]; done) | (simp; omega) | (unfold fits; omega) | (unfold fits; simp_all; omega) | (simp_all; omega) | (simp_all; done) | intro _))) (Imp.of_eq ?_))
      have hno : mayShard s = false := notMay fun r => by
        have := (r.marks k (by omega)).1
        rw [this] at h3
        cases h3
      rw [hno]
      rfl
    have hmk : mayMsg (markMsg (s.marks.getD k default)) = true := by simpa using h3
    ((repeat refine S.seq ?_); refine S.region (L.go (T := tt) tt_ok rfl rfl ?sd250 ?_); (try (case sd250 => (repeat' (first | exact trivial | exact zA | with_reducible refine zI ?_ ?_ | exact zB | exact zC | exact zD | exact zE | rfl | exact zN rfl | omega | assumption | (simp; done) | (simp [splice]; done) | (simp; omega) | (unfold fits; omega) | (unfold fits; simp_all; omega) | (simp_all; omega) | (simp_all; done) | intro _)))); try (refine L.nil ?_))
    repeat refine S.seq ?_
    refine S.block (S.loop (ι := { j : Nat // j ≤ k ∧ ∀ i, i < j → ¬ nm (s.marks.getD i default) (s.marks.getD k default).pub (s.marks.getD k default).key }) (fun j => [(1, .ptr 1 b1 0), (3, .v (.int .i64 k)), (4, .ptr 4 b4 0), (5, .v (.int .i64 j.1))])
      (fun j => [(4, .blk b4 82 (s.marks.getD k default).cells), (1, .blk b1 35 s.cells)]) (fun j => k - j.1) ?_ ?_)
    · refine fun a w h => ⟨⟨0, Nat.zero_le _, ?_⟩, h.weak (by (repeat' (first | exact True.intro | exact Imp.refl _ | refine ⟨?_, ?_⟩))) (by (repeat (first | exact List.nil_sublist _ | refine List.Sublist.cons_cons _ ?_ | refine List.Sublist.cons _ ?_)))⟩
      exact fun j hj => absurd hj (by omega)
    rintro ⟨j, hj, ij⟩
    dsimp only
    ((repeat refine S.seq ?_); refine S.region (L.go (T := tt) tt_ok rfl rfl ?sd251 ?_); (try (case sd251 => (repeat' (first | exact trivial | exact zA | with_reducible refine zI ?_ ?_ | exact zB | exact zC | exact zD | exact zE | rfl | exact zN rfl | omega | assumption | (simp; done) | (simp [splice]; done) | (simp; omega) | (unfold fits; omega) | (unfold fits; simp_all; omega) | (simp_all; omega) | (simp_all; done) | intro _)))); try (refine L.nil ?_))
    ((repeat refine S.seq ?_); refine S.cond rfl (fun h4 => ?_) (fun h4 => ?_) <;> (try first | refine S.skip ?_ | refine S.exit ?_))
    · have h4 := of_dec h4
      repeat refine S.seq ?_
      refine S.block ?_
      repeat refine S.seq ?_
      refine S.draw [(1, [1]), (7, [4]), (11, [1]), (17, [4])] mixed ?_
      (refine H.ts (T := tt) [0, 1, 2, 3, 4, 5, 6, 7, 8, 9, 10, 11, 12, 13, 14, 15, 16, 17, 18, 19] tt_ok (by kernel_rfl) (by kernel_rfl) (by kernel_rfl) (by intro ch a a' w h; obtain ⟨_, _, _, _, _, h, _⟩ := h; cases h) rfl ?sd285 ?_; (try (case sd285 => (repeat' (first | exact trivial | exact zA | with_reducible refine zI ?_ ?_ | exact zB | exact zC | exact zD | exact zE | rfl | exact zN rfl | omega | assumption | (simp; done) | (simp [splice]; done) | (simp; omega) | (unfold fits; omega) | (unfold fits; simp_all; omega) | (simp_all; omega) | (simp_all; done) | intro _)))))
      refine H.done (by kernel_rfl) ?_
      ((repeat refine S.seq ?_); refine S.cond rfl (fun h5 => ?_) (fun h5 => ?_) <;> (try first | refine S.skip ?_ | refine S.exit ?_))
      · skip
        ((repeat refine S.seq ?_); refine S.region (L.go (T := tt) tt_ok rfl rfl ?sd252 ?_); (try (case sd252 => (repeat' (first | exact trivial | exact zA | with_reducible refine zI ?_ ?_ | exact zB | exact zC | exact zD | exact zE | rfl | exact zN rfl | omega | assumption | (simp; done) | (simp [splice]; done) | (simp; omega) | (unfold fits; omega) | (unfold fits; simp_all; omega) | (simp_all; omega) | (simp_all; done) | intro _)))); try (refine L.nil ?_))
        (((repeat refine S.seq ?_); refine S.ret ?_); refine E.retP (T := tt) tt_ok rfl rfl (by (repeat' (first | exact trivial | exact zA | with_reducible refine zI ?_ ?_ | exact zB | exact zC | exact zD | exact zE | rfl | exact zN rfl | omega | assumption | (simp; done) | (simp [splice]; done) | (simp; omega) | (unfold fits; omega) | (unfold fits; simp_all; omega) | (simp_all; omega) | (simp_all; done) | intro _))) (Imp.of_eq ?_))
        have hno : mayShard s = false := notMay fun r => by
          exact (r.marks k (by omega)).2 j (by omega) ((nm_b _ _ _).1 h5)
        rw [hno]
        rfl
      ((repeat refine S.seq ?_); refine S.region (L.go (T := tt) tt_ok rfl rfl ?sd253 ?_); (try (case sd253 => (repeat' (first | exact trivial | exact zA | with_reducible refine zI ?_ ?_ | exact zB | exact zC | exact zD | exact zE | rfl | exact zN rfl | omega | assumption | (simp; done) | (simp [splice]; done) | (simp; omega) | (unfold fits; omega) | (unfold fits; simp_all; omega) | (simp_all; omega) | (simp_all; done) | intro _)))); try (refine L.nil ?_))
      refine fun a w hR => ⟨⟨j + 1, by omega, ?_⟩, by simp only; omega, hR.weak (by (repeat' (first | exact True.intro | exact Imp.refl _ | refine ⟨?_, ?_⟩))) (by (repeat (first | exact List.nil_sublist _ | refine List.Sublist.cons_cons _ ?_ | refine List.Sublist.cons _ ?_)))⟩
      exact upto_succ ij (b_nm h5)
    · have h4 := of_dec' h4
      ((repeat refine S.seq ?_); refine S.region (L.go (T := tt) tt_ok rfl rfl ?sd254 ?_); (try (case sd254 => (repeat' (first | exact trivial | exact zA | with_reducible refine zI ?_ ?_ | exact zB | exact zC | exact zD | exact zE | rfl | exact zN rfl | omega | assumption | (simp; done) | (simp [splice]; done) | (simp; omega) | (unfold fits; omega) | (unfold fits; simp_all; omega) | (simp_all; omega) | (simp_all; done) | intro _)))); try (refine L.nil ?_))
      refine fun a w hR => ⟨⟨k + 1, by omega, ?_⟩, by simp only; omega, hR.weak (by (repeat' (first | exact True.intro | exact Imp.refl _ | refine ⟨?_, ?_⟩))) (by (repeat (first | exact List.nil_sublist _ | refine List.Sublist.cons_cons _ ?_ | refine List.Sublist.cons _ ?_)))⟩
      exact upto_succ ik ⟨hmk, fun i hi => ij i (by omega)⟩
  · have h2 := of_dec' h2
    have hM : ∀ j, j < s.marks.length → markC s j := fun j hj => ik j (by omega)
    ((repeat refine S.seq ?_); refine S.region (L.go (T := tt) tt_ok rfl rfl ?sd255 ?_); (try (case sd255 => (repeat' (first | exact trivial | exact zA | with_reducible refine zI ?_ ?_ | exact zB | exact zC | exact zD | exact zE | rfl | exact zN rfl | omega | assumption | (simp; done) | (simp [splice]; done) | (simp; omega) | (unfold fits; omega) | (unfold fits; simp_all; omega) | (simp_all; omega) | (simp_all; done) | intro _)))); try (refine L.nil ?_))
    repeat refine S.seq ?_
    refine S.block (S.loop (ι := { k : Nat // k ≤ s.held.length ∧ ∀ j, j < k → heldC s j }) (fun k => [(1, .ptr 1 b1 0), (6, .v (.int .i64 k.1))])
      (fun k => [(1, .blk b1 35 s.cells)]) (fun k => s.held.length - k.1) ?_ ?_)
    · refine fun a w h => ⟨⟨0, Nat.zero_le _, ?_⟩, h.weak (by (repeat' (first | exact True.intro | exact Imp.refl _ | refine ⟨?_, ?_⟩))) (by (repeat (first | exact List.nil_sublist _ | refine List.Sublist.cons_cons _ ?_ | refine List.Sublist.cons _ ?_)))⟩
      exact fun j hj => absurd hj (by omega)
    rintro ⟨k, hk, ik⟩
    dsimp only
    ((repeat refine S.seq ?_); refine S.region (L.go (T := tt) tt_ok rfl rfl ?sd256 ?_); (try (case sd256 => (repeat' (first | exact trivial | exact zA | with_reducible refine zI ?_ ?_ | exact zB | exact zC | exact zD | exact zE | rfl | exact zN rfl | omega | assumption | (simp; done) | (simp [splice]; done) | (simp; omega) | (unfold fits; omega) | (unfold fits; simp_all; omega) | (simp_all; omega) | (simp_all; done) | intro _)))); try (refine L.nil ?_))
    ((repeat refine S.seq ?_); refine S.cond rfl (fun h6 => ?_) (fun h6 => ?_) <;> (try first | refine S.skip ?_ | refine S.exit ?_))
    · have h6 := of_dec h6
      repeat refine S.seq ?_
      refine S.block ?_
      ((repeat refine S.seq ?_); refine S.region (L.go (T := tt) tt_ok rfl rfl ?sd257 ?_); (try (case sd257 => (repeat' (first | exact trivial | exact zA | with_reducible refine zI ?_ ?_ | exact zB | exact zC | exact zD | exact zE | rfl | exact zN rfl | omega | assumption | (simp; done) | (simp [splice]; done) | (simp; omega) | (unfold fits; omega) | (unfold fits; simp_all; omega) | (simp_all; omega) | (simp_all; done) | intro _)))); try (refine L.nil ?_))
      refine L.alloc (T := tt) 7 tt_ok rfl rfl rfl rfl rfl fun b7 => ?_
      (refine L.store (T := tt) tt_ok rfl rfl rfl rfl rfl rfl ?sd283 ?_; (try (case sd283 => (repeat' (first | exact trivial | exact zA | with_reducible refine zI ?_ ?_ | exact zB | exact zC | exact zD | exact zE | rfl | exact zN rfl | omega | assumption | (simp; done) | (simp [splice]; done) | (simp; omega) | (unfold fits; omega) | (unfold fits; simp_all; omega) | (simp_all; omega) | (simp_all; done) | intro _)))))
      refine L.nil ?_
      repeat refine S.seq ?_
      refine S.draw [(1, [7]), (6, [7]), (11, [7]), (13, [1]), (21, [7]), (23, [1]), (33, [1]), (36, [7]), (39, [7]), (43, [7])] mixed ?_
      (refine H.ts (T := tt) [0, 1] tt_ok (by kernel_rfl) (by kernel_rfl) (by kernel_rfl) (by intro ch a a' w h; obtain ⟨_, _, _, _, _, h, _⟩ := h; cases h) rfl ?sd286 ?_; (try (case sd286 => (repeat' (first | exact trivial | exact zA | with_reducible refine zI ?_ ?_ | exact zB | exact zC | exact zD | exact zE | rfl | exact zN rfl | omega | assumption | (simp; done) | (simp [splice]; done) | (simp; omega) | (unfold fits; omega) | (unfold fits; simp_all; omega) | (simp_all; omega) | (simp_all; done) | intro _)))))
      refine H.callP 2 rfl (by kernel_rfl) (by kernel_rfl) rfl rfl rfl rfl rfl rfl rfl ⟨trivial, by (repeat' (first | exact trivial | exact zA | with_reducible refine zI ?_ ?_ | exact zB | exact zC | exact zD | exact zE | rfl | exact zN rfl | omega | assumption | (simp; done) | (simp [splice]; done) | (simp; omega) | (unfold fits; omega) | (unfold fits; simp_all; omega) | (simp_all; omega) | (simp_all; done) | intro _))⟩ rfl (by exact Imps.refl _) ((rmayMsg_p (s.held.getD k default).m)) ?_
      (refine H.ts (T := tt) [3, 4, 5, 6, 7, 8, 9, 10, 11, 12, 13, 14, 15, 16, 17, 18, 19, 20, 21, 22, 23, 24, 25, 26, 27, 28, 29, 30, 31, 32, 33, 34, 35, 36, 37, 38, 39, 41, 42, 43] tt_ok (by kernel_rfl) (by kernel_rfl) (by kernel_rfl) (by intro ch a a' w h; obtain ⟨_, _, _, _, _, h, _⟩ := h; cases h) rfl ?sd287 ?_; (try (case sd287 => (repeat' (first | exact trivial | exact zA | with_reducible refine zI ?_ ?_ | exact zB | exact zC | exact zD | exact zE | rfl | exact zN rfl | omega | assumption | (simp; done) | (simp [splice]; done) | (simp; omega) | (unfold fits; omega) | (unfold fits; simp_all; omega) | (simp_all; omega) | (simp_all; done) | intro _)))))
      refine H.callG 40 rfl (by kernel_rfl) (by kernel_rfl) rfl rfl rfl rfl rfl rfl rfl (fun _ => ⟨trivial, by (repeat' (first | exact trivial | exact zA | with_reducible refine zI ?_ ?_ | exact zB | exact zC | exact zD | exact zE | rfl | exact zN rfl | omega | assumption | (simp; done) | (simp [splice]; done) | (simp; omega) | (unfold fits; omega) | (unfold fits; simp_all; omega) | (simp_all; omega) | (simp_all; done) | intro _))⟩) rfl (by exact Imps.refl _) (fun _ => (rlast_p s (s.held.getD k default).m.pub (s.held.getD k default).m.key)) ?_
      (refine H.ts (T := tt) [44, 45] tt_ok (by kernel_rfl) (by kernel_rfl) (by kernel_rfl) (by intro ch a a' w h; obtain ⟨_, _, _, _, _, h, _⟩ := h; cases h) rfl ?sd288 ?_; (try (case sd288 => (repeat' (first | exact trivial | exact zA | with_reducible refine zI ?_ ?_ | exact zB | exact zC | exact zD | exact zE | rfl | exact zN rfl | omega | assumption | (simp; done) | (simp [splice]; done) | (simp; omega) | (unfold fits; omega) | (unfold fits; simp_all; omega) | (simp_all; omega) | (simp_all; done) | intro _)))))
      refine H.done (by kernel_rfl) ?_
      ((repeat refine S.seq ?_); refine S.cond rfl (fun h7 => ?_) (fun h7 => ?_) <;> (try first | refine S.skip ?_ | refine S.exit ?_))
      · skip
        ((repeat refine S.seq ?_); refine S.region (L.go (T := tt) tt_ok rfl rfl ?sd258 ?_); (try (case sd258 => (repeat' (first | exact trivial | exact zA | with_reducible refine zI ?_ ?_ | exact zB | exact zC | exact zD | exact zE | rfl | exact zN rfl | omega | assumption | (simp; done) | (simp [splice]; done) | (simp; omega) | (unfold fits; omega) | (unfold fits; simp_all; omega) | (simp_all; omega) | (simp_all; done) | intro _)))); try (refine L.nil ?_))
        (((repeat refine S.seq ?_); refine S.ret ?_); refine E.retP (T := tt) tt_ok rfl rfl (by (repeat' (first | exact trivial | exact zA | with_reducible refine zI ?_ ?_ | exact zB | exact zC | exact zD | exact zE | rfl | exact zN rfl | omega | assumption | (simp; done) | (simp [splice]; done) | (simp; omega) | (unfold fits; omega) | (unfold fits; simp_all; omega) | (simp_all; omega) | (simp_all; done) | intro _))) (Imp.of_eq ?_))
        have hno : mayShard s = false := notMay fun r => by
          exact bad h7 ((heldB s k).2 (r.held k (by omega)).1)
        rw [hno]
        rfl
      have hC := (heldB s k).1 h7
      ((repeat refine S.seq ?_); refine S.region (L.go (T := tt) tt_ok rfl rfl ?sd259 ?_); (try (case sd259 => (repeat' (first | exact trivial | exact zA | with_reducible refine zI ?_ ?_ | exact zB | exact zC | exact zD | exact zE | rfl | exact zN rfl | omega | assumption | (simp; done) | (simp [splice]; done) | (simp; omega) | (unfold fits; omega) | (unfold fits; simp_all; omega) | (simp_all; omega) | (simp_all; done) | intro _)))); try (refine L.nil ?_))
      repeat refine S.seq ?_
      refine S.block (S.loop (ι := { j : Nat // j ≤ k ∧ ∀ i, i < j → (s.held.getD i default).m.key ≠ (s.held.getD k default).m.key }) (fun j => [(1, .ptr 1 b1 0), (6, .v (.int .i64 k)), (7, .ptr 7 b7 0), (8, .v (.int .i64 j.1))])
        (fun j => [(7, .blk b7 53 (s.held.getD k default).cells), (1, .blk b1 35 s.cells)]) (fun j => k - j.1) ?_ ?_)
      · refine fun a w h => ⟨⟨0, Nat.zero_le _, ?_⟩, h.weak (by (repeat' (first | exact True.intro | exact Imp.refl _ | refine ⟨?_, ?_⟩))) (by (repeat (first | exact List.nil_sublist _ | refine List.Sublist.cons_cons _ ?_ | refine List.Sublist.cons _ ?_)))⟩
        exact fun j hj => absurd hj (by omega)
      rintro ⟨j, hj, ij⟩
      dsimp only
      ((repeat refine S.seq ?_); refine S.region (L.go (T := tt) tt_ok rfl rfl ?sd260 ?_); (try (case sd260 => (repeat' (first | exact trivial | exact zA | with_reducible refine zI ?_ ?_ | exact zB | exact zC | exact zD | exact zE | rfl | exact zN rfl | omega | assumption | (simp; done) | (simp [splice]; done) | (simp; omega) | (unfold fits; omega) | (unfold fits; simp_all; omega) | (simp_all; omega) | (simp_all; done) | intro _)))); try (refine L.nil ?_))
      ((repeat refine S.seq ?_); refine S.cond rfl (fun h8 => ?_) (fun h8 => ?_) <;> (try first | refine S.skip ?_ | refine S.exit ?_))
      · have h8 := of_dec h8
        repeat refine S.seq ?_
        refine S.block ?_
        repeat refine S.seq ?_
        refine S.draw [(1, [1]), (9, [7])] mixed ?_
        (refine H.ts (T := tt) [0, 1, 2, 3, 4, 5, 6, 7, 8, 9, 10] tt_ok (by kernel_rfl) (by kernel_rfl) (by kernel_rfl) (by intro ch a a' w h; obtain ⟨_, _, _, _, _, h, _⟩ := h; cases h) rfl ?sd289 ?_; (try (case sd289 => (repeat' (first | exact trivial | exact zA | with_reducible refine zI ?_ ?_ | exact zB | exact zC | exact zD | exact zE | rfl | exact zN rfl | omega | assumption | (simp; done) | (simp [splice]; done) | (simp; omega) | (unfold fits; omega) | (unfold fits; simp_all; omega) | (simp_all; omega) | (simp_all; done) | intro _)))))
        refine H.done (by kernel_rfl) ?_
        ((repeat refine S.seq ?_); refine S.cond rfl (fun h9 => ?_) (fun h9 => ?_) <;> (try first | refine S.skip ?_ | refine S.exit ?_))
        · skip
          ((repeat refine S.seq ?_); refine S.region (L.go (T := tt) tt_ok rfl rfl ?sd261 ?_); (try (case sd261 => (repeat' (first | exact trivial | exact zA | with_reducible refine zI ?_ ?_ | exact zB | exact zC | exact zD | exact zE | rfl | exact zN rfl | omega | assumption | (simp; done) | (simp [splice]; done) | (simp; omega) | (unfold fits; omega) | (unfold fits; simp_all; omega) | (simp_all; omega) | (simp_all; done) | intro _)))); try (refine L.nil ?_))
          (((repeat refine S.seq ?_); refine S.ret ?_); refine E.retP (T := tt) tt_ok rfl rfl (by (repeat' (first | exact trivial | exact zA | with_reducible refine zI ?_ ?_ | exact zB | exact zC | exact zD | exact zE | rfl | exact zN rfl | omega | assumption | (simp; done) | (simp [splice]; done) | (simp; omega) | (unfold fits; omega) | (unfold fits; simp_all; omega) | (simp_all; omega) | (simp_all; done) | intro _))) (Imp.of_eq ?_))
          have hno : mayShard s = false := notMay fun r => by
            exact (r.held k (by omega)).2 j (by omega) (by simpa using h9)
          rw [hno]
          rfl
        ((repeat refine S.seq ?_); refine S.region (L.go (T := tt) tt_ok rfl rfl ?sd262 ?_); (try (case sd262 => (repeat' (first | exact trivial | exact zA | with_reducible refine zI ?_ ?_ | exact zB | exact zC | exact zD | exact zE | rfl | exact zN rfl | omega | assumption | (simp; done) | (simp [splice]; done) | (simp; omega) | (unfold fits; omega) | (unfold fits; simp_all; omega) | (simp_all; omega) | (simp_all; done) | intro _)))); try (refine L.nil ?_))
        refine fun a w hR => ⟨⟨j + 1, by omega, ?_⟩, by simp only; omega, hR.weak (by (repeat' (first | exact True.intro | exact Imp.refl _ | refine ⟨?_, ?_⟩))) (by (repeat (first | exact List.nil_sublist _ | refine List.Sublist.cons_cons _ ?_ | refine List.Sublist.cons _ ?_)))⟩
        exact upto_succ ij (by simpa using h9)
      · have h8 := of_dec' h8
        ((repeat refine S.seq ?_); refine S.region (L.go (T := tt) tt_ok rfl rfl ?sd263 ?_); (try (case sd263 => (repeat' (first | exact trivial | exact zA | with_reducible refine zI ?_ ?_ | exact zB | exact zC | exact zD | exact zE | rfl | exact zN rfl | omega | assumption | (simp; done) | (simp [splice]; done) | (simp; omega) | (unfold fits; omega) | (unfold fits; simp_all; omega) | (simp_all; omega) | (simp_all; done) | intro _)))); try (refine L.nil ?_))
        refine fun a w hR => ⟨⟨k + 1, by omega, ?_⟩, by simp only; omega, hR.weak (by (repeat' (first | exact True.intro | exact Imp.refl _ | refine ⟨?_, ?_⟩))) (by (repeat (first | exact List.nil_sublist _ | refine List.Sublist.cons_cons _ ?_ | refine List.Sublist.cons _ ?_)))⟩
        exact upto_succ ik ⟨hC, fun i hi => ij i (by omega)⟩
    · have h6 := of_dec' h6
      have hH : ∀ j, j < s.held.length → heldC s j := fun j hj => ik j (by omega)
      ((repeat refine S.seq ?_); refine S.region (L.go (T := tt) tt_ok rfl rfl ?sd264 ?_); (try (case sd264 => (repeat' (first | exact trivial | exact zA | with_reducible refine zI ?_ ?_ | exact zB | exact zC | exact zD | exact zE | rfl | exact zN rfl | omega | assumption | (simp; done) | (simp [splice]; done) | (simp; omega) | (unfold fits; omega) | (unfold fits; simp_all; omega) | (simp_all; omega) | (simp_all; done) | intro _)))); try (refine L.nil ?_))
      repeat refine S.seq ?_
      refine S.block (S.loop (ι := { k : Nat // k ≤ s.ready.length ∧ ∀ j, j < k → readyC s j }) (fun k => [(1, .ptr 1 b1 0), (9, .v (.int .i64 k.1))])
        (fun k => [(1, .blk b1 35 s.cells)]) (fun k => s.ready.length - k.1) ?_ ?_)
      · refine fun a w h => ⟨⟨0, Nat.zero_le _, ?_⟩, h.weak (by (repeat' (first | exact True.intro | exact Imp.refl _ | refine ⟨?_, ?_⟩))) (by (repeat (first | exact List.nil_sublist _ | refine List.Sublist.cons_cons _ ?_ | refine List.Sublist.cons _ ?_)))⟩
        exact fun j hj => absurd hj (by omega)
      rintro ⟨k, hk, ik⟩
      dsimp only
      ((repeat refine S.seq ?_); refine S.region (L.go (T := tt) tt_ok rfl rfl ?sd265 ?_); (try (case sd265 => (repeat' (first | exact trivial | exact zA | with_reducible refine zI ?_ ?_ | exact zB | exact zC | exact zD | exact zE | rfl | exact zN rfl | omega | assumption | (simp; done) | (simp [splice]; done) | (simp; omega) | (unfold fits; omega) | (unfold fits; simp_all; omega) | (simp_all; omega) | (simp_all; done) | intro _)))); try (refine L.nil ?_))
      ((repeat refine S.seq ?_); refine S.cond rfl (fun h10 => ?_) (fun h10 => ?_) <;> (try first | refine S.skip ?_ | refine S.exit ?_))
      · have h10 := of_dec h10
        repeat refine S.seq ?_
        refine S.block ?_
        ((repeat refine S.seq ?_); refine S.region (L.go (T := tt) tt_ok rfl rfl ?sd266 ?_); (try (case sd266 => (repeat' (first | exact trivial | exact zA | with_reducible refine zI ?_ ?_ | exact zB | exact zC | exact zD | exact zE | rfl | exact zN rfl | omega | assumption | (simp; done) | (simp [splice]; done) | (simp; omega) | (unfold fits; omega) | (unfold fits; simp_all; omega) | (simp_all; omega) | (simp_all; done) | intro _)))); try (refine L.nil ?_))
        refine L.alloc (T := tt) 10 tt_ok rfl rfl rfl rfl rfl fun b10 => ?_
        (refine L.store (T := tt) tt_ok rfl rfl rfl rfl rfl rfl ?sd284 ?_; (try (case sd284 => (repeat' (first | exact trivial | exact zA | with_reducible refine zI ?_ ?_ | exact zB | exact zC | exact zD | exact zE | rfl | exact zN rfl | omega | assumption | (simp; done) | (simp [splice]; done) | (simp; omega) | (unfold fits; omega) | (unfold fits; simp_all; omega) | (simp_all; omega) | (simp_all; done) | intro _)))))
        refine L.nil ?_
        repeat refine S.seq ?_
        refine S.draw [(0, [10]), (4, [1]), (6, [10]), (8, [10]), (11, [10])] mixed ?_
        (refine H.ts (T := tt) [0] tt_ok (by kernel_rfl) (by kernel_rfl) (by kernel_rfl) (by intro ch a a' w h; obtain ⟨_, _, _, _, _, h, _⟩ := h; cases h) rfl ?sd290 ?_; (try (case sd290 => (repeat' (first | exact trivial | exact zA | with_reducible refine zI ?_ ?_ | exact zB | exact zC | exact zD | exact zE | rfl | exact zN rfl | omega | assumption | (simp; done) | (simp [splice]; done) | (simp; omega) | (unfold fits; omega) | (unfold fits; simp_all; omega) | (simp_all; omega) | (simp_all; done) | intro _)))))
        refine H.callP 1 rfl (by kernel_rfl) (by kernel_rfl) rfl rfl rfl rfl rfl rfl rfl ⟨trivial, by (repeat' (first | exact trivial | exact zA | with_reducible refine zI ?_ ?_ | exact zB | exact zC | exact zD | exact zE | rfl | exact zN rfl | omega | assumption | (simp; done) | (simp [splice]; done) | (simp; omega) | (unfold fits; omega) | (unfold fits; simp_all; omega) | (simp_all; omega) | (simp_all; done) | intro _))⟩ rfl (by exact Imps.refl _) ((rmayMsg_p (s.ready.getD k default))) ?_
        (refine H.ts (T := tt) [2, 3, 4, 5, 6, 7, 8, 10, 11] tt_ok (by kernel_rfl) (by kernel_rfl) (by kernel_rfl) (by intro ch a a' w h; obtain ⟨_, _, _, _, _, h, _⟩ := h; cases h) rfl ?sd291 ?_; (try (case sd291 => (repeat' (first | exact trivial | exact zA | with_reducible refine zI ?_ ?_ | exact zB | exact zC | exact zD | exact zE | rfl | exact zN rfl | omega | assumption | (simp; done) | (simp [splice]; done) | (simp; omega) | (unfold fits; omega) | (unfold fits; simp_all; omega) | (simp_all; omega) | (simp_all; done) | intro _)))))
        refine H.callG 9 rfl (by kernel_rfl) (by kernel_rfl) rfl rfl rfl rfl rfl rfl rfl (fun _ => ⟨trivial, by (repeat' (first | exact trivial | exact zA | with_reducible refine zI ?_ ?_ | exact zB | exact zC | exact zD | exact zE | rfl | exact zN rfl | omega | assumption | (simp; done) | (simp [splice]; done) | (simp; omega) | (unfold fits; omega) | (unfold fits; simp_all; omega) | (simp_all; omega) | (simp_all; done) | intro _))⟩) rfl (by exact Imps.refl _) (fun _ => (rlast_p s (s.ready.getD k default).pub (s.ready.getD k default).key)) ?_
        (refine H.ts (T := tt) [12, 13] tt_ok (by kernel_rfl) (by kernel_rfl) (by kernel_rfl) (by intro ch a a' w h; obtain ⟨_, _, _, _, _, h, _⟩ := h; cases h) rfl ?sd292 ?_; (try (case sd292 => (repeat' (first | exact trivial | exact zA | with_reducible refine zI ?_ ?_ | exact zB | exact zC | exact zD | exact zE | rfl | exact zN rfl | omega | assumption | (simp; done) | (simp [splice]; done) | (simp; omega) | (unfold fits; omega) | (unfold fits; simp_all; omega) | (simp_all; omega) | (simp_all; done) | intro _)))))
        refine H.done (by kernel_rfl) ?_
        ((repeat refine S.seq ?_); refine S.cond rfl (fun h11 => ?_) (fun h11 => ?_) <;> (try first | refine S.skip ?_ | refine S.exit ?_))
        · skip
          ((repeat refine S.seq ?_); refine S.region (L.go (T := tt) tt_ok rfl rfl ?sd267 ?_); (try (case sd267 => (repeat' (first | exact trivial | exact zA | with_reducible refine zI ?_ ?_ | exact zB | exact zC | exact zD | exact zE | rfl | exact zN rfl | omega | assumption | (simp; done) | (simp [splice]; done) | (simp; omega) | (unfold fits; omega) | (unfold fits; simp_all; omega) | (simp_all; omega) | (simp_all; done) | intro _)))); try (refine L.nil ?_))
          (((repeat refine S.seq ?_); refine S.ret ?_); refine E.retP (T := tt) tt_ok rfl rfl (by (repeat' (first | exact trivial | exact zA | with_reducible refine zI ?_ ?_ | exact zB | exact zC | exact zD | exact zE | rfl | exact zN rfl | omega | assumption | (simp; done) | (simp [splice]; done) | (simp; omega) | (unfold fits; omega) | (unfold fits; simp_all; omega) | (simp_all; omega) | (simp_all; done) | intro _))) (Imp.of_eq ?_))
          have hno : mayShard s = false := notMay fun r => by
            exact bad h11 ((readyB s _).2 (r.ready k (by omega)).1.1)
          rw [hno]
          rfl
        have hRd := (readyB s _).1 h11
        ((repeat refine S.seq ?_); refine S.region (L.go (T := tt) tt_ok rfl rfl ?sd268 ?_); (try (case sd268 => (repeat' (first | exact trivial | exact zA | with_reducible refine zI ?_ ?_ | exact zB | exact zC | exact zD | exact zE | rfl | exact zN rfl | omega | assumption | (simp; done) | (simp [splice]; done) | (simp; omega) | (unfold fits; omega) | (unfold fits; simp_all; omega) | (simp_all; omega) | (simp_all; done) | intro _)))); try (refine L.nil ?_))
        repeat refine S.seq ?_
        refine S.block (S.loop (ι := { j : Nat // j ≤ k ∧ ∀ i, i < j → ¬ hits (s.ready.getD i default) (s.ready.getD k default) }) (fun j => [(1, .ptr 1 b1 0), (9, .v (.int .i64 k)), (10, .ptr 10 b10 0), (11, .v (.int .i64 j.1))])
          (fun j => [(10, .blk b10 46 (s.ready.getD k default).cells), (1, .blk b1 35 s.cells)]) (fun j => k - j.1) ?_ ?_)
        · refine fun a w h => ⟨⟨0, Nat.zero_le _, ?_⟩, h.weak (by (repeat' (first | exact True.intro | exact Imp.refl _ | refine ⟨?_, ?_⟩))) (by (repeat (first | exact List.nil_sublist _ | refine List.Sublist.cons_cons _ ?_ | refine List.Sublist.cons _ ?_)))⟩
          exact fun j hj => absurd hj (by omega)
        rintro ⟨j, hj, ij⟩
        dsimp only
        ((repeat refine S.seq ?_); refine S.region (L.go (T := tt) tt_ok rfl rfl ?sd269 ?_); (try (case sd269 => (repeat' (first | exact trivial | exact zA | with_reducible refine zI ?_ ?_ | exact zB | exact zC | exact zD | exact zE | rfl | exact zN rfl | omega | assumption | (simp; done) | (simp [splice]; done) | (simp; omega) | (unfold fits; omega) | (unfold fits; simp_all; omega) | (simp_all; omega) | (simp_all; done) | intro _)))); try (refine L.nil ?_))
        ((repeat refine S.seq ?_); refine S.cond rfl (fun h12 => ?_) (fun h12 => ?_) <;> (try first | refine S.skip ?_ | refine S.exit ?_))
        · have h12 := of_dec h12
          repeat refine S.seq ?_
          refine S.block ?_
          repeat refine S.seq ?_
          refine S.draw [(1, [1]), (7, [10]), (11, [1]), (17, [10]), (22, [1]), (28, [10])] mixed ?_
          (refine H.ts (T := tt) [0, 1, 2, 3, 4, 5, 6, 7, 8, 9, 10, 11, 12, 13, 14, 15, 16, 17, 18, 19, 20, 21, 22, 23, 24, 25, 26, 27, 28, 29, 30] tt_ok (by kernel_rfl) (by kernel_rfl) (by kernel_rfl) (by intro ch a a' w h; obtain ⟨_, _, _, _, _, h, _⟩ := h; cases h) rfl ?sd293 ?_; (try (case sd293 => (repeat' (first | exact trivial | exact zA | with_reducible refine zI ?_ ?_ | exact zB | exact zC | exact zD | exact zE | rfl | exact zN rfl | omega | assumption | (simp; done) | (simp [splice]; done) | (simp; omega) | (unfold fits; omega) | (unfold fits; simp_all; omega) | (simp_all; omega) | (simp_all; done) | intro _)))))
          refine H.done (by kernel_rfl) ?_
          ((repeat refine S.seq ?_); refine S.cond rfl (fun h13 => ?_) (fun h13 => ?_) <;> (try first | refine S.skip ?_ | refine S.exit ?_))
          · skip
            ((repeat refine S.seq ?_); refine S.region (L.go (T := tt) tt_ok rfl rfl ?sd270 ?_); (try (case sd270 => (repeat' (first | exact trivial | exact zA | with_reducible refine zI ?_ ?_ | exact zB | exact zC | exact zD | exact zE | rfl | exact zN rfl | omega | assumption | (simp; done) | (simp [splice]; done) | (simp; omega) | (unfold fits; omega) | (unfold fits; simp_all; omega) | (simp_all; omega) | (simp_all; done) | intro _)))); try (refine L.nil ?_))
            (((repeat refine S.seq ?_); refine S.ret ?_); refine E.retP (T := tt) tt_ok rfl rfl (by (repeat' (first | exact trivial | exact zA | with_reducible refine zI ?_ ?_ | exact zB | exact zC | exact zD | exact zE | rfl | exact zN rfl | omega | assumption | (simp; done) | (simp [splice]; done) | (simp; omega) | (unfold fits; omega) | (unfold fits; simp_all; omega) | (simp_all; omega) | (simp_all; done) | intro _))) (Imp.of_eq ?_))
            have hno : mayShard s = false := notMay fun r => by
              exact (r.ready k (by omega)).1.2 j (by omega) ((hitsB _ _).1 h13)
            rw [hno]
            rfl
          ((repeat refine S.seq ?_); refine S.region (L.go (T := tt) tt_ok rfl rfl ?sd271 ?_); (try (case sd271 => (repeat' (first | exact trivial | exact zA | with_reducible refine zI ?_ ?_ | exact zB | exact zC | exact zD | exact zE | rfl | exact zN rfl | omega | assumption | (simp; done) | (simp [splice]; done) | (simp; omega) | (unfold fits; omega) | (unfold fits; simp_all; omega) | (simp_all; omega) | (simp_all; done) | intro _)))); try (refine L.nil ?_))
          refine fun a w hR => ⟨⟨j + 1, by omega, ?_⟩, by simp only; omega, hR.weak (by (repeat' (first | exact True.intro | exact Imp.refl _ | refine ⟨?_, ?_⟩))) (by (repeat (first | exact List.nil_sublist _ | refine List.Sublist.cons_cons _ ?_ | refine List.Sublist.cons _ ?_)))⟩
          exact upto_succ ij (hitsB' h13)
        · have h12 := of_dec' h12
          have hin : ∀ i, i < k → ¬ hits (s.ready.getD i default) (s.ready.getD k default) := fun i hi => ij i (by omega)
          ((repeat refine S.seq ?_); refine S.region (L.go (T := tt) tt_ok rfl rfl ?sd272 ?_); (try (case sd272 => (repeat' (first | exact trivial | exact zA | with_reducible refine zI ?_ ?_ | exact zB | exact zC | exact zD | exact zE | rfl | exact zN rfl | omega | assumption | (simp; done) | (simp [splice]; done) | (simp; omega) | (unfold fits; omega) | (unfold fits; simp_all; omega) | (simp_all; omega) | (simp_all; done) | intro _)))); try (refine L.nil ?_))
          repeat refine S.seq ?_
          refine S.block (S.loop (ι := { j : Nat // j ≤ s.held.length ∧ ∀ i, i < j → ¬ hits (s.held.getD i default).m (s.ready.getD k default) }) (fun j => [(1, .ptr 1 b1 0), (9, .v (.int .i64 k)), (10, .ptr 10 b10 0), (12, .v (.int .i64 j.1))])
            (fun j => [(10, .blk b10 46 (s.ready.getD k default).cells), (1, .blk b1 35 s.cells)]) (fun j => s.held.length - j.1) ?_ ?_)
          · refine fun a w h => ⟨⟨0, Nat.zero_le _, ?_⟩, h.weak (by (repeat' (first | exact True.intro | exact Imp.refl _ | refine ⟨?_, ?_⟩))) (by (repeat (first | exact List.nil_sublist _ | refine List.Sublist.cons_cons _ ?_ | refine List.Sublist.cons _ ?_)))⟩
            exact fun j hj => absurd hj (by omega)
          rintro ⟨j, hj, ij⟩
          dsimp only
          ((repeat refine S.seq ?_); refine S.region (L.go (T := tt) tt_ok rfl rfl ?sd273 ?_); (try (case sd273 => (repeat' (first | exact trivial | exact zA | with_reducible refine zI ?_ ?_ | exact zB | exact zC | exact zD | exact zE | rfl | exact zN rfl | omega | assumption | (simp; done) | (simp [splice]; done) | (simp; omega) | (unfold fits; omega) | (unfold fits; simp_all; omega) | (simp_all; omega) | (simp_all; done) | intro _)))); try (refine L.nil ?_))
          ((repeat refine S.seq ?_); refine S.cond rfl (fun h14 => ?_) (fun h14 => ?_) <;> (try first | refine S.skip ?_ | refine S.exit ?_))
          · have h14 := of_dec h14
            repeat refine S.seq ?_
            refine S.block ?_
            repeat refine S.seq ?_
            refine S.draw [(1, [1]), (8, [10]), (12, [1]), (19, [10]), (24, [1]), (31, [10])] mixed ?_
            (refine H.ts (T := tt) [0, 1, 2, 3, 4, 5, 6, 7, 8, 9, 10, 11, 12, 13, 14, 15, 16, 17, 18, 19, 20, 21, 22, 23, 24, 25, 26, 27, 28, 29, 30, 31, 32, 33] tt_ok (by kernel_rfl) (by kernel_rfl) (by kernel_rfl) (by intro ch a a' w h; obtain ⟨_, _, _, _, _, h, _⟩ := h; cases h) rfl ?sd294 ?_; (try (case sd294 => (repeat' (first | exact trivial | exact zA | with_reducible refine zI ?_ ?_ | exact zB | exact zC | exact zD | exact zE | rfl | exact zN rfl | omega | assumption | (simp; done) | (simp [splice]; done) | (simp; omega) | (unfold fits; omega) | (unfold fits; simp_all; omega) | (simp_all; omega) | (simp_all; done) | intro _)))))
            refine H.done (by kernel_rfl) ?_
            ((repeat refine S.seq ?_); refine S.cond rfl (fun h15 => ?_) (fun h15 => ?_) <;> (try first | refine S.skip ?_ | refine S.exit ?_))
            · skip
              ((repeat refine S.seq ?_); refine S.region (L.go (T := tt) tt_ok rfl rfl ?sd274 ?_); (try (case sd274 => (repeat' (first | exact trivial | exact zA | with_reducible refine zI ?_ ?_ | exact zB | exact zC | exact zD | exact zE | rfl | exact zN rfl | omega | assumption | (simp; done) | (simp [splice]; done) | (simp; omega) | (unfold fits; omega) | (unfold fits; simp_all; omega) | (simp_all; omega) | (simp_all; done) | intro _)))); try (refine L.nil ?_))
              (((repeat refine S.seq ?_); refine S.ret ?_); refine E.retP (T := tt) tt_ok rfl rfl (by (repeat' (first | exact trivial | exact zA | with_reducible refine zI ?_ ?_ | exact zB | exact zC | exact zD | exact zE | rfl | exact zN rfl | omega | assumption | (simp; done) | (simp [splice]; done) | (simp; omega) | (unfold fits; omega) | (unfold fits; simp_all; omega) | (simp_all; omega) | (simp_all; done) | intro _))) (Imp.of_eq ?_))
              have hno : mayShard s = false := notMay fun r => by
                exact (r.ready k (by omega)).2 j (by omega) ((hitsB _ _).1 h15)
              rw [hno]
              rfl
            ((repeat refine S.seq ?_); refine S.region (L.go (T := tt) tt_ok rfl rfl ?sd275 ?_); (try (case sd275 => (repeat' (first | exact trivial | exact zA | with_reducible refine zI ?_ ?_ | exact zB | exact zC | exact zD | exact zE | rfl | exact zN rfl | omega | assumption | (simp; done) | (simp [splice]; done) | (simp; omega) | (unfold fits; omega) | (unfold fits; simp_all; omega) | (simp_all; omega) | (simp_all; done) | intro _)))); try (refine L.nil ?_))
            refine fun a w hR => ⟨⟨j + 1, by omega, ?_⟩, by simp only; omega, hR.weak (by (repeat' (first | exact True.intro | exact Imp.refl _ | refine ⟨?_, ?_⟩))) (by (repeat (first | exact List.nil_sublist _ | refine List.Sublist.cons_cons _ ?_ | refine List.Sublist.cons _ ?_)))⟩
            exact upto_succ ij (hitsB' h15)
          · have h14 := of_dec' h14
            ((repeat refine S.seq ?_); refine S.region (L.go (T := tt) tt_ok rfl rfl ?sd276 ?_); (try (case sd276 => (repeat' (first | exact trivial | exact zA | with_reducible refine zI ?_ ?_ | exact zB | exact zC | exact zD | exact zE | rfl | exact zN rfl | omega | assumption | (simp; done) | (simp [splice]; done) | (simp; omega) | (unfold fits; omega) | (unfold fits; simp_all; omega) | (simp_all; omega) | (simp_all; done) | intro _)))); try (refine L.nil ?_))
            refine fun a w hR => ⟨⟨k + 1, by omega, ?_⟩, by simp only; omega, hR.weak (by (repeat' (first | exact True.intro | exact Imp.refl _ | refine ⟨?_, ?_⟩))) (by (repeat (first | exact List.nil_sublist _ | refine List.Sublist.cons_cons _ ?_ | refine List.Sublist.cons _ ?_)))⟩
            exact upto_succ ik ⟨⟨hRd, hin⟩, fun i hi => ij i (by omega)⟩
      · have h10 := of_dec' h10
        ((repeat refine S.seq ?_); refine S.region (L.go (T := tt) tt_ok rfl rfl ?sd277 ?_); (try (case sd277 => (repeat' (first | exact trivial | exact zA | with_reducible refine zI ?_ ?_ | exact zB | exact zC | exact zD | exact zE | rfl | exact zN rfl | omega | assumption | (simp; done) | (simp [splice]; done) | (simp; omega) | (unfold fits; omega) | (unfold fits; simp_all; omega) | (simp_all; omega) | (simp_all; done) | intro _)))); try (refine L.nil ?_))
        (((repeat refine S.seq ?_); refine S.ret ?_); refine E.retP (T := tt) tt_ok rfl rfl (by (repeat' (first | exact trivial | exact zA | with_reducible refine zI ?_ ?_ | exact zB | exact zC | exact zD | exact zE | rfl | exact zN rfl | omega | assumption | (simp; done) | (simp [splice]; done) | (simp; omega) | (unfold fits; omega) | (unfold fits; simp_all; omega) | (simp_all; omega) | (simp_all; done) | intro _))) (Imp.of_eq ?_))
        have hyes : mayShard s = true := (rmay_iff s).2 ⟨hsz, hM, hH, fun j hj => ik j (by omega)⟩
        rw [hyes]
        rfl

end Go.Proofs.Ytgnklbdbglnmaaa

/- The reference: what may be put at once, frozen shards, the same shards. -/
namespace Go.Proofs.Ytgnklbdbglnmaaa
set_option linter.unusedVariables false
set_option linter.unusedSimpArgs false
set_option maxHeartbeats 8000000
open Go.RowKit
set_option maxRecDepth 4000

def rowC (l : List Msg) (k : Nat) : Prop := mayMsg (l.getD k default) = true ∧ (l.getD k default).again = false ∧ (l.getD k default).pub = (l.getD 0 default).pub ∧ (l.getD k default).key = (l.getD 0 default).key ∧ (l.getD k default).seq = (l.getD 0 default).seq + k
theorem row_iff (l : List Msg) : mayRow l = true ↔ (1 ≤ l.length ∧ l.length ≤ 8) ∧ ∀ k, k < l.length → rowC l k := by
  constructor
  · intro h
    refine ⟨row_len h, fun k hk => ?_⟩
    have := row_seq h k hk
    unfold rowC
    rwa [getD_get hk]
  · rintro ⟨h1, h2⟩
    unfold mayRow
    rw [Bool.and_eq_true]
    refine ⟨by simp only [Bool.not_eq_true', Bool.or_eq_false_iff, decide_eq_false_iff_not]; omega, List.all_eq_true.2 fun k hk => ?_⟩
    have hk : k < l.length := by simpa using hk
    obtain ⟨g1, g2, g3, g4, g5⟩ := h2 k hk
    unfold rowE
    simp only [g1, g2, g3, g4, Bool.not_false, beq_self_eq_true, Bool.and_self, Bool.true_and, Bool.or_eq_true, beq_iff_eq]
    by_cases h0 : k = 0
    · exact .inl h0
    · refine .inr ?_
      have := (h2 (k - 1) (by omega)).2.2.2.2
      omega
theorem rowB (l : List Msg) (k : Nat) : (!mayMsg (l.getD k default) || (l.getD k default).again || (l.getD k default).pub != (l.getD 0 default).pub || !((l.getD k default).key == (l.getD 0 default).key) || (l.getD k default).seq != (l.getD 0 default).seq + k) = false ↔ rowC l k := by
  simp [rowC, and_assoc]
theorem list_eq {α : Type} [Inhabited α] {l m : List α} (h : l.length = m.length) (hj : ∀ j, j < l.length → l.getD j default = m.getD j default) : l = m := by
  apply List.ext_getElem h
  intro i h1 h2
  have := hj i h1
  rwa [getD_get h1, getD_get h2] at this
theorem eqMsg_of {a b : Msg} (h : (!(a.pub == b.pub && (a.seq == b.seq && (a.key == b.key && (a.body == b.body && (a.again == b.again && true)))))) = false) : a = b := by
  cases a; cases b; simpa [and_assoc] using h
theorem eqHeld_of {a b : Held} (h : (!(a.tag == b.tag && ((a.m.pub == b.m.pub && (a.m.seq == b.m.seq && (a.m.key == b.m.key && (a.m.body == b.m.body && (a.m.again == b.m.again && true))))) && true))) = false) : a = b := by
  obtain ⟨t, m⟩ := a; obtain ⟨t', m'⟩ := b; cases m; cases m'; simpa [and_assoc] using h
theorem eqMark_of {a b : Mark} (h : (!(a.pub == b.pub && (a.key == b.key && (a.seq == b.seq && true)))) = false) : a = b := by
  cases a; cases b; simpa [and_assoc] using h
theorem notRow {l : List Msg} (h : ¬ ((1 ≤ l.length ∧ l.length ≤ 8) ∧ ∀ k, k < l.length → rowC l k)) : mayRow l = false := Bool.eq_false_iff.2 fun e => h ((row_iff l).1 e)

theorem rbatch_p (l : List Msg) : PFn Try.prog 73 [msgs l] (.v (.bool (mayRow l))) := by
  refine FnC.intro Try.func73 rfl Try.ntmps73 rfl ?_; intro off w0
  ((repeat refine S.seq ?_); refine S.region (L.go (T := tt) tt_ok rfl rfl ?sd295 ?_); (try (case sd295 => (repeat' (first | exact trivial | exact zA | with_reducible refine zI ?_ ?_ | exact zB | exact zC | exact zD | exact zE | rfl | exact zN rfl | omega | assumption | (simp; done) | (simp [splice]; done) | (simp; omega) | (unfold fits; omega) | (unfold fits; simp_all; omega) | (simp_all; omega) | (simp_all; done) | intro _)))); try (refine L.nil ?_))
  ((repeat refine S.seq ?_); refine S.region (L.go (T := tt) tt_ok rfl rfl ?sd296 ?_); (try (case sd296 => (repeat' (first | exact trivial | exact zA | with_reducible refine zI ?_ ?_ | exact zB | exact zC | exact zD | exact zE | rfl | exact zN rfl | omega | assumption | (simp; done) | (simp [splice]; done) | (simp; omega) | (unfold fits; omega) | (unfold fits; simp_all; omega) | (simp_all; omega) | (simp_all; done) | intro _)))); try (refine L.nil ?_))
  ((repeat refine S.seq ?_); refine S.cond rfl (fun h1 => ?_) (fun h1 => ?_) <;> (try first | refine S.skip ?_ | refine S.exit ?_))
  · skip
    ((repeat refine S.seq ?_); refine S.region (L.go (T := tt) tt_ok rfl rfl ?sd297 ?_); (try (case sd297 => (repeat' (first | exact trivial | exact zA | with_reducible refine zI ?_ ?_ | exact zB | exact zC | exact zD | exact zE | rfl | exact zN rfl | omega | assumption | (simp; done) | (simp [splice]; done) | (simp; omega) | (unfold fits; omega) | (unfold fits; simp_all; omega) | (simp_all; omega) | (simp_all; done) | intro _)))); try (refine L.nil ?_))
    (((repeat refine S.seq ?_); refine S.ret ?_); refine E.retP (T := tt) tt_ok rfl rfl (by (repeat' (first | exact trivial | exact zA | with_reducible refine zI ?_ ?_ | exact zB | exact zC | exact zD | exact zE | rfl | exact zN rfl | omega | assumption | (simp; done) | (simp [splice]; done) | (simp; omega) | (unfold fits; omega) | (unfold fits; simp_all; omega) | (simp_all; omega) | (simp_all; done) | intro _))) (Imp.of_eq ?_))
    have hno : mayRow l = false := notRow fun r => by
      simp only [Bool.or_eq_true, decide_eq_true_eq] at h1
      omega
    rw [hno]
    rfl
    -- HOLE 1
  have hsz : 1 ≤ l.length ∧ l.length ≤ 8 := by
    simp only [Bool.or_eq_false_iff, decide_eq_false_iff_not] at h1
    omega
  -- HOLE 2
  ((repeat refine S.seq ?_); refine S.region (L.go (T := tt) tt_ok rfl rfl ?sd298 ?_); (try (case sd298 => (repeat' (first | exact trivial | exact zA | with_reducible refine zI ?_ ?_ | exact zB | exact zC | exact zD | exact zE | rfl | exact zN rfl | omega | assumption | (simp; done) | (simp [splice]; done) | (simp; omega) | (unfold fits; omega) | (unfold fits; simp_all; omega) | (simp_all; omega) | (simp_all; done) | intro _)))); try (refine L.nil ?_))
  repeat refine S.seq ?_
  refine S.block (S.loop (ι := { k : Nat // k ≤ l.length ∧ ∀ j, j < k → rowC l j }) (fun k => [(0, msgs l), (3, .v (.int .i64 k.1))])
    (fun k => []) (fun k => l.length - k.1) ?_ ?_)
  · refine fun a w h => ⟨⟨0, Nat.zero_le _, ?_⟩, h.weak (by (repeat' (first | exact True.intro | exact Imp.refl _ | refine ⟨?_, ?_⟩))) (by (repeat (first | exact List.nil_sublist _ | refine List.Sublist.cons_cons _ ?_ | refine List.Sublist.cons _ ?_)))⟩
    exact fun j hj => absurd hj (by omega)
    -- HOLE 3
  rintro ⟨k, hk, ik⟩
  dsimp only
  ((repeat refine S.seq ?_); refine S.region (L.go (T := tt) tt_ok rfl rfl ?sd299 ?_); (try (case sd299 => (repeat' (first | exact trivial | exact zA | with_reducible refine zI ?_ ?_ | exact zB | exact zC | exact zD | exact zE | rfl | exact zN rfl | omega | assumption | (simp; done) | (simp [splice]; done) | (simp; omega) | (unfold fits; omega) | (unfold fits; simp_all; omega) | (simp_all; omega) | (simp_all; done) | intro _)))); try (refine L.nil ?_))
  ((repeat refine S.seq ?_); refine S.cond rfl (fun h2 => ?_) (fun h2 => ?_) <;> (try first | refine S.skip ?_ | refine S.exit ?_))
  · have h2 := of_dec h2
    repeat refine S.seq ?_
    refine S.block ?_
    repeat refine S.seq ?_
    refine S.draw [] mixed ?_
    (refine H.ts (T := tt) [0, 1, 2, 3] tt_ok (by kernel_rfl) (by kernel_rfl) (by kernel_rfl) (by intro ch a a' w h; obtain ⟨_, _, _, _, _, h, _⟩ := h; cases h) rfl ?sd353 ?_; (try (case sd353 => (repeat' (first | exact trivial | exact zA | with_reducible refine zI ?_ ?_ | exact zB | exact zC | exact zD | exact zE | rfl | exact zN rfl | omega | assumption | (simp; done) | (simp [splice]; done) | (simp; omega) | (unfold fits; omega) | (unfold fits; simp_all; omega) | (simp_all; omega) | (simp_all; done) | intro _)))))
    have hb : mayMsg (l.getD k default) = true → 1 ≤ (l.getD 0 default).seq ∧ (l.getD 0 default).seq ≤ 1073741824 := fun hb => by
      rcases Nat.eq_zero_or_pos k with rfl | h0
      · exact mayMsg_le hb
      · exact mayMsg_le (ik 0 h0).1
    refine H.callP 4 rfl (by kernel_rfl) (by kernel_rfl) rfl rfl rfl rfl rfl rfl rfl ⟨trivial, by (repeat' (first | exact trivial | exact zA | with_reducible refine zI ?_ ?_ | exact zB | exact zC | exact zD | exact zE | rfl | exact zN rfl | omega | assumption | (simp; done) | (simp [splice]; done) | (simp; omega) | (unfold fits; omega) | (unfold fits; simp_all; omega) | (simp_all; omega) | (simp_all; done) | intro _))⟩ rfl (by exact Imps.refl _) ((rmayMsg_p (l.getD k default))) ?_
    (refine H.ts (T := tt) [5, 6, 7, 8, 9, 10, 11, 12, 13, 14, 15, 16, 17, 18, 19, 20, 21, 22, 23, 24, 25, 26, 27, 28, 29, 30, 31, 32, 33, 34, 35, 36, 37, 38, 39, 40, 41, 42, 43, 44, 45, 46, 47] tt_ok (by kernel_rfl) (by kernel_rfl) (by kernel_rfl) (by intro ch a a' w h; obtain ⟨_, _, _, _, _, h, _⟩ := h; cases h) rfl ?sd354 ?_; (try (case sd354 => (repeat' (first | exact trivial | exact zA | with_reducible refine zI ?_ ?_ | exact zB | exact zC | exact zD | exact zE | rfl | exact zN rfl | omega | assumption | (simp; done) | (simp [splice]; done) | (simp; omega) | (unfold fits; omega) | (unfold fits; simp_all; omega) | (simp_all; omega) | (simp_all; done) | intro _)))))
    refine H.ts (T := tt) [48] tt_ok (by kernel_rfl) (by kernel_rfl) (by kernel_rfl) (by intro ch a a' w h; obtain ⟨_, _, _, _, _, h, _⟩ := h; cases h) rfl ?_ ?_
    · (repeat' (first | exact True.intro | assumption | refine And.intro ?_ ?_ | intro hg))
      all_goals (have := hb (by revert hg; cases mayMsg (l.getD k default) <;> simp); simp only [Int.toNat_zero]; omega)
    (refine H.ts (T := tt) [49, 50] tt_ok (by kernel_rfl) (by kernel_rfl) (by kernel_rfl) (by intro ch a a' w h; obtain ⟨_, _, _, _, _, h, _⟩ := h; cases h) rfl ?sd355 ?_; (try (case sd355 => (repeat' (first | exact trivial | exact zA | with_reducible refine zI ?_ ?_ | exact zB | exact zC | exact zD | exact zE | rfl | exact zN rfl | omega | assumption | (simp; done) | (simp [splice]; done) | (simp; omega) | (unfold fits; omega) | (unfold fits; simp_all; omega) | (simp_all; omega) | (simp_all; done) | intro _)))))
    refine H.done (by kernel_rfl) ?_
    ((repeat refine S.seq ?_); refine S.cond rfl (fun h3 => ?_) (fun h3 => ?_) <;> (try first | refine S.skip ?_ | refine S.exit ?_))
    · skip
      ((repeat refine S.seq ?_); refine S.region (L.go (T := tt) tt_ok rfl rfl ?sd300 ?_); (try (case sd300 => (repeat' (first | exact trivial | exact zA | with_reducible refine zI ?_ ?_ | exact zB | exact zC | exact zD | exact zE | rfl | exact zN rfl | omega | assumption | (simp; done) | (simp [splice]; done) | (simp; omega) | (unfold fits; omega) | (unfold fits; simp_all; omega) | (simp_all; omega) | (simp_all; done) | intro _)))); try (refine L.nil ?_))
      (((repeat refine S.seq ?_); refine S.ret ?_); refine E.retP (T := tt) tt_ok rfl rfl (by (repeat' (first | exact trivial | exact zA | with_reducible refine zI ?_ ?_ | exact zB | exact zC | exact zD | exact zE | rfl | exact zN rfl | omega | assumption | (simp; done) | (simp [splice]; done) | (simp; omega) | (unfold fits; omega) | (unfold fits; simp_all; omega) | (simp_all; omega) | (simp_all; done) | intro _))) (Imp.of_eq ?_))
      have hno : mayRow l = false := notRow fun r => by
        exact bad h3 ((rowB l k).2 (r.2 k (by omega)))
      rw [hno]
      rfl
      -- HOLE 4
    -- HOLE 5
    ((repeat refine S.seq ?_); refine S.region (L.go (T := tt) tt_ok rfl rfl ?sd301 ?_); (try (case sd301 => (repeat' (first | exact trivial | exact zA | with_reducible refine zI ?_ ?_ | exact zB | exact zC | exact zD | exact zE | rfl | exact zN rfl | omega | assumption | (simp; done) | (simp [splice]; done) | (simp; omega) | (unfold fits; omega) | (unfold fits; simp_all; omega) | (simp_all; omega) | (simp_all; done) | intro _)))); try (refine L.nil ?_))
    refine fun a w hR => ⟨⟨k + 1, by omega, ?_⟩, by simp only; omega, hR.weak (by (repeat' (first | exact True.intro | exact Imp.refl _ | refine ⟨?_, ?_⟩))) (by (repeat (first | exact List.nil_sublist _ | refine List.Sublist.cons_cons _ ?_ | refine List.Sublist.cons _ ?_)))⟩
    exact upto_succ ik ((rowB l k).1 h3)
    -- HOLE 6
  · have h2 := of_dec' h2
    -- HOLE 7
    ((repeat refine S.seq ?_); refine S.region (L.go (T := tt) tt_ok rfl rfl ?sd302 ?_); (try (case sd302 => (repeat' (first | exact trivial | exact zA | with_reducible refine zI ?_ ?_ | exact zB | exact zC | exact zD | exact zE | rfl | exact zN rfl | omega | assumption | (simp; done) | (simp [splice]; done) | (simp; omega) | (unfold fits; omega) | (unfold fits; simp_all; omega) | (simp_all; omega) | (simp_all; done) | intro _)))); try (refine L.nil ?_))
    (((repeat refine S.seq ?_); refine S.ret ?_); refine E.retP (T := tt) tt_ok rfl rfl (by (repeat' (first | exact trivial | exact zA | with_reducible refine zI ?_ ?_ | exact zB | exact zC | exact zD | exact zE | rfl | exact zN rfl | omega | assumption | (simp; done) | (simp [splice]; done) | (simp; omega) | (unfold fits; omega) | (unfold fits; simp_all; omega) | (simp_all; omega) | (simp_all; done) | intro _))) (Imp.of_eq ?_))
    have hyes : mayRow l = true := (row_iff l).2 ⟨hsz, fun j hj => ik j (by omega)⟩
    rw [hyes]
    rfl
    -- HOLE 8

theorem rnew_p : PFn Try.prog 29 [] (Shard.av ⟨false, 1, [], [], []⟩) := by
  refine FnC.intro Try.func29 rfl Try.ntmps29 rfl ?_; intro off w0
  repeat refine S.seq ?_
  refine S.region ?_
  refine L.alloc (T := tt) 0 tt_ok rfl rfl rfl rfl rfl fun b0 => ?_
  refine L.nil ?_
  ((repeat refine S.seq ?_); refine S.region (L.go (T := tt) tt_ok rfl rfl ?sd303 ?_); (try (case sd303 => (repeat' (first | exact trivial | exact zA | with_reducible refine zI ?_ ?_ | exact zB | exact zC | exact zD | exact zE | rfl | exact zN rfl | omega | assumption | (simp; done) | (simp [splice]; done) | (simp; omega) | (unfold fits; omega) | (unfold fits; simp_all; omega) | (simp_all; omega) | (simp_all; done) | intro _)))); try (refine L.nil ?_))
  (refine L.store (T := tt) tt_ok rfl rfl rfl rfl rfl rfl ?sd346 ?_; (try (case sd346 => (repeat' (first | exact trivial | exact zA | with_reducible refine zI ?_ ?_ | exact zB | exact zC | exact zD | exact zE | rfl | exact zN rfl | omega | assumption | (simp; done) | (simp [splice]; done) | (simp; omega) | (unfold fits; omega) | (unfold fits; simp_all; omega) | (simp_all; omega) | (simp_all; done) | intro _)))))
  refine L.nil ?_
  (((repeat refine S.seq ?_); refine S.ret ?_); refine E.retP (T := tt) tt_ok rfl rfl (by (repeat' (first | exact trivial | exact zA | with_reducible refine zI ?_ ?_ | exact zB | exact zC | exact zD | exact zE | rfl | exact zN rfl | omega | assumption | (simp; done) | (simp [splice]; done) | (simp; omega) | (unfold fits; omega) | (unfold fits; simp_all; omega) | (simp_all; omega) | (simp_all; done) | intro _))) ?_)
  exact Imp.agg ⟨Imp.refl _, Imp.refl _, Imp.nil _ _, Imp.nil _ _, Imp.nil _ _, trivial⟩

theorem rlocked_p (s : Shard) (key : ByteArray) : PFn Try.prog 74 [s.av, .v (.string key)] (.v (.bool (hasKey s.held key))) := by
  refine FnC.intro Try.func74 rfl Try.ntmps74 rfl ?_; intro off w0
  refine lenAgg (cs := s.cells) (n := s.held.length) 0 3 rfl rfl fun hn => ?_
  repeat refine S.seq ?_
  refine S.region ?_
  refine L.box 2 rfl rfl rfl rfl rfl trivial rfl fun b2 => ?_
  (refine L.go (T := tt) tt_ok rfl rfl ?sd333 ?_; (try (case sd333 => (repeat' (first | exact trivial | exact zA | with_reducible refine zI ?_ ?_ | exact zB | exact zC | exact zD | exact zE | rfl | exact zN rfl | omega | assumption | (simp; done) | (simp [splice]; done) | (simp; omega) | (unfold fits; omega) | (unfold fits; simp_all; omega) | (simp_all; omega) | (simp_all; done) | intro _)))); try (refine L.nil ?_))
  ((repeat refine S.seq ?_); refine S.region (L.go (T := tt) tt_ok rfl rfl ?sd304 ?_); (try (case sd304 => (repeat' (first | exact trivial | exact zA | with_reducible refine zI ?_ ?_ | exact zB | exact zC | exact zD | exact zE | rfl | exact zN rfl | omega | assumption | (simp; done) | (simp [splice]; done) | (simp; omega) | (unfold fits; omega) | (unfold fits; simp_all; omega) | (simp_all; omega) | (simp_all; done) | intro _)))); try (refine L.nil ?_))
  repeat refine S.seq ?_
  refine S.block (S.loop (ι := { k : Nat // k ≤ s.held.length ∧ ∀ j, j < k → (s.held.getD j default).m.key ≠ key }) (fun k => [(1, .v (.string key)), (2, .ptr 2 b2 0), (5, .v (.int .i64 k.1))])
    (fun k => [(2, .blk b2 35 s.cells)]) (fun k => s.held.length - k.1) ?_ ?_)
  · refine fun a w h => ⟨⟨0, Nat.zero_le _, ?_⟩, h.weak (by (repeat' (first | exact True.intro | exact Imp.refl _ | refine ⟨?_, ?_⟩))) (by (repeat (first | exact List.nil_sublist _ | refine List.Sublist.cons_cons _ ?_ | refine List.Sublist.cons _ ?_)))⟩
    exact fun j hj => absurd hj (by omega)
    -- HOLE 1
  rintro ⟨k, hk, ik⟩
  dsimp only
  ((repeat refine S.seq ?_); refine S.region (L.go (T := tt) tt_ok rfl rfl ?sd305 ?_); (try (case sd305 => (repeat' (first | exact trivial | exact zA | with_reducible refine zI ?_ ?_ | exact zB | exact zC | exact zD | exact zE | rfl | exact zN rfl | omega | assumption | (simp; done) | (simp [splice]; done) | (simp; omega) | (unfold fits; omega) | (unfold fits; simp_all; omega) | (simp_all; omega) | (simp_all; done) | intro _)))); try (refine L.nil ?_))
  ((repeat refine S.seq ?_); refine S.cond rfl (fun h1 => ?_) (fun h1 => ?_) <;> (try first | refine S.skip ?_ | refine S.exit ?_))
  · have h1 := of_dec h1
    repeat refine S.seq ?_
    refine S.block ?_
    ((repeat refine S.seq ?_); refine S.region (L.go (T := tt) tt_ok rfl rfl ?sd306 ?_); (try (case sd306 => (repeat' (first | exact trivial | exact zA | with_reducible refine zI ?_ ?_ | exact zB | exact zC | exact zD | exact zE | rfl | exact zN rfl | omega | assumption | (simp; done) | (simp [splice]; done) | (simp; omega) | (unfold fits; omega) | (unfold fits; simp_all; omega) | (simp_all; omega) | (simp_all; done) | intro _)))); try (refine L.nil ?_))
    ((repeat refine S.seq ?_); refine S.cond rfl (fun h2 => ?_) (fun h2 => ?_) <;> (try first | refine S.skip ?_ | refine S.exit ?_))
    · skip
      ((repeat refine S.seq ?_); refine S.region (L.go (T := tt) tt_ok rfl rfl ?sd307 ?_); (try (case sd307 => (repeat' (first | exact trivial | exact zA | with_reducible refine zI ?_ ?_ | exact zB | exact zC | exact zD | exact zE | rfl | exact zN rfl | omega | assumption | (simp; done) | (simp [splice]; done) | (simp; omega) | (unfold fits; omega) | (unfold fits; simp_all; omega) | (simp_all; omega) | (simp_all; done) | intro _)))); try (refine L.nil ?_))
      (((repeat refine S.seq ?_); refine S.ret ?_); refine E.retP (T := tt) tt_ok rfl rfl (by (repeat' (first | exact trivial | exact zA | with_reducible refine zI ?_ ?_ | exact zB | exact zC | exact zD | exact zE | rfl | exact zN rfl | omega | assumption | (simp; done) | (simp [splice]; done) | (simp; omega) | (unfold fits; omega) | (unfold fits; simp_all; omega) | (simp_all; omega) | (simp_all; done) | intro _))) (Imp.of_eq ?_))
      have hyes : hasKey s.held key = true := List.any_eq_true.2 ⟨_, List.getElem_mem (show k < s.held.length by omega), by rw [← getD_get]; exact h2⟩
      rw [hyes]
      rfl
      -- HOLE 2
    -- HOLE 3
    ((repeat refine S.seq ?_); refine S.region (L.go (T := tt) tt_ok rfl rfl ?sd308 ?_); (try (case sd308 => (repeat' (first | exact trivial | exact zA | with_reducible refine zI ?_ ?_ | exact zB | exact zC | exact zD | exact zE | rfl | exact zN rfl | omega | assumption | (simp; done) | (simp [splice]; done) | (simp; omega) | (unfold fits; omega) | (unfold fits; simp_all; omega) | (simp_all; omega) | (simp_all; done) | intro _)))); try (refine L.nil ?_))
    refine fun a w hR => ⟨⟨k + 1, by omega, ?_⟩, by simp only; omega, hR.weak (by (repeat' (first | exact True.intro | exact Imp.refl _ | refine ⟨?_, ?_⟩))) (by (repeat (first | exact List.nil_sublist _ | refine List.Sublist.cons_cons _ ?_ | refine List.Sublist.cons _ ?_)))⟩
    exact upto_succ ik (by simpa using h2)
    -- HOLE 4
  · have h1 := of_dec' h1
    -- HOLE 5
    ((repeat refine S.seq ?_); refine S.region (L.go (T := tt) tt_ok rfl rfl ?sd309 ?_); (try (case sd309 => (repeat' (first | exact trivial | exact zA | with_reducible refine zI ?_ ?_ | exact zB | exact zC | exact zD | exact zE | rfl | exact zN rfl | omega | assumption | (simp; done) | (simp [splice]; done) | (simp; omega) | (unfold fits; omega) | (unfold fits; simp_all; omega) | (simp_all; omega) | (simp_all; done) | intro _)))); try (refine L.nil ?_))
    (((repeat refine S.seq ?_); refine S.ret ?_); refine E.retP (T := tt) tt_ok rfl rfl (by (repeat' (first | exact trivial | exact zA | with_reducible refine zI ?_ ?_ | exact zB | exact zC | exact zD | exact zE | rfl | exact zN rfl | omega | assumption | (simp; done) | (simp [splice]; done) | (simp; omega) | (unfold fits; omega) | (unfold fits; simp_all; omega) | (simp_all; omega) | (simp_all; done) | intro _))) (Imp.of_eq ?_))
    have hno : hasKey s.held key = false := (hasKey_iff _ _).2 (all_get.2 fun j hj => ik j (by omega))
    rw [hno]
    rfl
    -- HOLE 6

theorem rsame_p (a b : Shard) : PFn Try.prog 44 [a.av, b.av] (.v (.bool (same a b))) := by
  refine FnC.intro Try.func44 rfl Try.ntmps44 rfl ?_; intro off w0
  refine lenAgg (cs := a.cells) (n := a.ready.length) 0 2 rfl rfl fun hn1 => lenAgg (cs := a.cells) (n := a.held.length) 0 3 rfl rfl fun hn2 => lenAgg (cs := a.cells) (n := a.marks.length) 0 4 rfl rfl fun hn3 => ?_
  repeat refine S.seq ?_
  refine S.region ?_
  refine L.box 2 rfl rfl rfl rfl rfl trivial rfl fun b2 => ?_
  refine L.box 3 rfl rfl rfl rfl rfl trivial rfl fun b3 => ?_
  (refine L.go (T := tt) tt_ok rfl rfl ?sd334 ?_; (try (case sd334 => (repeat' (first | exact trivial | exact zA | with_reducible refine zI ?_ ?_ | exact zB | exact zC | exact zD | exact zE | rfl | exact zN rfl | omega | assumption | (simp; done) | (simp [splice]; done) | (simp; omega) | (unfold fits; omega) | (unfold fits; simp_all; omega) | (simp_all; omega) | (simp_all; done) | intro _)))); try (refine L.nil ?_))
  ((repeat refine S.seq ?_); refine S.region (L.go (T := tt) tt_ok rfl rfl ?sd310 ?_); (try (case sd310 => (repeat' (first | exact trivial | exact zA | with_reducible refine zI ?_ ?_ | exact zB | exact zC | exact zD | exact zE | rfl | exact zN rfl | omega | assumption | (simp; done) | (simp [splice]; done) | (simp; omega) | (unfold fits; omega) | (unfold fits; simp_all; omega) | (simp_all; omega) | (simp_all; done) | intro _)))); try (refine L.nil ?_))
  ((repeat refine S.seq ?_); refine S.cond rfl (fun h1 => ?_) (fun h1 => ?_) <;> (try first | refine S.skip ?_ | refine S.exit ?_))
  · skip
    ((repeat refine S.seq ?_); refine S.region (L.go (T := tt) tt_ok rfl rfl ?sd311 ?_); (try (case sd311 => (repeat' (first | exact trivial | exact zA | with_reducible refine zI ?_ ?_ | exact zB | exact zC | exact zD | exact zE | rfl | exact zN rfl | omega | assumption | (simp; done) | (simp [splice]; done) | (simp; omega) | (unfold fits; omega) | (unfold fits; simp_all; omega) | (simp_all; omega) | (simp_all; done) | intro _)))); try (refine L.nil ?_))
    (((repeat refine S.seq ?_); refine S.ret ?_); refine E.retP (T := tt) tt_ok rfl rfl (by (repeat' (first | exact trivial | exact zA | with_reducible refine zI ?_ ?_ | exact zB | exact zC | exact zD | exact zE | rfl | exact zN rfl | omega | assumption | (simp; done) | (simp [splice]; done) | (simp; omega) | (unfold fits; omega) | (unfold fits; simp_all; omega) | (simp_all; omega) | (simp_all; done) | intro _))) (Imp.of_eq ?_))
    have hno : same a b = false := by
      rw [same_eq, decide_eq_false_iff_not]
      intro e
      simp only [Bool.or_eq_true, bne_iff_ne, ne_eq] at h1
      obtain rfl := e
      simp at h1
    rw [hno]
    rfl
    -- HOLE 1
  have hsz : a.frozen = b.frozen ∧ a.next = b.next ∧ a.ready.length = b.ready.length ∧ a.held.length = b.held.length ∧ a.marks.length = b.marks.length := by
    simp only [Bool.or_eq_false_iff, bne_eq_false_iff_eq, Bool.not_eq_eq_eq_not, Bool.not_false, beq_iff_eq] at h1
    exact ⟨h1.1.1.1.1, h1.1.1.1.2, by omega, by omega, by omega⟩
  -- HOLE 2
  ((repeat refine S.seq ?_); refine S.region (L.go (T := tt) tt_ok rfl rfl ?sd312 ?_); (try (case sd312 => (repeat' (first | exact trivial | exact zA | with_reducible refine zI ?_ ?_ | exact zB | exact zC | exact zD | exact zE | rfl | exact zN rfl | omega | assumption | (simp; done) | (simp [splice]; done) | (simp; omega) | (unfold fits; omega) | (unfold fits; simp_all; omega) | (simp_all; omega) | (simp_all; done) | intro _)))); try (refine L.nil ?_))
  repeat refine S.seq ?_
  refine S.block (S.loop (ι := { k : Nat // k ≤ a.ready.length ∧ ∀ j, j < k → a.ready.getD j default = b.ready.getD j default }) (fun k => [(2, .ptr 2 b2 0), (3, .ptr 3 b3 0), (5, .v (.int .i64 k.1))])
    (fun k => [(3, .blk b3 35 b.cells), (2, .blk b2 35 a.cells)]) (fun k => a.ready.length - k.1) ?_ ?_)
  · refine fun a w h => ⟨⟨0, Nat.zero_le _, ?_⟩, h.weak (by (repeat' (first | exact True.intro | exact Imp.refl _ | refine ⟨?_, ?_⟩))) (by (repeat (first | exact List.nil_sublist _ | refine List.Sublist.cons_cons _ ?_ | refine List.Sublist.cons _ ?_)))⟩
    exact fun j hj => absurd hj (by omega)
    -- HOLE 3
  rintro ⟨k, hk, ik⟩
  dsimp only
  ((repeat refine S.seq ?_); refine S.region (L.go (T := tt) tt_ok rfl rfl ?sd313 ?_); (try (case sd313 => (repeat' (first | exact trivial | exact zA | with_reducible refine zI ?_ ?_ | exact zB | exact zC | exact zD | exact zE | rfl | exact zN rfl | omega | assumption | (simp; done) | (simp [splice]; done) | (simp; omega) | (unfold fits; omega) | (unfold fits; simp_all; omega) | (simp_all; omega) | (simp_all; done) | intro _)))); try (refine L.nil ?_))
  ((repeat refine S.seq ?_); refine S.cond rfl (fun h2 => ?_) (fun h2 => ?_) <;> (try first | refine S.skip ?_ | refine S.exit ?_))
  · have h2 := of_dec h2
    repeat refine S.seq ?_
    refine S.block ?_
    repeat refine S.seq ?_
    refine S.draw [(1, [2]), (6, [3])] mixed ?_
    (refine H.ts (T := tt) [0, 1, 2, 3, 4, 5, 6, 7, 8, 9, 10] tt_ok (by kernel_rfl) (by kernel_rfl) (by kernel_rfl) (by intro ch a a' w h; obtain ⟨_, _, _, _, _, h, _⟩ := h; cases h) rfl ?sd356 ?_; (try (case sd356 => (repeat' (first | exact trivial | exact zA | with_reducible refine zI ?_ ?_ | exact zB | exact zC | exact zD | exact zE | rfl | exact zN rfl | omega | assumption | (simp; done) | (simp [splice]; done) | (simp; omega) | (unfold fits; omega) | (unfold fits; simp_all; omega) | (simp_all; omega) | (simp_all; done) | intro _)))))
    refine H.done (by kernel_rfl) ?_
    ((repeat refine S.seq ?_); refine S.cond rfl (fun h3 => ?_) (fun h3 => ?_) <;> (try first | refine S.skip ?_ | refine S.exit ?_))
    · skip
      ((repeat refine S.seq ?_); refine S.region (L.go (T := tt) tt_ok rfl rfl ?sd314 ?_); (try (case sd314 => (repeat' (first | exact trivial | exact zA | with_reducible refine zI ?_ ?_ | exact zB | exact zC | exact zD | exact zE | rfl | exact zN rfl | omega | assumption | (simp; done) | (simp [splice]; done) | (simp; omega) | (unfold fits; omega) | (unfold fits; simp_all; omega) | (simp_all; omega) | (simp_all; done) | intro _)))); try (refine L.nil ?_))
      (((repeat refine S.seq ?_); refine S.ret ?_); refine E.retP (T := tt) tt_ok rfl rfl (by (repeat' (first | exact trivial | exact zA | with_reducible refine zI ?_ ?_ | exact zB | exact zC | exact zD | exact zE | rfl | exact zN rfl | omega | assumption | (simp; done) | (simp [splice]; done) | (simp; omega) | (unfold fits; omega) | (unfold fits; simp_all; omega) | (simp_all; omega) | (simp_all; done) | intro _))) (Imp.of_eq ?_))
      have hno : same a b = false := by
        rw [same_eq, decide_eq_false_iff_not]
        intro e
        obtain rfl := e
        simp at h3
      rw [hno]
      rfl
      -- HOLE 4
    -- HOLE 5
    ((repeat refine S.seq ?_); refine S.region (L.go (T := tt) tt_ok rfl rfl ?sd315 ?_); (try (case sd315 => (repeat' (first | exact trivial | exact zA | with_reducible refine zI ?_ ?_ | exact zB | exact zC | exact zD | exact zE | rfl | exact zN rfl | omega | assumption | (simp; done) | (simp [splice]; done) | (simp; omega) | (unfold fits; omega) | (unfold fits; simp_all; omega) | (simp_all; omega) | (simp_all; done) | intro _)))); try (refine L.nil ?_))
    refine fun a w hR => ⟨⟨k + 1, by omega, ?_⟩, by simp only; omega, hR.weak (by (repeat' (first | exact True.intro | exact Imp.refl _ | refine ⟨?_, ?_⟩))) (by (repeat (first | exact List.nil_sublist _ | refine List.Sublist.cons_cons _ ?_ | refine List.Sublist.cons _ ?_)))⟩
    exact upto_succ ik (eqMsg_of h3)
    -- HOLE 6
  · have h2 := of_dec' h2
    have e1 : a.ready = b.ready := list_eq hsz.2.2.1 fun j hj => ik j (by omega)
    -- HOLE 7
    ((repeat refine S.seq ?_); refine S.region (L.go (T := tt) tt_ok rfl rfl ?sd316 ?_); (try (case sd316 => (repeat' (first | exact trivial | exact zA | with_reducible refine zI ?_ ?_ | exact zB | exact zC | exact zD | exact zE | rfl | exact zN rfl | omega | assumption | (simp; done) | (simp [splice]; done) | (simp; omega) | (unfold fits; omega) | (unfold fits; simp_all; omega) | (simp_all; omega) | (simp_all; done) | intro _)))); try (refine L.nil ?_))
    repeat refine S.seq ?_
    refine S.block (S.loop (ι := { k : Nat // k ≤ a.held.length ∧ ∀ j, j < k → a.held.getD j default = b.held.getD j default }) (fun k => [(2, .ptr 2 b2 0), (3, .ptr 3 b3 0), (6, .v (.int .i64 k.1))])
      (fun k => [(3, .blk b3 35 b.cells), (2, .blk b2 35 a.cells)]) (fun k => a.held.length - k.1) ?_ ?_)
    · refine fun a w h => ⟨⟨0, Nat.zero_le _, ?_⟩, h.weak (by (repeat' (first | exact True.intro | exact Imp.refl _ | refine ⟨?_, ?_⟩))) (by (repeat (first | exact List.nil_sublist _ | refine List.Sublist.cons_cons _ ?_ | refine List.Sublist.cons _ ?_)))⟩
      exact fun j hj => absurd hj (by omega)
      -- HOLE 8
    rintro ⟨k, hk, ik⟩
    dsimp only
    ((repeat refine S.seq ?_); refine S.region (L.go (T := tt) tt_ok rfl rfl ?sd317 ?_); (try (case sd317 => (repeat' (first | exact trivial | exact zA | with_reducible refine zI ?_ ?_ | exact zB | exact zC | exact zD | exact zE | rfl | exact zN rfl | omega | assumption | (simp; done) | (simp [splice]; done) | (simp; omega) | (unfold fits; omega) | (unfold fits; simp_all; omega) | (simp_all; omega) | (simp_all; done) | intro _)))); try (refine L.nil ?_))
    ((repeat refine S.seq ?_); refine S.cond rfl (fun h4 => ?_) (fun h4 => ?_) <;> (try first | refine S.skip ?_ | refine S.exit ?_))
    · have h4 := of_dec h4
      repeat refine S.seq ?_
      refine S.block ?_
      repeat refine S.seq ?_
      refine S.draw [(1, [2]), (6, [3])] mixed ?_
      (refine H.ts (T := tt) [0, 1, 2, 3, 4, 5, 6, 7, 8, 9, 10] tt_ok (by kernel_rfl) (by kernel_rfl) (by kernel_rfl) (by intro ch a a' w h; obtain ⟨_, _, _, _, _, h, _⟩ := h; cases h) rfl ?sd357 ?_; (try (case sd357 => (repeat' (first | exact trivial | exact zA | with_reducible refine zI ?_ ?_ | exact zB | exact zC | exact zD | exact zE | rfl | exact zN rfl | omega | assumption | (simp; done) | (simp [splice]; done) | (simp; omega) | (unfold fits; omega) | (unfold fits; simp_all; omega) | (simp_all; omega) | (simp_all; done) | intro _)))))
      refine H.done (by kernel_rfl) ?_
      ((repeat refine S.seq ?_); refine S.cond rfl (fun h5 => ?_) (fun h5 => ?_) <;> (try first | refine S.skip ?_ | refine S.exit ?_))
      · skip
        ((repeat refine S.seq ?_); refine S.region (L.go (T := tt) tt_ok rfl rfl ?sd318 ?_); (try (case sd318 => (repeat' (first | exact trivial | exact zA | with_reducible refine zI ?_ ?_ | exact zB | exact zC | exact zD | exact zE | rfl | exact zN rfl | omega | assumption | (simp; done) | (simp [splice]; done) | (simp; omega) | (unfold fits; omega) | (unfold fits; simp_all; omega) | (simp_all; omega) | (simp_all; done) | intro _)))); try (refine L.nil ?_))
        (((repeat refine S.seq ?_); refine S.ret ?_); refine E.retP (T := tt) tt_ok rfl rfl (by (repeat' (first | exact trivial | exact zA | with_reducible refine zI ?_ ?_ | exact zB | exact zC | exact zD | exact zE | rfl | exact zN rfl | omega | assumption | (simp; done) | (simp [splice]; done) | (simp; omega) | (unfold fits; omega) | (unfold fits; simp_all; omega) | (simp_all; omega) | (simp_all; done) | intro _))) (Imp.of_eq ?_))
        have hno : same a b = false := by
          rw [same_eq, decide_eq_false_iff_not]
          intro e
          obtain rfl := e
          simp at h5
        rw [hno]
        rfl
        -- HOLE 9
      -- HOLE 10
      ((repeat refine S.seq ?_); refine S.region (L.go (T := tt) tt_ok rfl rfl ?sd319 ?_); (try (case sd319 => (repeat' (first | exact trivial | exact zA | with_reducible refine zI ?_ ?_ | exact zB | exact zC | exact zD | exact zE | rfl | exact zN rfl | omega | assumption | (simp; done) | (simp [splice]; done) | (simp; omega) | (unfold fits; omega) | (unfold fits; simp_all; omega) | (simp_all; omega) | (simp_all; done) | intro _)))); try (refine L.nil ?_))
      refine fun a w hR => ⟨⟨k + 1, by omega, ?_⟩, by simp only; omega, hR.weak (by (repeat' (first | exact True.intro | exact Imp.refl _ | refine ⟨?_, ?_⟩))) (by (repeat (first | exact List.nil_sublist _ | refine List.Sublist.cons_cons _ ?_ | refine List.Sublist.cons _ ?_)))⟩
      exact upto_succ ik (eqHeld_of h5)
      -- HOLE 11
    · have h4 := of_dec' h4
      have e2 : a.held = b.held := list_eq hsz.2.2.2.1 fun j hj => ik j (by omega)
      -- HOLE 12
      ((repeat refine S.seq ?_); refine S.region (L.go (T := tt) tt_ok rfl rfl ?sd320 ?_); (try (case sd320 => (repeat' (first | exact trivial | exact zA | with_reducible refine zI ?_ ?_ | exact zB | exact zC | exact zD | exact zE | rfl | exact zN rfl | omega | assumption | (simp; done) | (simp [splice]; done) | (simp; omega) | (unfold fits; omega) | (unfold fits; simp_all; omega) | (simp_all; omega) | (simp_all; done) | intro _)))); try (refine L.nil ?_))
      repeat refine S.seq ?_
      refine S.block (S.loop (ι := { k : Nat // k ≤ a.marks.length ∧ ∀ j, j < k → a.marks.getD j default = b.marks.getD j default }) (fun k => [(2, .ptr 2 b2 0), (3, .ptr 3 b3 0), (7, .v (.int .i64 k.1))])
        (fun k => [(3, .blk b3 35 b.cells), (2, .blk b2 35 a.cells)]) (fun k => a.marks.length - k.1) ?_ ?_)
      · refine fun a w h => ⟨⟨0, Nat.zero_le _, ?_⟩, h.weak (by (repeat' (first | exact True.intro | exact Imp.refl _ | refine ⟨?_, ?_⟩))) (by (repeat (first | exact List.nil_sublist _ | refine List.Sublist.cons_cons _ ?_ | refine List.Sublist.cons _ ?_)))⟩
        exact fun j hj => absurd hj (by omega)
        -- HOLE 13
      rintro ⟨k, hk, ik⟩
      dsimp only
      ((repeat refine S.seq ?_); refine S.region (L.go (T := tt) tt_ok rfl rfl ?sd321 ?_); (try (case sd321 => (repeat' (first | exact trivial | exact zA | with_reducible refine zI ?_ ?_ | exact zB | exact zC | exact zD | exact zE | rfl | exact zN rfl | omega | assumption | (simp; done) | (simp [splice]; done) | (simp; omega) | (unfold fits; omega) | (unfold fits; simp_all; omega) | (simp_all; omega) | (simp_all; done) | intro _)))); try (refine L.nil ?_))
      ((repeat refine S.seq ?_); refine S.cond rfl (fun h6 => ?_) (fun h6 => ?_) <;> (try first | refine S.skip ?_ | refine S.exit ?_))
      · have h6 := of_dec h6
        repeat refine S.seq ?_
        refine S.block ?_
        repeat refine S.seq ?_
        refine S.draw [(1, [2]), (6, [3])] mixed ?_
        (refine H.ts (T := tt) [0, 1, 2, 3, 4, 5, 6, 7, 8, 9, 10] tt_ok (by kernel_rfl) (by kernel_rfl) (by kernel_rfl) (by intro ch a a' w h; obtain ⟨_, _, _, _, _, h, _⟩ := h; cases h) rfl ?sd358 ?_; (try (case sd358 => (repeat' (first | exact trivial | exact zA | with_reducible refine zI ?_ ?_ | exact zB | exact zC | exact zD | exact zE | rfl | exact zN rfl | omega | assumption | (simp; done) | (simp [splice]; done) | (simp; omega) | (unfold fits; omega) | (unfold fits; simp_all; omega) | (simp_all; omega) | (simp_all; done) | intro _)))))
        refine H.done (by kernel_rfl) ?_
        ((repeat refine S.seq ?_); refine S.cond rfl (fun h7 => ?_) (fun h7 => ?_) <;> (try first | refine S.skip ?_ | refine S.exit ?_))
        · skip
          ((repeat refine S.seq ?_); refine S.region (L.go (T := tt) tt_ok rfl rfl ?sd322 ?_); (try (case sd322 => (repeat' (first | exact trivial | exact zA | with_reducible refine zI ?_ ?_ | exact zB | exact zC | exact zD | exact zE | rfl | exact zN rfl | omega | assumption | (simp; done) | (simp [splice]; done) | (simp; omega) | (unfold fits; omega) | (unfold fits; simp_all; omega) | (simp_all; omega) | (simp_all; done) | intro _)))); try (refine L.nil ?_))
          (((repeat refine S.seq ?_); refine S.ret ?_); refine E.retP (T := tt) tt_ok rfl rfl (by (repeat' (first | exact trivial | exact zA | with_reducible refine zI ?_ ?_ | exact zB | exact zC | exact zD | exact zE | rfl | exact zN rfl | omega | assumption | (simp; done) | (simp [splice]; done) | (simp; omega) | (unfold fits; omega) | (unfold fits; simp_all; omega) | (simp_all; omega) | (simp_all; done) | intro _))) (Imp.of_eq ?_))
          have hno : same a b = false := by
            rw [same_eq, decide_eq_false_iff_not]
            intro e
            obtain rfl := e
            simp at h7
          rw [hno]
          rfl
          -- HOLE 14
        -- HOLE 15
        ((repeat refine S.seq ?_); refine S.region (L.go (T := tt) tt_ok rfl rfl ?sd323 ?_); (try (case sd323 => (repeat' (first | exact trivial | exact zA | with_reducible refine zI ?_ ?_ | exact zB | exact zC | exact zD | exact zE | rfl | exact zN rfl | omega | assumption | (simp; done) | (simp [splice]; done) | (simp; omega) | (unfold fits; omega) | (unfold fits; simp_all; omega) | (simp_all; omega) | (simp_all; done) | intro _)))); try (refine L.nil ?_))
        refine fun a w hR => ⟨⟨k + 1, by omega, ?_⟩, by simp only; omega, hR.weak (by (repeat' (first | exact True.intro | exact Imp.refl _ | refine ⟨?_, ?_⟩))) (by (repeat (first | exact List.nil_sublist _ | refine List.Sublist.cons_cons _ ?_ | refine List.Sublist.cons _ ?_)))⟩
        exact upto_succ ik (eqMark_of h7)
        -- HOLE 16
      · have h6 := of_dec' h6
        -- HOLE 17
        ((repeat refine S.seq ?_); refine S.region (L.go (T := tt) tt_ok rfl rfl ?sd324 ?_); (try (case sd324 => (repeat' (first | exact trivial | exact zA | with_reducible refine zI ?_ ?_ | exact zB | exact zC | exact zD | exact zE | rfl | exact zN rfl | omega | assumption | (simp; done) | (simp [splice]; done) | (simp; omega) | (unfold fits; omega) | (unfold fits; simp_all; omega) | (simp_all; omega) | (simp_all; done) | intro _)))); try (refine L.nil ?_))
        (((repeat refine S.seq ?_); refine S.ret ?_); refine E.retP (T := tt) tt_ok rfl rfl (by (repeat' (first | exact trivial | exact zA | with_reducible refine zI ?_ ?_ | exact zB | exact zC | exact zD | exact zE | rfl | exact zN rfl | omega | assumption | (simp; done) | (simp [splice]; done) | (simp; omega) | (unfold fits; omega) | (unfold fits; simp_all; omega) | (simp_all; omega) | (simp_all; done) | intro _))) (Imp.of_eq ?_))
        have e3 : a.marks = b.marks := list_eq hsz.2.2.2.2 fun j hj => ik j (by omega)
        have hyes : same a b = true := by simp [same, hsz.1, hsz.2.1, e1, e2, e3]
        rw [hyes]
        rfl
        -- HOLE 18

theorem rset_p (s : Shard) (on : Bool) (hs : s.small) : PFn Try.prog 80 [s.av, .v (.bool on)] (.tup [(setFrozen s on).1.av, .v (.int .i64 (setFrozen s on).2)]) := by
  refine FnC.intro Try.func80 rfl Try.ntmps80 rfl ?_; intro off w0
  repeat refine S.seq ?_
  refine S.region ?_
  refine L.box 2 rfl rfl rfl rfl rfl trivial rfl fun b2 => ?_
  refine L.alloc (T := tt) 4 tt_ok rfl rfl rfl rfl rfl fun b4 => ?_
  (refine L.go (T := tt) tt_ok rfl rfl ?sd335 ?_; (try (case sd335 => (repeat' (first | exact trivial | exact zA | with_reducible refine zI ?_ ?_ | exact zB | exact zC | exact zD | exact zE | rfl | exact zN rfl | omega | assumption | (simp; done) | (simp [splice]; done) | (simp; omega) | (unfold fits; omega) | (unfold fits; simp_all; omega) | (simp_all; omega) | (simp_all; done) | intro _)))); try (refine L.nil ?_))
  repeat refine S.seq ?_
  refine S.block ?_
  ((repeat refine S.seq ?_); refine S.region (L.go (T := tt) tt_ok rfl rfl ?sd325 ?_); (try (case sd325 => (repeat' (first | exact trivial | exact zA | with_reducible refine zI ?_ ?_ | exact zB | exact zC | exact zD | exact zE | rfl | exact zN rfl | omega | assumption | (simp; done) | (simp [splice]; done) | (simp; omega) | (unfold fits; omega) | (unfold fits; simp_all; omega) | (simp_all; omega) | (simp_all; done) | intro _)))); try (refine L.nil ?_))
  refine L.callP rfl rfl rfl rfl rfl rfl rfl ⟨trivial, by (repeat' (first | exact trivial | exact zA | with_reducible refine zI ?_ ?_ | exact zB | exact zC | exact zD | exact zE | rfl | exact zN rfl | omega | assumption | (simp; done) | (simp [splice]; done) | (simp; omega) | (unfold fits; omega) | (unfold fits; simp_all; omega) | (simp_all; omega) | (simp_all; done) | intro _))⟩ rfl (Imps.refl _) (rmay_p _ (by assumption)) ?_
  (refine L.go (T := tt) tt_ok rfl rfl ?sd336 ?_; (try (case sd336 => (repeat' (first | exact trivial | exact zA | with_reducible refine zI ?_ ?_ | exact zB | exact zC | exact zD | exact zE | rfl | exact zN rfl | omega | assumption | (simp; done) | (simp [splice]; done) | (simp; omega) | (unfold fits; omega) | (unfold fits; simp_all; omega) | (simp_all; omega) | (simp_all; done) | intro _)))); try (refine L.nil ?_))
  ((repeat refine S.seq ?_); refine S.cond rfl (fun h1 => ?_) (fun h1 => ?_) <;> (try first | refine S.skip ?_ | refine S.exit ?_))
  · skip
    ((repeat refine S.seq ?_); refine S.region (L.go (T := tt) tt_ok rfl rfl ?sd326 ?_); (try (case sd326 => (repeat' (first | exact trivial | exact zA | with_reducible refine zI ?_ ?_ | exact zB | exact zC | exact zD | exact zE | rfl | exact zN rfl | omega | assumption | (simp; done) | (simp [splice]; done) | (simp; omega) | (unfold fits; omega) | (unfold fits; simp_all; omega) | (simp_all; omega) | (simp_all; done) | intro _)))); try (refine L.nil ?_))
    (refine L.store (T := tt) tt_ok rfl rfl rfl rfl rfl rfl ?sd347 ?_; (try (case sd347 => (repeat' (first | exact trivial | exact zA | with_reducible refine zI ?_ ?_ | exact zB | exact zC | exact zD | exact zE | rfl | exact zN rfl | omega | assumption | (simp; done) | (simp [splice]; done) | (simp; omega) | (unfold fits; omega) | (unfold fits; simp_all; omega) | (simp_all; omega) | (simp_all; done) | intro _)))))
    (refine L.go (T := tt) tt_ok rfl rfl ?sd337 ?_; (try (case sd337 => (repeat' (first | exact trivial | exact zA | with_reducible refine zI ?_ ?_ | exact zB | exact zC | exact zD | exact zE | rfl | exact zN rfl | omega | assumption | (simp; done) | (simp [splice]; done) | (simp; omega) | (unfold fits; omega) | (unfold fits; simp_all; omega) | (simp_all; omega) | (simp_all; done) | intro _)))); try (refine L.nil ?_))
    (((repeat refine S.seq ?_); refine S.ret ?_); refine E.retP (T := tt) tt_ok rfl rfl (by (repeat' (first | exact trivial | exact zA | with_reducible refine zI ?_ ?_ | exact zB | exact zC | exact zD | exact zE | rfl | exact zN rfl | omega | assumption | (simp; done) | (simp [splice]; done) | (simp; omega) | (unfold fits; omega) | (unfold fits; simp_all; omega) | (simp_all; omega) | (simp_all; done) | intro _))) (Imp.of_eq ?_))
    rw [setFrozen, if_pos h1]
    rfl
    -- HOLE 1
  -- HOLE 2
  ((repeat refine S.seq ?_); refine S.region (L.go (T := tt) tt_ok rfl rfl ?sd327 ?_); (try (case sd327 => (repeat' (first | exact trivial | exact zA | with_reducible refine zI ?_ ?_ | exact zB | exact zC | exact zD | exact zE | rfl | exact zN rfl | omega | assumption | (simp; done) | (simp [splice]; done) | (simp; omega) | (unfold fits; omega) | (unfold fits; simp_all; omega) | (simp_all; omega) | (simp_all; done) | intro _)))); try (refine L.nil ?_))
  ((repeat refine S.seq ?_); refine S.cond rfl (fun h2 => ?_) (fun h2 => ?_) <;> (try first | refine S.skip ?_ | refine S.exit ?_))
  · skip
    ((repeat refine S.seq ?_); refine S.region (L.go (T := tt) tt_ok rfl rfl ?sd328 ?_); (try (case sd328 => (repeat' (first | exact trivial | exact zA | with_reducible refine zI ?_ ?_ | exact zB | exact zC | exact zD | exact zE | rfl | exact zN rfl | omega | assumption | (simp; done) | (simp [splice]; done) | (simp; omega) | (unfold fits; omega) | (unfold fits; simp_all; omega) | (simp_all; omega) | (simp_all; done) | intro _)))); try (refine L.nil ?_))
    (refine L.store (T := tt) tt_ok rfl rfl rfl rfl rfl rfl ?sd348 ?_; (try (case sd348 => (repeat' (first | exact trivial | exact zA | with_reducible refine zI ?_ ?_ | exact zB | exact zC | exact zD | exact zE | rfl | exact zN rfl | omega | assumption | (simp; done) | (simp [splice]; done) | (simp; omega) | (unfold fits; omega) | (unfold fits; simp_all; omega) | (simp_all; omega) | (simp_all; done) | intro _)))))
    (refine L.go (T := tt) tt_ok rfl rfl ?sd338 ?_; (try (case sd338 => (repeat' (first | exact trivial | exact zA | with_reducible refine zI ?_ ?_ | exact zB | exact zC | exact zD | exact zE | rfl | exact zN rfl | omega | assumption | (simp; done) | (simp [splice]; done) | (simp; omega) | (unfold fits; omega) | (unfold fits; simp_all; omega) | (simp_all; omega) | (simp_all; done) | intro _)))); try (refine L.nil ?_))
    (((repeat refine S.seq ?_); refine S.ret ?_); refine E.retP (T := tt) tt_ok rfl rfl (by (repeat' (first | exact trivial | exact zA | with_reducible refine zI ?_ ?_ | exact zB | exact zC | exact zD | exact zE | rfl | exact zN rfl | omega | assumption | (simp; done) | (simp [splice]; done) | (simp; omega) | (unfold fits; omega) | (unfold fits; simp_all; omega) | (simp_all; omega) | (simp_all; done) | intro _))) (Imp.of_eq ?_))
    rw [setFrozen, if_neg (by simp_all), if_pos h2]
    rfl
    -- HOLE 3
  -- HOLE 4
  ((repeat refine S.seq ?_); refine S.region (L.go (T := tt) tt_ok rfl rfl ?sd329 ?_); (try (case sd329 => (repeat' (first | exact trivial | exact zA | with_reducible refine zI ?_ ?_ | exact zB | exact zC | exact zD | exact zE | rfl | exact zN rfl | omega | assumption | (simp; done) | (simp [splice]; done) | (simp; omega) | (unfold fits; omega) | (unfold fits; simp_all; omega) | (simp_all; omega) | (simp_all; done) | intro _)))); try (refine L.nil ?_))
  (refine L.store (T := tt) tt_ok rfl rfl rfl rfl rfl rfl ?sd349 ?_; (try (case sd349 => (repeat' (first | exact trivial | exact zA | with_reducible refine zI ?_ ?_ | exact zB | exact zC | exact zD | exact zE | rfl | exact zN rfl | omega | assumption | (simp; done) | (simp [splice]; done) | (simp; omega) | (unfold fits; omega) | (unfold fits; simp_all; omega) | (simp_all; omega) | (simp_all; done) | intro _)))))
  refine L.nil ?_
  ((repeat refine S.seq ?_); refine S.region (L.go (T := tt) tt_ok rfl rfl ?sd330 ?_); (try (case sd330 => (repeat' (first | exact trivial | exact zA | with_reducible refine zI ?_ ?_ | exact zB | exact zC | exact zD | exact zE | rfl | exact zN rfl | omega | assumption | (simp; done) | (simp [splice]; done) | (simp; omega) | (unfold fits; omega) | (unfold fits; simp_all; omega) | (simp_all; omega) | (simp_all; done) | intro _)))); try (refine L.nil ?_))
  (refine L.store (T := tt) tt_ok rfl rfl rfl rfl rfl rfl ?sd350 ?_; (try (case sd350 => (repeat' (first | exact trivial | exact zA | with_reducible refine zI ?_ ?_ | exact zB | exact zC | exact zD | exact zE | rfl | exact zN rfl | omega | assumption | (simp; done) | (simp [splice]; done) | (simp; omega) | (unfold fits; omega) | (unfold fits; simp_all; omega) | (simp_all; omega) | (simp_all; done) | intro _)))))
  (refine L.go (T := tt) tt_ok rfl rfl ?sd339 ?_; (try (case sd339 => (repeat' (first | exact trivial | exact zA | with_reducible refine zI ?_ ?_ | exact zB | exact zC | exact zD | exact zE | rfl | exact zN rfl | omega | assumption | (simp; done) | (simp [splice]; done) | (simp; omega) | (unfold fits; omega) | (unfold fits; simp_all; omega) | (simp_all; omega) | (simp_all; done) | intro _)))); try (refine L.nil ?_))
  (((repeat refine S.seq ?_); refine S.ret ?_); refine E.retP (T := tt) tt_ok rfl rfl (by (repeat' (first | exact trivial | exact zA | with_reducible refine zI ?_ ?_ | exact zB | exact zC | exact zD | exact zE | rfl | exact zN rfl | omega | assumption | (simp; done) | (simp [splice]; done) | (simp; omega) | (unfold fits; omega) | (unfold fits; simp_all; omega) | (simp_all; omega) | (simp_all; done) | intro _))) (Imp.of_eq ?_))
  rw [setFrozen, if_neg (by simp_all), if_neg (by simp_all)]
  rfl
  -- HOLE 5

theorem rfreeze_p (s : Shard) (hs : s.small) : PFn Try.prog 48 [s.av] (.tup [(setFrozen s true).1.av, .v (.int .i64 (setFrozen s true).2)]) := by
  refine FnC.intro Try.func48 rfl Try.ntmps48 rfl ?_; intro off w0
  repeat refine S.seq ?_
  refine S.region ?_
  refine L.box 1 rfl rfl rfl rfl rfl trivial rfl fun b1 => ?_
  refine L.alloc (T := tt) 2 tt_ok rfl rfl rfl rfl rfl fun b2 => ?_
  (refine L.go (T := tt) tt_ok rfl rfl ?sd340 ?_; (try (case sd340 => (repeat' (first | exact trivial | exact zA | with_reducible refine zI ?_ ?_ | exact zB | exact zC | exact zD | exact zE | rfl | exact zN rfl | omega | assumption | (simp; done) | (simp [splice]; done) | (simp; omega) | (unfold fits; omega) | (unfold fits; simp_all; omega) | (simp_all; omega) | (simp_all; done) | intro _)))); try (refine L.nil ?_))
  ((repeat refine S.seq ?_); refine S.region (L.go (T := tt) tt_ok rfl rfl ?sd331 ?_); (try (case sd331 => (repeat' (first | exact trivial | exact zA | with_reducible refine zI ?_ ?_ | exact zB | exact zC | exact zD | exact zE | rfl | exact zN rfl | omega | assumption | (simp; done) | (simp [splice]; done) | (simp; omega) | (unfold fits; omega) | (unfold fits; simp_all; omega) | (simp_all; omega) | (simp_all; done) | intro _)))); try (refine L.nil ?_))
  refine L.callP rfl rfl rfl rfl rfl rfl rfl ⟨trivial, by (repeat' (first | exact trivial | exact zA | with_reducible refine zI ?_ ?_ | exact zB | exact zC | exact zD | exact zE | rfl | exact zN rfl | omega | assumption | (simp; done) | (simp [splice]; done) | (simp; omega) | (unfold fits; omega) | (unfold fits; simp_all; omega) | (simp_all; omega) | (simp_all; done) | intro _))⟩ rfl (Imps.refl _) (rset_p _ _ (by assumption)) ?_
  (refine L.go (T := tt) tt_ok rfl rfl ?sd341 ?_; (try (case sd341 => (repeat' (first | exact trivial | exact zA | with_reducible refine zI ?_ ?_ | exact zB | exact zC | exact zD | exact zE | rfl | exact zN rfl | omega | assumption | (simp; done) | (simp [splice]; done) | (simp; omega) | (unfold fits; omega) | (unfold fits; simp_all; omega) | (simp_all; omega) | (simp_all; done) | intro _)))); try (refine L.nil ?_))
  (refine L.store (T := tt) tt_ok rfl rfl rfl rfl rfl rfl ?sd351 ?_; (try (case sd351 => (repeat' (first | exact trivial | exact zA | with_reducible refine zI ?_ ?_ | exact zB | exact zC | exact zD | exact zE | rfl | exact zN rfl | omega | assumption | (simp; done) | (simp [splice]; done) | (simp; omega) | (unfold fits; omega) | (unfold fits; simp_all; omega) | (simp_all; omega) | (simp_all; done) | intro _)))))
  (refine L.go (T := tt) tt_ok rfl rfl ?sd342 ?_; (try (case sd342 => (repeat' (first | exact trivial | exact zA | with_reducible refine zI ?_ ?_ | exact zB | exact zC | exact zD | exact zE | rfl | exact zN rfl | omega | assumption | (simp; done) | (simp [splice]; done) | (simp; omega) | (unfold fits; omega) | (unfold fits; simp_all; omega) | (simp_all; omega) | (simp_all; done) | intro _)))); try (refine L.nil ?_))
  (((repeat refine S.seq ?_); refine S.ret ?_); refine E.retP (T := tt) tt_ok rfl rfl (by (repeat' (first | exact trivial | exact zA | with_reducible refine zI ?_ ?_ | exact zB | exact zC | exact zD | exact zE | rfl | exact zN rfl | omega | assumption | (simp; done) | (simp [splice]; done) | (simp; omega) | (unfold fits; omega) | (unfold fits; simp_all; omega) | (simp_all; omega) | (simp_all; done) | intro _))) (Imp.of_eq ?_))
  rfl

theorem rthaw_p (s : Shard) (hs : s.small) : PFn Try.prog 49 [s.av] (.tup [(setFrozen s false).1.av, .v (.int .i64 (setFrozen s false).2)]) := by
  refine FnC.intro Try.func49 rfl Try.ntmps49 rfl ?_; intro off w0
  repeat refine S.seq ?_
  refine S.region ?_
  refine L.box 1 rfl rfl rfl rfl rfl trivial rfl fun b1 => ?_
  refine L.alloc (T := tt) 2 tt_ok rfl rfl rfl rfl rfl fun b2 => ?_
  (refine L.go (T := tt) tt_ok rfl rfl ?sd343 ?_; (try (case sd343 => (repeat' (first | exact trivial | exact zA | with_reducible refine zI ?_ ?_ | exact zB | exact zC | exact zD | exact zE | rfl | exact zN rfl | omega | assumption | (simp; done) | (simp [splice]; done) | (simp; omega) | (unfold fits; omega) | (unfold fits; simp_all; omega) | (simp_all; omega) | (simp_all; done) | intro _)))); try (refine L.nil ?_))
  ((repeat refine S.seq ?_); refine S.region (L.go (T := tt) tt_ok rfl rfl ?sd332 ?_); (try (case sd332 => (repeat' (first | exact trivial | exact zA | with_reducible refine zI ?_ ?_ | exact zB | exact zC | exact zD | exact zE | rfl | exact zN rfl | omega | assumption | (simp; done) | (simp [splice]; done) | (simp; omega) | (unfold fits; omega) | (unfold fits; simp_all; omega) | (simp_all; omega) | (simp_all; done) | intro _)))); try (refine L.nil ?_))
  refine L.callP rfl rfl rfl rfl rfl rfl rfl ⟨trivial, by (repeat' (first | exact trivial | exact zA | with_reducible refine zI ?_ ?_ | exact zB | exact zC | exact zD | exact zE | rfl | exact zN rfl | omega | assumption | (simp; done) | (simp [splice]; done) | (simp; omega) | (unfold fits; omega) | (unfold fits; simp_all; omega) | (simp_all; omega) | (simp_all; done) | intro _))⟩ rfl (Imps.refl _) (rset_p _ _ (by assumption)) ?_
  (refine L.go (T := tt) tt_ok rfl rfl ?sd344 ?_; (try (case sd344 => (repeat' (first | exact trivial | exact zA | with_reducible refine zI ?_ ?_ | exact zB | exact zC | exact zD | exact zE | rfl | exact zN rfl | omega | assumption | (simp; done) | (simp [splice]; done) | (simp; omega) | (unfold fits; omega) | (unfold fits; simp_all; omega) | (simp_all; omega) | (simp_all; done) | intro _)))); try (refine L.nil ?_))
  (refine L.store (T := tt) tt_ok rfl rfl rfl rfl rfl rfl ?sd352 ?_; (try (case sd352 => (repeat' (first | exact trivial | exact zA | with_reducible refine zI ?_ ?_ | exact zB | exact zC | exact zD | exact zE | rfl | exact zN rfl | omega | assumption | (simp; done) | (simp [splice]; done) | (simp; omega) | (unfold fits; omega) | (unfold fits; simp_all; omega) | (simp_all; omega) | (simp_all; done) | intro _)))))
  (refine L.go (T := tt) tt_ok rfl rfl ?sd345 ?_; (try (case sd345 => (repeat' (first | exact trivial | exact zA | with_reducible refine zI ?_ ?_ | exact zB | exact zC | exact zD | exact zE | rfl | exact zN rfl | omega | assumption | (simp; done) | (simp [splice]; done) | (simp; omega) | (unfold fits; omega) | (unfold fits; simp_all; omega) | (simp_all; omega) | (simp_all; done) | intro _)))); try (refine L.nil ?_))
  (((repeat refine S.seq ?_); refine S.ret ?_); refine E.retP (T := tt) tt_ok rfl rfl (by (repeat' (first | exact trivial | exact zA | with_reducible refine zI ?_ ?_ | exact zB | exact zC | exact zD | exact zE | rfl | exact zN rfl | omega | assumption | (simp; done) | (simp [splice]; done) | (simp; omega) | (unfold fits; omega) | (unfold fits; simp_all; omega) | (simp_all; omega) | (simp_all; done) | intro _))) (Imp.of_eq ?_))
  rfl


end Go.Proofs.Ytgnklbdbglnmaaa
