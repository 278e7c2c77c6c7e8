/- Texts of this proof, laid together: JdJ, JdK. -/
import Derived.Test.YtfdneepgpekmiaaDoorMjF
import Derived.Test.YtfdneepgpekmiaaDoorMjC
/- The judge: acts, one by one. -/
namespace Go.Proofs.YtfdneepgpekmiaaDoor
set_option linter.unusedVariables false
set_option linter.unusedSimpArgs false
set_option maxHeartbeats 8000000
open Go.RowKit
set_option maxRecDepth 4000

def actsA (l : List ActD) : AV := .lst 14 l.length (gOf ActD.cells l)
def hearJ (s : Crt) : List ActD → Int → Int × Crt
  | [], _ => (0, s)
  | a :: t, n => if (rightJ s a).1 then hearJ (rightJ s a).2 t (n + 1) else (n + 1, (rightJ s a).2)
def checkJ (l : List ActD) : Int := (hearJ crt0 l 0).1
def isOpenJ (s : Crt) (x : MsD) : Bool := (stOf s x == 1 && !x.ack) && !x.fin
def openJ (l : List ActD) : List Msg := if (hearJ crt0 l 0).1 = 0 then (((hearJ crt0 l 0).2.ms.filter (isOpenJ (hearJ crt0 l 0).2)).map (·.m)) else []

theorem crt0_inv : JInv crt0 0 := by
  refine ⟨⟨?_, ?_, ?_, ?_, ?_, ?_, ?_, ?_, ?_⟩, ?_, ?_⟩ <;> simp [crt0]
theorem drop_at {α : Type} [Inhabited α] {l : List α} {k : Nat} (h : k < l.length) : l.drop k = l.getD k default :: l.drop (k + 1) := by
  rw [getD_get h, ← List.drop_eq_getElem_cons h]

theorem jhear_p (ad : Adr) (l : List ActD) (ok : AdOk ad crt0) (hl : l.length ≤ 900) (ao : ∀ a ∈ l, ActOk a) : FnC Tryd.prog 50 [.ptr 60 ad.c 0, actsA l] (courtR ad crt0)
    (fun r F' => ∃ ad', r = .v (.int .i64 (hearJ crt0 l 0).1) ∧ F' = courtR ad' (hearJ crt0 l 0).2 ∧ AdOk ad' (hearJ crt0 l 0).2 ∧ ad'.c = ad.c ∧ JInv (hearJ crt0 l 0).2 900) := by
  refine FnC.intro Tryd.func50 rfl Tryd.ntmps50 rfl ?_; intro off w0
  ((repeat refine S.seq ?_); refine S.region (L.go (T := tt) tt_ok rfl rfl ?sd156 ?_); (try (case sd156 => (repeat' (first | exact trivial | with_reducible refine zI ?_ ?_)))); try (refine L.nil ?_))
  repeat refine S.seq ?_
  refine S.scopeE 0 (ι := { p : Nat × Crt × Adr // p.1 ≤ l.length ∧ AdOk p.2.2 p.2.1 ∧ p.2.2.c = ad.c ∧ JInv p.2.1 p.1 ∧ hearJ crt0 l 0 = hearJ p.2.1 (l.drop p.1) p.1 }) (fun p => [(0, .ptr 60 p.1.2.2.c 0), (1, actsA l), (5, .v (.int .i64 p.1.1))])
    (fun p => courtR p.1.2.2 p.1.2.1) (fun p => l.length - p.1.1) rfl ?_ ?_
  · rintro ⟨⟨k, s, ad2⟩, hk, ok2, hc2, ji, hh⟩ J hJ
    dsimp only at hk ok2 hc2 ji hh hJ ⊢
    ((repeat refine S.seq ?_); refine S.region (L.go (T := tt) tt_ok rfl rfl ?sd157 ?_); (try (case sd157 => (repeat' (first | exact trivial | with_reducible refine zI ?_ ?_)))); try (refine L.nil ?_))
    ((repeat refine S.seq ?_); refine S.cond rfl (fun hc => ?_) (fun hc => ?_) <;> (try first | refine S.skip ?_ | refine S.exit ?_))
    · have hkl : k < l.length := by have := of_dec hc; omega
      obtain ⟨a, ha⟩ : ∃ a, a = l.getD k default := ⟨_, rfl⟩
      have aok : ActOk a := ao a (by rw [ha, getD_get hkl]; exact List.getElem_mem _)
      rw [drop_at hkl, ← ha] at hh
      have hstep : hearJ crt0 l 0 = if (rightJ s a).1 then hearJ (rightJ s a).2 (l.drop (k + 1)) (k + 1) else ((k : Int) + 1, (rightJ s a).2) := hh
      repeat refine S.seq ?_
      refine S.region ?_
      (refine L.go (T := tt) tt_ok rfl rfl ?sd180 ?_; (try (case sd180 => (repeat' (first | exact trivial | with_reducible refine zI ?_ ?_ | rfl | omega)))); try (refine L.nil ?_))
      refine L.call (G := courtR ad2 s) (H := []) rfl rfl rfl rfl rfl rfl rfl ⟨trivial, by (repeat' (first | exact trivial | with_reducible refine zI ?_ ?_))⟩ rfl (by rw [ha]; exact Imps.refl [.ptr 60 ad2.c 0, (l.getD k default).av]) (by rw [List.append_nil]) (jright_p ad2 s a k ok2 ji (by omega) aok) ?_
      rintro r F' ⟨ad3, rfl, rfl, ok3, hc3⟩
      refine rowsEq (courtR ad3 (rightJ s a).2) (List.append_nil _) ?_
      have ji3 := right_inv ji (by omega) a aok.key
      (refine L.go (T := tt) tt_ok rfl rfl ?sd181 ?_; (try (case sd181 => (repeat' (first | exact trivial | with_reducible refine zI ?_ ?_)))); try (refine L.nil ?_))
      ((repeat refine S.seq ?_); refine S.cond rfl (fun hr => ?_) (fun hr => ?_) <;> (try first | refine S.skip ?_ | refine S.exit ?_))
      · have hrf : (rightJ s a).1 = false := by simpa using hr
        rw [if_neg (by rw [hrf]; decide)] at hstep
        ((repeat refine S.seq ?_); refine S.region (L.go (T := tt) tt_ok rfl rfl ?sd158 ?_); (try (case sd158 => (repeat' (first | exact trivial | with_reducible refine zI ?_ ?_ | (unfold fits; omega))))); try (refine L.nil ?_))
        ((repeat refine S.seq ?_); refine S.ret ?_)
        rw [hstep]
        exact E.ret (T := tt) tt_ok rfl rfl (by (repeat' (first | exact trivial | with_reducible refine zI ?_ ?_))) (F' := courtR ad3 (rightJ s a).2) (Imp.refl _) (List.Sublist.refl _) ⟨ad3, rfl, rfl, ok3, hc3.trans hc2, ⟨ji3.ok, ji3.keys, by have := ji3.bl; show (rightJ s a).2.bs.length ≤ 900; omega⟩⟩
      have hrt : (rightJ s a).1 = true := by simpa using hr
      rw [if_pos hrt] at hstep
      ((repeat refine S.seq ?_); refine S.region (L.go (T := tt) tt_ok rfl rfl ?sd159 ?_); (try (case sd159 => (repeat' (first | exact trivial | with_reducible refine zI ?_ ?_ | (unfold fits; omega))))); try (refine L.nil ?_))
      repeat refine S.seq ?_
      refine S.goto ?_
      exact fun a' w hR => ⟨rfl, hJ a' w ⟨(k + 1, (rightJ s a).2, ad3), by show k + 1 ≤ _; omega, ok3, hc3.trans hc2, ji3, hstep⟩ (by show l.length - (k + 1) < l.length - k; omega) (hR.weakP (by
        refine ⟨?_, ?_, ?_, trivial⟩
        · exact Imp.of_eq (by rw [hc3])
        · exact Imp.refl _
        · exact Imp.refl _) (Sub.self _))⟩
    have hkl : k = l.length := by have := of_dec' hc; omega
    subst hkl
    rw [List.drop_length] at hh
    have hstep : hearJ crt0 l 0 = (0, s) := hh
    ((repeat refine S.seq ?_); refine S.region (L.go (T := tt) tt_ok rfl rfl ?sd160 ?_); (try (case sd160 => (repeat' (first | exact trivial | with_reducible refine zI ?_ ?_)))); try (refine L.nil ?_))
    ((repeat refine S.seq ?_); refine S.ret ?_)
    rw [hstep]
    exact E.ret (T := tt) tt_ok rfl rfl (by (repeat' (first | exact trivial | with_reducible refine zI ?_ ?_))) (F' := courtR ad2 s) (Imp.refl _) (List.Sublist.refl _) ⟨ad2, rfl, rfl, ok2, hc2, ⟨ji.ok, ji.keys, by have := ji.bl; show s.bs.length ≤ 900; omega⟩⟩
  · intro hJ
    ((repeat refine S.seq ?_); refine S.region (L.go (T := tt) tt_ok rfl rfl ?sd161 ?_); (try (case sd161 => (repeat' (first | exact trivial | with_reducible refine zI ?_ ?_)))); try (refine L.nil ?_))
    repeat refine S.seq ?_
    refine S.label ?_
    exact fun a' w hR => hJ ⟨(0, crt0, ad), Nat.zero_le _, ok, rfl, crt0_inv, rfl⟩ a' w (hR.weakP (by (repeat' (first | exact True.intro | exact Imp.refl _ | refine ⟨?_, ?_⟩))) (Sub.self _))

theorem jcheck_p (l : List ActD) (hl : l.length ≤ 900) (ao : ∀ a ∈ l, ActOk a) : PFn Tryd.prog 27 [actsA l] (.v (.int .i64 (checkJ l))) := by
  refine FnC.intro Tryd.func27 rfl Tryd.ntmps27 rfl ?_; intro off w0
  ((repeat refine S.seq ?_); refine S.region (L.go (T := tt) tt_ok rfl rfl ?sd162 ?_); (try (case sd162 => (repeat' (first | exact trivial | with_reducible refine zI ?_ ?_)))); try (refine L.nil ?_))
  repeat refine S.seq ?_
  refine S.region ?_
  refine L.call (G := []) (H := []) rfl rfl rfl rfl rfl rfl rfl ⟨trivial, by (repeat' (first | exact trivial))⟩ rfl (by exact Imps.refl []) (List.Perm.refl _) newCourt_p ?_
  rintro r F' ⟨ad, rfl, rfl, ok⟩
  refine rowsEq (courtR ad crt0) (List.append_nil _) ?_
  (refine L.go (T := tt) tt_ok rfl rfl ?sd182 ?_; (try (case sd182 => (repeat' (first | exact trivial | with_reducible refine zI ?_ ?_)))); try (refine L.nil ?_))
  refine L.call (G := courtR ad crt0) (H := []) rfl rfl rfl rfl rfl rfl rfl ⟨trivial, by (repeat' (first | exact trivial | with_reducible refine zI ?_ ?_))⟩ rfl (by exact Imps.refl [.ptr 60 ad.c 0, actsA l]) (by rw [List.append_nil]) (jhear_p ad l ok hl ao) ?_
  rintro r F' ⟨ad2, rfl, rfl, ok2, -, -⟩
  refine rowsEq (courtR ad2 (hearJ crt0 l 0).2) (List.append_nil _) ?_
  (refine L.go (T := tt) tt_ok rfl rfl ?sd183 ?_; (try (case sd183 => (repeat' (first | exact trivial | with_reducible refine zI ?_ ?_)))); try (refine L.nil ?_))
  ((repeat refine S.seq ?_); refine S.ret ?_)
  exact E.ret (T := tt) tt_ok rfl rfl (by (repeat' (first | exact trivial | with_reducible refine zI ?_ ?_))) (F' := []) (Imp.refl _) (List.nil_sublist _) ⟨rfl, rfl⟩

theorem jopen_p (l : List ActD) (hl : l.length ≤ 900) (ao : ∀ a ∈ l, ActOk a) : FnC Tryd.prog 30 [actsA l] [] (fun r F' => ∃ y, r = .ref 70 y ∧ F' = [(70, .own y 42 5 (openJ l).length (gOf Msg.cells (openJ l)))]) := by
  refine FnC.intro Tryd.func30 rfl Tryd.ntmps30 rfl ?_; intro off w0
  ((repeat refine S.seq ?_); refine S.region (L.go (T := tt) tt_ok rfl rfl ?sd163 ?_); (try (case sd163 => (repeat' (first | exact trivial | with_reducible refine zI ?_ ?_)))); try (refine L.nil ?_))
  repeat refine S.seq ?_
  refine S.region ?_
  refine L.call (G := []) (H := []) rfl rfl rfl rfl rfl rfl rfl ⟨trivial, by (repeat' (first | exact trivial))⟩ rfl (by exact Imps.refl []) (List.Perm.refl _) newCourt_p ?_
  rintro r F' ⟨ad, rfl, rfl, ok⟩
  refine rowsEq (courtR ad crt0) (List.append_nil _) ?_
  (refine L.go (T := tt) tt_ok rfl rfl ?sd184 ?_; (try (case sd184 => (repeat' (first | exact trivial | with_reducible refine zI ?_ ?_)))); try (refine L.nil ?_))
  repeat refine S.seq ?_
  refine S.region ?_
  (refine L.go (T := tt) tt_ok rfl rfl ?sd185 ?_; (try (case sd185 => (repeat' (first | exact trivial | with_reducible refine zI ?_ ?_)))); try (refine L.nil ?_))
  refine L.call (G := courtR ad crt0) (H := []) rfl rfl rfl rfl rfl rfl rfl ⟨trivial, by (repeat' (first | exact trivial | with_reducible refine zI ?_ ?_))⟩ rfl (by exact Imps.refl [.ptr 60 ad.c 0, actsA l]) (by rw [List.append_nil]) (jhear_p ad l ok hl ao) ?_
  rintro r F' ⟨ad2, rfl, rfl, ok2, hc2, ji⟩
  obtain ⟨s, hs⟩ : ∃ s, s = (hearJ crt0 l 0).2 := ⟨_, rfl⟩
  rw [← hs] at ok2 ji
  rw [← hs]
  refine rowsEq (courtR ad2 s) (List.append_nil _) ?_
  (refine L.go (T := tt) tt_ok rfl rfl ?sd186 ?_; (try (case sd186 => (repeat' (first | exact trivial | with_reducible refine zI ?_ ?_)))); try (refine L.nil ?_))
  ((repeat refine S.seq ?_); refine S.cond rfl (fun h0 => ?_) (fun h0 => ?_) <;> (try first | refine S.skip ?_ | refine S.exit ?_))
  · have e : openJ l = [] := by
      rw [openJ, if_neg]
      intro h
      rw [h] at h0
      exact absurd h0 (by decide)
    rw [e]
    ((repeat refine S.seq ?_); refine S.region (L.go (T := tt) tt_ok rfl rfl ?sd164 ?_); (try (case sd164 => (repeat' (first | exact trivial | with_reducible refine zI ?_ ?_)))); try (refine L.nil ?_))
    refine nilRow 70 42 5 (gOf Msg.cells []) ?_
    refine slotAs 2 (.ref 70 (.slice none 0 0)) rfl (Imp.vref rfl) ?_
    ((repeat refine S.seq ?_); refine S.ret ?_)
    exact E.ret (T := tt) tt_ok rfl rfl (by (repeat' (first | exact trivial | with_reducible refine zI ?_ ?_))) (F' := [(70, .own (.slice none 0 0) 42 5 0 (gOf Msg.cells []))]) (Imp.refl _) (List.Sublist.cons_cons _ (List.nil_sublist _)) ⟨_, rfl, rfl⟩
  have e : openJ l = (s.ms.filter (isOpenJ s)).map (·.m) := by
    rw [openJ, if_pos, hs]
    simpa using h0
  obtain ⟨g, hg⟩ : ∃ g : Nat → List Msg, g = fun k => ((s.ms.take k).filter (isOpenJ s)).map (·.m) := ⟨_, rfl⟩
  have hgl : ∀ k, (g k).length ≤ k := fun k => by
    rw [hg]
    simp only [List.length_map]
    exact Nat.le_trans (List.length_filter_le _ _) (by rw [List.length_take]; omega)
  have hgs : ∀ k (h : k < s.ms.length), g (k + 1) = if isOpenJ s (s.ms.getD k default) then g k ++ [(s.ms.getD k default).m] else g k := fun k h => by
    rw [hg]
    simp only
    rw [List.take_add_one, List.getElem?_eq_getElem h, getD_get h]
    simp only [Option.toList_some, List.filter_append, List.map_append]
    cases hb : isOpenJ s s.ms[k] with
    | true => simp [hb]
    | false => simp [hb]
  have ge : g s.ms.length = openJ l := by rw [hg, e]; simp only [List.take_length]
  have hmb := ok2.mb
  have hbb := ok2.bb
  have hml : s.ms.length ≤ 8000 := by have := ji.ok.mlen; have := ji.ok.blen; omega
  ((repeat refine S.seq ?_); refine S.region (L.go (T := tt) tt_ok rfl rfl ?sd165 ?_); (try (case sd165 => (repeat' (first | exact trivial | with_reducible refine zI ?_ ?_)))); try (refine L.nil ?_))
  refine nilRow 70 42 5 (gOf Msg.cells (g 0)) ?_
  refine slotAs 4 (.ref 70 (.slice none 0 0)) rfl (Imp.vref rfl) ?_
  refine slotAs 3 (.ptr 60 ad2.c 0) rfl (Imp.of_eq (by rw [hc2])) ?_
  ((repeat refine S.seq ?_); refine S.region (L.go (T := tt) tt_ok rfl rfl ?sd166 ?_); (try (case sd166 => (repeat' (first | exact trivial | with_reducible refine zI ?_ ?_ | rfl)))); try (refine L.nil ?_))
  repeat refine S.seq ?_
  refine S.block (S.loop (ι := { p : Nat × Value // p.1 ≤ s.ms.length }) (fun p => [(4, .ref 70 p.1.2), (15, .ref 63 ad2.xo), (16, .v (.int .i64 ad2.mb.length)), (17, .v (.int .i64 p.1.1))])
    (fun p => (70, .own p.1.2 42 5 (g p.1.1).length (gOf Msg.cells (g p.1.1))) :: courtR ad2 s) (fun p => s.ms.length - p.1.1) ?_ ?_)
  · exact fun a' w h => ⟨⟨(0, .slice none 0 0), Nat.zero_le _⟩, h.weakP (by (repeat' (first | exact True.intro | exact Imp.refl _ | refine ⟨?_, ?_⟩))) (Sub.of _ (by rw [List.append_nil]; exact List.Perm.of_eq (by rw [hg]; rfl)))⟩
  rintro ⟨⟨k, y⟩, hk⟩
  dsimp only at hk ⊢
  ((repeat refine S.seq ?_); refine S.region (L.go (T := tt) tt_ok rfl rfl ?sd167 ?_); (try (case sd167 => (repeat' (first | exact trivial | with_reducible refine zI ?_ ?_)))); try (refine L.nil ?_))
  ((repeat refine S.seq ?_); refine S.cond rfl (fun hc => ?_) (fun hc => ?_) <;> (try first | refine S.skip ?_ | refine S.exit ?_))
  · have hkl : k < s.ms.length := by have := of_dec hc; omega
    have hgk := hgl k
    have hgsk := hgs k hkl
    obtain ⟨x, hx⟩ : ∃ x, x = s.ms.getD k default := ⟨_, rfl⟩
    have hxb : x.bt < s.bs.length := ji.ok.bt _ (by rw [hx, getD_get hkl]; exact List.getElem_mem _)
    rw [← hx] at hgsk
    repeat refine S.seq ?_
    refine S.block ?_
    ((repeat refine S.seq ?_); refine S.region (L.go (T := tt) tt_ok rfl rfl ?sd168 ?_); (try (case sd168 => (repeat' (first | exact trivial | with_reducible refine zI ?_ ?_ | rfl | omega)))); try (refine L.nil ?_))
    refine slotAs 6 (.ptr 93 (ad2.mb.getD k 0) 0) rfl (Imp.trans (Imp.of_eq (show _ = AV.v (ptV (ad2.mb.getD k 0)) from rfl)) (Imp.vptr 93 _ 0)) ?_
    unfold courtR dynS
    refine take2 93 (inM (pull1 (ms_get hmb hkl))) ?_
    rw [← hx]
    refine take3 94 (inC (pull1 (bat_get hbb hxb))) ?_
    refine blkAs 93 (x.cellsW (.ptr 94 (ad2.bb.getD x.bt 0) 0)) rfl ⟨Imp.refl _, Imp.refl _, Imp.refl _, Imp.refl _, Imp.refl _, Imp.vptr 94 _ 0, Imp.refl _, Imp.refl _, Imp.refl _, trivial⟩ ?_
    ((repeat refine S.seq ?_); refine S.region (L.go (T := tt) tt_ok rfl rfl ?sd169 ?_); (try (case sd169 => (repeat' (first | exact trivial | exact zA | with_reducible refine zI ?_ ?_ | exact zB | exact zC | rfl | (simp; done))))); try (refine L.nil ?_))
    refine slotAs 42 (.v (.bool (isOpenJ s x))) rfl (Imp.of_eq rfl) ?_
    have hclose : ∀ (y : Value) (n : Nat) (gg : Nat → List AV) (σ : Slots) (c : Ctx) (K : Act → World → Prop), (∀ a w, R c σ ((70, .own y 42 5 n gg) :: courtR ad2 s) a w → K a w) → ∀ a w, R c σ ((94, .blk (ad2.bb.getD x.bt 0) 113 (s.bs.getD x.bt default).cells) :: (93, .blk (ad2.mb.getD k 0) 116 (x.cellsW (.ptr 94 (ad2.bb.getD x.bt 0) 0))) :: (70, .own y 42 5 n gg) :: crtR ad2 s (dyn4 (lineR 114 ad2.bb s.bat ad2.xb) (lineR 111 ad2.mb s.all ad2.xa) ((batR s.bs ad2.bb).eraseIdx x.bt) ((msR s.ms ad2.mb ad2.bb).eraseIdx k))) a w → K a w := fun y n gg σ c K next => by
      refine put3 _ (inC (pull1 (bat_get hbb hxb))).symm ?_
      refine blkAs 93 (x.cells ad2.bb) rfl ⟨Imp.refl _, Imp.refl _, Imp.refl _, Imp.refl _, Imp.refl _, Imp.ptrv 94 _ 0, Imp.refl _, Imp.refl _, Imp.refl _, trivial⟩ ?_
      refine rowsEq ((93, .blk (ad2.mb.getD k 0) 116 (x.cells ad2.bb)) :: (70, .own y 42 5 n gg) :: crtR ad2 s (dyn4 (lineR 114 ad2.bb s.bat ad2.xb) (lineR 111 ad2.mb s.all ad2.xa) (batR s.bs ad2.bb) ((msR s.ms ad2.mb ad2.bb).eraseIdx k))) rfl ?_
      refine put2 _ (inM (pull1 (by rw [hx]; exact ms_get hmb hkl))).symm ?_
      exact next
    repeat refine S.seq ?_
    refine S.cut (ι := Value) (fun y => [(4, .ref 70 y), (15, .ref 63 ad2.xo), (16, .v (.int .i64 ad2.mb.length)), (17, .v (.int .i64 k))])
      (fun y => (70, .own y 42 5 (g (k + 1)).length (gOf Msg.cells (g (k + 1)))) :: courtR ad2 s) ?_ ?_
    · ((repeat refine S.seq ?_); refine S.cond rfl (fun ho => ?_) (fun ho => ?_) <;> (try first | refine S.skip ?_ | refine S.exit ?_))
      · rw [if_pos ho] at hgsk
        repeat refine S.seq ?_
        refine S.region ?_
        (refine L.go (T := tt) tt_ok rfl rfl ?sd187 ?_; (try (case sd187 => (repeat' (first | exact trivial | with_reducible refine zI ?_ ?_ | rfl | exact zN rfl)))); try (refine L.nil ?_))
        refine L.buildSlice (T := tt) 95 tt_ok rfl rfl rfl rfl rfl rfl (by decide) (by decide) rfl rfl (by (repeat' (first | exact trivial | with_reducible refine zI ?_ ?_ | rfl | exact zN rfl))) fun x48 => ?_
        refine L.append (T := tt) tt_ok rfl rfl rfl rfl rfl rfl rfl rfl rfl rfl (by (repeat' (first | exact trivial | with_reducible refine zI ?_ ?_ | rfl))) ⟨rfl, by decide, by decide⟩ (by simp; omega) fun y49 => ?_
        (refine L.go (T := tt) tt_ok rfl rfl ?sd188 ?_; (try (case sd188 => (repeat' (first | exact trivial | with_reducible refine zI ?_ ?_)))); try (refine L.nil ?_))
        refine ownAs 70 (gOf Msg.cells (g (k + 1))) rfl (show (g k).length + 1 = (g (k + 1)).length by rw [hgsk]; simp) (fun i hi => by rw [hgsk]; exact app1_h Msg.cells (g k) x.m _ rfl rfl hi) ?_
        refine rowsTo _ (Sub.drop (Sub.self _)) ?_
        refine hclose y49 _ _ _ _ _ ?_
        exact fun a' w h => ⟨y49, h.weakP (by (repeat' (first | exact True.intro | exact Imp.refl _ | refine ⟨?_, ?_⟩))) (Sub.self _)⟩
      · rw [if_neg (by rw [ho]; decide)] at hgsk
        refine hclose y _ _ _ _ _ ?_
        exact fun a' w h => ⟨y, h.weakP (by (repeat' (first | exact True.intro | exact Imp.refl _ | refine ⟨?_, ?_⟩))) (Sub.of _ (by rw [List.append_nil, hgsk]))⟩
    intro y'
    ((repeat refine S.seq ?_); refine S.region (L.go (T := tt) tt_ok rfl rfl ?sd170 ?_); (try (case sd170 => (repeat' (first | exact trivial | with_reducible refine zI ?_ ?_ | (unfold fits; omega))))); try (refine L.nil ?_))
    exact fun a' w h => ⟨⟨(k + 1, y'), by show k + 1 ≤ _; omega⟩, by show s.ms.length - (k + 1) < s.ms.length - k; omega, h.weakP (by (repeat' (first | exact True.intro | exact Imp.refl _ | refine ⟨?_, ?_⟩))) (Sub.self _)⟩
  have hkl : k = s.ms.length := by have := of_dec' hc; omega
  subst hkl
  rw [ge]
  ((repeat refine S.seq ?_); refine S.region (L.go (T := tt) tt_ok rfl rfl ?sd171 ?_); (try (case sd171 => (repeat' (first | exact trivial | with_reducible refine zI ?_ ?_)))); try (refine L.nil ?_))
  ((repeat refine S.seq ?_); refine S.ret ?_)
  exact E.ret (T := tt) tt_ok rfl rfl (by (repeat' (first | exact trivial | with_reducible refine zI ?_ ?_))) (F' := [(70, .own y 42 5 (openJ l).length (gOf Msg.cells (openJ l)))]) (Imp.refl _) (List.Sublist.cons_cons _ (List.nil_sublist _)) ⟨_, rfl, rfl⟩

theorem jbatches_p (l : List ActD) : PFn Tryd.prog 32 [actsA l] (.v (.int .i64 ((l.countP fun a => a.kind == 1 : Nat) : Int))) := by
  refine FnC.intro Tryd.func32 rfl Tryd.ntmps32 rfl ?_; intro off w0
  refine lenAt (sz := 14) (n := l.length) (g := gOf ActD.cells l) 0 rfl fun hn => ?_
  ((repeat refine S.seq ?_); refine S.region (L.go (T := tt) tt_ok rfl rfl ?sd172 ?_); (try (case sd172 => (repeat' (first | exact trivial | with_reducible refine zI ?_ ?_)))); try (refine L.nil ?_))
  ((repeat refine S.seq ?_); refine S.region (L.go (T := tt) tt_ok rfl rfl ?sd173 ?_); (try (case sd173 => (repeat' (first | exact trivial | with_reducible refine zI ?_ ?_)))); try (refine L.nil ?_))
  ((repeat refine S.seq ?_); refine S.region (L.go (T := tt) tt_ok rfl rfl ?sd174 ?_); (try (case sd174 => (repeat' (first | exact trivial | with_reducible refine zI ?_ ?_)))); try (refine L.nil ?_))
  repeat refine S.seq ?_
  refine S.block (S.loop (ι := { k : Nat // k ≤ l.length }) (fun k => [(3, .v (.int .i64 (((l.take k.1).countP fun a => a.kind == 1 : Nat) : Int))), (6, actsA l), (7, .v (.int .i64 l.length)), (8, .v (.int .i64 k.1))]) (fun _ => []) (fun k => l.length - k.1) ?_ ?_)
  · exact fun a' w h => ⟨⟨0, Nat.zero_le _⟩, h.weakP (by (repeat' (first | exact True.intro | exact Imp.refl _ | refine ⟨?_, ?_⟩))) (Sub.self _)⟩
  rintro ⟨k, hk⟩
  dsimp only
  ((repeat refine S.seq ?_); refine S.region (L.go (T := tt) tt_ok rfl rfl ?sd175 ?_); (try (case sd175 => (repeat' (first | exact trivial | with_reducible refine zI ?_ ?_)))); try (refine L.nil ?_))
  ((repeat refine S.seq ?_); refine S.cond rfl (fun hc => ?_) (fun hc => ?_) <;> (try first | refine S.skip ?_ | refine S.exit ?_))
  · have hkl : k < l.length := by have := of_dec hc; omega
    have hcp : (l.take k).countP (fun a => a.kind == 1) ≤ k := Nat.le_trans List.countP_le_length (by rw [List.length_take]; omega)
    have hs : (l.take (k + 1)).countP (fun a => a.kind == 1) = (l.take k).countP (fun a => a.kind == 1) + (if (l.getD k default).kind == 1 then 1 else 0) := by
      rw [List.take_add_one, List.getElem?_eq_getElem hkl, List.countP_append, getD_get hkl]
      simp [List.countP_cons]
    repeat refine S.seq ?_
    refine S.block ?_
    repeat refine S.seq ?_
    refine S.region ?_
    (refine L.go (T := tt) tt_ok rfl rfl ?sd189 ?_; (try (case sd189 => (repeat' (first | exact trivial | with_reducible refine zI ?_ ?_ | rfl | omega)))); try (refine L.nil ?_))
    refine L.alloc (T := tt) 71 tt_ok rfl rfl rfl rfl rfl fun b5 => ?_
    (refine L.store (T := tt) tt_ok rfl rfl rfl rfl rfl rfl ?sd190 ?_; (try (case sd190 => (repeat' (first | exact trivial | with_reducible refine zI ?_ ?_ | rfl | exact zN rfl)))))
    refine L.nil ?_
    ((repeat refine S.seq ?_); refine S.region (L.go (T := tt) tt_ok rfl rfl ?sd176 ?_); (try (case sd176 => (repeat' (first | exact trivial | with_reducible refine zI ?_ ?_ | rfl)))); try (refine L.nil ?_))
    repeat refine S.seq ?_
    refine S.cut (ι := Unit) (fun _ => [(3, .v (.int .i64 (((l.take (k + 1)).countP fun a => a.kind == 1 : Nat) : Int))), (6, actsA l), (7, .v (.int .i64 l.length)), (8, .v (.int .i64 k))]) (fun _ => []) ?_ ?_
    · ((repeat refine S.seq ?_); refine S.cond rfl (fun h1 => ?_) (fun h1 => ?_) <;> (try first | refine S.skip ?_ | refine S.exit ?_))
      · have h1' : ((l.getD k default).kind == 1) = true := h1
        rw [if_pos h1'] at hs
        ((repeat refine S.seq ?_); refine S.region (L.go (T := tt) tt_ok rfl rfl ?sd177 ?_); (try (case sd177 => (repeat' (first | exact trivial | with_reducible refine zI ?_ ?_ | (unfold fits; omega))))); try (refine L.nil ?_))
        refine slotAs 3 (.v (.int .i64 (((l.take (k + 1)).countP fun a => a.kind == 1 : Nat) : Int))) rfl (Imp.of_eq (by rw [hs]; rfl)) ?_
        exact fun a' w h => ⟨(), h.weakP (by (repeat' (first | exact True.intro | exact Imp.refl _ | refine ⟨?_, ?_⟩))) (Sub.refl _)⟩
      · have h1' : ((l.getD k default).kind == 1) = false := h1
        rw [if_neg (by rw [h1']; decide)] at hs
        refine slotAs 3 (.v (.int .i64 (((l.take (k + 1)).countP fun a => a.kind == 1 : Nat) : Int))) rfl (Imp.of_eq (by rw [hs]; rfl)) ?_
        exact fun a' w h => ⟨(), h.weakP (by (repeat' (first | exact True.intro | exact Imp.refl _ | refine ⟨?_, ?_⟩))) (Sub.refl _)⟩
    rintro ⟨⟩
    ((repeat refine S.seq ?_); refine S.region (L.go (T := tt) tt_ok rfl rfl ?sd178 ?_); (try (case sd178 => (repeat' (first | exact trivial | with_reducible refine zI ?_ ?_ | (unfold fits; omega))))); try (refine L.nil ?_))
    exact fun a' w h => ⟨⟨k + 1, by omega⟩, by show l.length - (k + 1) < l.length - k; omega, h.weakP (by (repeat' (first | exact True.intro | exact Imp.refl _ | refine ⟨?_, ?_⟩))) (Sub.self _)⟩
  have hkl : k = l.length := by have := of_dec' hc; omega
  subst hkl
  ((repeat refine S.seq ?_); refine S.region (L.go (T := tt) tt_ok rfl rfl ?sd179 ?_); (try (case sd179 => (repeat' (first | exact trivial | with_reducible refine zI ?_ ?_)))); try (refine L.nil ?_))
  (((repeat refine S.seq ?_); refine S.ret ?_); refine E.retP (T := tt) tt_ok rfl rfl (by (repeat' (first | exact trivial | with_reducible refine zI ?_ ?_))) (Imp.of_eq ?_))
  rw [List.take_length]
  rfl
end Go.Proofs.YtfdneepgpekmiaaDoor

/- Law 21's told. -/
namespace Go.Proofs.YtfdneepgpekmiaaDoor
set_option linter.unusedVariables false
set_option linter.unusedSimpArgs false
set_option maxHeartbeats 8000000
open Go.RowKit
set_option maxRecDepth 8000

section
variable {P : Program} {c : Ctx} {σ : Slots} {F : Rows} {Q : Exit → Act → World → Prop} {ops : Array Oper} {rest : List Oper} {o : Oper}
/-- A guarded step that is made. -/
theorem O.met {ids : List Nat} {ι : Type} {sl : ι → Slots} {ro : ι → Rows} {bb tt' : Bool} (hg : guardA ops σ o = some (some (bb, tt'))) (hb : bb = tt') (h : O P ops c { o with guard := none } σ F Q ids ι sl ro) : O P ops c o σ F Q ids ι sl ro := by
  intro a w hR K hK
  have h1 := h a w hR K hK
  unfold Op1 at h1 ⊢
  rw [if_pos ((guard_iff hR hg).2 hb)]
  rw [if_pos (by simp [Region.wanted])] at h1
  exact h1
end

theorem actCells_len (a : ActD) : a.cells.length = 14 := rfl
theorem rowsOf_flat : ∀ (l : List ActD) (i : Nat), i < l.length → rowsOf 14 (l.flatMap ActD.cells) i = gOf ActD.cells l i
  | [], i, h => absurd h (Nat.not_lt_zero i)
  | a :: t, 0, h => by
    show ((a.cells ++ t.flatMap ActD.cells).drop (0 * 14)).take 14 = a.cells
    rw [Nat.zero_mul, List.drop_zero, List.take_left' (actCells_len a)]
  | a :: t, i + 1, h => by
    have ih := rowsOf_flat t i (by simpa using h)
    show ((a.cells ++ t.flatMap ActD.cells).drop ((i + 1) * 14)).take 14 = gOf ActD.cells t i
    rw [← ih, show (i + 1) * 14 = 14 + i * 14 by omega, ← List.drop_drop, List.drop_left' (actCells_len a)]
    rfl
theorem Imp.acts (l : List ActD) {n : Nat} {g : Nat → List AV} (hn : n = l.length) (hg : ∀ i, i < n → g i = rowsOf 14 (l.flatMap ActD.cells) i) : Imp (.lst 14 n g) (actsA l) := by
  subst hn
  exact Imp.lst rfl fun i hi => (hg i hi).trans (rowsOf_flat l i hi)

def bK : ByteArray := ⟨#[107]⟩
def bB1 : ByteArray := ⟨#[98]⟩
def tp : ActD := ⟨1, 1, 0, 1, 0, 0, bK, bB1, 1, default⟩
def tc : ActD := ⟨2, 1, 0, 1, 0, 0, bK, ByteArray.empty, 0, default⟩
def td : ActD := ⟨4, 0, 0, 0, 4, 0, ByteArray.empty, ByteArray.empty, 0, ⟨1, 1, bK, bB1, false⟩⟩
def ta : ActD := ⟨5, 0, 0, 0, 4, 0, ByteArray.empty, ByteArray.empty, 0, default⟩
theorem fitI_small {z : Int} (h : -1000 ≤ z) (h2 : z ≤ 1000) : fitI z := by unfold fitI; omega
def okB (a : ActD) : Bool := [a.kind, a.cl, a.q, a.seq, a.tag, a.many, a.m.pub, a.m.seq].all (fun z => decide (-1000 ≤ z) && decide (z ≤ 1000)) && [a.key, a.body, a.m.key, a.m.body].all fun b => decide (b.size ≤ 1000)
theorem okB_ok {a : ActD} (h : okB a = true) : ActOk a := by
  simp only [okB, List.all_cons, List.all_nil, Bool.and_eq_true, decide_eq_true_eq, Bool.and_true] at h
  obtain ⟨⟨h1, h2, h3, h4, h5, h6, h7, h8⟩, g1, g2, g3, g4⟩ := h
  exact ⟨fitI_small h1.1 h1.2, fitI_small h2.1 h2.2, fitI_small h3.1 h3.2, fitI_small h4.1 h4.2, fitI_small h5.1 h5.2, fitI_small h6.1 h6.2, g1, g2, fitI_small h7.1 h7.2, fitI_small h8.1 h8.2, g3, g4⟩
theorem oks {l : List ActD} (h : l.all okB = true) : ∀ a ∈ l, ActOk a := fun a ha => okB_ok (List.all_eq_true.1 h a ha)
theorem check_eq {l : List ActD} {z : Int} (hl : Nat.ble l.length 900 = true) (h : l.all okB = true) (hz : checkJ l = z) : PFn Tryd.prog 27 [actsA l] (.v (.int .i64 z)) := hz ▸ jcheck_p l (Nat.le_of_ble_eq_true hl) (oks h)
theorem open_eq {l : List ActD} {o : List Msg} (hl : Nat.ble l.length 900 = true) (h : l.all okB = true) (hz : openJ l = o) : FnC Tryd.prog 30 [actsA l] [] (fun r F' => ∃ y, r = .ref 70 y ∧ F' = [(70, .own y 42 5 o.length (gOf Msg.cells o))]) := hz ▸ jopen_p l (Nat.le_of_ble_eq_true hl) (oks h)

theorem tt1 : checkJ [tp, tc, td, ta] = 0 := by decide +kernel
theorem tt2 : checkJ [tc] = 1 := by decide +kernel
theorem tt3 : checkJ [tp, td, td] = 3 := by decide +kernel
theorem tt4 : checkJ [tp, tp] = 2 := by decide +kernel
theorem tt5 : openJ [tp, tc, td] = [td.m] := by decide +kernel
theorem tt6 : openJ [tp, tc, td, ta] = [] := by decide +kernel

theorem told21_p : PFn Tryd.prog 26 [] (.v (.bool true)) := by
  refine FnC.intro Tryd.func26 rfl Tryd.ntmps26 rfl ?_; intro off w0
  ((repeat refine S.seq ?_); refine S.region (L.go (T := tt) tt_ok rfl rfl ?sd191 ?_); (try (case sd191 => (repeat' (first | exact trivial | with_reducible refine zI ?_ ?_)))); try (refine L.nil ?_))
  ((repeat refine S.seq ?_); refine S.region (L.go (T := tt) tt_ok rfl rfl ?sd192 ?_); (try (case sd192 => (repeat' (first | exact trivial | with_reducible refine zI ?_ ?_ | rfl | exact zN rfl)))); try (refine L.nil ?_))
  refine L.alloc (T := tt) 81 tt_ok rfl rfl rfl rfl rfl fun b1 => ?_
  (refine L.store (T := tt) tt_ok rfl rfl rfl rfl rfl rfl ?sd200 ?_; (try (case sd200 => (repeat' (first | exact trivial | with_reducible refine zI ?_ ?_ | rfl | exact zN rfl)))))
  refine L.nil ?_
  refine freezeBlk 1 81 rfl rfl rfl ?_
  refine slotAs 1 (.pel 14 tp.cells) rfl (Imp.refl _) ?_
  ((repeat refine S.seq ?_); refine S.region (L.go (T := tt) tt_ok rfl rfl ?sd193 ?_); (try (case sd193 => (repeat' (first | exact trivial | with_reducible refine zI ?_ ?_ | rfl | exact zN rfl)))); try (refine L.nil ?_))
  refine L.alloc (T := tt) 82 tt_ok rfl rfl rfl rfl rfl fun b2 => ?_
  (refine L.store (T := tt) tt_ok rfl rfl rfl rfl rfl rfl ?sd201 ?_; (try (case sd201 => (repeat' (first | exact trivial | with_reducible refine zI ?_ ?_ | rfl | exact zN rfl)))))
  refine L.nil ?_
  refine freezeBlk 2 82 rfl rfl rfl ?_
  refine slotAs 2 (.pel 14 tc.cells) rfl (Imp.refl _) ?_
  ((repeat refine S.seq ?_); refine S.region (L.go (T := tt) tt_ok rfl rfl ?sd194 ?_); (try (case sd194 => (repeat' (first | exact trivial | with_reducible refine zI ?_ ?_ | rfl | exact zN rfl)))); try (refine L.nil ?_))
  refine L.alloc (T := tt) 83 tt_ok rfl rfl rfl rfl rfl fun b3 => ?_
  (refine L.store (T := tt) tt_ok rfl rfl rfl rfl rfl rfl ?sd202 ?_; (try (case sd202 => (repeat' (first | exact trivial | with_reducible refine zI ?_ ?_ | rfl | exact zN rfl)))))
  refine L.nil ?_
  refine freezeBlk 3 83 rfl rfl rfl ?_
  refine slotAs 3 (.pel 14 td.cells) rfl (Imp.refl _) ?_
  ((repeat refine S.seq ?_); refine S.region (L.go (T := tt) tt_ok rfl rfl ?sd195 ?_); (try (case sd195 => (repeat' (first | exact trivial | with_reducible refine zI ?_ ?_ | rfl | exact zN rfl)))); try (refine L.nil ?_))
  refine L.alloc (T := tt) 84 tt_ok rfl rfl rfl rfl rfl fun b4 => ?_
  (refine L.store (T := tt) tt_ok rfl rfl rfl rfl rfl rfl ?sd203 ?_; (try (case sd203 => (repeat' (first | exact trivial | with_reducible refine zI ?_ ?_ | rfl | exact zN rfl)))))
  refine L.nil ?_
  refine freezeBlk 4 84 rfl rfl rfl ?_
  refine slotAs 4 (.pel 14 ta.cells) rfl (Imp.refl _) ?_
  repeat refine S.seq ?_
  refine S.region ?_
  (refine L.go (T := tt) tt_ok rfl rfl ?sd196 ?_; (try (case sd196 => (repeat' (first | exact trivial | with_reducible refine zI ?_ ?_ | rfl)))); try (refine L.nil ?_))
  refine L.buildSlice (T := tt) 85 tt_ok rfl rfl rfl rfl rfl rfl (by decide) (by decide) rfl rfl (by (repeat' (first | exact trivial | with_reducible refine zI ?_ ?_ | rfl | exact zN rfl))) fun x16 => ?_
  refine freezeSlot 16 85 rfl rfl rfl ?_
  refine slotAs 16 (actsA [tp, tc, td, ta]) rfl (Imp.acts [tp, tc, td, ta] rfl (fun i hi => rfl)) ?_
  (refine L.go (T := tt) tt_ok rfl rfl ?sd197 ?_; (try (case sd197 => (repeat' (first | exact trivial | with_reducible refine zI ?_ ?_)))); try (refine L.nil ?_))
  repeat refine S.seq ?_
  refine S.region ?_
  (refine L.go (T := tt) tt_ok rfl rfl ?sd198 ?_; (try (case sd198 => (repeat' (first | exact trivial | with_reducible refine zI ?_ ?_ | omega | (simp; done))))); try (refine L.nil ?_))
  refine slotAs 18 (actsA [tp, tc, td]) rfl (Imp.lst rfl (fun i hi => by
    match i, hi with
    | 0, _ => rfl
    | 1, _ => rfl
    | 2, _ => rfl)) ?_
  refine L.call (G := []) (H := []) rfl rfl rfl rfl rfl rfl rfl ⟨trivial, by (repeat' (first | exact trivial | with_reducible refine zI ?_ ?_))⟩ rfl (by exact Imps.refl [actsA [tp, tc, td]]) (List.Perm.refl _) (open_eq rfl rfl tt5) ?_
  rintro r F' ⟨y, rfl, rfl⟩
  refine freezeSlot 19 70 rfl rfl rfl ?_
  (refine L.go (T := tt) tt_ok rfl rfl ?sd199 ?_; (try (case sd199 => (repeat' (first | exact trivial | with_reducible refine zI ?_ ?_)))); try (refine L.nil ?_))
  repeat refine S.seq ?_
  refine S.draw [] mixed ?_
  (refine H.ts (T := tt) [0] tt_ok (by kernel_rfl) (by kernel_rfl) (by kernel_rfl) (by intro ch a a' w h; obtain ⟨_, _, _, _, _, h, _⟩ := h; cases h) rfl ?sd204 ?_; (try (case sd204 => (repeat' (first | exact trivial | with_reducible refine zI ?_ ?_)))))
  refine H.callP 1 rfl (by kernel_rfl) (by kernel_rfl) rfl rfl rfl rfl rfl rfl rfl ⟨trivial, by (repeat' (first | exact trivial | with_reducible refine zI ?_ ?_))⟩ rfl (by exact Imps.refl _) ((check_eq rfl rfl tt1)) ?_
  refine H.rebase ?_
  (refine H.ts (T := tt) [2, 3, 4] tt_ok (by kernel_rfl) (by kernel_rfl) (by kernel_rfl) (by intro ch a a' w h; obtain ⟨_, _, _, _, _, h, _⟩ := h; cases h) rfl ?sd205 ?_; (try (case sd205 => (repeat' (first | exact trivial | with_reducible refine zI ?_ ?_ | rfl | intro _)))))
  refine H.o1 5 rfl (by kernel_rfl) (by kernel_rfl) (O.met rfl rfl (O.buildSlice (T := tt) 86 tt_ok rfl rfl rfl rfl rfl rfl (by decide) (by decide) rfl rfl (by (repeat' (first | exact trivial | with_reducible refine zI ?_ ?_ | rfl | exact zN rfl))))) (.inr rfl) rfl fun x25 => ?_
  refine H.freeze 25 86 rfl rfl rfl rfl ?_
  refine H.tell 25 (actsA [tc]) rfl (Imp.acts [tc] rfl (fun i hi => rfl)) ?_
  refine H.o1 6 rfl (by kernel_rfl) (by kernel_rfl) (O.met rfl rfl (O.callP rfl rfl rfl rfl rfl rfl rfl ⟨trivial, by (repeat' (first | exact trivial | with_reducible refine zI ?_ ?_))⟩ rfl (by exact Imps.refl _) (check_eq rfl rfl tt2))) (.inr rfl) rfl fun _ => ?_
  refine H.rebase ?_
  (refine H.ts (T := tt) [7, 8, 9, 10, 11, 12] tt_ok (by kernel_rfl) (by kernel_rfl) (by kernel_rfl) (by intro ch a a' w h; obtain ⟨_, _, _, _, _, h, _⟩ := h; cases h) rfl ?sd206 ?_; (try (case sd206 => (repeat' (first | exact trivial | with_reducible refine zI ?_ ?_ | exact zB | rfl | (simp; done) | intro _)))))
  refine H.o1 13 rfl (by kernel_rfl) (by kernel_rfl) (O.met rfl rfl (O.buildSlice (T := tt) 87 tt_ok rfl rfl rfl rfl rfl rfl (by decide) (by decide) rfl rfl (by (repeat' (first | exact trivial | with_reducible refine zI ?_ ?_ | rfl | exact zN rfl))))) (.inr rfl) rfl fun x33 => ?_
  refine H.freeze 33 87 rfl rfl rfl rfl ?_
  refine H.tell 33 (actsA [tp, td, td]) rfl (Imp.acts [tp, td, td] rfl (fun i hi => rfl)) ?_
  refine H.o1 14 rfl (by kernel_rfl) (by kernel_rfl) (O.met rfl rfl (O.callP rfl rfl rfl rfl rfl rfl rfl ⟨trivial, by (repeat' (first | exact trivial | with_reducible refine zI ?_ ?_))⟩ rfl (by exact Imps.refl _) (check_eq rfl rfl tt3))) (.inr rfl) rfl fun _ => ?_
  refine H.rebase ?_
  (refine H.ts (T := tt) [15, 16, 17, 18, 19] tt_ok (by kernel_rfl) (by kernel_rfl) (by kernel_rfl) (by intro ch a a' w h; obtain ⟨_, _, _, _, _, h, _⟩ := h; cases h) rfl ?sd207 ?_; (try (case sd207 => (repeat' (first | exact trivial | with_reducible refine zI ?_ ?_ | exact zB | rfl | (simp; done) | intro _)))))
  refine H.o1 20 rfl (by kernel_rfl) (by kernel_rfl) (O.met rfl rfl (O.buildSlice (T := tt) 88 tt_ok rfl rfl rfl rfl rfl rfl (by decide) (by decide) rfl rfl (by (repeat' (first | exact trivial | with_reducible refine zI ?_ ?_ | rfl | exact zN rfl))))) (.inr rfl) rfl fun x40 => ?_
  refine H.freeze 40 88 rfl rfl rfl rfl ?_
  refine H.tell 40 (actsA [tp, tp]) rfl (Imp.acts [tp, tp] rfl (fun i hi => rfl)) ?_
  refine H.o1 21 rfl (by kernel_rfl) (by kernel_rfl) (O.met rfl rfl (O.callP rfl rfl rfl rfl rfl rfl rfl ⟨trivial, by (repeat' (first | exact trivial | with_reducible refine zI ?_ ?_))⟩ rfl (by exact Imps.refl _) (check_eq rfl rfl tt4))) (.inr rfl) rfl fun _ => ?_
  refine H.rebase ?_
  (refine H.ts (T := tt) [22, 23, 24, 25, 26, 27, 28, 29, 30, 31, 32, 33, 34, 35, 36, 37, 38] tt_ok (by kernel_rfl) (by kernel_rfl) (by kernel_rfl) (by intro ch a a' w h; obtain ⟨_, _, _, _, _, h, _⟩ := h; cases h) rfl ?sd208 ?_; (try (case sd208 => (repeat' (first | exact trivial | exact zA | with_reducible refine zI ?_ ?_ | exact zB | exact zC | exact zD | exact zE | rfl | (simp; done) | intro _)))))
  refine H.o1 39 rfl (by kernel_rfl) (by kernel_rfl) (O.met rfl rfl (O.call (G := []) (H := []) rfl rfl rfl rfl rfl rfl rfl ⟨trivial, by (repeat' (first | exact trivial | with_reducible refine zI ?_ ?_ | rfl))⟩ rfl (by exact Imps.refl [actsA [tp, tc, td, ta]]) (List.Perm.refl _) (open_eq rfl rfl tt6))) (.inl (by kernel_rfl)) (by kernel_rfl) fun k => ?_
  obtain ⟨⟨r, F'⟩, y2, e1, e2⟩ := k
  dsimp only at e1 e2
  subst e1 e2
  refine H.freeze 59 70 rfl rfl rfl rfl ?_
  (refine H.ts (T := tt) [40, 41, 42, 43, 44] tt_ok (by kernel_rfl) (by kernel_rfl) (by kernel_rfl) (by intro ch a a' w h; obtain ⟨_, _, _, _, _, h, _⟩ := h; cases h) rfl ?sd209 ?_; (try (case sd209 => (repeat' (first | exact trivial | exact zA | with_reducible refine zI ?_ ?_ | exact zB | exact zE | (simp; done))))))
  refine H.o1 45 rfl (by kernel_rfl) (by kernel_rfl) (O.met rfl rfl (O.callP rfl rfl rfl rfl rfl rfl rfl ⟨trivial, by (repeat' (first | exact trivial | with_reducible refine zI ?_ ?_ | rfl))⟩ rfl (by exact Imps.refl _) (jbatches_p [tp, tc, td, ta]))) (.inr rfl) rfl fun _ => ?_
  refine H.rebase ?_
  (refine H.ts (T := tt) [46, 47, 48] tt_ok (by kernel_rfl) (by kernel_rfl) (by kernel_rfl) (by intro ch a a' w h; obtain ⟨_, _, _, _, _, h, _⟩ := h; cases h) rfl ?sd210 ?_; (try (case sd210 => (repeat' (first | exact trivial | with_reducible refine zI ?_ ?_ | exact zB | (simp; done))))))
  refine H.o1 49 rfl (by kernel_rfl) (by kernel_rfl) (O.met rfl rfl (O.callP rfl rfl rfl rfl rfl rfl rfl ⟨trivial, by (repeat' (first | exact trivial | with_reducible refine zI ?_ ?_))⟩ rfl (show Imps [AV.v (.slice none 0 0)] [actsA []] from ⟨Imp.nil 14 _, trivial⟩) (check_eq (l := []) (z := 0) rfl rfl rfl))) (.inr rfl) rfl fun _ => ?_
  refine H.rebase ?_
  (refine H.ts (T := tt) [50, 51, 52] tt_ok (by kernel_rfl) (by kernel_rfl) (by kernel_rfl) (by intro ch a a' w h; obtain ⟨_, _, _, _, _, h, _⟩ := h; cases h) rfl ?sd211 ?_; (try (case sd211 => (repeat' (first | exact trivial | with_reducible refine zI ?_ ?_ | exact zB | (simp; done))))))
  refine H.done (by kernel_rfl) ?_
  ((repeat refine S.seq ?_); refine S.ret ?_)
  exact E.retP (T := tt) tt_ok rfl rfl (by (repeat' (first | exact trivial | with_reducible refine zI ?_ ?_))) (Imp.of_eq (by kernel_rfl))
end Go.Proofs.YtfdneepgpekmiaaDoor
