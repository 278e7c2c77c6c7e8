/- Texts of this proof, laid together: JdG, JdH, JdI. -/
import Derived.Test.YtfdneepgpekmiaaDoorMjE
/- The judge: what publishing makes, plain laws. -/
namespace Go.Proofs.YtfdneepgpekmiaaDoor
set_option linter.unusedVariables false
set_option linter.unusedSimpArgs false
set_option maxHeartbeats 8000000
open Go.RowKit
set_option maxRecDepth 4000

def bodyJ (a : ActD) (i : Nat) : ByteArray := if a.many > 1 then a.body ++ numT i else a.body
def pubNo (s : Crt) (a : ActD) : Bool := (decide (a.many < 1) || decide (a.many > 8)) || (a.seq != ((lkL s.all a.line).length : Int) + 1)
def newB (a : ActD) : BatD := ⟨a.seq, a.seq + a.many - 1, 0⟩
def newM (a : ActD) (bi i : Nat) : MsD := ⟨⟨a.cl, a.seq + i, a.key, bodyJ a i, false⟩, bi, false, false, false⟩
def addB (s : Crt) (a : ActD) : Crt := { s with bat := putL s.bat a.line (lkL s.bat a.line ++ [s.bs.length]), bs := s.bs ++ [newB a] }
def addM (s : Crt) (k : LineK) (x : MsD) : Crt := { s with all := putL s.all k (lkL s.all k ++ [s.ms.length]), ms := s.ms ++ [x] }
def pubN (s : Crt) (a : ActD) : Nat → Crt
  | 0 => addB s a
  | i + 1 => addM (pubN s a i) a.line (newM a s.bs.length i)
def pubJ (s : Crt) (a : ActD) : Crt := if pubNo s a then s else pubN s a a.many.toNat

theorem pubN_bs (s : Crt) (a : ActD) : ∀ i, (pubN s a i).bs = s.bs ++ [newB a]
  | 0 => rfl
  | i + 1 => pubN_bs s a i
theorem pubN_ml (s : Crt) (a : ActD) : ∀ i, (pubN s a i).ms.length = s.ms.length + i
  | 0 => rfl
  | i + 1 => by
    show ((pubN s a i).ms ++ [_]).length = _
    rw [List.length_append, pubN_ml s a i]
    rfl
theorem pubN_ok {s : Crt} {a : ActD} (h : CrtOk s) (hb : s.bs.length < 1000) : ∀ i, i ≤ 8 → CrtOk (pubN s a i)
  | 0, _ => by
    have hl : ∀ (k : LineK), (lkL s.bat k).length ≤ s.bs.length ∧ ∀ j ∈ lkL s.bat k, j < s.bs.length := fun k => by
      rcases lk_mem (l := s.bat) (k := k) with h1 | ⟨q, h1, h2⟩
      · rw [h1]; simp
      · rw [← h2]; exact ⟨h.len1 q h1, h.bat q h1⟩
    have e : (pubN s a 0).bs.length = s.bs.length + 1 := by simp [pubN, addB]
    refine ⟨fun p hp j hj => ?_, h.all, fun m hm => by rw [e]; exact Nat.lt_succ_of_lt (h.bt m hm), h.holds, h.acks, by omega, by rw [e]; have := h.mlen; show s.ms.length ≤ _; omega, fun p hp => ?_, h.len2⟩
    · rw [e]
      rcases mem_put hp with h1 | h1
      · exact Nat.lt_succ_of_lt (h.bat p h1 j hj)
      · rw [h1] at hj
        rcases List.mem_append.1 hj with h2 | h2
        · have := (hl _).2 j h2; omega
        · rw [List.mem_singleton] at h2; omega
    · rw [e]
      rcases mem_put hp with h1 | h1
      · have := h.len1 p h1; omega
      · rw [h1]
        have := (hl a.line).1
        show (lkL s.bat a.line ++ [s.bs.length]).length ≤ _
        rw [List.length_append]
        simp only [List.length_cons, List.length_nil]
        omega
  | i + 1, hi => by
    have ih := pubN_ok (a := a) h hb i (by omega)
    obtain ⟨t, ht⟩ : ∃ t, t = pubN s a i := ⟨_, rfl⟩
    have hbl : t.bs.length = s.bs.length + 1 := by rw [ht, pubN_bs]; simp
    have hmn : t.ms.length = s.ms.length + i := by rw [ht, pubN_ml]
    rw [← ht] at ih
    have hl : ∀ (k : LineK), (lkL t.all k).length ≤ t.ms.length ∧ ∀ j ∈ lkL t.all k, j < t.ms.length := fun k => by
      rcases lk_mem (l := t.all) (k := k) with h1 | ⟨q, h1, h2⟩
      · rw [h1]; simp
      · rw [← h2]; exact ⟨ih.len2 q h1, ih.all q h1⟩
    have hs : pubN s a (i + 1) = addM t a.line (newM a s.bs.length i) := by rw [ht]; rfl
    rw [hs]
    have e : (addM t a.line (newM a s.bs.length i)).ms.length = t.ms.length + 1 := by simp [addM]
    have hml := h.mlen
    refine ⟨ih.bat, fun p hp j hj => ?_, fun m hm => ?_, fun p hp => by rw [e]; exact Nat.lt_succ_of_lt (ih.holds p hp), fun p hp => by rw [e]; exact Nat.lt_succ_of_lt (ih.acks p hp), ih.blen, by rw [e]; show _ ≤ 8 * t.bs.length; omega, ih.len1, fun p hp => ?_⟩
    · rw [e]
      rcases mem_put hp with h1 | h1
      · exact Nat.lt_succ_of_lt (ih.all p h1 j hj)
      · rw [h1] at hj
        rcases List.mem_append.1 hj with h2 | h2
        · have := (hl _).2 j h2; omega
        · rw [List.mem_singleton] at h2; omega
    · rcases List.mem_append.1 hm with h1 | h1
      · exact ih.bt m h1
      · rw [List.mem_singleton] at h1
        rw [h1]
        show s.bs.length < t.bs.length
        omega
    · rw [e]
      rcases mem_put hp with h1 | h1
      · have := ih.len2 p h1; omega
      · rw [h1]
        have := (hl a.line).1
        show (lkL t.all a.line ++ [t.ms.length]).length ≤ _
        rw [List.length_append]
        simp only [List.length_cons, List.length_nil]
        omega

theorem getD_app {l : List Nat} {b j : Nat} (h : j < l.length) : (l ++ [b]).getD j 0 = l.getD j 0 := by
  rw [List.getD_eq_getElem?_getD, List.getElem?_append_left h, ← List.getD_eq_getElem?_getD]
theorem getD_new (l : List Nat) (b : Nat) : (l ++ [b]).getD l.length 0 = b := by
  rw [List.getD_eq_getElem?_getD, List.getElem?_append_right (Nat.le_refl _), Nat.sub_self]
  rfl
theorem line_say {E : TypeId} {pb : List Nat} {b : Nat} : ∀ {l : LineM} {xs : List Value}, (∀ p ∈ l, ∀ j ∈ p.2, j < pb.length) → Says (lineR E pb l xs) (lineR E (pb ++ [b]) l xs)
  | [], xs, h => by cases xs <;> exact .nil
  | p :: t, [], h => .nil
  | p :: t, y :: xs, h => by
    rw [lineR_cons, lineR_cons]
    refine .cons rfl (fun own w hs => ownSay rfl (fun i hi => ?_) hs) (line_say fun q hq => h q (List.mem_cons_of_mem _ hq))
    have hm : p.2.getD i default ∈ p.2 := by rw [getD_get hi]; exact List.getElem_mem _
    have e : gOf (ptC pb) p.2 i = gOf (ptC (pb ++ [b])) p.2 i := by
      show ptC pb (p.2.getD i default) = ptC (pb ++ [b]) (p.2.getD i default)
      rw [ptC, ptC, getD_app (h p (List.mem_cons_self) _ hm)]
    rw [e]
    exact Imps.refl _
theorem batR_app {bs : List BatD} {bb : List Nat} (h : bb.length = bs.length) (x : BatD) (b : Nat) : batR (bs ++ [x]) (bb ++ [b]) = batR bs bb ++ [.blk b 113 x.cells] := by
  unfold batR
  rw [List.zip_append h.symm, List.map_append]
  rfl
theorem msR_app {ms : List MsD} {mb bb : List Nat} (h : mb.length = ms.length) (x : MsD) (b : Nat) : msR (ms ++ [x]) (mb ++ [b]) bb = msR ms mb bb ++ [.blk b 116 (x.cells bb)] := by
  unfold msR
  rw [List.zip_append h.symm, List.map_append]
  rfl
theorem msR_bb {ms : List MsD} {mb bb : List Nat} {b : Nat} (h : ∀ m ∈ ms, m.bt < bb.length) : msR ms mb (bb ++ [b]) = msR ms mb bb := by
  unfold msR
  refine List.map_congr_left fun p hp => ?_
  have hm : p.1 ∈ ms := (List.of_mem_zip (a := p.1) (b := p.2) hp).1
  have e : p.1.cells (bb ++ [b]) = p.1.cells bb := by
    unfold MsD.cells
    rw [getD_app (h _ hm)]
  rw [e]
theorem tagM_app {l : List (TagK × Nat)} {mb : List Nat} {b : Nat} (h : ∀ p ∈ l, p.2 < mb.length) : tagM l (mb ++ [b]) = tagM l mb := by
  unfold tagM
  refine List.map_congr_left fun p hp => ?_
  rw [getD_app (h p hp)]

theorem AdOk.addB {ad : Adr} {s : Crt} {a : ActD} (h : AdOk ad s) (y : Value) (b : Nat) : AdOk { ad with bb := ad.bb ++ [b], xb := putX s.bat ad.xb a.line y } (addB s a) :=
  ⟨putX_len h.xb, h.xa, by show (ad.bb ++ [b]).length = (s.bs ++ [_]).length; rw [List.length_append, List.length_append, h.bb]; rfl, h.mb⟩
theorem AdOk.addM {ad : Adr} {s : Crt} {k : LineK} {x : MsD} (h : AdOk ad s) (y z : Value) (b : Nat) : AdOk { ad with mb := ad.mb ++ [b], xa := putX s.all ad.xa k y, xo := z } (addM s k x) :=
  ⟨h.xb, putX_len h.xa, h.bb, by show (ad.mb ++ [b]).length = (s.ms ++ [_]).length; rw [List.length_append, List.length_append, h.mb]; rfl⟩
end Go.Proofs.YtfdneepgpekmiaaDoor

/- The judge: a batch is published. -/
namespace Go.Proofs.YtfdneepgpekmiaaDoor
set_option linter.unusedVariables false
set_option linter.unusedSimpArgs false
set_option maxHeartbeats 8000000
open Go.RowKit
set_option maxRecDepth 4000

theorem crtSay {c : Ctx} {σ : Slots} {K : Act → World → Prop} {ad : Adr} {s : Crt} {D : List Row} (D' : List Row) (h : Says D D') (next : ∀ a w, R c σ (crtR ad s D') a w → K a w) : ∀ a w, R c σ (crtR ad s D) a w → K a w := by
  refine rowsSay (crtR ad s D') ?_ next
  unfold crtR
  simp only [List.map_cons, tl_snd]
  exact .cons rfl (fun _ _ h => h) (.cons rfl (fun _ _ h => h) (.cons rfl (fun _ _ h => h) (.cons rfl (fun _ _ h => h) (.cons rfl (fun _ _ h => h) (.cons rfl (fun _ _ h => h) (.cons rfl (fun _ _ h => h) h))))))
def lineC (k : LineK) : List AV := [.v (.int .i64 k.pub), .v (.int .i64 k.q), .v (.string k.key)]

theorem jpublish_p (ad : Adr) (s : Crt) (a : ActD) (ok : AdOk ad s) (co : CrtOk s) (ao : ActOk a) (hbs : s.bs.length < 1000) : FnC Tryd.prog 74 [.ptr 60 ad.c 0, a.av] (courtR ad s)
    (fun r F' => ∃ ad', r = .v (.bool (!pubNo s a)) ∧ F' = courtR ad' (pubJ s a) ∧ AdOk ad' (pubJ s a) ∧ ad'.c = ad.c) := by
  have hk := line_ok ao
  have hbody := ao.body
  have hml := co.mlen
  have hbl := co.blen
  obtain ⟨l, hl⟩ : ∃ l, l = lkL s.all a.line := ⟨_, rfl⟩
  have hln : l.length ≤ 8000 := by
    rcases lk_mem (l := s.all) (k := a.line) with h | ⟨p, hp, h⟩
    · rw [hl, h]; simp
    · rw [hl, ← h]; have := co.len2 p hp; omega
  have hopen := openB (E := 111) (pb := ad.mb) (k := a.line) (A := lineR 114 ad.bb s.bat ad.xb) (C := batR s.bs ad.bb) (M := msR s.ms ad.mb ad.bb) ok.xa
  obtain ⟨x, hx⟩ : ∃ x, x = slx s.all ad.xa a.line := ⟨_, rfl⟩
  simp only [← hx, ← hl] at hopen
  unfold courtR dynS
  refine FnC.intro Tryd.func74 rfl Tryd.ntmps74 rfl ?_; intro off w0
  repeat refine S.seq ?_
  refine S.region ?_
  refine L.box 91 rfl rfl rfl rfl rfl trivial rfl fun b3 => ?_
  (refine L.go (T := tt) tt_ok rfl rfl ?sd107 ?_; (try (case sd107 => (repeat' (first | exact trivial | with_reducible refine zI ?_ ?_)))); try (refine L.nil ?_))
  refine freezeBlk 3 91 rfl rfl rfl ?_
  ((repeat refine S.seq ?_); refine S.region (L.go (T := tt) tt_ok rfl rfl ?sd99 ?_); (try (case sd99 => (repeat' (first | exact trivial | with_reducible refine zI ?_ ?_ | rfl | exact zN rfl)))); try (refine L.nil ?_))
  refine L.alloc (T := tt) 92 tt_ok rfl rfl rfl rfl rfl fun b5 => ?_
  (refine L.store (T := tt) tt_ok rfl rfl rfl rfl rfl rfl ?sd112 ?_; (try (case sd112 => (repeat' (first | exact trivial | with_reducible refine zI ?_ ?_ | rfl | exact zN rfl)))))
  refine L.nil ?_
  refine freezeBlk 5 92 rfl rfl rfl ?_
  refine slotAs 5 (.pel 3 (lineC a.line)) rfl (Imp.refl _) ?_
  refine openR 90 hopen ?_
  repeat refine S.seq ?_
  refine S.draw [(14, [60]), (16, [62])] mixed ?_
  (refine H.ts (T := tt) [0, 1, 2, 3, 4, 5, 6, 7, 8, 9, 10, 11, 12, 13, 14, 15] tt_ok (by kernel_rfl) (by kernel_rfl) (by kernel_rfl) (by intro ch a a' w h; obtain ⟨_, _, _, _, _, h, _⟩ := h; cases h) rfl ?sd113 ?_; (try (case sd113 => (repeat' (first | exact trivial | exact zA | with_reducible refine zI ?_ ?_ | exact zB | exact zC | exact zE | rfl | (simp; done) | intro _)))))
  refine H.sG (A := .ref 90 x) 16 rfl (by kernel_rfl) (by kernel_rfl) (by kernel_rfl) (by kernel_rfl) (by kernel_rfl) (by intro ch a a' w h; obtain ⟨_, _, _, _, _, h, _⟩ := h; cases h) rfl rfl rfl (fun hb => sureRef 90 (look_sure (T := tt) (z := nilS) (kv := a.line.v) tt_ok KeyLine.kName rfl rfl (by kernel_rfl) rfl rfl rfl ⟨hb, hb⟩ rfl (fun _ _ => rfl) rfl hk (by rw [hx]; exact look_line ok.xa)) rfl) ?_
  (refine H.ts (T := tt) [17, 18, 19, 20] tt_ok (by kernel_rfl) (by kernel_rfl) (by kernel_rfl) (by intro ch a a' w h; obtain ⟨_, _, _, _, _, h, _⟩ := h; cases h) rfl ?sd114 ?_; (try (case sd114 => (repeat' (first | exact trivial | with_reducible refine zI ?_ ?_ | exact zB | exact zD | (simp; done) | (unfold fits; simp_all; omega))))))
  refine H.done (by kernel_rfl) ?_
  refine slotAs 36 (.v (.bool (pubNo s a))) rfl (Imp.of_eq (by rw [pubNo, ← hl])) ?_
  refine closeR hopen ?_
  ((repeat refine S.seq ?_); refine S.cond rfl (fun h1 => ?_) (fun h1 => ?_) <;> (try first | refine S.skip ?_ | refine S.exit ?_))
  · have e2 : pubJ s a = s := by rw [pubJ, if_pos h1]
    ((repeat refine S.seq ?_); refine S.region (L.go (T := tt) tt_ok rfl rfl ?sd100 ?_); (try (case sd100 => (repeat' (first | exact trivial | with_reducible refine zI ?_ ?_)))); try (refine L.nil ?_))
    ((repeat refine S.seq ?_); refine S.ret ?_)
    rw [h1, e2]
    exact E.ret (T := tt) tt_ok rfl rfl (by (repeat' (first | exact trivial | with_reducible refine zI ?_ ?_))) (F' := courtR ad s) (Imp.refl _) (List.Sublist.refl _) ⟨ad, rfl, rfl, ok, rfl⟩
  have hr : 1 ≤ a.many ∧ a.many ≤ 8 ∧ a.seq = (l.length : Int) + 1 := by
    simp only [pubNo, Bool.or_eq_false_iff, decide_eq_false_iff_not, ← hl] at h1
    have := h1.2
    simp at this
    omega
  have e2 : pubJ s a = pubN s a a.many.toNat := by rw [pubJ, if_neg (by rw [h1]; decide)]
  repeat refine S.seq ?_
  refine S.region ?_
  (refine L.go (T := tt) tt_ok rfl rfl ?sd108 ?_; (try (case sd108 => (repeat' (first | exact trivial | with_reducible refine zI ?_ ?_ | rfl | exact zN rfl | (unfold fits; omega))))); try (refine L.nil ?_))
  refine L.box 91 rfl rfl rfl rfl rfl trivial rfl fun b46 => ?_
  (refine L.go (T := tt) tt_ok rfl rfl ?sd109 ?_; (try (case sd109 => (repeat' (first | exact trivial | with_reducible refine zI ?_ ?_)))); try (refine L.nil ?_))
  refine slotAs 6 (.v (ptV b46)) rfl (Imp.ptrv 91 _ 0) ?_
  obtain ⟨bb', hbb'⟩ : ∃ bb', bb' = ad.bb ++ [b46] := ⟨_, rfl⟩
  have hbbn : bb'.getD s.bs.length 0 = b46 := by rw [hbb', ← ok.bb]; exact getD_new _ _
  refine rowsEq ((91, .blk b46 113 (newB a).cells) :: crtR ad s (dyn4 (lineR 114 ad.bb s.bat ad.xb) (lineR 111 ad.mb s.all ad.xa) (batR s.bs ad.bb) (msR s.ms ad.mb ad.bb))) rfl ?_
  refine put1 (dyn4 (lineR 114 ad.bb s.bat ad.xb) (lineR 111 ad.mb s.all ad.xa) (batR (s.bs ++ [newB a]) bb') (msR s.ms ad.mb ad.bb)) (by rw [hbb', batR_app ok.bb]; exact (inC last1.symm).symm) ?_
  refine crtSay (dyn4 (lineR 114 bb' s.bat ad.xb) (lineR 111 ad.mb s.all ad.xa) (batR (s.bs ++ [newB a]) bb') (msR s.ms ad.mb bb')) (by
    rw [hbb', msR_bb (fun m hm => by rw [ok.bb]; exact co.bt m hm)]
    exact (line_say (fun p hp j hj => by rw [ok.bb]; exact co.bat p hp j hj)).app ((Says.refl _).app ((Says.refl _).app (Says.refl _)))) ?_
  obtain ⟨lb, hlb⟩ : ∃ lb, lb = lkL s.bat a.line := ⟨_, rfl⟩
  have hlbn : lb.length ≤ 1000 := by
    rcases lk_mem (l := s.bat) (k := a.line) with h | ⟨p, hp, h⟩
    · rw [hlb, h]; simp
    · rw [hlb, ← h]; have := co.len1 p hp; omega
  obtain ⟨xb, hxb⟩ : ∃ xb, xb = slx s.bat ad.xb a.line := ⟨_, rfl⟩
  have hopenA := openA (E := 114) (pb := bb') (k := a.line) (B := lineR 111 ad.mb s.all ad.xa) (C := batR (s.bs ++ [newB a]) bb') (M := msR s.ms ad.mb bb') ok.xb
  simp only [← hxb, ← hlb] at hopenA
  refine openR 90 hopenA ?_
  repeat refine S.seq ?_
  refine S.draw [(3, [60])] mixed ?_
  (refine H.ts (T := tt) [0, 1, 2, 3, 4, 5] tt_ok (by kernel_rfl) (by kernel_rfl) (by kernel_rfl) (by intro ch a a' w h; obtain ⟨_, _, _, _, _, h, _⟩ := h; cases h) rfl ?sd115 ?_; (try (case sd115 => (repeat' (first | exact trivial | with_reducible refine zI ?_ ?_ | rfl)))))
  refine H.o1 6 rfl (by kernel_rfl) (by kernel_rfl) (O.buildSlice (T := tt) 94 tt_ok rfl rfl rfl rfl rfl rfl (by decide) (by decide) rfl rfl (by (repeat' (first | exact trivial | with_reducible refine zI ?_ ?_ | rfl | exact zN rfl)))) (.inr rfl) rfl fun x54 => ?_
  refine H.o1 7 rfl (by kernel_rfl) (by kernel_rfl) (O.mapEntry (T := tt) (z := nilS) (kv := a.line.v) tt_ok KeyLine.kName rfl rfl rfl (by kernel_rfl) rfl (by kernel_rfl) rfl rfl rfl rfl (by exact ⟨by (repeat' (first | exact trivial)), by (repeat' (first | exact trivial)), rfl, hk⟩)) (.inl (by kernel_rfl)) (by kernel_rfl) fun st => ?_
  refine H.rebase ?_
  (refine H.ts (T := tt) [8, 10] tt_ok (by kernel_rfl) (by kernel_rfl) (by kernel_rfl) (by intro ch a a' w h; obtain ⟨_, _, _, _, _, h, _⟩ := h; cases h) rfl ?sd116 ?_; (try (case sd116 => (repeat' (first | exact trivial | with_reducible refine zI ?_ ?_)))))
  refine H.tell 52 (.v xb) rfl (Imp.of_eq (by rw [hxb]; exact look_line ok.xb)) ?_
  refine H.tellW 52 (.ref 90 xb) rfl (ownRef 90 rfl) ?_
  refine H.o1 9 rfl (by kernel_rfl) (by kernel_rfl) (O.append (T := tt) tt_ok rfl rfl rfl rfl rfl rfl rfl rfl rfl rfl (by (repeat' (first | exact trivial | with_reducible refine zI ?_ ?_ | rfl))) ⟨rfl, by decide, by decide⟩ (by simp; omega)) (.inl (by kernel_rfl)) (by kernel_rfl) fun y => ?_
  refine H.tell 56 (.v y) rfl (Imp.refv 90 y) ?_
  refine H.o1 11 rfl (by kernel_rfl) (by kernel_rfl) (O.entryStore rfl rfl rfl rfl rfl rfl rfl (by exact ⟨by (repeat' (first | exact trivial)), by (repeat' (first | exact trivial)), by (repeat' (first | exact trivial)), rfl, rfl⟩)) (.inl (by kernel_rfl)) (by kernel_rfl) fun _ => ?_
  refine H.done (by kernel_rfl) ?_
  refine mapSay 61 (lineM (putL s.bat a.line (lb ++ [s.bs.length])) (putX s.bat ad.xb a.line y)) rfl (fun key => (mget_twice _ _ _ _ key).trans (put_line y _ key ok.xb)) ?_
  refine ownAs 90 (gOf (ptC bb') (lb ++ [s.bs.length])) rfl (show lb.length + 1 = (lb ++ [s.bs.length]).length by simp) (fun i hi => app1_h (ptC bb') lb s.bs.length _ rfl (by rw [ptC, hbbn]; rfl) hi) ?_
  refine rowsTo ((90, rowL 114 bb' y (lb ++ [s.bs.length])) :: crtR { ad with bb := bb', xb := putX s.bat ad.xb a.line y } (addB s a) (dyn4 (rmR 114 bb' s.bat ad.xb a.line) (lineR 111 ad.mb s.all ad.xa) (batR (s.bs ++ [newB a]) bb') (msR s.ms ad.mb bb'))) (by rw [crtR, addB, ← hlb]; exact Sub.drop (Sub.self _)) ?_
  refine put1 (dynS { ad with bb := bb', xb := putX s.bat ad.xb a.line y } (pubN s a 0)) (by rw [hlb]; exact (inA (open_put y _ ok.xb).symm).symm) ?_
  ((repeat refine S.seq ?_); refine S.region (L.go (T := tt) tt_ok rfl rfl ?sd101 ?_); (try (case sd101 => (repeat' (first | exact trivial | with_reducible refine zI ?_ ?_)))); try (refine L.nil ?_))
  have ok1 : AdOk { ad with bb := bb', xb := putX s.bat ad.xb a.line y } (pubN s a 0) := by rw [hbb']; exact ok.addB y b46
  repeat refine S.seq ?_
  refine S.block (S.loop (ι := { p : Nat × Adr // p.1 ≤ a.many.toNat ∧ AdOk p.2 (pubN s a p.1) ∧ p.2.c = ad.c ∧ p.2.bb = bb' }) (fun p => [(0, .ptr 60 p.1.2.c 0), (3, .pel 14 a.cells), (5, .pel 3 (lineC a.line)), (6, .v (ptV b46)), (59, .v (.int .i64 a.many)), (60, .v (.int .i64 p.1.1))])
    (fun p => courtR p.1.2 (pubN s a p.1.1)) (fun p => a.many.toNat - p.1.1) ?_ ?_)
  · exact fun a' w h => ⟨⟨(0, { ad with bb := bb', xb := putX s.bat ad.xb a.line y }), Nat.zero_le _, ok1, rfl, rfl⟩, h.weakP (by (repeat' (first | exact True.intro | exact Imp.refl _ | refine ⟨?_, ?_⟩))) (Sub.self _)⟩
  rintro ⟨⟨i, ad2⟩, hi, ok2, hc2, hb2⟩
  dsimp only at hi ok2 hc2 hb2 ⊢
  have co2 := pubN_ok (a := a) co hbs i (by omega)
  obtain ⟨t, ht⟩ : ∃ t, t = pubN s a i := ⟨_, rfl⟩
  have hti : pubN s a (i + 1) = addM t a.line (newM a s.bs.length i) := by rw [ht]; rfl
  rw [← ht] at ok2 co2
  rw [← ht]
  have hnt := numT_size (i := (i : Int)) (by omega)
  ((repeat refine S.seq ?_); refine S.region (L.go (T := tt) tt_ok rfl rfl ?sd102 ?_); (try (case sd102 => (repeat' (first | exact trivial | with_reducible refine zI ?_ ?_)))); try (refine L.nil ?_))
  ((repeat refine S.seq ?_); refine S.cond rfl (fun hc => ?_) (fun hc => ?_) <;> (try first | refine S.skip ?_ | refine S.exit ?_))
  · have hin : i < a.many.toNat := by have := of_dec hc; omega
    have hnt := hnt (by omega)
    repeat refine S.seq ?_
    refine S.block ?_
    ((repeat refine S.seq ?_); refine S.region (L.go (T := tt) tt_ok rfl rfl ?sd103 ?_); (try (case sd103 => (repeat' (first | exact trivial | with_reducible refine zI ?_ ?_)))); try (refine L.nil ?_))
    repeat refine S.seq ?_
    refine S.region ?_
    (refine L.go (T := tt) tt_ok rfl rfl ?sd110 ?_; (try (case sd110 => (repeat' (first | exact trivial | with_reducible refine zI ?_ ?_ | rfl | exact zN rfl | (unfold fits; omega))))); try (refine L.nil ?_))
    refine L.box 93 rfl rfl rfl rfl rfl trivial rfl fun b76 => ?_
    (refine L.go (T := tt) tt_ok rfl rfl ?sd111 ?_; (try (case sd111 => (repeat' (first | exact trivial | with_reducible refine zI ?_ ?_)))); try (refine L.nil ?_))
    ((repeat refine S.seq ?_); refine S.region (L.go (T := tt) tt_ok rfl rfl ?sd104 ?_); (try (case sd104 => (repeat' (first | exact trivial | with_reducible refine zI ?_ ?_)))); try (refine L.nil ?_))
    repeat refine S.seq ?_
    refine S.cut (ι := Unit) (fun _ => [(0, .ptr 60 ad2.c 0), (3, .pel 14 a.cells), (5, .pel 3 (lineC a.line)), (6, .v (ptV b46)), (8, .v (ptV b76)), (59, .v (.int .i64 a.many)), (60, .v (.int .i64 i))])
      (fun _ => (93, .blk b76 116 ((newM a s.bs.length i).cells ad2.bb)) :: courtR ad2 t) ?_ ?_
    · ((repeat refine S.seq ?_); refine S.cond rfl (fun h3 => ?_) (fun h3 => ?_) <;> (try first | refine S.skip ?_ | refine S.exit ?_))
      · have h3n : a.many > 1 := of_dec h3
        have e : (newM a s.bs.length i).cells ad2.bb = [.v (.int .i64 a.cl), .v (.int .i64 (a.seq + i)), .v (.string a.key), .v (.string (a.body ++ numT i)), .v (.bool false), .v (ptV b46), .v (.bool false), .v (.bool false), .v (.bool false)] := by
          rw [MsD.cells, newM, bodyJ, if_pos h3n, hb2, hbbn]
        repeat refine S.seq ?_
        refine S.draw [] mixed ?_
        (refine H.ts (T := tt) [0, 1, 2, 3] tt_ok (by kernel_rfl) (by kernel_rfl) (by kernel_rfl) (by intro ch a a' w h; obtain ⟨_, _, _, _, _, h, _⟩ := h; cases h) rfl ?sd117 ?_; (try (case sd117 => (repeat' (first | exact trivial | with_reducible refine zI ?_ ?_)))))
        refine H.callP 4 rfl (by kernel_rfl) (by kernel_rfl) rfl rfl rfl rfl rfl rfl rfl ⟨trivial, by (repeat' (first | exact trivial | with_reducible refine zI ?_ ?_))⟩ rfl (by exact Imps.refl _) ((itoa_p (i : Int) (by omega) (by omega))) ?_
        refine H.rebase ?_
        (refine H.ts (T := tt) [5, 6, 7, 8] tt_ok (by kernel_rfl) (by kernel_rfl) (by kernel_rfl) (by intro ch a a' w h; obtain ⟨_, _, _, _, _, h, _⟩ := h; cases h) rfl ?sd118 ?_; (try (case sd118 => (repeat' (first | exact trivial | with_reducible refine zI ?_ ?_ | omega)))))
        (refine H.store (T := tt) 9 rfl (by kernel_rfl) (by kernel_rfl) tt_ok rfl rfl rfl rfl rfl rfl ?sd127 rfl (by kernel_rfl) ?_; (try (case sd127 => (repeat' (first | exact trivial | with_reducible refine zI ?_ ?_ | rfl | exact zN rfl)))))
        refine H.done (by kernel_rfl) ?_
        refine slotAs 8 (.v (ptV b76)) rfl (Imp.ptrv 93 _ 0) ?_
        refine blkAs 93 ((newM a s.bs.length i).cells ad2.bb) rfl (by rw [e]; exact Imps.refl _) ?_
        exact fun a' w h => ⟨(), h.weak (by (repeat' (first | exact True.intro | exact Imp.refl _ | refine ⟨?_, ?_⟩))) (List.Sublist.refl _)⟩
      · have h3n : ¬ a.many > 1 := of_dec' h3
        have e : (newM a s.bs.length i).cells ad2.bb = [.v (.int .i64 a.cl), .v (.int .i64 (a.seq + i)), .v (.string a.key), .v (.string a.body), .v (.bool false), .v (ptV b46), .v (.bool false), .v (.bool false), .v (.bool false)] := by
          rw [MsD.cells, newM, bodyJ, if_neg h3n, hb2, hbbn]
        refine slotAs 8 (.v (ptV b76)) rfl (Imp.ptrv 93 _ 0) ?_
        refine blkAs 93 ((newM a s.bs.length i).cells ad2.bb) rfl (by rw [e]; exact Imps.refl _) ?_
        exact fun a' w h => ⟨(), h.weak (by (repeat' (first | exact True.intro | exact Imp.refl _ | refine ⟨?_, ?_⟩))) (List.Sublist.refl _)⟩
    rintro ⟨⟩
    obtain ⟨mb', hmb'⟩ : ∃ mb', mb' = ad2.mb ++ [b76] := ⟨_, rfl⟩
    have hmbl := ok2.mb
    have hmbn : mb'.getD t.ms.length 0 = b76 := by rw [hmb', ← hmbl]; exact getD_new _ _
    have htg1 : tagM t.holds mb' = tagM t.holds ad2.mb := by rw [hmb']; exact tagM_app (fun p hp => by rw [hmbl]; exact co2.holds p hp)
    have htg2 : tagM t.acks mb' = tagM t.acks ad2.mb := by rw [hmb']; exact tagM_app (fun p hp => by rw [hmbl]; exact co2.acks p hp)
    have hmlen : t.ms.length ≤ 8000 := by have := co2.mlen; have := co2.blen; omega
    have hmbl2 : ad2.mb.length ≤ 8000 := by omega
    unfold courtR dynS
    refine put1 (dyn4 (lineR 114 ad2.bb t.bat ad2.xb) (lineR 111 ad2.mb t.all ad2.xa) (batR t.bs ad2.bb) (msR (t.ms ++ [newM a s.bs.length i]) mb' ad2.bb)) (by rw [hmb', msR_app hmbl]; exact (inM last1.symm).symm) ?_
    refine crtSay (dyn4 (lineR 114 ad2.bb t.bat ad2.xb) (lineR 111 mb' t.all ad2.xa) (batR t.bs ad2.bb) (msR (t.ms ++ [newM a s.bs.length i]) mb' ad2.bb)) (by
      rw [hmb']
      exact (Says.refl _).app ((line_say (fun p hp j hj => by rw [hmbl]; exact co2.all p hp j hj)).app (Says.refl _))) ?_
    obtain ⟨lv, hlv⟩ : ∃ lv, lv = lkL t.all a.line := ⟨_, rfl⟩
    have hlvn : lv.length ≤ 8000 := by
      rcases lk_mem (l := t.all) (k := a.line) with h | ⟨p, hp, h⟩
      · rw [hlv, h]; simp
      · rw [hlv, ← h]; have := co2.len2 p hp; omega
    obtain ⟨xa, hxa⟩ : ∃ xa, xa = slx t.all ad2.xa a.line := ⟨_, rfl⟩
    have hopenB := openB (E := 111) (pb := mb') (k := a.line) (A := lineR 114 ad2.bb t.bat ad2.xb) (C := batR t.bs ad2.bb) (M := msR (t.ms ++ [newM a s.bs.length i]) mb' ad2.bb) ok2.xa
    simp only [← hxa, ← hlv] at hopenB
    refine openR 90 hopenB ?_
    repeat refine S.seq ?_
    refine S.cut (ι := Value × Value) (fun _ => [(0, .ptr 60 ad2.c 0), (3, .pel 14 a.cells), (5, .pel 3 (lineC a.line)), (6, .v (ptV b46)), (59, .v (.int .i64 a.many)), (60, .v (.int .i64 i))])
      (fun y => (90, rowL 111 mb' y.1 (lv ++ [t.ms.length])) :: crtR { ad2 with mb := mb', xa := putX t.all ad2.xa a.line y.1, xo := y.2 } { t with all := putL t.all a.line (lv ++ [t.ms.length]), ms := t.ms ++ [newM a s.bs.length i] } (dyn4 (lineR 114 ad2.bb t.bat ad2.xb) (rmR 111 mb' t.all ad2.xa a.line) (batR t.bs ad2.bb) (msR (t.ms ++ [newM a s.bs.length i]) mb' ad2.bb))) ?_ ?_
    · refine S.draw [(3, [60]), (9, [60]), (11, [62]), (18, [60])] mixed ?_
      (refine H.ts (T := tt) [0, 1, 2, 3, 4, 5, 6, 7, 8, 9, 10] tt_ok (by kernel_rfl) (by kernel_rfl) (by kernel_rfl) (by intro ch a a' w h; obtain ⟨_, _, _, _, _, h, _⟩ := h; cases h) rfl ?sd119 ?_; (try (case sd119 => (repeat' (first | exact trivial | with_reducible refine zI ?_ ?_ | rfl)))))
      refine H.s1 11 (A := .ref 90 xa) rfl (by kernel_rfl) (by kernel_rfl) (by kernel_rfl) (by kernel_rfl) (by kernel_rfl) (by intro ch a a' w h; obtain ⟨_, _, _, _, _, h, _⟩ := h; cases h) rfl rfl (by kernel_rfl) (sureRef 90 (look_sure (T := tt) (z := nilS) (kv := a.line.v) tt_ok KeyLine.kName rfl rfl (by kernel_rfl) rfl rfl rfl (by (repeat' (first | exact trivial | with_reducible refine zI ?_ ?_))) rfl (fun _ _ => rfl) rfl hk (by rw [hxa]; exact look_line ok2.xa)) rfl) ?_
      (refine H.ts (T := tt) [12, 15, 16, 17, 18, 19] tt_ok (by kernel_rfl) (by kernel_rfl) (by kernel_rfl) (by intro ch a a' w h; obtain ⟨_, _, _, _, _, h, _⟩ := h; cases h) rfl ?sd120 ?_; (try (case sd120 => (repeat' (first | exact trivial | with_reducible refine zI ?_ ?_ | rfl)))))
      refine H.o2 13 20 rfl rfl (by kernel_rfl) (by kernel_rfl) (O.buildSlice (T := tt) 94 tt_ok rfl rfl rfl rfl rfl rfl (by decide) (by decide) rfl rfl (by (repeat' (first | exact trivial | with_reducible refine zI ?_ ?_ | rfl | exact zN rfl)))) (O.buildSlice (T := tt) 95 tt_ok rfl rfl rfl rfl rfl rfl (by decide) (by decide) rfl rfl (by (repeat' (first | exact trivial | with_reducible refine zI ?_ ?_ | rfl | exact zN rfl)))) (.inr rfl) (.inr rfl) rfl rfl (fun x102 => ?_) (fun x109 => ?_)
      · refine H.o2 14 20 rfl rfl (by kernel_rfl) (by kernel_rfl) (O.append (T := tt) tt_ok rfl rfl rfl rfl rfl rfl rfl rfl rfl rfl (by (repeat' (first | exact trivial | with_reducible refine zI ?_ ?_ | rfl))) ⟨rfl, by decide, by decide⟩ (by simp; omega)) (O.buildSlice (T := tt) 95 tt_ok rfl rfl rfl rfl rfl rfl (by decide) (by decide) rfl rfl (by (repeat' (first | exact trivial | with_reducible refine zI ?_ ?_ | rfl | exact zN rfl)))) (.inl (by kernel_rfl)) (.inr rfl) (by kernel_rfl) rfl (fun ya => ?_) (fun x109 => ?_)
        · refine H.o1 20 rfl (by kernel_rfl) (by kernel_rfl) (O.buildSlice (T := tt) 95 tt_ok rfl rfl rfl rfl rfl rfl (by decide) (by decide) rfl rfl (by (repeat' (first | exact trivial | with_reducible refine zI ?_ ?_ | rfl | exact zN rfl)))) (.inr rfl) rfl fun x109 => ?_
          refine H.o1 21 rfl (by kernel_rfl) (by kernel_rfl) (O.append (T := tt) tt_ok rfl rfl rfl rfl rfl rfl rfl rfl rfl rfl (by (repeat' (first | exact trivial | with_reducible refine zI ?_ ?_ | rfl))) ⟨rfl, by decide, by decide⟩ (by simp; omega)) (.inl (by kernel_rfl)) (by kernel_rfl) fun yo => ?_
          refine H.tell 103 (.v ya) rfl (Imp.refv 90 ya) ?_
          refine H.o1 22 rfl (by kernel_rfl) (by kernel_rfl) (O.mapEntry (T := tt) (z := nilS) (kv := a.line.v) tt_ok KeyLine.kName rfl rfl rfl (by kernel_rfl) rfl (by kernel_rfl) rfl rfl rfl rfl (by exact ⟨by (repeat' (first | exact trivial)), by (repeat' (first | exact trivial)), rfl, hk⟩)) (.inl (by kernel_rfl)) (by kernel_rfl) fun st => ?_
          refine H.rebase ?_
          (refine H.ts (T := tt) [23] tt_ok (by kernel_rfl) (by kernel_rfl) (by kernel_rfl) (by intro ch a a' w h; obtain ⟨_, _, _, _, _, h, _⟩ := h; cases h) rfl ?sd121 ?_; (try (case sd121 => (repeat' (first | exact trivial | with_reducible refine zI ?_ ?_)))))
          refine H.o1 24 rfl (by kernel_rfl) (by kernel_rfl) (O.entryStore rfl rfl rfl rfl rfl rfl rfl (by exact ⟨by (repeat' (first | exact trivial)), by (repeat' (first | exact trivial)), by (repeat' (first | exact trivial)), rfl, rfl⟩)) (.inl (by kernel_rfl)) (by kernel_rfl) fun _ => ?_
          (refine H.ts (T := tt) [25, 26] tt_ok (by kernel_rfl) (by kernel_rfl) (by kernel_rfl) (by intro ch a a' w h; obtain ⟨_, _, _, _, _, h, _⟩ := h; cases h) rfl ?sd122 ?_; (try (case sd122 => (repeat' (first | exact trivial | with_reducible refine zI ?_ ?_)))))
          (refine H.store (T := tt) 27 rfl (by kernel_rfl) (by kernel_rfl) tt_ok rfl rfl rfl rfl rfl rfl ?sd128 rfl (by kernel_rfl) ?_; (try (case sd128 => (repeat' (first | exact trivial | with_reducible refine zI ?_ ?_ | rfl | exact zN rfl)))))
          refine H.done (by kernel_rfl) ?_
          refine mapSay 62 (lineM (putL t.all a.line (lv ++ [t.ms.length])) (putX t.all ad2.xa a.line ya)) rfl (fun key => (mget_twice _ _ _ _ key).trans (put_line ya _ key ok2.xa)) ?_
          refine ownAs 90 (gOf (ptC mb') (lv ++ [t.ms.length])) rfl (show lv.length + 1 = (lv ++ [t.ms.length]).length by simp) (fun i hi => app1_h (ptC mb') lv t.ms.length _ rfl (by rw [ptC, hmbn]; rfl) hi) ?_
          refine ownAs 63 (gOf (fun b => [.v (ptV b)]) mb') rfl (show ad2.mb.length + 1 = mb'.length by rw [hmb']; simp) (fun i hi => by rw [hmb']; exact app1_h (fun b => [.v (ptV b)]) ad2.mb b76 _ rfl rfl hi) ?_
          refine rowsTo _ (Sub.drop (Sub.drop (Sub.self _))) ?_
          exact fun a' w h => ⟨(ya, yo), h.weak (by (repeat' (first | exact True.intro | exact Imp.refl _ | refine ⟨?_, ?_⟩))) (by unfold crtR; dsimp only; rw [htg1, htg2]; exact List.Sublist.refl _)⟩
        · refine H.o1 14 rfl (by kernel_rfl) (by kernel_rfl) (O.append (T := tt) tt_ok rfl rfl rfl rfl rfl rfl rfl rfl rfl rfl (by (repeat' (first | exact trivial | with_reducible refine zI ?_ ?_ | rfl))) ⟨rfl, by decide, by decide⟩ (by simp; omega)) (.inl (by kernel_rfl)) (by kernel_rfl) fun ya => ?_
          refine H.o1 21 rfl (by kernel_rfl) (by kernel_rfl) (O.append (T := tt) tt_ok rfl rfl rfl rfl rfl rfl rfl rfl rfl rfl (by (repeat' (first | exact trivial | with_reducible refine zI ?_ ?_ | rfl))) ⟨rfl, by decide, by decide⟩ (by simp; omega)) (.inl (by kernel_rfl)) (by kernel_rfl) fun yo => ?_
          refine H.tell 103 (.v ya) rfl (Imp.refv 90 ya) ?_
          refine H.o1 22 rfl (by kernel_rfl) (by kernel_rfl) (O.mapEntry (T := tt) (z := nilS) (kv := a.line.v) tt_ok KeyLine.kName rfl rfl rfl (by kernel_rfl) rfl (by kernel_rfl) rfl rfl rfl rfl (by exact ⟨by (repeat' (first | exact trivial)), by (repeat' (first | exact trivial)), rfl, hk⟩)) (.inl (by kernel_rfl)) (by kernel_rfl) fun st => ?_
          refine H.rebase ?_
          (refine H.ts (T := tt) [23] tt_ok (by kernel_rfl) (by kernel_rfl) (by kernel_rfl) (by intro ch a a' w h; obtain ⟨_, _, _, _, _, h, _⟩ := h; cases h) rfl ?sd123 ?_; (try (case sd123 => (repeat' (first | exact trivial | with_reducible refine zI ?_ ?_)))))
          refine H.o1 24 rfl (by kernel_rfl) (by kernel_rfl) (O.entryStore rfl rfl rfl rfl rfl rfl rfl (by exact ⟨by (repeat' (first | exact trivial)), by (repeat' (first | exact trivial)), by (repeat' (first | exact trivial)), rfl, rfl⟩)) (.inl (by kernel_rfl)) (by kernel_rfl) fun _ => ?_
          (refine H.ts (T := tt) [25, 26] tt_ok (by kernel_rfl) (by kernel_rfl) (by kernel_rfl) (by intro ch a a' w h; obtain ⟨_, _, _, _, _, h, _⟩ := h; cases h) rfl ?sd124 ?_; (try (case sd124 => (repeat' (first | exact trivial | with_reducible refine zI ?_ ?_)))))
          (refine H.store (T := tt) 27 rfl (by kernel_rfl) (by kernel_rfl) tt_ok rfl rfl rfl rfl rfl rfl ?sd129 rfl (by kernel_rfl) ?_; (try (case sd129 => (repeat' (first | exact trivial | with_reducible refine zI ?_ ?_ | rfl | exact zN rfl)))))
          refine H.done (by kernel_rfl) ?_
          refine mapSay 62 (lineM (putL t.all a.line (lv ++ [t.ms.length])) (putX t.all ad2.xa a.line ya)) rfl (fun key => (mget_twice _ _ _ _ key).trans (put_line ya _ key ok2.xa)) ?_
          refine ownAs 90 (gOf (ptC mb') (lv ++ [t.ms.length])) rfl (show lv.length + 1 = (lv ++ [t.ms.length]).length by simp) (fun i hi => app1_h (ptC mb') lv t.ms.length _ rfl (by rw [ptC, hmbn]; rfl) hi) ?_
          refine ownAs 63 (gOf (fun b => [.v (ptV b)]) mb') rfl (show ad2.mb.length + 1 = mb'.length by rw [hmb']; simp) (fun i hi => by rw [hmb']; exact app1_h (fun b => [.v (ptV b)]) ad2.mb b76 _ rfl rfl hi) ?_
          refine rowsTo _ (Sub.drop (Sub.drop (Sub.self _))) ?_
          exact fun a' w h => ⟨(ya, yo), h.weak (by (repeat' (first | exact True.intro | exact Imp.refl _ | refine ⟨?_, ?_⟩))) (by unfold crtR; dsimp only; rw [htg1, htg2]; exact List.Sublist.refl _)⟩
      · refine H.o1 13 rfl (by kernel_rfl) (by kernel_rfl) (O.buildSlice (T := tt) 94 tt_ok rfl rfl rfl rfl rfl rfl (by decide) (by decide) rfl rfl (by (repeat' (first | exact trivial | with_reducible refine zI ?_ ?_ | rfl | exact zN rfl)))) (.inr rfl) rfl fun x102 => ?_
        refine H.o1 14 rfl (by kernel_rfl) (by kernel_rfl) (O.append (T := tt) tt_ok rfl rfl rfl rfl rfl rfl rfl rfl rfl rfl (by (repeat' (first | exact trivial | with_reducible refine zI ?_ ?_ | rfl))) ⟨rfl, by decide, by decide⟩ (by simp; omega)) (.inl (by kernel_rfl)) (by kernel_rfl) fun ya => ?_
        refine H.o1 21 rfl (by kernel_rfl) (by kernel_rfl) (O.append (T := tt) tt_ok rfl rfl rfl rfl rfl rfl rfl rfl rfl rfl (by (repeat' (first | exact trivial | with_reducible refine zI ?_ ?_ | rfl))) ⟨rfl, by decide, by decide⟩ (by simp; omega)) (.inl (by kernel_rfl)) (by kernel_rfl) fun yo => ?_
        refine H.tell 103 (.v ya) rfl (Imp.refv 90 ya) ?_
        refine H.o1 22 rfl (by kernel_rfl) (by kernel_rfl) (O.mapEntry (T := tt) (z := nilS) (kv := a.line.v) tt_ok KeyLine.kName rfl rfl rfl (by kernel_rfl) rfl (by kernel_rfl) rfl rfl rfl rfl (by exact ⟨by (repeat' (first | exact trivial)), by (repeat' (first | exact trivial)), rfl, hk⟩)) (.inl (by kernel_rfl)) (by kernel_rfl) fun st => ?_
        refine H.rebase ?_
        (refine H.ts (T := tt) [23] tt_ok (by kernel_rfl) (by kernel_rfl) (by kernel_rfl) (by intro ch a a' w h; obtain ⟨_, _, _, _, _, h, _⟩ := h; cases h) rfl ?sd125 ?_; (try (case sd125 => (repeat' (first | exact trivial | with_reducible refine zI ?_ ?_)))))
        refine H.o1 24 rfl (by kernel_rfl) (by kernel_rfl) (O.entryStore rfl rfl rfl rfl rfl rfl rfl (by exact ⟨by (repeat' (first | exact trivial)), by (repeat' (first | exact trivial)), by (repeat' (first | exact trivial)), rfl, rfl⟩)) (.inl (by kernel_rfl)) (by kernel_rfl) fun _ => ?_
        (refine H.ts (T := tt) [25, 26] tt_ok (by kernel_rfl) (by kernel_rfl) (by kernel_rfl) (by intro ch a a' w h; obtain ⟨_, _, _, _, _, h, _⟩ := h; cases h) rfl ?sd126 ?_; (try (case sd126 => (repeat' (first | exact trivial | with_reducible refine zI ?_ ?_)))))
        (refine H.store (T := tt) 27 rfl (by kernel_rfl) (by kernel_rfl) tt_ok rfl rfl rfl rfl rfl rfl ?sd130 rfl (by kernel_rfl) ?_; (try (case sd130 => (repeat' (first | exact trivial | with_reducible refine zI ?_ ?_ | rfl | exact zN rfl)))))
        refine H.done (by kernel_rfl) ?_
        refine mapSay 62 (lineM (putL t.all a.line (lv ++ [t.ms.length])) (putX t.all ad2.xa a.line ya)) rfl (fun key => (mget_twice _ _ _ _ key).trans (put_line ya _ key ok2.xa)) ?_
        refine ownAs 90 (gOf (ptC mb') (lv ++ [t.ms.length])) rfl (show lv.length + 1 = (lv ++ [t.ms.length]).length by simp) (fun i hi => app1_h (ptC mb') lv t.ms.length _ rfl (by rw [ptC, hmbn]; rfl) hi) ?_
        refine ownAs 63 (gOf (fun b => [.v (ptV b)]) mb') rfl (show ad2.mb.length + 1 = mb'.length by rw [hmb']; simp) (fun i hi => by rw [hmb']; exact app1_h (fun b => [.v (ptV b)]) ad2.mb b76 _ rfl rfl hi) ?_
        refine rowsTo _ (Sub.drop (Sub.drop (Sub.self _))) ?_
        exact fun a' w h => ⟨(ya, yo), h.weak (by (repeat' (first | exact True.intro | exact Imp.refl _ | refine ⟨?_, ?_⟩))) (by unfold crtR; dsimp only; rw [htg1, htg2]; exact List.Sublist.refl _)⟩
    rintro ⟨ya, yo⟩
    dsimp only
    rw [hlv]
    refine put1 _ (inB (open_put ya _ ok2.xa).symm).symm ?_
    ((repeat refine S.seq ?_); refine S.region (L.go (T := tt) tt_ok rfl rfl ?sd105 ?_); (try (case sd105 => (repeat' (first | exact trivial | with_reducible refine zI ?_ ?_ | (unfold fits; omega))))); try (refine L.nil ?_))
    refine rowsEq (courtR { ad2 with mb := mb', xa := putX t.all ad2.xa a.line ya, xo := yo } (pubN s a (i + 1))) (by rw [hti]; rfl) ?_
    exact fun a' w h => ⟨⟨(i + 1, { ad2 with mb := mb', xa := putX t.all ad2.xa a.line ya, xo := yo }), by show i + 1 ≤ _; omega, by rw [hti, hmb']; exact ok2.addM ya yo b76, hc2, hb2⟩, by show a.many.toNat - (i + 1) < a.many.toNat - i; omega, h.weakP (by (repeat' (first | exact True.intro | exact Imp.refl _ | refine ⟨?_, ?_⟩))) (Sub.self _)⟩
  have hin : i = a.many.toNat := by have := of_dec' hc; omega
  ((repeat refine S.seq ?_); refine S.region (L.go (T := tt) tt_ok rfl rfl ?sd106 ?_); (try (case sd106 => (repeat' (first | exact trivial | with_reducible refine zI ?_ ?_)))); try (refine L.nil ?_))
  ((repeat refine S.seq ?_); refine S.ret ?_)
  rw [h1, e2, ← hin, ← ht]
  exact E.ret (T := tt) tt_ok rfl rfl (by (repeat' (first | exact trivial | with_reducible refine zI ?_ ?_))) (F' := courtR ad2 t) (Imp.refl _) (List.Sublist.refl _) ⟨ad2, rfl, rfl, ok2, hc2⟩
end Go.Proofs.YtfdneepgpekmiaaDoor

/- The judge: an act. -/
namespace Go.Proofs.YtfdneepgpekmiaaDoor
set_option linter.unusedVariables false
set_option linter.unusedSimpArgs false
set_option maxHeartbeats 8000000
open Go.RowKit
set_option maxRecDepth 4000

structure JInv (s : Crt) (n : Nat) : Prop where
  ok : CrtOk s
  keys : ∀ m ∈ s.ms, m.m.key.size ≤ 1000
  bl : s.bs.length ≤ n

theorem set_mem {α : Type} {l : List α} {i : Nat} {x y : α} (h : y ∈ l.set i x) : y ∈ l ∨ y = x := List.mem_or_eq_of_mem_set h
theorem ms_upd {s : Crt} {n i : Nat} {x : MsD} (h : JInv s n) (hi : i < s.ms.length) (hb : x.bt = (s.ms.getD i default).bt) (hm : x.m = (s.ms.getD i default).m) {t : Crt} (h1 : t.bat = s.bat) (h2 : t.all = s.all) (h3 : t.bs = s.bs) (h4 : t.ms = s.ms.set i x) (h5 : ∀ p ∈ t.holds, p ∈ s.holds ∨ p.2 < s.ms.length) (h6 : ∀ p ∈ t.acks, p ∈ s.acks ∨ p.2 < s.ms.length) : JInv t n := by
  have e : t.ms.length = s.ms.length := by rw [h4, List.length_set]
  have hx : s.ms.getD i default ∈ s.ms := by rw [getD_get hi]; exact List.getElem_mem _
  have hmem : ∀ m ∈ t.ms, m ∈ s.ms ∨ m = x := fun m hm => by rw [h4] at hm; exact set_mem hm
  obtain ⟨o1, o2, o3, o4, o5, o6, o7, o8, o9⟩ := h.ok
  refine ⟨⟨by rw [h1, h3]; exact o1, by rw [h2, e]; exact o2, fun m hm' => ?_, fun p hp => ?_, fun p hp => ?_, by rw [h3]; exact o6, by rw [e, h3]; exact o7, by rw [h1, h3]; exact o8, by rw [h2, e]; exact o9⟩, fun m hm' => ?_, by rw [h3]; exact h.bl⟩
  · rw [h3]
    rcases hmem m hm' with h | h
    · exact o3 m h
    · rw [h, hb]; exact o3 _ hx
  · rw [e]
    rcases h5 p hp with h | h
    · exact o4 p h
    · exact h
  · rw [e]
    rcases h6 p hp with h | h
    · exact o5 p h
    · exact h
  · rcases hmem m hm' with h' | h'
    · exact h.keys m h'
    · rw [h', hm]; exact h.keys _ hx
theorem told_inv {s : Crt} {n : Nat} (h : JInv s n) (a : ActD) (st : Int) : JInv (toldJS s a st) n := by
  unfold toldJS
  split
  · obtain ⟨o1, o2, o3, o4, o5, o6, o7, o8, o9⟩ := h.ok
    have e : ∀ x : BatD, ∀ j, (s.bs.set j x).length = s.bs.length := fun x j => List.length_set
    exact ⟨⟨by simpa only [e] using o1, o2, by simpa only [e] using o3, o4, o5, by simpa only [e] using o6, by simpa only [e] using o7, by simpa only [e] using o8, o9⟩, h.keys, by simpa only [e] using h.bl⟩
  · exact h
theorem settled_inv {s : Crt} {n : Nat} (h : JInv s n) (a : ActD) : JInv (settledJ s a) n := by
  unfold settledJ
  split
  · rename_i i hi
    exact ms_upd (x := { s.ms.getD i default with fin := true }) h (h.ok.acks _ (lkT_mem hi)) rfl rfl rfl rfl rfl rfl (fun p hp => .inl hp) (fun p hp => .inl (List.mem_filter.1 hp).1)
  · exact h
theorem leaves0_inv {s : Crt} {n : Nat} (h : JInv s n) (a : ActD) (i : Nat) : JInv (leaves0 s a i) n := by
  obtain ⟨o1, o2, o3, o4, o5, o6, o7, o8, o9⟩ := h.ok
  exact ⟨⟨o1, o2, o3, fun p hp => o4 p (List.mem_filter.1 hp).1, o5, o6, o7, o8, o9⟩, h.keys, h.bl⟩
theorem leaves_inv {s : Crt} {n : Nat} (h : JInv s n) (a : ActD) : JInv (leavesJ s a) n := by
  unfold leavesJ
  split
  · rename_i i hi
    have hil : i < s.ms.length := h.ok.holds _ (lkT_mem hi)
    split
    · exact ms_upd (x := { s.ms.getD i default with ack := true }) (s := leaves0 s a i) (leaves0_inv h a i) hil rfl rfl rfl rfl rfl rfl (fun p hp => .inl hp) (fun p hp => by
        rcases List.mem_cons.1 hp with rfl | hp
        · exact .inr hil
        · exact .inl hp)
    · exact leaves0_inv h a i
  · exact h
theorem dI_lt {s : Crt} {a : ActD} {n : Nat} (h : JInv s n) (hd : delivB s a = true) : dI s a < s.ms.length := by
  have h1 : dNo1 s a = false := by
    unfold delivB at hd
    simp only [Bool.and_eq_true, Bool.not_eq_true'] at hd
    exact hd.1.1
  simp only [dNo1, Bool.or_eq_false_iff, decide_eq_false_iff_not] at h1
  have hlt : (a.m.seq - 1).toNat < (dL s a).length := by omega
  have hm : dI s a ∈ dL s a := by rw [dI, getD_get hlt]; exact List.getElem_mem _
  rcases lk_mem (l := s.all) (k := a.mline) with h' | ⟨p, hp, h'⟩
  · rw [dL, h'] at hm; cases hm
  · rw [dL, ← h'] at hm; exact h.ok.all p hp _ hm
theorem deliv_inv {s : Crt} {n : Nat} (h : JInv s n) (a : ActD) : JInv (delivS s a) n := by
  unfold delivS
  split
  · rename_i hd
    exact ms_upd (x := { dX s a with del := true, ack := false }) h (dI_lt h hd) rfl rfl rfl rfl rfl rfl (fun p hp => by
      rcases List.mem_cons.1 hp with rfl | hp
      · exact .inr (dI_lt h hd)
      · exact .inl hp) (fun p hp => .inl hp)
  · exact h
theorem pubN_keys {s : Crt} {a : ActD} (hk : a.key.size ≤ 1000) (h : ∀ m ∈ s.ms, m.m.key.size ≤ 1000) : ∀ i, ∀ m ∈ (pubN s a i).ms, m.m.key.size ≤ 1000
  | 0 => h
  | i + 1 => fun m hm => by
    rcases List.mem_append.1 hm with h1 | h1
    · exact pubN_keys hk h i m h1
    · rw [List.mem_singleton] at h1
      rw [h1]
      exact hk
theorem pub_inv {s : Crt} {n : Nat} (h : JInv s n) (hn : n < 1000) (a : ActD) (hk : a.key.size ≤ 1000) : JInv (pubJ s a) (n + 1) := by
  have hb := h.bl
  unfold pubJ
  split
  · exact ⟨h.ok, h.keys, by omega⟩
  · rename_i hp
    have hr : a.many ≤ 8 := by
      simp only [pubNo, Bool.not_eq_true, Bool.or_eq_false_iff, decide_eq_false_iff_not] at hp
      omega
    exact ⟨pubN_ok h.ok (by omega) _ (by omega), pubN_keys hk h.keys _, by rw [pubN_bs, List.length_append]; simp; omega⟩

/-- One act. -/
def argNoJ (a : ActD) : Bool := ((decide (a.cl < 0) || decide (a.cl ≥ 4)) || decide (a.q < 0)) || decide (a.q ≥ 4)
def isLeave (a : ActD) : Bool := a.kind == 5 || (a.kind == 7 || a.kind == 8)
def rightJ (s : Crt) (a : ActD) : Bool × Crt :=
  if argNoJ a then (false, s) else if a.kind = 1 then (!pubNo s a, pubJ s a) else if a.kind = 2 then (toldJB s a, toldJS s a 1) else if a.kind = 3 then (toldJB s a, toldJS s a 2)
  else if a.kind = 4 then (delivB s a, delivS s a) else if isLeave a then ((lkT s.holds a.tagk).isSome, leavesJ s a) else if a.kind = 6 then ((lkT s.acks a.tagk).isSome, settledJ s a) else (a.kind == 9, s)
theorem right_inv {s : Crt} {n : Nat} (h : JInv s n) (hn : n < 1000) (a : ActD) (hk : a.key.size ≤ 1000) : JInv (rightJ s a).2 (n + 1) := by
  have up : ∀ {t : Crt}, JInv t n → JInv t (n + 1) := fun h => ⟨h.ok, h.keys, Nat.le_succ_of_le h.bl⟩
  unfold rightJ
  split
  · exact up h
  split
  · exact pub_inv h hn a hk
  split
  · exact up (told_inv h a 1)
  split
  · exact up (told_inv h a 2)
  split
  · exact up (deliv_inv h a)
  split
  · exact up (leaves_inv h a)
  split
  · exact up (settled_inv h a)
  · exact up h
theorem AdOk.same {ad : Adr} {s t : Crt} (h : AdOk ad s) (h1 : t.bat.length = s.bat.length) (h2 : t.all.length = s.all.length) (h3 : t.bs.length = s.bs.length) (h4 : t.ms.length = s.ms.length) : AdOk ad t :=
  ⟨h.xb.trans h1.symm, h.xa.trans h2.symm, h.bb.trans h3.symm, h.mb.trans h4.symm⟩
theorem told_ad {ad : Adr} {s : Crt} (h : AdOk ad s) (a : ActD) (st : Int) : AdOk ad (toldJS s a st) := by
  unfold toldJS
  split
  · exact h.same rfl rfl List.length_set rfl
  · exact h
theorem settled_ad {ad : Adr} {s : Crt} (h : AdOk ad s) (a : ActD) : AdOk ad (settledJ s a) := by
  unfold settledJ
  split
  · exact h.same rfl rfl rfl List.length_set
  · exact h
theorem leaves_ad {ad : Adr} {s : Crt} (h : AdOk ad s) (a : ActD) : AdOk ad (leavesJ s a) := by
  unfold leavesJ
  split
  · split
    · exact h.same rfl rfl rfl List.length_set
    · exact h.same rfl rfl rfl rfl
  · exact h
theorem deliv_ad {ad : Adr} {s : Crt} (h : AdOk ad s) (a : ActD) : AdOk ad (delivS s a) := by
  unfold delivS
  split
  · exact h.same rfl rfl rfl List.length_set
  · exact h

theorem jright_p (ad : Adr) (s : Crt) (a : ActD) (n : Nat) (ok : AdOk ad s) (ji : JInv s n) (hn : n < 1000) (ao : ActOk a) : FnC Tryd.prog 64 [.ptr 60 ad.c 0, a.av] (courtR ad s)
    (fun r F' => ∃ ad', r = .v (.bool (rightJ s a).1) ∧ F' = courtR ad' (rightJ s a).2 ∧ AdOk ad' (rightJ s a).2 ∧ ad'.c = ad.c) := by
  have co := ji.ok
  have hbl := ji.bl
  refine FnC.intro Tryd.func64 rfl Tryd.ntmps64 rfl ?_; intro off w0
  repeat refine S.seq ?_
  refine S.region ?_
  refine L.box 91 rfl rfl rfl rfl rfl trivial rfl fun b3 => ?_
  (refine L.go (T := tt) tt_ok rfl rfl ?sd143 ?_; (try (case sd143 => (repeat' (first | exact trivial | with_reducible refine zI ?_ ?_)))); try (refine L.nil ?_))
  refine freezeBlk 3 91 rfl rfl rfl ?_
  refine rowsEq (courtR ad s) rfl ?_
  ((repeat refine S.seq ?_); refine S.region (L.go (T := tt) tt_ok rfl rfl ?sd131 ?_); (try (case sd131 => (repeat' (first | exact trivial | exact zA | with_reducible refine zI ?_ ?_ | exact zB | exact zC | exact zE)))); try (refine L.nil ?_))
  refine slotAs 22 (.v (.bool (argNoJ a))) rfl (Imp.of_eq rfl) ?_
  ((repeat refine S.seq ?_); refine S.cond rfl (fun h0 => ?_) (fun h0 => ?_) <;> (try first | refine S.skip ?_ | refine S.exit ?_))
  · have e : rightJ s a = (false, s) := if_pos h0
    ((repeat refine S.seq ?_); refine S.region (L.go (T := tt) tt_ok rfl rfl ?sd132 ?_); (try (case sd132 => (repeat' (first | exact trivial | with_reducible refine zI ?_ ?_)))); try (refine L.nil ?_))
    ((repeat refine S.seq ?_); refine S.ret ?_)
    rw [e]
    exact E.ret (T := tt) tt_ok rfl rfl (by (repeat' (first | exact trivial | with_reducible refine zI ?_ ?_))) (F' := courtR ad s) (Imp.refl _) (List.Sublist.refl _) ⟨ad, rfl, rfl, ok, rfl⟩
  have hcl : a.cl = 0 ∨ a.cl = 1 ∨ a.cl = 2 ∨ a.cl = 3 := by
    simp only [argNoJ, Bool.or_eq_false_iff, decide_eq_false_iff_not] at h0
    omega
  ((repeat refine S.seq ?_); refine S.region (L.go (T := tt) tt_ok rfl rfl ?sd133 ?_); (try (case sd133 => (repeat' (first | exact trivial | with_reducible refine zI ?_ ?_)))); try (refine L.nil ?_))
  repeat refine S.seq ?_
  refine S.block ?_
  ((repeat refine S.seq ?_); refine S.region (L.go (T := tt) tt_ok rfl rfl ?sd134 ?_); (try (case sd134 => (repeat' (first | exact trivial | with_reducible refine zI ?_ ?_)))); try (refine L.nil ?_))
  ((repeat refine S.seq ?_); refine S.cond rfl (fun h1 => ?_) (fun h1 => ?_) <;> (try first | refine S.skip ?_ | refine S.exit ?_))
  · have k1 : a.kind = 1 := by simpa using h1
    have e : rightJ s a = (!pubNo s a, pubJ s a) := by rw [rightJ, if_neg (by rw [h0]; decide), if_pos k1]
    repeat refine S.seq ?_
    refine S.region ?_
    (refine L.go (T := tt) tt_ok rfl rfl ?sd144 ?_; (try (case sd144 => (repeat' (first | exact trivial | with_reducible refine zI ?_ ?_ | rfl)))); try (refine L.nil ?_))
    refine L.call (G := courtR ad s) (H := []) rfl rfl rfl rfl rfl rfl rfl ⟨trivial, by (repeat' (first | exact trivial | with_reducible refine zI ?_ ?_))⟩ rfl (by exact Imps.refl [.ptr 60 ad.c 0, a.av]) (by rw [List.append_nil]) (jpublish_p ad s a ok co ao (by omega)) ?_
    rintro r F' ⟨ad', rfl, rfl, ok', hc'⟩
    refine rowsEq (courtR ad' (pubJ s a)) (List.append_nil _) ?_
    (refine L.go (T := tt) tt_ok rfl rfl ?sd145 ?_; (try (case sd145 => (repeat' (first | exact trivial | with_reducible refine zI ?_ ?_)))); try (refine L.nil ?_))
    ((repeat refine S.seq ?_); refine S.ret ?_)
    rw [e]
    exact E.ret (T := tt) tt_ok rfl rfl (by (repeat' (first | exact trivial | with_reducible refine zI ?_ ?_))) (F' := courtR ad' (pubJ s a)) (Imp.refl _) (List.Sublist.refl _) ⟨ad', rfl, rfl, ok', hc'⟩
  have k1 : ¬ a.kind = 1 := by simpa using h1
  ((repeat refine S.seq ?_); refine S.region (L.go (T := tt) tt_ok rfl rfl ?sd135 ?_); (try (case sd135 => (repeat' (first | exact trivial | with_reducible refine zI ?_ ?_)))); try (refine L.nil ?_))
  ((repeat refine S.seq ?_); refine S.cond rfl (fun h2 => ?_) (fun h2 => ?_) <;> (try first | refine S.skip ?_ | refine S.exit ?_))
  · have k2 : a.kind = 2 := by simpa using h2
    have e : rightJ s a = (toldJB s a, toldJS s a 1) := by rw [rightJ, if_neg (by rw [h0]; decide), if_neg k1, if_pos k2]
    repeat refine S.seq ?_
    refine S.region ?_
    (refine L.go (T := tt) tt_ok rfl rfl ?sd146 ?_; (try (case sd146 => (repeat' (first | exact trivial | with_reducible refine zI ?_ ?_ | rfl)))); try (refine L.nil ?_))
    refine L.call (G := courtR ad s) (H := []) rfl rfl rfl rfl rfl rfl rfl ⟨trivial, by (repeat' (first | exact trivial | with_reducible refine zI ?_ ?_))⟩ rfl (by exact Imps.refl [.ptr 60 ad.c 0, a.av, .v (.int .i64 1)]) (by rw [List.append_nil]) (jtold_p ad s a 1 ok co ao) ?_
    rintro r F' ⟨rfl, rfl⟩
    refine rowsEq (courtR ad (toldJS s a 1)) (List.append_nil _) ?_
    (refine L.go (T := tt) tt_ok rfl rfl ?sd147 ?_; (try (case sd147 => (repeat' (first | exact trivial | with_reducible refine zI ?_ ?_)))); try (refine L.nil ?_))
    ((repeat refine S.seq ?_); refine S.ret ?_)
    rw [e]
    exact E.ret (T := tt) tt_ok rfl rfl (by (repeat' (first | exact trivial | with_reducible refine zI ?_ ?_))) (F' := courtR ad (toldJS s a 1)) (Imp.refl _) (List.Sublist.refl _) ⟨ad, rfl, rfl, told_ad ok a 1, rfl⟩
  have k2 : ¬ a.kind = 2 := by simpa using h2
  ((repeat refine S.seq ?_); refine S.region (L.go (T := tt) tt_ok rfl rfl ?sd136 ?_); (try (case sd136 => (repeat' (first | exact trivial | with_reducible refine zI ?_ ?_)))); try (refine L.nil ?_))
  ((repeat refine S.seq ?_); refine S.cond rfl (fun h3 => ?_) (fun h3 => ?_) <;> (try first | refine S.skip ?_ | refine S.exit ?_))
  · have k3 : a.kind = 3 := by simpa using h3
    have e : rightJ s a = (toldJB s a, toldJS s a 2) := by rw [rightJ, if_neg (by rw [h0]; decide), if_neg k1, if_neg k2, if_pos k3]
    repeat refine S.seq ?_
    refine S.region ?_
    (refine L.go (T := tt) tt_ok rfl rfl ?sd148 ?_; (try (case sd148 => (repeat' (first | exact trivial | with_reducible refine zI ?_ ?_ | rfl)))); try (refine L.nil ?_))
    refine L.call (G := courtR ad s) (H := []) rfl rfl rfl rfl rfl rfl rfl ⟨trivial, by (repeat' (first | exact trivial | with_reducible refine zI ?_ ?_))⟩ rfl (by exact Imps.refl [.ptr 60 ad.c 0, a.av, .v (.int .i64 2)]) (by rw [List.append_nil]) (jtold_p ad s a 2 ok co ao) ?_
    rintro r F' ⟨rfl, rfl⟩
    refine rowsEq (courtR ad (toldJS s a 2)) (List.append_nil _) ?_
    (refine L.go (T := tt) tt_ok rfl rfl ?sd149 ?_; (try (case sd149 => (repeat' (first | exact trivial | with_reducible refine zI ?_ ?_)))); try (refine L.nil ?_))
    ((repeat refine S.seq ?_); refine S.ret ?_)
    rw [e]
    exact E.ret (T := tt) tt_ok rfl rfl (by (repeat' (first | exact trivial | with_reducible refine zI ?_ ?_))) (F' := courtR ad (toldJS s a 2)) (Imp.refl _) (List.Sublist.refl _) ⟨ad, rfl, rfl, told_ad ok a 2, rfl⟩
  have k3 : ¬ a.kind = 3 := by simpa using h3
  ((repeat refine S.seq ?_); refine S.region (L.go (T := tt) tt_ok rfl rfl ?sd137 ?_); (try (case sd137 => (repeat' (first | exact trivial | with_reducible refine zI ?_ ?_)))); try (refine L.nil ?_))
  ((repeat refine S.seq ?_); refine S.cond rfl (fun h4 => ?_) (fun h4 => ?_) <;> (try first | refine S.skip ?_ | refine S.exit ?_))
  · have k4 : a.kind = 4 := by simpa using h4
    have e : rightJ s a = (delivB s a, delivS s a) := by rw [rightJ, if_neg (by rw [h0]; decide), if_neg k1, if_neg k2, if_neg k3, if_pos k4]
    repeat refine S.seq ?_
    refine S.region ?_
    (refine L.go (T := tt) tt_ok rfl rfl ?sd150 ?_; (try (case sd150 => (repeat' (first | exact trivial | with_reducible refine zI ?_ ?_ | rfl)))); try (refine L.nil ?_))
    refine L.call (G := courtR ad s) (H := []) rfl rfl rfl rfl rfl rfl rfl ⟨trivial, by (repeat' (first | exact trivial | with_reducible refine zI ?_ ?_))⟩ rfl (by exact Imps.refl [.ptr 60 ad.c 0, a.av]) (by rw [List.append_nil]) (jdeliver_p ad s a ok co ao hcl) ?_
    rintro r F' ⟨rfl, rfl⟩
    refine rowsEq (courtR ad (delivS s a)) (List.append_nil _) ?_
    (refine L.go (T := tt) tt_ok rfl rfl ?sd151 ?_; (try (case sd151 => (repeat' (first | exact trivial | with_reducible refine zI ?_ ?_)))); try (refine L.nil ?_))
    ((repeat refine S.seq ?_); refine S.ret ?_)
    rw [e]
    exact E.ret (T := tt) tt_ok rfl rfl (by (repeat' (first | exact trivial | with_reducible refine zI ?_ ?_))) (F' := courtR ad (delivS s a)) (Imp.refl _) (List.Sublist.refl _) ⟨ad, rfl, rfl, deliv_ad ok a, rfl⟩
  have k4 : ¬ a.kind = 4 := by simpa using h4
  ((repeat refine S.seq ?_); refine S.region (L.go (T := tt) tt_ok rfl rfl ?sd138 ?_); (try (case sd138 => (repeat' (first | exact trivial | with_reducible refine zI ?_ ?_)))); try (refine L.nil ?_))
  refine S.cut (ι := Unit) (fun _ => [(0, .ptr 60 ad.c 0), (3, .pel 14 a.cells), (24, .v (.int .i64 a.kind)), (45, .v (.bool (isLeave a)))]) (fun _ => courtR ad s) ?_ ?_
  · ((repeat refine S.seq ?_); refine S.cond rfl (fun h5 => ?_) (fun h5 => ?_) <;> (try first | refine S.skip ?_ | refine S.exit ?_))
    · refine slotAs 45 (.v (.bool (isLeave a))) rfl (Imp.of_eq (by rw [isLeave, h5]; rfl)) ?_
      exact fun a' w h => ⟨(), h.weak (by (repeat' (first | exact True.intro | exact Imp.refl _ | refine ⟨?_, ?_⟩))) (List.Sublist.refl _)⟩
    ((repeat refine S.seq ?_); refine S.region (L.go (T := tt) tt_ok rfl rfl ?sd139 ?_); (try (case sd139 => (repeat' (first | exact trivial | with_reducible refine zI ?_ ?_)))); try (refine L.nil ?_))
    ((repeat refine S.seq ?_); refine S.cond rfl (fun h7 => ?_) (fun h7 => ?_) <;> (try first | refine S.skip ?_ | refine S.exit ?_))
    · refine slotAs 45 (.v (.bool (isLeave a))) rfl (Imp.of_eq (by rw [isLeave, h7, h5]; rfl)) ?_
      exact fun a' w h => ⟨(), h.weak (by (repeat' (first | exact True.intro | exact Imp.refl _ | refine ⟨?_, ?_⟩))) (List.Sublist.refl _)⟩
    ((repeat refine S.seq ?_); refine S.region (L.go (T := tt) tt_ok rfl rfl ?sd140 ?_); (try (case sd140 => (repeat' (first | exact trivial | with_reducible refine zI ?_ ?_)))); try (refine L.nil ?_))
    refine slotAs 45 (.v (.bool (isLeave a))) rfl (Imp.of_eq (by rw [isLeave, h7, h5]; rfl)) ?_
    exact fun a' w h => ⟨(), h.weak (by (repeat' (first | exact True.intro | exact Imp.refl _ | refine ⟨?_, ?_⟩))) (List.Sublist.refl _)⟩
  rintro ⟨⟩
  ((repeat refine S.seq ?_); refine S.cond rfl (fun h5 => ?_) (fun h5 => ?_) <;> (try first | refine S.skip ?_ | refine S.exit ?_))
  · have e : rightJ s a = ((lkT s.holds a.tagk).isSome, leavesJ s a) := by rw [rightJ, if_neg (by rw [h0]; decide), if_neg k1, if_neg k2, if_neg k3, if_neg k4, if_pos h5]
    repeat refine S.seq ?_
    refine S.region ?_
    (refine L.go (T := tt) tt_ok rfl rfl ?sd152 ?_; (try (case sd152 => (repeat' (first | exact trivial | with_reducible refine zI ?_ ?_ | rfl)))); try (refine L.nil ?_))
    refine L.call (G := courtR ad s) (H := []) rfl rfl rfl rfl rfl rfl rfl ⟨trivial, by (repeat' (first | exact trivial | with_reducible refine zI ?_ ?_))⟩ rfl (by exact Imps.refl [.ptr 60 ad.c 0, a.av]) (by rw [List.append_nil]) (jleaves_p ad s a ok co ao (fun m hm => by have := ji.keys m hm; unfold fitS; omega)) ?_
    rintro r F' ⟨rfl, rfl⟩
    refine rowsEq (courtR ad (leavesJ s a)) (List.append_nil _) ?_
    (refine L.go (T := tt) tt_ok rfl rfl ?sd153 ?_; (try (case sd153 => (repeat' (first | exact trivial | with_reducible refine zI ?_ ?_)))); try (refine L.nil ?_))
    ((repeat refine S.seq ?_); refine S.ret ?_)
    rw [e]
    exact E.ret (T := tt) tt_ok rfl rfl (by (repeat' (first | exact trivial | with_reducible refine zI ?_ ?_))) (F' := courtR ad (leavesJ s a)) (Imp.refl _) (List.Sublist.refl _) ⟨ad, rfl, rfl, leaves_ad ok a, rfl⟩
  ((repeat refine S.seq ?_); refine S.region (L.go (T := tt) tt_ok rfl rfl ?sd141 ?_); (try (case sd141 => (repeat' (first | exact trivial | with_reducible refine zI ?_ ?_)))); try (refine L.nil ?_))
  ((repeat refine S.seq ?_); refine S.cond rfl (fun h6 => ?_) (fun h6 => ?_) <;> (try first | refine S.skip ?_ | refine S.exit ?_))
  · have k6 : a.kind = 6 := by simpa using h6
    have e : rightJ s a = ((lkT s.acks a.tagk).isSome, settledJ s a) := by rw [rightJ, if_neg (by rw [h0]; decide), if_neg k1, if_neg k2, if_neg k3, if_neg k4, if_neg (by rw [h5]; decide), if_pos k6]
    repeat refine S.seq ?_
    refine S.region ?_
    (refine L.go (T := tt) tt_ok rfl rfl ?sd154 ?_; (try (case sd154 => (repeat' (first | exact trivial | with_reducible refine zI ?_ ?_ | rfl)))); try (refine L.nil ?_))
    refine L.call (G := courtR ad s) (H := []) rfl rfl rfl rfl rfl rfl rfl ⟨trivial, by (repeat' (first | exact trivial | with_reducible refine zI ?_ ?_))⟩ rfl (by exact Imps.refl [.ptr 60 ad.c 0, a.av]) (by rw [List.append_nil]) (jsettled_p ad s a ok co ao) ?_
    rintro r F' ⟨rfl, rfl⟩
    refine rowsEq (courtR ad (settledJ s a)) (List.append_nil _) ?_
    (refine L.go (T := tt) tt_ok rfl rfl ?sd155 ?_; (try (case sd155 => (repeat' (first | exact trivial | with_reducible refine zI ?_ ?_)))); try (refine L.nil ?_))
    ((repeat refine S.seq ?_); refine S.ret ?_)
    rw [e]
    exact E.ret (T := tt) tt_ok rfl rfl (by (repeat' (first | exact trivial | with_reducible refine zI ?_ ?_))) (F' := courtR ad (settledJ s a)) (Imp.refl _) (List.Sublist.refl _) ⟨ad, rfl, rfl, settled_ad ok a, rfl⟩
  have k6 : ¬ a.kind = 6 := by simpa using h6
  have e : rightJ s a = (a.kind == 9, s) := by rw [rightJ, if_neg (by rw [h0]; decide), if_neg k1, if_neg k2, if_neg k3, if_neg k4, if_neg (by rw [h5]; decide), if_neg k6]
  ((repeat refine S.seq ?_); refine S.region (L.go (T := tt) tt_ok rfl rfl ?sd142 ?_); (try (case sd142 => (repeat' (first | exact trivial | with_reducible refine zI ?_ ?_)))); try (refine L.nil ?_))
  ((repeat refine S.seq ?_); refine S.ret ?_)
  rw [e]
  exact E.ret (T := tt) tt_ok rfl rfl (by (repeat' (first | exact trivial | with_reducible refine zI ?_ ?_))) (F' := courtR ad s) (Imp.refl _) (List.Sublist.refl _) ⟨ad, rfl, rfl, ok, rfl⟩
end Go.Proofs.YtfdneepgpekmiaaDoor
