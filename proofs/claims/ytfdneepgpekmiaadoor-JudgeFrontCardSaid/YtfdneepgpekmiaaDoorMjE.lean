/- Texts of this proof, laid together: JdA, JdB, JdC, JdD, JdE, JdF. -/
import Derived.Test.YtfdneepgpekmiaaDoorMjC
import Derived.Test.YtfdneepgpekmiaaDoorMjD
/- The judge: what it keeps, as rows; beginning. -/
namespace Go.Proofs.YtfdneepgpekmiaaDoor
set_option linter.unusedVariables false
set_option linter.unusedSimpArgs false
set_option maxHeartbeats 8000000
open Go.RowKit
set_option maxRecDepth 4000

structure ActD where
  kind : Int
  cl : Int
  q : Int
  seq : Int
  tag : Int
  code : Int
  key : ByteArray
  body : ByteArray
  many : Int
  m : Msg
  deriving DecidableEq
instance : Inhabited ActD := ⟨⟨0, 0, 0, 0, 0, 0, ByteArray.empty, ByteArray.empty, 0, default⟩⟩
def ActD.cells (a : ActD) : List AV := [.v (.int .i64 a.kind), .v (.int .i64 a.cl), .v (.int .i64 a.q), .v (.int .i64 a.seq), .v (.int .i64 a.tag), .v (.int .i64 a.code), .v (.string a.key), .v (.string a.body), .v (.int .i64 a.many),
  .v (.int .i64 a.m.pub), .v (.int .i64 a.m.seq), .v (.string a.m.key), .v (.string a.m.body), .v (.bool a.m.again)]
def ActD.av (a : ActD) : AV := .agg a.cells

structure LineK where
  pub : Int
  q : Int
  key : ByteArray
  deriving DecidableEq
instance : Inhabited LineK := ⟨⟨0, 0, ByteArray.empty⟩⟩
def LineK.v (k : LineK) : Value := .agg #[.int .i64 k.pub, .int .i64 k.q, .string k.key]
theorem LineK.inj {a b : LineK} (h : a.v = b.v) : a = b := by
  cases a; cases b
  simp [LineK.v] at h
  obtain ⟨h1, h2, h3⟩ := h
  subst h1; subst h2; subst h3; rfl
structure LockK where
  q : Int
  key : ByteArray
  deriving DecidableEq
def LockK.v (k : LockK) : Value := .agg #[.int .i64 k.q, .string k.key]
theorem LockK.inj {a b : LockK} (h : a.v = b.v) : a = b := by
  cases a; cases b
  simp [LockK.v] at h
  obtain ⟨h1, h2⟩ := h
  subst h1; subst h2; rfl
structure TagK where
  cl : Int
  q : Int
  tag : Int
  deriving DecidableEq
def TagK.v (k : TagK) : Value := .agg #[.int .i64 k.cl, .int .i64 k.q, .int .i64 k.tag]
theorem TagK.inj {a b : TagK} (h : a.v = b.v) : a = b := by
  cases a; cases b
  simp [TagK.v] at h
  obtain ⟨h1, h2, h3⟩ := h
  subst h1; subst h2; subst h3; rfl

structure BatD where
  fr : Int
  to : Int
  st : Int
  deriving DecidableEq
instance : Inhabited BatD := ⟨⟨0, 0, 0⟩⟩
def BatD.cells (b : BatD) : List AV := [.v (.int .i64 b.fr), .v (.int .i64 b.to), .v (.int .i64 b.st)]
structure MsD where
  m : Msg
  bt : Nat
  del : Bool
  ack : Bool
  fin : Bool
  deriving DecidableEq
instance : Inhabited MsD := ⟨⟨default, 0, false, false, false⟩⟩
def ptV (b : Nat) : Value := .pointer (some ⟨b, 0, none⟩)
def ptC (pb : List Nat) (i : Nat) : List AV := [.v (ptV (pb.getD i 0))]
def MsD.cells (bb : List Nat) (x : MsD) : List AV := [.v (.int .i64 x.m.pub), .v (.int .i64 x.m.seq), .v (.string x.m.key), .v (.string x.m.body), .v (.bool x.m.again), .v (ptV (bb.getD x.bt 0)), .v (.bool x.del), .v (.bool x.ack), .v (.bool x.fin)]

abbrev LineM := List (LineK × List Nat)
structure Crt where
  bat : LineM
  all : LineM
  bs : List BatD
  ms : List MsD
  held : List LockK
  holds : List (TagK × Nat)
  acks : List (TagK × Nat)
  l0 : Int
  l1 : Int
  l2 : Int
  l3 : Int
structure Adr where
  c : Nat
  mB : Nat
  mA : Nat
  mH : Nat
  mO : Nat
  mK : Nat
  xo : Value
  xb : List Value
  xa : List Value
  bb : List Nat
  mb : List Nat

/-- A map from lines to slices of pointers. -/
def lineM (l : LineM) (xs : List Value) : List (Value × AV) := (l.zip xs).map fun p => (p.1.1.v, .v p.2)
def lineR (E : TypeId) (pb : List Nat) (l : LineM) (xs : List Value) : List Row := (l.zip xs).map fun p => .own p.2 E 1 p.1.2.length (gOf (ptC pb) p.1.2)
def batR (bs : List BatD) (bb : List Nat) : List Row := (bs.zip bb).map fun p => .blk p.2 113 p.1.cells
def msR (ms : List MsD) (mb bb : List Nat) : List Row := (ms.zip mb).map fun p => .blk p.2 116 (p.1.cells bb)
def lockM (l : List LockK) : List (Value × AV) := l.map fun k => (k.v, .v (.bool true))
def tagM (l : List (TagK × Nat)) (mb : List Nat) : List (Value × AV) := l.map fun p => (p.1.v, .v (ptV (mb.getD p.2 0)))
def dynS (ad : Adr) (s : Crt) : List Row := dyn4 (lineR 114 ad.bb s.bat ad.xb) (lineR 111 ad.mb s.all ad.xa) (batR s.bs ad.bb) (msR s.ms ad.mb ad.bb)

def crtC (ad : Adr) (s : Crt) : List AV := [.ref 61 (.map (some ad.mB)), .ref 62 (.map (some ad.mA)), .ref 63 ad.xo, .ref 64 (.map (some ad.mH)), .ref 65 (.map (some ad.mO)), .ref 66 (.map (some ad.mK)), .v (.int .i64 s.l0), .v (.int .i64 s.l1), .v (.int .i64 s.l2), .v (.int .i64 s.l3)]
noncomputable def crtR (ad : Adr) (s : Crt) (D : List Row) : Rows := (60, .blk ad.c 110 (crtC ad s)) :: (61, .map ad.mB (kOf Tryd.prog 157) (lineM s.bat ad.xb)) :: (62, .map ad.mA (kOf Tryd.prog 157) (lineM s.all ad.xa)) ::
  (63, .own ad.xo 111 1 ad.mb.length (gOf (fun b => [.v (ptV b)]) ad.mb)) :: (64, .map ad.mH (kOf Tryd.prog 160) (lockM s.held)) :: (65, .map ad.mO (kOf Tryd.prog 162) (tagM s.holds ad.mb)) :: (66, .map ad.mK (kOf Tryd.prog 162) (tagM s.acks ad.mb)) :: tl D

/-- The addresses fit. -/
structure AdOk (ad : Adr) (s : Crt) : Prop where
  xb : ad.xb.length = s.bat.length
  xa : ad.xa.length = s.all.length
  bb : ad.bb.length = s.bs.length
  mb : ad.mb.length = s.ms.length
structure CrtOk (s : Crt) : Prop where
  bat : ∀ p ∈ s.bat, ∀ j ∈ p.2, j < s.bs.length
  all : ∀ p ∈ s.all, ∀ j ∈ p.2, j < s.ms.length
  bt : ∀ m ∈ s.ms, m.bt < s.bs.length
  holds : ∀ p ∈ s.holds, p.2 < s.ms.length
  acks : ∀ p ∈ s.acks, p.2 < s.ms.length
  blen : s.bs.length ≤ 1000
  mlen : s.ms.length ≤ 8 * s.bs.length
  len1 : ∀ p ∈ s.bat, p.2.length ≤ s.bs.length
  len2 : ∀ p ∈ s.all, p.2.length ≤ s.ms.length
def crt0 : Crt := ⟨[], [], [], [], [], [], [], 0, 0, 0, 0⟩
noncomputable def courtR (ad : Adr) (s : Crt) : Rows := crtR ad s (dynS ad s)

/-- How the tail of a court's rows turns. -/
theorem crtPm {c : Ctx} {σ : Slots} {K : Act → World → Prop} {ad : Adr} {s : Crt} {D : List Row} (X Y : Rows) (D' : List Row) (h : (X.map (·.2) ++ D).Perm (Y.map (·.2) ++ D')) (next : ∀ a w, R c σ (Y ++ crtR ad s D') a w → K a w) : ∀ a w, R c σ (X ++ crtR ad s D) a w → K a w := by
  refine rowsPm (Y ++ crtR ad s D') ?_ next
  have e : ∀ (Z : Rows) (G : List Row), ∃ L : List Row, (Z ++ crtR ad s G).map (·.2) = Z.map (·.2) ++ (L ++ G) ∧ L = (crtR ad s []).map (·.2) := fun Z G => by
    refine ⟨_, ?_, rfl⟩
    simp only [List.map_append, crtR, List.map_cons, tl_snd, List.cons_append]
    rfl
  obtain ⟨L1, e1, f1⟩ := e X D
  obtain ⟨L2, e2, f2⟩ := e Y D'
  rw [e1, e2, f1, f2]
  have sw : ∀ (P Q S : List Row), (P ++ (Q ++ S)).Perm (Q ++ (P ++ S)) := fun P Q S => by
    rw [← List.append_assoc, ← List.append_assoc]
    exact List.Perm.append_right S List.perm_append_comm
  exact (sw _ _ _).trans ((List.Perm.append_left _ h).trans (sw _ _ _))
section
variable {c : Ctx} {σ : Slots} {K : Act → World → Prop} {ad : Adr} {s : Crt} {D D' : List Row} {p q : Nat × Row} {r : Row}
theorem take1 (j : Nat) (h : D.Perm (r :: D')) (next : ∀ a w, R c σ ((j, r) :: crtR ad s D') a w → K a w) : ∀ a w, R c σ (crtR ad s D) a w → K a w :=
  crtPm [] [(j, r)] D' (by simpa using h) next
theorem take2 (j : Nat) (h : D.Perm (r :: D')) (next : ∀ a w, R c σ ((j, r) :: p :: crtR ad s D') a w → K a w) : ∀ a w, R c σ (p :: crtR ad s D) a w → K a w :=
  crtPm [p] [(j, r), p] D' (by simpa using ((List.Perm.cons p.2 h).trans (List.Perm.swap _ _ _))) next
theorem take3 (j : Nat) (h : D.Perm (r :: D')) (next : ∀ a w, R c σ ((j, r) :: p :: q :: crtR ad s D') a w → K a w) : ∀ a w, R c σ (p :: q :: crtR ad s D) a w → K a w :=
  crtPm [p, q] [(j, r), p, q] D' (by simpa using (pull (X := [p.2, q.2]) h)) next
theorem put1 (D' : List Row) (h : (p.2 :: D).Perm D') (next : ∀ a w, R c σ (crtR ad s D') a w → K a w) : ∀ a w, R c σ (p :: crtR ad s D) a w → K a w :=
  crtPm [p] [] D' (by simpa using h) next
theorem put2 (D' : List Row) (h : (p.2 :: D).Perm D') (next : ∀ a w, R c σ (q :: crtR ad s D') a w → K a w) : ∀ a w, R c σ (p :: q :: crtR ad s D) a w → K a w :=
  crtPm [p, q] [q] D' (by simpa using ((List.Perm.swap _ _ _).trans (List.Perm.cons q.2 h))) next
theorem put2' (D' : List Row) (h : (q.2 :: D).Perm D') (next : ∀ a w, R c σ (p :: crtR ad s D') a w → K a w) : ∀ a w, R c σ (p :: q :: crtR ad s D) a w → K a w :=
  crtPm [p, q] [p] D' (by simpa using (List.Perm.cons p.2 h)) next
theorem put3 (D' : List Row) {t : Nat × Row} (h : (p.2 :: D).Perm D') (next : ∀ a w, R c σ (q :: t :: crtR ad s D') a w → K a w) : ∀ a w, R c σ (p :: q :: t :: crtR ad s D) a w → K a w :=
  crtPm [p, q, t] [q, t] D' (by simpa using ((pull (X := [q.2, t.2]) h.symm).symm)) next
end

theorem newCourt_p : FnC Tryd.prog 49 [] [] (fun r F' => ∃ ad, r = .ptr 60 ad.c 0 ∧ F' = courtR ad crt0 ∧ AdOk ad crt0) := by
  refine FnC.intro Tryd.func49 rfl Tryd.ntmps49 rfl ?_; intro off w0
  ((repeat refine S.seq ?_); refine S.region (L.go (T := tt) tt_ok rfl rfl ?sd1 ?_); (try (case sd1 => (repeat' ((first | first | exact trivial | exact zA | with_reducible refine zI ?_ ?_ | exact zB | exact zC | exact zD | exact zE | rfl | exact zN rfl | omega | assumption | (simp; done) | (simp [splice]; done) | (simp; omega) | (unfold fits; omega) | (unfold fits; simp_all; omega) | (simp_all; omega) | (simp_all; done) | intro _ | exact zI ?_ ?_ | intro _))))); try (refine L.nil ?_))
  repeat refine S.seq ?_
  refine S.region ?_
  refine L.makeMap 61 157 rfl rfl rfl rfl fun b1 => ?_
  refine L.makeMap 62 157 rfl rfl rfl rfl fun b2 => ?_
  refine L.makeMap 64 160 rfl rfl rfl rfl fun b3 => ?_
  refine L.makeMap 65 162 rfl rfl rfl rfl fun b4 => ?_
  refine L.makeMap 66 162 rfl rfl rfl rfl fun b5 => ?_
  (refine L.go (T := tt) tt_ok rfl rfl ?sd2 ?_; (try (case sd2 => (repeat' ((first | first | exact trivial | exact zA | with_reducible refine zI ?_ ?_ | exact zB | exact zC | exact zD | exact zE | rfl | exact zN rfl | omega | assumption | (simp; done) | (simp [splice]; done) | (simp; omega) | (unfold fits; omega) | (unfold fits; simp_all; omega) | (simp_all; omega) | (simp_all; done) | intro _ | exact zI ?_ ?_ | intro _))))); try (refine L.nil ?_))
  refine L.box 60 rfl rfl rfl rfl rfl trivial rfl fun b7 => ?_
  (refine L.go (T := tt) tt_ok rfl rfl ?sd3 ?_; (try (case sd3 => (repeat' ((first | first | exact trivial | exact zA | with_reducible refine zI ?_ ?_ | exact zB | exact zC | exact zD | exact zE | rfl | exact zN rfl | omega | assumption | (simp; done) | (simp [splice]; done) | (simp; omega) | (unfold fits; omega) | (unfold fits; simp_all; omega) | (simp_all; omega) | (simp_all; done) | intro _ | exact zI ?_ ?_ | intro _))))); try (refine L.nil ?_))
  refine nilRow 63 111 1 (gOf (fun b => [.v (ptV b)]) []) ?_
  refine blkAs 60 (crtC ⟨b7, b1, b2, b3, b4, b5, .slice none 0 0, [], [], [], []⟩ crt0) rfl ⟨Imp.refl _, Imp.refl _, Imp.vref rfl, Imp.refl _, Imp.refl _, Imp.refl _, Imp.refl _, Imp.refl _, Imp.refl _, Imp.refl _, trivial⟩ ?_
  refine rowsTo (courtR ⟨b7, b1, b2, b3, b4, b5, .slice none 0 0, [], [], [], []⟩ crt0) (by unfold courtR crtR; (repeat (first | exact Sub.refl _ | refine Sub.pick (by first | exact p0 | exact pS p0 | exact pS (pS p0) | exact pS (pS (pS p0)) | exact pS (pS (pS (pS p0))) | exact pS (pS (pS (pS (pS p0))))) ?_))) ?_
  ((repeat refine S.seq ?_); refine S.ret ?_)
  exact E.ret (T := tt) tt_ok rfl rfl (by (repeat' ((first | first | exact trivial | exact zA | with_reducible refine zI ?_ ?_ | exact zB | exact zC | exact zD | exact zE | rfl | exact zN rfl | omega | assumption | (simp; done) | (simp [splice]; done) | (simp; omega) | (unfold fits; omega) | (unfold fits; simp_all; omega) | (simp_all; omega) | (simp_all; done) | intro _ | exact zI ?_ ?_ | intro _)))) (Imp.refl _) (List.Sublist.refl _) ⟨_, rfl, rfl, ⟨rfl, rfl, rfl, rfl⟩⟩

end Go.Proofs.YtfdneepgpekmiaaDoor

/- The judge: plain laws of its rows. -/
namespace Go.Proofs.YtfdneepgpekmiaaDoor
set_option linter.unusedVariables false
set_option linter.unusedSimpArgs false
set_option maxHeartbeats 8000000
open Go.RowKit
set_option maxRecDepth 4000

def nilS : Value := .slice none 0 0
def lkL : LineM → LineK → List Nat
  | [], _ => []
  | p :: t, k => if p.1 = k then p.2 else lkL t k
def hasL : LineM → LineK → Bool
  | [], _ => false
  | p :: t, k => if p.1 = k then true else hasL t k
def slx : LineM → List Value → LineK → Value
  | p :: t, y :: xs, k => if p.1 = k then y else slx t xs k
  | _, _, _ => nilS
def putL : LineM → LineK → List Nat → LineM
  | [], k, v => [(k, v)]
  | p :: t, k, v => if p.1 = k then (k, v) :: t else p :: putL t k v
def putX : LineM → List Value → LineK → Value → List Value
  | p :: t, y :: xs, k, x => if p.1 = k then x :: xs else y :: putX t xs k x
  | _, _, _, x => [x]
def rowL (E : TypeId) (pb : List Nat) (x : Value) (v : List Nat) : Row := .own x E 1 v.length (gOf (ptC pb) v)
def rmR (E : TypeId) (pb : List Nat) : LineM → List Value → LineK → List Row
  | p :: t, y :: xs, k => if p.1 = k then lineR E pb t xs else rowL E pb y p.2 :: rmR E pb t xs k
  | _, _, _ => []

theorem lineR_cons (E : TypeId) (pb : List Nat) (p : LineK × List Nat) (t : LineM) (y : Value) (xs : List Value) : lineR E pb (p :: t) (y :: xs) = rowL E pb y p.2 :: lineR E pb t xs := rfl
theorem open_has {E : TypeId} {pb : List Nat} {k : LineK} : ∀ {l : LineM} {xs : List Value}, xs.length = l.length → hasL l k = true → (lineR E pb l xs).Perm (rowL E pb (slx l xs k) (lkL l k) :: rmR E pb l xs k)
  | [], _, _, h => by cases h
  | p :: t, [], hl, _ => by simp at hl
  | p :: t, y :: xs, hl, h => by
    rw [lineR_cons]
    simp only [slx, lkL, rmR, hasL] at h ⊢
    split
    · exact List.Perm.refl _
    · rename_i hk
      rw [if_neg hk] at h
      exact (List.Perm.cons _ (open_has (by simpa using hl) h)).trans (List.Perm.swap _ _ _)
theorem open_no {E : TypeId} {pb : List Nat} {k : LineK} : ∀ {l : LineM} {xs : List Value}, xs.length = l.length → hasL l k = false → slx l xs k = nilS ∧ lkL l k = [] ∧ rmR E pb l xs k = lineR E pb l xs
  | [], xs, _, h => ⟨rfl, rfl, rfl⟩
  | p :: t, [], hl, _ => by simp at hl
  | p :: t, y :: xs, hl, h => by
    rw [lineR_cons]
    simp only [slx, lkL, rmR, hasL] at h ⊢
    split at h
    · cases h
    · rename_i hk
      obtain ⟨h1, h2, h3⟩ := open_no (E := E) (pb := pb) (l := t) (xs := xs) (by simpa using hl) h
      rw [if_neg hk, if_neg hk, if_neg hk, h1, h2, h3]
      exact ⟨rfl, rfl, rfl⟩
theorem open_put {E : TypeId} {pb : List Nat} {k : LineK} (x' : Value) (v : List Nat) : ∀ {l : LineM} {xs : List Value}, xs.length = l.length → (rowL E pb x' v :: rmR E pb l xs k).Perm (lineR E pb (putL l k v) (putX l xs k x'))
  | [], xs, _ => by
    cases xs <;> exact List.Perm.refl _
  | p :: t, [], hl => by simp at hl
  | p :: t, y :: xs, hl => by
    simp only [rmR, putL, putX]
    split
    · exact List.Perm.refl _
    · rw [lineR_cons]
      exact (List.Perm.swap _ _ _).trans (List.Perm.cons _ (open_put x' v (by simpa using hl)))
theorem lineM_cons (p : LineK × List Nat) (t : LineM) (y : Value) (xs : List Value) : lineM (p :: t) (y :: xs) = (p.1.v, .v y) :: lineM t xs := rfl
theorem look_line {k : LineK} : ∀ {l : LineM} {xs : List Value}, xs.length = l.length → mlook (lineM l xs) k.v nilS = .v (slx l xs k)
  | [], xs, _ => by cases xs <;> rfl
  | p :: t, [], hl => by simp at hl
  | p :: t, y :: xs, hl => by
    rw [lineM_cons]
    simp only [slx]
    split
    · rename_i hk
      rw [← hk, mlook, mget_cons_same]
      rfl
    · rename_i hk
      rw [mlook, mget_cons_other _ _ (fun e => hk (LineK.inj e))]
      exact look_line (by simpa using hl)
theorem put_line {k : LineK} (x' : Value) (v : List Nat) (key : Value) : ∀ {l : LineM} {xs : List Value}, xs.length = l.length → mget ((k.v, .v x') :: lineM l xs) key = mget (lineM (putL l k v) (putX l xs k x')) key
  | [], xs, _ => by cases xs <;> rfl
  | p :: t, [], hl => by simp at hl
  | p :: t, y :: xs, hl => by
    rw [lineM_cons]
    simp only [putL, putX]
    split
    · rename_i hk
      rw [hk]
      show _ = mget ((k.v, .v x') :: lineM t xs) key
      by_cases h : k.v = key
      · rw [← h, mget_cons_same, mget_cons_same]
      · rw [mget_cons_other _ _ h, mget_cons_other _ _ h, mget_cons_other _ _ h]
    · rename_i hk
      rw [lineM_cons]
      have ih := put_line x' v key (k := k) (l := t) (xs := xs) (by simpa using hl)
      by_cases h : p.1.v = key
      · rw [← h, mget_cons_other _ _ (fun e => hk (LineK.inj e).symm), mget_cons_same, mget_cons_same]
      · by_cases h2 : k.v = key
        · rw [mget_cons_other _ _ h, ← ih, ← h2, mget_cons_same, mget_cons_same]
        · rw [mget_cons_other _ _ h2, mget_cons_other _ _ h, mget_cons_other _ _ h, ← ih, mget_cons_other _ _ h2]
theorem putX_len {k : LineK} {x : Value} {v : List Nat} : ∀ {l : LineM} {xs : List Value}, xs.length = l.length → (putX l xs k x).length = (putL l k v).length
  | [], xs, hl => by cases xs <;> rfl
  | p :: t, [], hl => by simp at hl
  | p :: t, y :: xs, hl => by
    simp only [putX, putL]
    split
    · simpa using hl
    · simp only [List.length_cons]
      rw [putX_len (v := v) (by simpa using hl)]
theorem mem_put {k : LineK} {v : List Nat} {p : LineK × List Nat} : ∀ {l : LineM}, p ∈ putL l k v → p ∈ l ∨ p = (k, v)
  | [], h => by simpa [putL] using h
  | a :: t, h => by
    simp only [putL] at h
    split at h
    · rcases List.mem_cons.1 h with h | h
      · exact .inr h
      · exact .inl (List.mem_cons_of_mem _ h)
    · rcases List.mem_cons.1 h with h | h
      · exact .inl (by simp [h])
      · rcases mem_put h with h | h
        · exact .inl (List.mem_cons_of_mem _ h)
        · exact .inr h
theorem lk_mem {k : LineK} : ∀ {l : LineM}, lkL l k = [] ∨ ∃ p ∈ l, p.2 = lkL l k
  | [] => .inl rfl
  | p :: t => by
    simp only [lkL]
    split
    · exact .inr ⟨p, by simp, rfl⟩
    · rcases lk_mem (l := t) (k := k) with h | ⟨q, h1, h2⟩
      · exact .inl h
      · exact .inr ⟨q, by simp [h1], h2⟩
theorem lk_put {k k' : LineK} {v : List Nat} : ∀ {l : LineM}, lkL (putL l k v) k' = if k = k' then v else lkL l k'
  | [] => by simp only [putL, lkL]
  | p :: t => by
    simp only [putL, lkL]
    split
    · rename_i h
      subst h
      simp only [lkL]
      split <;> rfl
    · rename_i h
      simp only [lkL]
      rw [lk_put]
      split
      · rename_i h2
        subst h2
        rw [if_neg (fun e => h e.symm)]
      · rfl

theorem zip_at {α β : Type} {l : List α} {m : List β} {j : Nat} {a : α} {b : β} (h1 : l[j]? = some a) (h2 : m[j]? = some b) : (l.zip m)[j]? = some (a, b) := by
  simp [List.zip, List.getElem?_zipWith, h1, h2]
theorem bat_get {bs : List BatD} {bb : List Nat} {j : Nat} (hb : bb.length = bs.length) (h : j < bs.length) : (batR bs bb)[j]? = some (.blk (bb.getD j 0) 113 (bs.getD j default).cells) := by
  unfold batR
  rw [List.getElem?_map, zip_at (List.getElem?_eq_getElem h) (List.getElem?_eq_getElem (by omega)), List.getD_eq_getElem?_getD, List.getD_eq_getElem?_getD, List.getElem?_eq_getElem h, List.getElem?_eq_getElem (l := bb) (by omega)]
  rfl
theorem bat_set {bs : List BatD} {bb : List Nat} {j : Nat} (hb : bb.length = bs.length) (h : j < bs.length) (b : BatD) : (batR bs bb).set j (.blk (bb.getD j 0) 113 b.cells) = batR (bs.set j b) bb := by
  unfold batR
  apply List.ext_getElem?
  intro i
  rw [List.getElem?_set]
  by_cases hi : j = i
  · subst hi
    rw [if_pos rfl, if_pos (by simp; omega), List.getElem?_map, zip_at (a := b) (List.getElem?_set_self h) (List.getElem?_eq_getElem (by omega)), List.getD_eq_getElem?_getD, List.getElem?_eq_getElem (l := bb) (by omega)]
    rfl
  · rw [if_neg hi]
    simp only [List.getElem?_map, List.zip, List.getElem?_zipWith, List.getElem?_set_ne hi]
theorem ms_get {ms : List MsD} {mb bb : List Nat} {j : Nat} (hb : mb.length = ms.length) (h : j < ms.length) : (msR ms mb bb)[j]? = some (.blk (mb.getD j 0) 116 ((ms.getD j default).cells bb)) := by
  unfold msR
  rw [List.getElem?_map, zip_at (List.getElem?_eq_getElem h) (List.getElem?_eq_getElem (by omega)), List.getD_eq_getElem?_getD, List.getD_eq_getElem?_getD, List.getElem?_eq_getElem h, List.getElem?_eq_getElem (l := mb) (by omega)]
  rfl
theorem ms_set {ms : List MsD} {mb bb : List Nat} {j : Nat} (hb : mb.length = ms.length) (h : j < ms.length) (b : MsD) : (msR ms mb bb).set j (.blk (mb.getD j 0) 116 (b.cells bb)) = msR (ms.set j b) mb bb := by
  unfold msR
  apply List.ext_getElem?
  intro i
  rw [List.getElem?_set]
  by_cases hi : j = i
  · subst hi
    rw [if_pos rfl, if_pos (by simp; omega), List.getElem?_map, zip_at (a := b) (List.getElem?_set_self h) (List.getElem?_eq_getElem (by omega)), List.getD_eq_getElem?_getD, List.getElem?_eq_getElem (l := mb) (by omega)]
    rfl
  · rw [if_neg hi]
    simp only [List.getElem?_map, List.zip, List.getElem?_zipWith, List.getElem?_set_ne hi]
theorem batR_len {bs : List BatD} {bb : List Nat} (hb : bb.length = bs.length) : (batR bs bb).length = bs.length := by simp [batR, hb]
theorem msR_len {ms : List MsD} {mb bb : List Nat} (hb : mb.length = ms.length) : (msR ms mb bb).length = ms.length := by simp [msR, hb]

section
variable {c : Ctx} {σ : Slots} {K : Act → World → Prop} {ad : Adr} {s : Crt} {D D' : List Row} {p q : Nat × Row} {E : TypeId} {pb : List Nat} {x : Value} {v : List Nat}
def OpenD (E : TypeId) (pb : List Nat) (x : Value) (v : List Nat) (D D' : List Row) : Prop := D.Perm (rowL E pb x v :: D') ∨ (x = nilS ∧ v = [] ∧ D' = D)
theorem openR (j : Nat) (h : OpenD E pb x v D D') (next : ∀ a w, R c σ ((j, rowL E pb x v) :: crtR ad s D') a w → K a w) : ∀ a w, R c σ (crtR ad s D) a w → K a w := by
  rcases h with h | ⟨rfl, rfl, rfl⟩
  · exact take1 j h next
  · exact nilRow j E 1 (gOf (ptC pb) []) next
theorem closeR {j : Nat} (h : OpenD E pb x v D D') (next : ∀ a w, R c σ (crtR ad s D) a w → K a w) : ∀ a w, R c σ ((j, rowL E pb x v) :: crtR ad s D') a w → K a w := by
  rcases h with h | ⟨rfl, rfl, rfl⟩
  · exact put1 D h.symm next
  · exact rowsTo _ (Sub.drop (Sub.self _)) next
theorem openA {k : LineK} {l : LineM} {xs : List Value} {B C M : List Row} (hl : xs.length = l.length) : OpenD E pb (slx l xs k) (lkL l k) (dyn4 (lineR E pb l xs) B C M) (dyn4 (rmR E pb l xs k) B C M) := by
  cases h : hasL l k with
  | true => exact .inl (inA (open_has hl h))
  | false =>
    obtain ⟨h1, h2, h3⟩ := open_no (E := E) (pb := pb) hl h
    exact .inr ⟨h1, h2, by rw [h3]⟩
theorem openB {k : LineK} {l : LineM} {xs : List Value} {A C M : List Row} (hl : xs.length = l.length) : OpenD E pb (slx l xs k) (lkL l k) (dyn4 A (lineR E pb l xs) C M) (dyn4 A (rmR E pb l xs k) C M) := by
  cases h : hasL l k with
  | true => exact .inl (inB (open_has hl h))
  | false =>
    obtain ⟨h1, h2, h3⟩ := open_no (E := E) (pb := pb) hl h
    exact .inr ⟨h1, h2, by rw [h3]⟩
end

/-- Locks. -/
theorem look_lock {k : LockK} : ∀ {l : List LockK}, mlook (lockM l) k.v (.bool false) = .v (.bool (decide (k ∈ l)))
  | [] => rfl
  | p :: t => by
    show mlook ((p.v, .v (.bool true)) :: lockM t) k.v (.bool false) = _
    by_cases h : p = k
    · rw [h, mlook, mget_cons_same]
      simp
    · rw [mlook, mget_cons_other _ _ (fun e => h (LockK.inj e))]
      have := look_lock (k := k) (l := t)
      rw [mlook] at this
      rw [this]
      simp [Ne.symm h]
theorem del_lock {k : LockK} (l : List LockK) : mdel (lockM l) k.v = lockM (l.filter (fun x => x ≠ k)) := by
  unfold mdel lockM
  rw [List.filter_map]
  congr 1
  apply List.filter_congr
  intro x _
  by_cases h : x = k
  · simp [h]
  · have h2 : x.v ≠ k.v := fun e => h (LockK.inj e)
    simp [h, h2]
def lkT : List (TagK × Nat) → TagK → Option Nat
  | [], _ => none
  | p :: t, k => if p.1 = k then some p.2 else lkT t k
def ptO (mb : List Nat) : Option Nat → Value
  | some i => ptV (mb.getD i 0)
  | none => .pointer none
theorem look_tag {k : TagK} {mb : List Nat} : ∀ {l : List (TagK × Nat)}, mlook (tagM l mb) k.v (.pointer none) = .v (ptO mb (lkT l k))
  | [] => rfl
  | p :: t => by
    show mlook ((p.1.v, .v (ptV (mb.getD p.2 0))) :: tagM t mb) k.v (.pointer none) = _
    simp only [lkT]
    by_cases h : p.1 = k
    · rw [h, mlook, mget_cons_same, if_pos rfl]
      rfl
    · rw [mlook, mget_cons_other _ _ (fun e => h (TagK.inj e)), if_neg h]
      exact look_tag
theorem del_tag {k : TagK} (l : List (TagK × Nat)) (mb : List Nat) : mdel (tagM l mb) k.v = tagM (l.filter (fun x => x.1 ≠ k)) mb := by
  unfold mdel tagM
  rw [List.filter_map]
  congr 1
  apply List.filter_congr
  intro x _
  by_cases h : x.1 = k
  · simp [h]
  · have h2 : x.1.v ≠ k.v := fun e => h (TagK.inj e)
    simp [h, h2]
theorem lkT_mem {k : TagK} {i : Nat} : ∀ {l : List (TagK × Nat)}, lkT l k = some i → (k, i) ∈ l
  | [], h => by cases h
  | p :: t, h => by
    simp only [lkT] at h
    split at h
    · rename_i hk
      cases h
      rw [← hk]
      exact List.mem_cons_self
    · exact List.mem_cons_of_mem _ (lkT_mem h)
theorem mget_twice (k : Value) (A B : AV) (m : List (Value × AV)) (key : Value) : mget ((k, A) :: (k, B) :: m) key = mget ((k, A) :: m) key := by
  by_cases h : k = key
  · rw [← h, mget_cons_same, mget_cons_same]
  · rw [mget_cons_other _ _ h, mget_cons_other _ _ h, mget_cons_other _ _ h]
theorem mget_head {A B : AV} (k : Value) (m : List (Value × AV)) (key : Value) (h : A = B) : mget ((k, A) :: m) key = mget ((k, B) :: m) key := by rw [h]

end Go.Proofs.YtfdneepgpekmiaaDoor

/- The judge: a batch is confirmed, or refused. -/
namespace Go.Proofs.YtfdneepgpekmiaaDoor
set_option linter.unusedVariables false
set_option linter.unusedSimpArgs false
set_option maxHeartbeats 8000000
open Go.RowKit
set_option maxRecDepth 4000

structure ActOk (a : ActD) : Prop where
  kind : fitI a.kind
  cl : fitI a.cl
  q : fitI a.q
  seq : fitI a.seq
  tag : fitI a.tag
  many : fitI a.many
  key : a.key.size ≤ 1000
  body : a.body.size ≤ 1000
  mpub : fitI a.m.pub
  mseq : fitI a.m.seq
  mkey : a.m.key.size ≤ 1000
  mbody : a.m.body.size ≤ 1000

def ActD.line (a : ActD) : LineK := ⟨a.cl, a.q, a.key⟩
theorem line_ok {a : ActD} (h : ActOk a) : kOf Tryd.prog 157 a.line.v = true := KeyLine.kName_ok h.cl h.q (by have := h.key; show a.key.size ≤ _; omega)

/-- The first batch of some that waits. -/
def jfirst (bs : List BatD) (l : List Nat) : Option Nat := l.find? fun j => (bs.getD j default).st == 0
def toldJB (s : Crt) (a : ActD) : Bool := match jfirst s.bs (lkL s.bat a.line) with
  | some j => (bs1 s j).to == a.seq
  | none => false
where bs1 (s : Crt) (j : Nat) : BatD := s.bs.getD j default
def toldJS (s : Crt) (a : ActD) (st : Int) : Crt := match jfirst s.bs (lkL s.bat a.line) with
  | some j => { s with bs := s.bs.set j { s.bs.getD j default with st := st } }
  | none => s

theorem find_at_of {p : Nat → Bool} {l : List Nat} {i : Nat} (hi : i < l.length) (hp : p l[i] = true) (hno : ∀ j (h : j < l.length), j < i → p l[j] = false) : l.find? p = some l[i] := by
  rw [List.find?_eq_some_iff_getElem]
  exact ⟨hp, i, hi, rfl, fun j hj => by simpa using hno j (by omega) hj⟩

theorem jtold_p (ad : Adr) (s : Crt) (a : ActD) (st : Int) (ok : AdOk ad s) (co : CrtOk s) (ao : ActOk a) : FnC Tryd.prog 75 [.ptr 60 ad.c 0, a.av, .v (.int .i64 st)] (courtR ad s)
    (fun r F' => r = .v (.bool (toldJB s a)) ∧ F' = courtR ad (toldJS s a st)) := by
  have hk := line_ok ao
  have hbb := ok.bb
  have hbl := co.blen
  obtain ⟨l, hl⟩ : ∃ l, l = lkL s.bat a.line := ⟨_, rfl⟩
  have hln : l.length ≤ 1000 := by
    rcases lk_mem (l := s.bat) (k := a.line) with h | ⟨p, hp, h⟩
    · rw [hl, h]; simp
    · rw [hl, ← h]; have := co.len1 p hp; omega
  have hlb : ∀ j ∈ l, j < s.bs.length := fun j hj => by
    rcases lk_mem (l := s.bat) (k := a.line) with h | ⟨p, hp, h⟩
    · rw [hl, h] at hj; cases hj
    · rw [hl, ← h] at hj; exact co.bat p hp j hj
  have hopen := fun C => openA (E := 114) (pb := ad.bb) (k := a.line) (B := lineR 111 ad.mb s.all ad.xa) (C := C) (M := msR s.ms ad.mb ad.bb) ok.xb
  obtain ⟨x, hx⟩ : ∃ x, x = slx s.bat ad.xb a.line := ⟨_, rfl⟩
  simp only [← hx, ← hl] at hopen
  obtain ⟨A', hA'⟩ : ∃ A', A' = rmR 114 ad.bb s.bat ad.xb a.line := ⟨_, rfl⟩
  simp only [← hA'] at hopen
  unfold courtR dynS
  refine FnC.intro Tryd.func75 rfl Tryd.ntmps75 rfl ?_; intro off w0
  repeat refine S.seq ?_
  refine S.region ?_
  refine L.box 91 rfl rfl rfl rfl rfl trivial rfl fun b4 => ?_
  (refine L.go (T := tt) tt_ok rfl rfl ?sd10 ?_; (try (case sd10 => (repeat' (first | exact trivial | with_reducible refine zI ?_ ?_)))); try (refine L.nil ?_))
  refine freezeBlk 4 91 rfl rfl rfl ?_
  refine openR 90 (hopen _) ?_
  repeat refine S.seq ?_
  refine S.draw [(3, [60]), (11, [61])] mixed ?_
  (refine H.ts (T := tt) [0, 1, 2, 3, 4, 5, 6, 7, 8, 9, 10] tt_ok (by kernel_rfl) (by kernel_rfl) (by kernel_rfl) (by intro ch a a' w h; obtain ⟨_, _, _, _, _, h, _⟩ := h; cases h) rfl ?sd12 ?_; (try (case sd12 => (repeat' (first | exact trivial | with_reducible refine zI ?_ ?_ | rfl | exact zN rfl)))))
  refine H.s1 11 (A := .v x) rfl (by kernel_rfl) (by kernel_rfl) (by kernel_rfl) (by kernel_rfl) (by kernel_rfl) (by intro ch a a' w h; obtain ⟨_, _, _, _, _, h, _⟩ := h; cases h) rfl rfl (by kernel_rfl) (look_sure (T := tt) (z := nilS) (kv := a.line.v) tt_ok KeyLine.kName rfl rfl (by kernel_rfl) rfl rfl rfl (by (repeat' (first | exact trivial | with_reducible refine zI ?_ ?_))) rfl (fun _ _ => rfl) rfl hk (by rw [hx]; exact look_line ok.xb)) ?_
  refine H.tellW 20 (.ref 90 x) rfl (ownRef 90 rfl) ?_
  (refine H.ts (T := tt) [12, 13] tt_ok (by kernel_rfl) (by kernel_rfl) (by kernel_rfl) (by intro ch a a' w h; obtain ⟨_, _, _, _, _, h, _⟩ := h; cases h) rfl ?sd13 ?_; (try (case sd13 => (repeat' (first | exact trivial | with_reducible refine zI ?_ ?_ | rfl)))))
  refine H.done (by kernel_rfl) ?_
  repeat refine S.seq ?_
  refine S.block (S.loop (ι := { i : Nat // i ≤ l.length ∧ ∀ j (h : j < l.length), j < i → ((s.bs.getD l[j] default).st == 0) = false }) (fun i => [(0, .ptr 60 ad.c 0), (2, .v (.int .i64 st)), (4, .pel 14 a.cells), (20, .ref 90 x), (21, .v (.int .i64 l.length)), (22, .v (.int .i64 i.1))])
    (fun _ => (90, rowL 114 ad.bb x l) :: crtR ad s (dyn4 A' (lineR 111 ad.mb s.all ad.xa) (batR s.bs ad.bb) (msR s.ms ad.mb ad.bb))) (fun i => l.length - i.1) ?_ ?_)
  · exact fun a w h => ⟨⟨0, Nat.zero_le _, fun j _ h => absurd h (by omega)⟩, h.weakP (by (repeat' (first | exact True.intro | exact Imp.refl _ | refine ⟨?_, ?_⟩))) (Sub.self _)⟩
  rintro ⟨i, hi, hno⟩
  dsimp only
  ((repeat refine S.seq ?_); refine S.region (L.go (T := tt) tt_ok rfl rfl ?sd4 ?_); (try (case sd4 => (repeat' (first | exact trivial | with_reducible refine zI ?_ ?_)))); try (refine L.nil ?_))
  ((repeat refine S.seq ?_); refine S.cond rfl (fun hc => ?_) (fun hc => ?_) <;> (try first | refine S.skip ?_ | refine S.exit ?_))
  · have hil : i < l.length := by have := of_dec hc; omega
    obtain ⟨j, hj⟩ : ∃ j, j = l[i] := ⟨_, rfl⟩
    have hjb : j < s.bs.length := hlb j (by rw [hj]; exact List.getElem_mem _)
    obtain ⟨b, hb⟩ : ∃ b, b = s.bs.getD j default := ⟨_, rfl⟩
    have hg : ptC ad.bb (l.getD i default) = [.v (ptV (ad.bb.getD j 0))] := by rw [getD_get hil, ← hj]; rfl
    repeat refine S.seq ?_
    refine S.block ?_
    ((repeat refine S.seq ?_); refine S.region (L.go (T := tt) tt_ok rfl rfl ?sd5 ?_); (try (case sd5 => (repeat' (first | exact trivial | with_reducible refine zI ?_ ?_ | rfl | omega)))); try (refine L.nil ?_))
    refine slotAs 8 (.ptr 91 (ad.bb.getD j 0) 0) rfl (Imp.trans (Imp.of_eq (show _ = AV.v (ptV (ad.bb.getD j 0)) from by rw [hj, ← getD_get hil]; rfl)) (Imp.vptr 91 _ 0)) ?_
    refine take2 91 (inC (pull1 (bat_get hbb hjb))) ?_
    rw [← hb]
    ((repeat refine S.seq ?_); refine S.region (L.go (T := tt) tt_ok rfl rfl ?sd6 ?_); (try (case sd6 => (repeat' (first | exact trivial | with_reducible refine zI ?_ ?_ | rfl)))); try (refine L.nil ?_))
    ((repeat refine S.seq ?_); refine S.cond rfl (fun h2 => ?_) (fun h2 => ?_) <;> (try first | refine S.skip ?_ | refine S.exit ?_))
    · have h2e : b.st = 0 := by simpa using h2
      ((repeat refine S.seq ?_); refine S.region (L.go (T := tt) tt_ok rfl rfl ?sd7 ?_); (try (case sd7 => (repeat' (first | exact trivial | with_reducible refine zI ?_ ?_)))); try (refine L.nil ?_))
      (refine L.store (T := tt) tt_ok rfl rfl rfl rfl rfl rfl ?sd11 ?_; (try (case sd11 => (repeat' (first | exact trivial | with_reducible refine zI ?_ ?_ | rfl | exact zN rfl)))))
      refine L.nil ?_
      repeat refine S.seq ?_
      refine S.draw [(3, [91])] mixed ?_
      (refine H.ts (T := tt) [0, 1, 2, 3, 4, 5, 6, 7] tt_ok (by kernel_rfl) (by kernel_rfl) (by kernel_rfl) (by intro ch a a' w h; obtain ⟨_, _, _, _, _, h, _⟩ := h; cases h) rfl ?sd14 ?_; (try (case sd14 => (repeat' (first | exact trivial | with_reducible refine zI ?_ ?_ | rfl)))))
      refine H.done (by kernel_rfl) ?_
      have hf : jfirst s.bs l = some j := by rw [hj]; exact find_at_of hil (by rw [← hj, ← hb, h2e]; rfl) hno
      have e1 : toldJB s a = (b.to == a.seq) := by rw [toldJB, ← hl, hf]; simp only [toldJB.bs1]; rw [← hb]
      have e2 : toldJS s a st = { s with bs := s.bs.set j { b with st := st } } := by rw [toldJS, ← hl, hf]; simp only; rw [← hb]
      refine rowsEq ((91, .blk (ad.bb.getD j 0) 113 ({ b with st := st } : BatD).cells) :: (90, rowL 114 ad.bb x l) :: crtR ad s (dyn4 A' (lineR 111 ad.mb s.all ad.xa) ((batR s.bs ad.bb).eraseIdx j) (msR s.ms ad.mb ad.bb))) rfl ?_
      refine put2 _ ((inC (push1 (by rw [batR_len hbb]; exact hjb)).symm).symm) ?_
      rw [bat_set hbb hjb]
      refine closeR (hopen _) ?_
      ((repeat refine S.seq ?_); refine S.ret ?_)
      rw [e1, e2]
      exact E.ret (T := tt) tt_ok rfl rfl (by (repeat' (first | exact trivial | with_reducible refine zI ?_ ?_))) (Imp.refl _) (List.Sublist.refl _) ⟨rfl, rfl⟩
    · have h2e : (b.st == 0) = false := h2
      refine rowsEq ((91, .blk (ad.bb.getD j 0) 113 b.cells) :: (90, rowL 114 ad.bb x l) :: crtR ad s (dyn4 A' (lineR 111 ad.mb s.all ad.xa) ((batR s.bs ad.bb).eraseIdx j) (msR s.ms ad.mb ad.bb))) rfl ?_
      refine put2 _ (inC (pull1 (by rw [hb]; exact bat_get hbb hjb))).symm ?_
      ((repeat refine S.seq ?_); refine S.region (L.go (T := tt) tt_ok rfl rfl ?sd8 ?_); (try (case sd8 => (repeat' (first | exact trivial | with_reducible refine zI ?_ ?_ | (unfold fits; omega))))); try (refine L.nil ?_))
      exact fun a w h => ⟨⟨i + 1, by omega, fun j' h' hji => by
        rcases Nat.lt_or_ge j' i with hlt | hge
        · exact hno j' h' hlt
        · have : j' = i := by omega
          subst this
          rw [← hj, ← hb]
          exact h2e⟩, by show l.length - (i + 1) < l.length - i; omega, h.weakP (by (repeat' (first | exact True.intro | exact Imp.refl _ | refine ⟨?_, ?_⟩))) (Sub.self _)⟩
  have hil : i = l.length := by have := of_dec' hc; omega
  have hf : jfirst s.bs l = none := by
    unfold jfirst
    rw [List.find?_eq_none]
    intro j hj
    obtain ⟨k, hk1, hk2⟩ := List.getElem_of_mem hj
    have := hno k hk1 (by omega)
    rw [hk2] at this
    simpa using this
  have e1 : toldJB s a = false := by rw [toldJB, ← hl, hf]
  have e2 : toldJS s a st = s := by rw [toldJS, ← hl, hf]
  ((repeat refine S.seq ?_); refine S.region (L.go (T := tt) tt_ok rfl rfl ?sd9 ?_); (try (case sd9 => (repeat' (first | exact trivial | with_reducible refine zI ?_ ?_)))); try (refine L.nil ?_))
  refine closeR (hopen _) ?_
  ((repeat refine S.seq ?_); refine S.ret ?_)
  rw [e1, e2]
  exact E.ret (T := tt) tt_ok rfl rfl (by (repeat' (first | exact trivial | with_reducible refine zI ?_ ?_))) (Imp.refl _) (List.Sublist.refl _) ⟨rfl, rfl⟩
end Go.Proofs.YtfdneepgpekmiaaDoor

/- The judge: a message is settled. -/
namespace Go.Proofs.YtfdneepgpekmiaaDoor
set_option linter.unusedVariables false
set_option linter.unusedSimpArgs false
set_option maxHeartbeats 8000000
open Go.RowKit
set_option maxRecDepth 4000

def ActD.tagk (a : ActD) : TagK := ⟨a.cl, a.q, a.tag⟩
theorem tag_ok {a : ActD} (h : ActOk a) : kOf Tryd.prog 162 a.tagk.v = true := KeyTag.kName_ok h.cl h.q h.tag
def settledJ (s : Crt) (a : ActD) : Crt := match lkT s.acks a.tagk with
  | some i => { s with acks := s.acks.filter (fun x => x.1 ≠ a.tagk), ms := s.ms.set i { s.ms.getD i default with fin := true } }
  | none => s

theorem jsettled_p (ad : Adr) (s : Crt) (a : ActD) (ok : AdOk ad s) (co : CrtOk s) (ao : ActOk a) : FnC Tryd.prog 78 [.ptr 60 ad.c 0, a.av] (courtR ad s)
    (fun r F' => r = .v (.bool (lkT s.acks a.tagk).isSome) ∧ F' = courtR ad (settledJ s a)) := by
  have hk := tag_ok ao
  have hmb := ok.mb
  unfold courtR dynS
  refine FnC.intro Tryd.func78 rfl Tryd.ntmps78 rfl ?_; intro off w0
  repeat refine S.seq ?_
  refine S.region ?_
  refine L.box 91 rfl rfl rfl rfl rfl trivial rfl fun b4 => ?_
  (refine L.go (T := tt) tt_ok rfl rfl ?sd21 ?_; (try (case sd21 => (repeat' (first | exact trivial | with_reducible refine zI ?_ ?_)))); try (refine L.nil ?_))
  refine freezeBlk 3 91 rfl rfl rfl ?_
  ((repeat refine S.seq ?_); refine S.region (L.go (T := tt) tt_ok rfl rfl ?sd15 ?_); (try (case sd15 => (repeat' (first | exact trivial | with_reducible refine zI ?_ ?_ | rfl | exact zN rfl)))); try (refine L.nil ?_))
  refine L.alloc (T := tt) 92 tt_ok rfl rfl rfl rfl rfl fun b5 => ?_
  (refine L.store (T := tt) tt_ok rfl rfl rfl rfl rfl rfl ?sd22 ?_; (try (case sd22 => (repeat' (first | exact trivial | with_reducible refine zI ?_ ?_ | rfl | exact zN rfl)))))
  refine L.nil ?_
  refine freezeBlk 5 92 rfl rfl rfl ?_
  repeat refine S.seq ?_
  refine S.draw [(3, [60]), (5, [66])] mixed ?_
  (refine H.ts (T := tt) [0, 1, 2, 3, 4] tt_ok (by kernel_rfl) (by kernel_rfl) (by kernel_rfl) (by intro ch a a' w h; obtain ⟨_, _, _, _, _, h, _⟩ := h; cases h) rfl ?sd24 ?_; (try (case sd24 => (repeat' (first | exact trivial | with_reducible refine zI ?_ ?_ | rfl)))))
  refine H.s1 5 (A := .v (ptO ad.mb (lkT s.acks a.tagk))) rfl (by kernel_rfl) (by kernel_rfl) (by kernel_rfl) (by kernel_rfl) (by kernel_rfl) (by intro ch a a' w h; obtain ⟨_, _, _, _, _, h, _⟩ := h; cases h) rfl rfl (by kernel_rfl) (look_sure (T := tt) (z := .pointer none) (kv := a.tagk.v) tt_ok KeyTag.kName rfl rfl (by kernel_rfl) rfl rfl rfl (by (repeat' (first | exact trivial | with_reducible refine zI ?_ ?_))) rfl (fun _ _ => rfl) rfl hk look_tag) ?_
  (refine H.ts (T := tt) [6] tt_ok (by kernel_rfl) (by kernel_rfl) (by kernel_rfl) (by intro ch a a' w h; obtain ⟨_, _, _, _, _, h, _⟩ := h; cases h) rfl ?sd25 ?_; (try (case sd25 => (repeat' (first | exact trivial | with_reducible refine zI ?_ ?_)))))
  refine H.done (by kernel_rfl) ?_
  cases hi : lkT s.acks a.tagk with
  | none =>
    have e2 : settledJ s a = s := by rw [settledJ, hi]
    ((repeat refine S.seq ?_); refine S.region (L.go (T := tt) tt_ok rfl rfl ?sd16 ?_); (try (case sd16 => (repeat' (first | exact trivial | with_reducible refine zI ?_ ?_)))); try (refine L.nil ?_))
    ((repeat refine S.seq ?_); refine S.cond rfl (fun h1 => ?_) (fun h1 => ?_) <;> (try first | refine S.skip ?_ | refine S.exit ?_))
    · ((repeat refine S.seq ?_); refine S.region (L.go (T := tt) tt_ok rfl rfl ?sd17 ?_); (try (case sd17 => (repeat' (first | exact trivial | with_reducible refine zI ?_ ?_)))); try (refine L.nil ?_))
      ((repeat refine S.seq ?_); refine S.ret ?_)
      rw [e2]
      exact E.ret (T := tt) tt_ok rfl rfl (by (repeat' (first | exact trivial | with_reducible refine zI ?_ ?_))) (F' := crtR ad s _) (Imp.refl _) (List.Sublist.refl _) ⟨rfl, rfl⟩
    cases h1
  | some i =>
    have hil : i < s.ms.length := co.acks _ (lkT_mem hi)
    obtain ⟨m, hm⟩ : ∃ m, m = s.ms.getD i default := ⟨_, rfl⟩
    have e2 : settledJ s a = { s with acks := s.acks.filter (fun x => x.1 ≠ a.tagk), ms := s.ms.set i { m with fin := true } } := by rw [settledJ, hi, hm]
    refine slotAs 6 (.ptr 93 (ad.mb.getD i 0) 0) rfl (Imp.vptr 93 _ 0) ?_
    ((repeat refine S.seq ?_); refine S.region (L.go (T := tt) tt_ok rfl rfl ?sd18 ?_); (try (case sd18 => (repeat' (first | exact trivial | with_reducible refine zI ?_ ?_)))); try (refine L.nil ?_))
    ((repeat refine S.seq ?_); refine S.cond rfl (fun h1 => ?_) (fun h1 => ?_) <;> (try first | refine S.skip ?_ | refine S.exit ?_))
    · cases h1
    repeat refine S.seq ?_
    refine S.draw [(3, [60])] mixed ?_
    (refine H.ts (T := tt) [0, 1, 2, 3, 4] tt_ok (by kernel_rfl) (by kernel_rfl) (by kernel_rfl) (by intro ch a a' w h; obtain ⟨_, _, _, _, _, h, _⟩ := h; cases h) rfl ?sd26 ?_; (try (case sd26 => (repeat' (first | exact trivial | with_reducible refine zI ?_ ?_ | rfl)))))
    refine H.o1 5 rfl (by kernel_rfl) (by kernel_rfl) (O.mapDel (T := tt) (kv := a.tagk.v) tt_ok KeyTag.kName rfl rfl rfl rfl rfl rfl rfl rfl (by exact ⟨by (repeat' (first | exact trivial)), by (repeat' (first | exact trivial)), rfl, hk⟩)) (.inl (by kernel_rfl)) (by kernel_rfl) fun _ => ?_
    refine H.done (by kernel_rfl) ?_
    refine rowsEq (crtR ad { s with acks := s.acks.filter (fun x => x.1 ≠ a.tagk) } (dynS ad s)) (by rw [del_tag]; rfl) ?_
    refine take1 93 (inM (pull1 (ms_get hmb hil))) ?_
    rw [← hm]
    ((repeat refine S.seq ?_); refine S.region (L.go (T := tt) tt_ok rfl rfl ?sd19 ?_); (try (case sd19 => (repeat' (first | exact trivial | with_reducible refine zI ?_ ?_)))); try (refine L.nil ?_))
    (refine L.store (T := tt) tt_ok rfl rfl rfl rfl rfl rfl ?sd23 ?_; (try (case sd23 => (repeat' (first | exact trivial | with_reducible refine zI ?_ ?_ | rfl | exact zN rfl)))))
    refine L.nil ?_
    refine rowsEq ((93, .blk (ad.mb.getD i 0) 116 (({ m with fin := true } : MsD).cells ad.bb)) :: crtR ad { s with acks := s.acks.filter (fun x => x.1 ≠ a.tagk) } _) rfl ?_
    refine put1 _ ((inM (push1 (by rw [msR_len hmb]; exact hil)).symm).symm) ?_
    rw [ms_set hmb hil]
    ((repeat refine S.seq ?_); refine S.region (L.go (T := tt) tt_ok rfl rfl ?sd20 ?_); (try (case sd20 => (repeat' (first | exact trivial | with_reducible refine zI ?_ ?_)))); try (refine L.nil ?_))
    ((repeat refine S.seq ?_); refine S.ret ?_)
    rw [e2]
    exact E.ret (T := tt) tt_ok rfl rfl (by (repeat' (first | exact trivial | with_reducible refine zI ?_ ?_))) (Imp.refl _) (List.Sublist.refl _) ⟨rfl, rfl⟩
end Go.Proofs.YtfdneepgpekmiaaDoor

/- The judge: a client holds a message no more. -/
namespace Go.Proofs.YtfdneepgpekmiaaDoor
set_option linter.unusedVariables false
set_option linter.unusedSimpArgs false
set_option maxHeartbeats 8000000
open Go.RowKit
set_option maxRecDepth 4000

def lockOf (q : Int) (m : Msg) : LockK := ⟨q, m.key⟩
theorem lock_ok {q : Int} {k : ByteArray} (hq : fitI q) (h : fitS k) : kOf Tryd.prog 160 (LockK.mk q k).v = true := KeyLock.kName_ok hq h
def leaves0 (s : Crt) (a : ActD) (i : Nat) : Crt := { s with holds := s.holds.filter (fun x => x.1 ≠ a.tagk), held := s.held.filter (fun x => x ≠ ⟨a.q, (s.ms.getD i default).m.key⟩) }
def leavesJ (s : Crt) (a : ActD) : Crt := match lkT s.holds a.tagk with
  | some i => if a.kind = 5 then { leaves0 s a i with acks := (a.tagk, i) :: s.acks, ms := s.ms.set i { s.ms.getD i default with ack := true } } else leaves0 s a i
  | none => s

theorem jleaves_p (ad : Adr) (s : Crt) (a : ActD) (ok : AdOk ad s) (co : CrtOk s) (ao : ActOk a) (hkeys : ∀ m ∈ s.ms, fitS m.m.key) : FnC Tryd.prog 77 [.ptr 60 ad.c 0, a.av] (courtR ad s)
    (fun r F' => r = .v (.bool (lkT s.holds a.tagk).isSome) ∧ F' = courtR ad (leavesJ s a)) := by
  have hk := tag_ok ao
  have hmb := ok.mb
  unfold courtR dynS
  refine FnC.intro Tryd.func77 rfl Tryd.ntmps77 rfl ?_; intro off w0
  repeat refine S.seq ?_
  refine S.region ?_
  refine L.box 91 rfl rfl rfl rfl rfl trivial rfl fun b4 => ?_
  (refine L.go (T := tt) tt_ok rfl rfl ?sd34 ?_; (try (case sd34 => (repeat' (first | exact trivial | with_reducible refine zI ?_ ?_)))); try (refine L.nil ?_))
  refine freezeBlk 3 91 rfl rfl rfl ?_
  ((repeat refine S.seq ?_); refine S.region (L.go (T := tt) tt_ok rfl rfl ?sd27 ?_); (try (case sd27 => (repeat' (first | exact trivial | with_reducible refine zI ?_ ?_ | rfl | exact zN rfl)))); try (refine L.nil ?_))
  refine L.alloc (T := tt) 92 tt_ok rfl rfl rfl rfl rfl fun b5 => ?_
  (refine L.store (T := tt) tt_ok rfl rfl rfl rfl rfl rfl ?sd35 ?_; (try (case sd35 => (repeat' (first | exact trivial | with_reducible refine zI ?_ ?_ | rfl | exact zN rfl)))))
  refine L.nil ?_
  refine freezeBlk 5 92 rfl rfl rfl ?_
  repeat refine S.seq ?_
  refine S.draw [(3, [60]), (5, [65])] mixed ?_
  (refine H.ts (T := tt) [0, 1, 2, 3, 4] tt_ok (by kernel_rfl) (by kernel_rfl) (by kernel_rfl) (by intro ch a a' w h; obtain ⟨_, _, _, _, _, h, _⟩ := h; cases h) rfl ?sd36 ?_; (try (case sd36 => (repeat' (first | exact trivial | with_reducible refine zI ?_ ?_ | rfl)))))
  refine H.s1 5 (A := .v (ptO ad.mb (lkT s.holds a.tagk))) rfl (by kernel_rfl) (by kernel_rfl) (by kernel_rfl) (by kernel_rfl) (by kernel_rfl) (by intro ch a a' w h; obtain ⟨_, _, _, _, _, h, _⟩ := h; cases h) rfl rfl (by kernel_rfl) (look_sure (T := tt) (z := .pointer none) (kv := a.tagk.v) tt_ok KeyTag.kName rfl rfl (by kernel_rfl) rfl rfl rfl (by (repeat' (first | exact trivial | with_reducible refine zI ?_ ?_))) rfl (fun _ _ => rfl) rfl hk look_tag) ?_
  (refine H.ts (T := tt) [6] tt_ok (by kernel_rfl) (by kernel_rfl) (by kernel_rfl) (by intro ch a a' w h; obtain ⟨_, _, _, _, _, h, _⟩ := h; cases h) rfl ?sd37 ?_; (try (case sd37 => (repeat' (first | exact trivial | with_reducible refine zI ?_ ?_)))))
  refine H.done (by kernel_rfl) ?_
  cases hi : lkT s.holds a.tagk with
  | none =>
    have e2 : leavesJ s a = s := by rw [leavesJ, hi]
    ((repeat refine S.seq ?_); refine S.region (L.go (T := tt) tt_ok rfl rfl ?sd28 ?_); (try (case sd28 => (repeat' (first | exact trivial | with_reducible refine zI ?_ ?_)))); try (refine L.nil ?_))
    ((repeat refine S.seq ?_); refine S.cond rfl (fun h1 => ?_) (fun h1 => ?_) <;> (try first | refine S.skip ?_ | refine S.exit ?_))
    · ((repeat refine S.seq ?_); refine S.region (L.go (T := tt) tt_ok rfl rfl ?sd29 ?_); (try (case sd29 => (repeat' (first | exact trivial | with_reducible refine zI ?_ ?_)))); try (refine L.nil ?_))
      ((repeat refine S.seq ?_); refine S.ret ?_)
      rw [e2]
      exact E.ret (T := tt) tt_ok rfl rfl (by (repeat' (first | exact trivial | with_reducible refine zI ?_ ?_))) (F' := crtR ad s _) (Imp.refl _) (List.Sublist.refl _) ⟨rfl, rfl⟩
    cases h1
  | some i =>
    have hil : i < s.ms.length := co.holds _ (lkT_mem hi)
    obtain ⟨m, hm⟩ : ∃ m, m = s.ms.getD i default := ⟨_, rfl⟩
    have hmk : fitS m.m.key := hkeys m (by rw [hm, getD_get hil]; exact List.getElem_mem _)
    refine slotAs 6 (.ptr 93 (ad.mb.getD i 0) 0) rfl (Imp.vptr 93 _ 0) ?_
    ((repeat refine S.seq ?_); refine S.region (L.go (T := tt) tt_ok rfl rfl ?sd30 ?_); (try (case sd30 => (repeat' (first | exact trivial | with_reducible refine zI ?_ ?_)))); try (refine L.nil ?_))
    ((repeat refine S.seq ?_); refine S.cond rfl (fun h1 => ?_) (fun h1 => ?_) <;> (try first | refine S.skip ?_ | refine S.exit ?_))
    · cases h1
    repeat refine S.seq ?_
    refine S.draw [(3, [60])] mixed ?_
    (refine H.ts (T := tt) [0, 1, 2, 3, 4] tt_ok (by kernel_rfl) (by kernel_rfl) (by kernel_rfl) (by intro ch a a' w h; obtain ⟨_, _, _, _, _, h, _⟩ := h; cases h) rfl ?sd38 ?_; (try (case sd38 => (repeat' (first | exact trivial | with_reducible refine zI ?_ ?_ | rfl)))))
    refine H.o1 5 rfl (by kernel_rfl) (by kernel_rfl) (O.mapDel (T := tt) (kv := a.tagk.v) tt_ok KeyTag.kName rfl rfl rfl rfl rfl rfl rfl rfl (by exact ⟨by (repeat' (first | exact trivial)), by (repeat' (first | exact trivial)), rfl, hk⟩)) (.inl (by kernel_rfl)) (by kernel_rfl) fun _ => ?_
    refine H.done (by kernel_rfl) ?_
    refine rowsEq (crtR ad { s with holds := s.holds.filter (fun x => x.1 ≠ a.tagk) } (dynS ad s)) (by rw [del_tag]; rfl) ?_
    refine take1 93 (inM (pull1 (ms_get hmb hil))) ?_
    rw [← hm]
    repeat refine S.seq ?_
    refine S.draw [(3, [60]), (10, [93])] mixed ?_
    (refine H.ts (T := tt) [0, 1, 2, 3, 4, 5, 6, 7, 8, 9, 10, 11] tt_ok (by kernel_rfl) (by kernel_rfl) (by kernel_rfl) (by intro ch a a' w h; obtain ⟨_, _, _, _, _, h, _⟩ := h; cases h) rfl ?sd39 ?_; (try (case sd39 => (repeat' (first | exact trivial | with_reducible refine zI ?_ ?_ | rfl | exact zN rfl)))))
    refine H.o1 12 rfl (by kernel_rfl) (by kernel_rfl) (O.mapDel (T := tt) (kv := (LockK.mk a.q m.m.key).v) tt_ok KeyLock.kName rfl rfl rfl rfl rfl rfl rfl rfl (by exact ⟨by (repeat' (first | exact trivial)), by (repeat' (first | exact trivial)), rfl, lock_ok ao.q hmk⟩)) (.inl (by kernel_rfl)) (by kernel_rfl) fun _ => ?_
    refine H.done (by kernel_rfl) ?_
    refine rowsEq ((93, .blk (ad.mb.getD i 0) 116 (m.cells ad.bb)) :: crtR ad (leaves0 s a i) _) (by rw [leaves0, ← hm, del_lock]; rfl) ?_
    ((repeat refine S.seq ?_); refine S.region (L.go (T := tt) tt_ok rfl rfl ?sd31 ?_); (try (case sd31 => (repeat' (first | exact trivial | with_reducible refine zI ?_ ?_)))); try (refine L.nil ?_))
    ((repeat refine S.seq ?_); refine S.cond rfl (fun h5 => ?_) (fun h5 => ?_) <;> (try first | refine S.skip ?_ | refine S.exit ?_))
    · have h5n : a.kind = 5 := of_dec h5
      have e2 : leavesJ s a = { leaves0 s a i with acks := (a.tagk, i) :: s.acks, ms := s.ms.set i { m with ack := true } } := by rw [leavesJ, hi, hm]; exact if_pos h5n
      repeat refine S.seq ?_
      refine S.draw [(4, [60])] mixed ?_
      (refine H.ts (T := tt) [0, 1, 2, 3, 4, 5, 6, 7, 8] tt_ok (by kernel_rfl) (by kernel_rfl) (by kernel_rfl) (by intro ch a a' w h; obtain ⟨_, _, _, _, _, h, _⟩ := h; cases h) rfl ?sd40 ?_; (try (case sd40 => (repeat' (first | exact trivial | with_reducible refine zI ?_ ?_ | rfl)))))
      refine H.tell 48 (.v (ptV (ad.mb.getD i 0))) rfl (Imp.ptrv 93 _ 0) ?_
      (refine H.store (T := tt) 9 rfl (by kernel_rfl) (by kernel_rfl) tt_ok rfl rfl rfl rfl rfl rfl ?sd42 rfl (by kernel_rfl) ?_; (try (case sd42 => (repeat' (first | exact trivial | with_reducible refine zI ?_ ?_ | rfl | exact zN rfl)))))
      refine H.o1 10 rfl (by kernel_rfl) (by kernel_rfl) (O.mapEntry (T := tt) (z := .pointer none) (kv := a.tagk.v) tt_ok KeyTag.kName rfl rfl rfl (by kernel_rfl) rfl (by kernel_rfl) rfl rfl rfl rfl (by exact ⟨by (repeat' (first | exact trivial)), by (repeat' (first | exact trivial)), rfl, hk⟩)) (.inl (by kernel_rfl)) (by kernel_rfl) fun st => ?_
      refine H.rebase ?_
      (refine H.ts (T := tt) [11] tt_ok (by kernel_rfl) (by kernel_rfl) (by kernel_rfl) (by intro ch a a' w h; obtain ⟨_, _, _, _, _, h, _⟩ := h; cases h) rfl ?sd41 ?_; (try (case sd41 => (repeat' (first | exact trivial | with_reducible refine zI ?_ ?_)))))
      refine H.o1 12 rfl (by kernel_rfl) (by kernel_rfl) (O.entryStore rfl rfl rfl rfl rfl rfl rfl (by exact ⟨by (repeat' (first | exact trivial)), by (repeat' (first | exact trivial)), by (repeat' (first | exact trivial)), rfl, rfl⟩)) (.inl (by kernel_rfl)) (by kernel_rfl) fun _ => ?_
      refine H.done (by kernel_rfl) ?_
      refine mapSay 66 (tagM ((a.tagk, i) :: s.acks) ad.mb) rfl (mget_twice _ _ _ _) ?_
      refine rowsEq ((93, .blk (ad.mb.getD i 0) 116 (({ m with ack := true } : MsD).cells ad.bb)) :: crtR ad { leaves0 s a i with acks := (a.tagk, i) :: s.acks } _) rfl ?_
      refine put1 _ ((inM (push1 (by rw [msR_len hmb]; exact hil)).symm).symm) ?_
      rw [ms_set hmb hil]
      ((repeat refine S.seq ?_); refine S.region (L.go (T := tt) tt_ok rfl rfl ?sd32 ?_); (try (case sd32 => (repeat' (first | exact trivial | with_reducible refine zI ?_ ?_)))); try (refine L.nil ?_))
      ((repeat refine S.seq ?_); refine S.ret ?_)
      rw [e2]
      exact E.ret (T := tt) tt_ok rfl rfl (by (repeat' (first | exact trivial | with_reducible refine zI ?_ ?_))) (Imp.refl _) (List.Sublist.refl _) ⟨rfl, rfl⟩
    · have h5n : ¬ a.kind = 5 := of_dec' h5
      have e2 : leavesJ s a = leaves0 s a i := by rw [leavesJ, hi]; exact if_neg h5n
      refine put1 _ ((inM (pull1 (by rw [hm]; exact ms_get hmb hil))).symm) ?_
      ((repeat refine S.seq ?_); refine S.region (L.go (T := tt) tt_ok rfl rfl ?sd33 ?_); (try (case sd33 => (repeat' (first | exact trivial | with_reducible refine zI ?_ ?_)))); try (refine L.nil ?_))
      ((repeat refine S.seq ?_); refine S.ret ?_)
      rw [e2]
      exact E.ret (T := tt) tt_ok rfl rfl (by (repeat' (first | exact trivial | with_reducible refine zI ?_ ?_))) (Imp.refl _) (List.Sublist.refl _) ⟨rfl, rfl⟩
end Go.Proofs.YtfdneepgpekmiaaDoor

/- The judge: a message is handed out. -/
namespace Go.Proofs.YtfdneepgpekmiaaDoor
set_option linter.unusedVariables false
set_option linter.unusedSimpArgs false
set_option maxHeartbeats 8000000
open Go.RowKit
set_option maxRecDepth 4000

def lastAt (s : Crt) (c : Int) : Int := if c = 0 then s.l0 else if c = 1 then s.l1 else if c = 2 then s.l2 else s.l3
def setLast (s : Crt) (c t : Int) : Crt := { s with l0 := if c = 0 then t else s.l0, l1 := if c = 1 then t else s.l1, l2 := if c = 2 then t else s.l2, l3 := if c = 3 then t else s.l3 }
def ActD.mline (a : ActD) : LineK := ⟨a.m.pub, a.q, a.m.key⟩
def ActD.mlock (a : ActD) : LockK := ⟨a.q, a.m.key⟩
def dL (s : Crt) (a : ActD) : List Nat := lkL s.all a.mline
def dNo1 (s : Crt) (a : ActD) : Bool := ((decide (a.tag ≤ lastAt s a.cl) || decide (a.m.seq < 1)) || decide (a.m.seq > ((dL s a).length : Int))) || decide (a.mlock ∈ s.held)
def dI (s : Crt) (a : ActD) : Nat := (dL s a).getD (a.m.seq - 1).toNat default
def dX (s : Crt) (a : ActD) : MsD := s.ms.getD (dI s a) default
def bare (m : Msg) : Msg := { m with again := false }
def bareC (m : Msg) : List AV := [.v (.int .i64 m.pub), .v (.int .i64 m.seq), .v (.string m.key), .v (.string m.body), .v (.bool false)]
def stOf (s : Crt) (x : MsD) : Int := (s.bs.getD x.bt default).st
def dNo2 (s : Crt) (a : ActD) : Bool := ((!decide ((dX s a).m = bare a.m) || (stOf s (dX s a) == 2)) || (dX s a).fin) || ((dX s a).del != a.m.again)
def dY (s : Crt) (a : ActD) (j : Nat) : MsD := s.ms.getD ((dL s a).getD j default) default
def dWait (s : Crt) (a : ActD) (j : Nat) : Bool := !(dY s a j).del && !(stOf s (dY s a j) == 2)
def dNo3 (s : Crt) (a : ActD) : Bool := !(dX s a).del && (List.range (a.m.seq - 1).toNat).any (dWait s a)
def delivB (s : Crt) (a : ActD) : Bool := !dNo1 s a && !dNo2 s a && !dNo3 s a
def delivS (s : Crt) (a : ActD) : Crt := if delivB s a then { setLast s a.cl a.tag with ms := s.ms.set (dI s a) { dX s a with del := true, ack := false }, held := a.mlock :: s.held, holds := (a.tagk, dI s a) :: s.holds } else s

def ActD.cellsC (a : ActD) (c : Int) : List AV := [.v (.int .i64 a.kind), .v (.int .i64 c), .v (.int .i64 a.q), .v (.int .i64 a.seq), .v (.int .i64 a.tag), .v (.int .i64 a.code), .v (.string a.key), .v (.string a.body), .v (.int .i64 a.many),
  .v (.int .i64 a.m.pub), .v (.int .i64 a.m.seq), .v (.string a.m.key), .v (.string a.m.body), .v (.bool a.m.again)]
theorem cellsC_eq {a : ActD} {c : Int} (h : a.cl = c) : a.cells = a.cellsC c := by subst h; rfl
def MsD.cellsW (p : AV) (x : MsD) : List AV := [.v (.int .i64 x.m.pub), .v (.int .i64 x.m.seq), .v (.string x.m.key), .v (.string x.m.body), .v (.bool x.m.again), p, .v (.bool x.del), .v (.bool x.ack), .v (.bool x.fin)]
theorem mline_ok {a : ActD} (h : ActOk a) : kOf Tryd.prog 157 a.mline.v = true := KeyLine.kName_ok h.mpub h.q (by have := h.mkey; show a.m.key.size ≤ _; omega)
theorem mlock_ok {a : ActD} (h : ActOk a) : kOf Tryd.prog 160 a.mlock.v = true := lock_ok h.q (by have := h.mkey; show a.m.key.size ≤ _; omega)

theorem jdeliver_p (ad : Adr) (s : Crt) (a : ActD) (ok : AdOk ad s) (co : CrtOk s) (ao : ActOk a) (hcl : a.cl = 0 ∨ a.cl = 1 ∨ a.cl = 2 ∨ a.cl = 3) : FnC Tryd.prog 76 [.ptr 60 ad.c 0, a.av] (courtR ad s)
    (fun r F' => r = .v (.bool (delivB s a)) ∧ F' = courtR ad (delivS s a)) := by
  have hk := mline_ok ao
  have hmb := ok.mb
  have hbb := ok.bb
  have hbl := co.blen
  have hml := co.mlen
  obtain ⟨l, hl⟩ : ∃ l, l = dL s a := ⟨_, rfl⟩
  have hln : l.length ≤ 8000 := by
    rcases lk_mem (l := s.all) (k := a.mline) with h | ⟨p, hp, h⟩
    · rw [hl, dL, h]; simp
    · rw [hl, dL, ← h]; have := co.len2 p hp; omega
  have hlb : ∀ j ∈ l, j < s.ms.length := fun j hj => by
    rcases lk_mem (l := s.all) (k := a.mline) with h | ⟨p, hp, h⟩
    · rw [hl, dL, h] at hj; cases hj
    · rw [hl, dL, ← h] at hj; exact co.all p hp j hj
  have hopen := fun C M => openB (E := 111) (pb := ad.mb) (k := a.mline) (A := lineR 114 ad.bb s.bat ad.xb) (C := C) (M := M) ok.xa
  obtain ⟨x, hx⟩ : ∃ x, x = slx s.all ad.xa a.mline := ⟨_, rfl⟩
  rw [dL] at hl
  simp only [← hx, ← hl] at hopen
  obtain ⟨A', hA'⟩ : ∃ A', A' = rmR 111 ad.mb s.all ad.xa a.mline := ⟨_, rfl⟩
  simp only [← hA'] at hopen
  have hr1' : dNo1 s a = false → 1 ≤ a.m.seq ∧ a.m.seq ≤ (l.length : Int) := fun h1 => by
    simp only [dNo1, Bool.or_eq_false_iff, decide_eq_false_iff_not, dL, ← hl] at h1
    omega
  have hIl' : dNo1 s a = false → dI s a < s.ms.length := fun h1 => by
    have hr1 := hr1' h1
    have hsI : dI s a = l[(a.m.seq - 1).toNat]'(by omega) := by rw [dI, dL, ← hl, getD_get]
    exact hlb _ (by rw [hsI]; exact List.getElem_mem _)
  have hbt' : dNo1 s a = false → (dX s a).bt < s.bs.length := fun h1 => co.bt _ (by rw [dX, getD_get (hIl' h1)]; exact List.getElem_mem _)
  unfold courtR dynS
  refine FnC.intro Tryd.func76 rfl Tryd.ntmps76 rfl ?_; intro off w0
  repeat refine S.seq ?_
  refine S.region ?_
  refine L.box 91 rfl rfl rfl rfl rfl trivial rfl fun b4 => ?_
  (refine L.go (T := tt) tt_ok rfl rfl ?sd54 ?_; (try (case sd54 => (repeat' (first | exact trivial | with_reducible refine zI ?_ ?_)))); try (refine L.nil ?_))
  refine freezeBlk 3 91 rfl rfl rfl ?_
  refine openR 90 (hopen _ _) ?_
  repeat refine S.seq ?_
  refine S.scopeE 0 (ι := { i : Nat // dNo1 s a = false ∧ dNo2 s a = false ∧ (i : Int) ≤ a.m.seq - 1 ∧ ∀ j, j < i → dWait s a j = false }) (fun i => [(0, .ptr 60 ad.c 0), (3, .pel 14 a.cells), (6, .pel 5 (bareC a.m)), (7, .ref 90 x), (8, .ptr 93 (ad.mb.getD (dI s a) 0) 0), (9, .v (.int .i64 i.1))])
    (fun _ => (90, rowL 111 ad.mb x l) :: crtR ad s (dyn4 (lineR 114 ad.bb s.bat ad.xb) A' (batR s.bs ad.bb) (msR s.ms ad.mb ad.bb))) (fun i => (a.m.seq - 1).toNat - i.1) rfl ?_ ?_
  · rintro ⟨i, h1, h2, hi, hno⟩ J hJ
    dsimp only at hi hno hJ ⊢
    have hr1 := hr1' h1
    have hIl := hIl' h1
    refine take2 93 (inM (pull1 (ms_get hmb hIl))) ?_
    refine rowsEq ((93, .blk (ad.mb.getD (dI s a) 0) 116 ((dX s a).cells ad.bb)) :: (90, rowL 111 ad.mb x l) :: crtR ad s (dyn4 (lineR 114 ad.bb s.bat ad.xb) A' (batR s.bs ad.bb) ((msR s.ms ad.mb ad.bb).eraseIdx (dI s a)))) rfl ?_
    ((repeat refine S.seq ?_); refine S.region (L.go (T := tt) tt_ok rfl rfl ?sd43 ?_); (try (case sd43 => (repeat' (first | exact trivial | exact zA | with_reducible refine zI ?_ ?_ | exact zB | exact zC | (simp; done) | (unfold fits; omega))))); try (refine L.nil ?_))
    ((repeat refine S.seq ?_); refine S.cond rfl (fun hc => ?_) (fun hc => ?_) <;> (try first | refine S.skip ?_ | refine S.exit ?_))
    · have hc2 : (i : Int) < a.m.seq - 1 ∧ (dX s a).del = false := by simpa using hc
      refine put2 _ (inM (pull1 (ms_get hmb hIl))).symm ?_
      obtain ⟨j, hj⟩ : ∃ j, j = l.getD i default := ⟨_, rfl⟩
      have hjl : j < s.ms.length := hlb j (by rw [hj, getD_get (by omega)]; exact List.getElem_mem _)
      have hy : dY s a i = s.ms.getD j default := by rw [dY, dL, ← hl, ← hj]
      have hyb : (dY s a i).bt < s.bs.length := co.bt _ (by rw [hy, getD_get hjl]; exact List.getElem_mem _)
      ((repeat refine S.seq ?_); refine S.region (L.go (T := tt) tt_ok rfl rfl ?sd44 ?_); (try (case sd44 => (repeat' (first | exact trivial | with_reducible refine zI ?_ ?_ | rfl | omega)))); try (refine L.nil ?_))
      refine slotAs 10 (.ptr 93 (ad.mb.getD j 0) 0) rfl (Imp.trans (Imp.of_eq (show _ = AV.v (ptV (ad.mb.getD j 0)) from by rw [hj]; rfl)) (Imp.vptr 93 _ 0)) ?_
      refine take2 93 (inM (pull1 (ms_get hmb hjl))) ?_
      rw [← hy]
      refine take3 94 (inC (pull1 (bat_get hbb hyb))) ?_
      refine blkAs 93 ((dY s a i).cellsW (.ptr 94 (ad.bb.getD (dY s a i).bt 0) 0)) rfl ⟨Imp.refl _, Imp.refl _, Imp.refl _, Imp.refl _, Imp.refl _, Imp.vptr 94 _ 0, Imp.refl _, Imp.refl _, Imp.refl _, trivial⟩ ?_
      ((repeat refine S.seq ?_); refine S.region (L.go (T := tt) tt_ok rfl rfl ?sd45 ?_); (try (case sd45 => (repeat' (first | exact trivial | exact zA | with_reducible refine zI ?_ ?_ | exact zB | exact zE | rfl | (simp; done))))); try (refine L.nil ?_))
      refine slotAs 131 (.v (.bool (dWait s a i))) rfl (Imp.of_eq rfl) ?_
      refine rowsEq ((94, .blk (ad.bb.getD (dY s a i).bt 0) 113 (s.bs.getD (dY s a i).bt default).cells) :: (93, .blk (ad.mb.getD j 0) 116 ((dY s a i).cellsW (.ptr 94 (ad.bb.getD (dY s a i).bt 0) 0))) :: (90, rowL 111 ad.mb x l) :: crtR ad s (dyn4 (lineR 114 ad.bb s.bat ad.xb) A' ((batR s.bs ad.bb).eraseIdx (dY s a i).bt) ((msR s.ms ad.mb ad.bb).eraseIdx j))) rfl ?_
      refine put3 _ (inC (pull1 (bat_get hbb hyb))).symm ?_
      refine blkAs 93 ((dY s a i).cells ad.bb) rfl ⟨Imp.refl _, Imp.refl _, Imp.refl _, Imp.refl _, Imp.refl _, Imp.ptrv 94 _ 0, Imp.refl _, Imp.refl _, Imp.refl _, trivial⟩ ?_
      refine rowsEq ((93, .blk (ad.mb.getD j 0) 116 ((dY s a i).cells ad.bb)) :: (90, rowL 111 ad.mb x l) :: crtR ad s (dyn4 (lineR 114 ad.bb s.bat ad.xb) A' (batR s.bs ad.bb) ((msR s.ms ad.mb ad.bb).eraseIdx j))) rfl ?_
      refine put2 _ (inM (pull1 (by rw [hy]; exact ms_get hmb hjl))).symm ?_
      ((repeat refine S.seq ?_); refine S.cond rfl (fun hw => ?_) (fun hw => ?_) <;> (try first | refine S.skip ?_ | refine S.exit ?_))
      · have e1 : delivB s a = false := by
          have h3 : dNo3 s a = true := by
            rw [dNo3, hc2.2, Bool.not_false, Bool.true_and, List.any_eq_true]
            exact ⟨i, List.mem_range.2 (by omega), hw⟩
          rw [delivB, h3, Bool.not_true, Bool.and_false]
        have e2 : delivS s a = s := by rw [delivS, e1]; rfl
        ((repeat refine S.seq ?_); refine S.region (L.go (T := tt) tt_ok rfl rfl ?sd46 ?_); (try (case sd46 => (repeat' (first | exact trivial | with_reducible refine zI ?_ ?_)))); try (refine L.nil ?_))
        refine closeR (hopen _ _) ?_
        ((repeat refine S.seq ?_); refine S.ret ?_)
        rw [e1, e2]
        exact E.ret (T := tt) tt_ok rfl rfl (by (repeat' (first | exact trivial | with_reducible refine zI ?_ ?_))) (Imp.refl _) (List.Sublist.refl _) ⟨rfl, rfl⟩
      ((repeat refine S.seq ?_); refine S.region (L.go (T := tt) tt_ok rfl rfl ?sd47 ?_); (try (case sd47 => (repeat' (first | exact trivial | with_reducible refine zI ?_ ?_ | (unfold fits; omega))))); try (refine L.nil ?_))
      repeat refine S.seq ?_
      refine S.goto ?_
      exact fun a' w hR => ⟨rfl, hJ a' w ⟨i + 1, h1, h2, by omega, fun j' hj' => by
        rcases Nat.lt_or_ge j' i with hlt | hge
        · exact hno j' hlt
        · have : j' = i := by omega
          subst this
          exact hw⟩ (by show (a.m.seq - 1).toNat - (i + 1) < (a.m.seq - 1).toNat - i; omega) (hR.weakP (by (repeat' (first | exact True.intro | exact Imp.refl _ | refine ⟨?_, ?_⟩))) (Sub.self _))⟩
    have e1 : delivB s a = true := by
      have h3 : dNo3 s a = false := by
        rw [dNo3]
        cases hd : (dX s a).del with
        | true => rfl
        | false =>
          have hc2 : ¬ (i : Int) < a.m.seq - 1 := by
            intro h
            rw [hd] at hc
            simp at hc
            omega
          rw [Bool.not_false, Bool.true_and, List.any_eq_false]
          intro j hj
          rw [hno j (by have := List.mem_range.1 hj; omega)]
          decide
      rw [delivB, h1, h2, h3]
      rfl
    have e2 : delivS s a = { setLast s a.cl a.tag with ms := s.ms.set (dI s a) { dX s a with del := true, ack := false }, held := a.mlock :: s.held, holds := (a.tagk, dI s a) :: s.holds } := by rw [delivS, e1]; rfl
    repeat refine S.seq ?_
    refine S.cut (ι := Unit) (fun i => [(0, .ptr 60 ad.c 0), (3, .pel 14 a.cells), (6, .pel 5 (bareC a.m)), (8, .ptr 93 (ad.mb.getD (dI s a) 0) 0)])
      (fun i => (93, .blk (ad.mb.getD (dI s a) 0) 116 (({ dX s a with del := true, ack := false } : MsD).cells ad.bb)) :: (90, rowL 111 ad.mb x l) :: crtR ad (setLast s a.cl a.tag) (dyn4 (lineR 114 ad.bb s.bat ad.xb) A' (batR s.bs ad.bb) ((msR s.ms ad.mb ad.bb).eraseIdx (dI s a)))) ?_ ?_
    · rcases hcl with h | h | h | h
      · have hst : setLast s 0 a.tag = { s with l0 := a.tag } := rfl
        refine slotAs 3 (.pel 14 (a.cellsC 0)) rfl (Imp.of_eq (by rw [← cellsC_eq h])) ?_
        refine S.draw [] mixed ?_
        (refine H.ts (T := tt) [0, 1, 2, 3, 4, 5, 6, 7, 8, 13, 14] tt_ok (by kernel_rfl) (by kernel_rfl) (by kernel_rfl) (by intro ch a a' w h; obtain ⟨_, _, _, _, _, h, _⟩ := h; cases h) rfl ?sd56 ?_; (try (case sd56 => (repeat' (first | exact trivial | with_reducible refine zI ?_ ?_)))))
        (refine H.store (T := tt) 9 rfl (by kernel_rfl) (by kernel_rfl) tt_ok rfl rfl rfl rfl rfl rfl ?sd83 rfl (by kernel_rfl) ?_; (try (case sd83 => (repeat' (first | exact trivial | with_reducible refine zI ?_ ?_ | rfl | exact zN rfl)))))
        (refine H.ts (T := tt) [10, 11] tt_ok (by kernel_rfl) (by kernel_rfl) (by kernel_rfl) (by intro ch a a' w h; obtain ⟨_, _, _, _, _, h, _⟩ := h; cases h) rfl ?sd57 ?_; (try (case sd57 => (repeat' (first | exact trivial | with_reducible refine zI ?_ ?_)))))
        (refine H.store (T := tt) 12 rfl (by kernel_rfl) (by kernel_rfl) tt_ok rfl rfl rfl rfl rfl rfl ?sd84 rfl (by kernel_rfl) ?_; (try (case sd84 => (repeat' (first | exact trivial | with_reducible refine zI ?_ ?_ | rfl | exact zN rfl)))))
        (refine H.ts (T := tt) [15] tt_ok (by kernel_rfl) (by kernel_rfl) (by kernel_rfl) (by intro ch a a' w h; obtain ⟨_, _, _, _, _, h, _⟩ := h; cases h) rfl ?sd58 ?_; (try (case sd58 => (repeat' (first | exact trivial | with_reducible refine zI ?_ ?_ | omega)))))
        (refine H.store (T := tt) 16 rfl (by kernel_rfl) (by kernel_rfl) tt_ok rfl rfl rfl rfl rfl rfl ?sd85 rfl (by kernel_rfl) ?_; (try (case sd85 => (repeat' (first | exact trivial | with_reducible refine zI ?_ ?_ | rfl | exact zN rfl)))))
        refine H.done (by kernel_rfl) ?_
        refine slotAs 3 (.pel 14 a.cells) rfl (Imp.of_eq (by rw [← cellsC_eq h])) ?_
        refine rowsEq ((93, .blk (ad.mb.getD (dI s a) 0) 116 (({ dX s a with del := true, ack := false } : MsD).cells ad.bb)) :: (90, rowL 111 ad.mb x l) :: crtR ad (setLast s a.cl a.tag) (dyn4 (lineR 114 ad.bb s.bat ad.xb) A' (batR s.bs ad.bb) ((msR s.ms ad.mb ad.bb).eraseIdx (dI s a)))) (by rw [h]; rfl) ?_
        exact fun a w h => ⟨(), h.weak (by (repeat' (first | exact True.intro | exact Imp.refl _ | refine ⟨?_, ?_⟩))) (List.Sublist.refl _)⟩
      · have hst : setLast s 1 a.tag = { s with l1 := a.tag } := rfl
        refine slotAs 3 (.pel 14 (a.cellsC 1)) rfl (Imp.of_eq (by rw [← cellsC_eq h])) ?_
        refine S.draw [] mixed ?_
        (refine H.ts (T := tt) [0, 1, 2, 3, 4, 5, 6, 7, 8, 13, 14] tt_ok (by kernel_rfl) (by kernel_rfl) (by kernel_rfl) (by intro ch a a' w h; obtain ⟨_, _, _, _, _, h, _⟩ := h; cases h) rfl ?sd59 ?_; (try (case sd59 => (repeat' (first | exact trivial | with_reducible refine zI ?_ ?_)))))
        (refine H.store (T := tt) 9 rfl (by kernel_rfl) (by kernel_rfl) tt_ok rfl rfl rfl rfl rfl rfl ?sd86 rfl (by kernel_rfl) ?_; (try (case sd86 => (repeat' (first | exact trivial | with_reducible refine zI ?_ ?_ | rfl | exact zN rfl)))))
        (refine H.ts (T := tt) [10, 11] tt_ok (by kernel_rfl) (by kernel_rfl) (by kernel_rfl) (by intro ch a a' w h; obtain ⟨_, _, _, _, _, h, _⟩ := h; cases h) rfl ?sd60 ?_; (try (case sd60 => (repeat' (first | exact trivial | with_reducible refine zI ?_ ?_)))))
        (refine H.store (T := tt) 12 rfl (by kernel_rfl) (by kernel_rfl) tt_ok rfl rfl rfl rfl rfl rfl ?sd87 rfl (by kernel_rfl) ?_; (try (case sd87 => (repeat' (first | exact trivial | with_reducible refine zI ?_ ?_ | rfl | exact zN rfl)))))
        (refine H.ts (T := tt) [15] tt_ok (by kernel_rfl) (by kernel_rfl) (by kernel_rfl) (by intro ch a a' w h; obtain ⟨_, _, _, _, _, h, _⟩ := h; cases h) rfl ?sd61 ?_; (try (case sd61 => (repeat' (first | exact trivial | with_reducible refine zI ?_ ?_ | omega)))))
        (refine H.store (T := tt) 16 rfl (by kernel_rfl) (by kernel_rfl) tt_ok rfl rfl rfl rfl rfl rfl ?sd88 rfl (by kernel_rfl) ?_; (try (case sd88 => (repeat' (first | exact trivial | with_reducible refine zI ?_ ?_ | rfl | exact zN rfl)))))
        refine H.done (by kernel_rfl) ?_
        refine slotAs 3 (.pel 14 a.cells) rfl (Imp.of_eq (by rw [← cellsC_eq h])) ?_
        refine rowsEq ((93, .blk (ad.mb.getD (dI s a) 0) 116 (({ dX s a with del := true, ack := false } : MsD).cells ad.bb)) :: (90, rowL 111 ad.mb x l) :: crtR ad (setLast s a.cl a.tag) (dyn4 (lineR 114 ad.bb s.bat ad.xb) A' (batR s.bs ad.bb) ((msR s.ms ad.mb ad.bb).eraseIdx (dI s a)))) (by rw [h]; rfl) ?_
        exact fun a w h => ⟨(), h.weak (by (repeat' (first | exact True.intro | exact Imp.refl _ | refine ⟨?_, ?_⟩))) (List.Sublist.refl _)⟩
      · have hst : setLast s 2 a.tag = { s with l2 := a.tag } := rfl
        refine slotAs 3 (.pel 14 (a.cellsC 2)) rfl (Imp.of_eq (by rw [← cellsC_eq h])) ?_
        refine S.draw [] mixed ?_
        (refine H.ts (T := tt) [0, 1, 2, 3, 4, 5, 6, 7, 8, 13, 14] tt_ok (by kernel_rfl) (by kernel_rfl) (by kernel_rfl) (by intro ch a a' w h; obtain ⟨_, _, _, _, _, h, _⟩ := h; cases h) rfl ?sd62 ?_; (try (case sd62 => (repeat' (first | exact trivial | with_reducible refine zI ?_ ?_)))))
        (refine H.store (T := tt) 9 rfl (by kernel_rfl) (by kernel_rfl) tt_ok rfl rfl rfl rfl rfl rfl ?sd89 rfl (by kernel_rfl) ?_; (try (case sd89 => (repeat' (first | exact trivial | with_reducible refine zI ?_ ?_ | rfl | exact zN rfl)))))
        (refine H.ts (T := tt) [10, 11] tt_ok (by kernel_rfl) (by kernel_rfl) (by kernel_rfl) (by intro ch a a' w h; obtain ⟨_, _, _, _, _, h, _⟩ := h; cases h) rfl ?sd63 ?_; (try (case sd63 => (repeat' (first | exact trivial | with_reducible refine zI ?_ ?_)))))
        (refine H.store (T := tt) 12 rfl (by kernel_rfl) (by kernel_rfl) tt_ok rfl rfl rfl rfl rfl rfl ?sd90 rfl (by kernel_rfl) ?_; (try (case sd90 => (repeat' (first | exact trivial | with_reducible refine zI ?_ ?_ | rfl | exact zN rfl)))))
        (refine H.ts (T := tt) [15] tt_ok (by kernel_rfl) (by kernel_rfl) (by kernel_rfl) (by intro ch a a' w h; obtain ⟨_, _, _, _, _, h, _⟩ := h; cases h) rfl ?sd64 ?_; (try (case sd64 => (repeat' (first | exact trivial | with_reducible refine zI ?_ ?_ | omega)))))
        (refine H.store (T := tt) 16 rfl (by kernel_rfl) (by kernel_rfl) tt_ok rfl rfl rfl rfl rfl rfl ?sd91 rfl (by kernel_rfl) ?_; (try (case sd91 => (repeat' (first | exact trivial | with_reducible refine zI ?_ ?_ | rfl | exact zN rfl)))))
        refine H.done (by kernel_rfl) ?_
        refine slotAs 3 (.pel 14 a.cells) rfl (Imp.of_eq (by rw [← cellsC_eq h])) ?_
        refine rowsEq ((93, .blk (ad.mb.getD (dI s a) 0) 116 (({ dX s a with del := true, ack := false } : MsD).cells ad.bb)) :: (90, rowL 111 ad.mb x l) :: crtR ad (setLast s a.cl a.tag) (dyn4 (lineR 114 ad.bb s.bat ad.xb) A' (batR s.bs ad.bb) ((msR s.ms ad.mb ad.bb).eraseIdx (dI s a)))) (by rw [h]; rfl) ?_
        exact fun a w h => ⟨(), h.weak (by (repeat' (first | exact True.intro | exact Imp.refl _ | refine ⟨?_, ?_⟩))) (List.Sublist.refl _)⟩
      · have hst : setLast s 3 a.tag = { s with l3 := a.tag } := rfl
        refine slotAs 3 (.pel 14 (a.cellsC 3)) rfl (Imp.of_eq (by rw [← cellsC_eq h])) ?_
        refine S.draw [] mixed ?_
        (refine H.ts (T := tt) [0, 1, 2, 3, 4, 5, 6, 7, 8, 13, 14] tt_ok (by kernel_rfl) (by kernel_rfl) (by kernel_rfl) (by intro ch a a' w h; obtain ⟨_, _, _, _, _, h, _⟩ := h; cases h) rfl ?sd65 ?_; (try (case sd65 => (repeat' (first | exact trivial | with_reducible refine zI ?_ ?_)))))
        (refine H.store (T := tt) 9 rfl (by kernel_rfl) (by kernel_rfl) tt_ok rfl rfl rfl rfl rfl rfl ?sd92 rfl (by kernel_rfl) ?_; (try (case sd92 => (repeat' (first | exact trivial | with_reducible refine zI ?_ ?_ | rfl | exact zN rfl)))))
        (refine H.ts (T := tt) [10, 11] tt_ok (by kernel_rfl) (by kernel_rfl) (by kernel_rfl) (by intro ch a a' w h; obtain ⟨_, _, _, _, _, h, _⟩ := h; cases h) rfl ?sd66 ?_; (try (case sd66 => (repeat' (first | exact trivial | with_reducible refine zI ?_ ?_)))))
        (refine H.store (T := tt) 12 rfl (by kernel_rfl) (by kernel_rfl) tt_ok rfl rfl rfl rfl rfl rfl ?sd93 rfl (by kernel_rfl) ?_; (try (case sd93 => (repeat' (first | exact trivial | with_reducible refine zI ?_ ?_ | rfl | exact zN rfl)))))
        (refine H.ts (T := tt) [15] tt_ok (by kernel_rfl) (by kernel_rfl) (by kernel_rfl) (by intro ch a a' w h; obtain ⟨_, _, _, _, _, h, _⟩ := h; cases h) rfl ?sd67 ?_; (try (case sd67 => (repeat' (first | exact trivial | with_reducible refine zI ?_ ?_ | omega)))))
        (refine H.store (T := tt) 16 rfl (by kernel_rfl) (by kernel_rfl) tt_ok rfl rfl rfl rfl rfl rfl ?sd94 rfl (by kernel_rfl) ?_; (try (case sd94 => (repeat' (first | exact trivial | with_reducible refine zI ?_ ?_ | rfl | exact zN rfl)))))
        refine H.done (by kernel_rfl) ?_
        refine slotAs 3 (.pel 14 a.cells) rfl (Imp.of_eq (by rw [← cellsC_eq h])) ?_
        refine rowsEq ((93, .blk (ad.mb.getD (dI s a) 0) 116 (({ dX s a with del := true, ack := false } : MsD).cells ad.bb)) :: (90, rowL 111 ad.mb x l) :: crtR ad (setLast s a.cl a.tag) (dyn4 (lineR 114 ad.bb s.bat ad.xb) A' (batR s.bs ad.bb) ((msR s.ms ad.mb ad.bb).eraseIdx (dI s a)))) (by rw [h]; rfl) ?_
        exact fun a w h => ⟨(), h.weak (by (repeat' (first | exact True.intro | exact Imp.refl _ | refine ⟨?_, ?_⟩))) (List.Sublist.refl _)⟩
    rintro ⟨⟩
    repeat refine S.seq ?_
    refine S.draw [(3, [60]), (12, [60])] mixed ?_
    (refine H.ts (T := tt) [0, 1, 2, 3, 4, 5, 6, 7, 8, 9, 10, 11, 12, 13, 14, 15, 16, 17, 18, 19, 20] tt_ok (by kernel_rfl) (by kernel_rfl) (by kernel_rfl) (by intro ch a a' w h; obtain ⟨_, _, _, _, _, h, _⟩ := h; cases h) rfl ?sd68 ?_; (try (case sd68 => (repeat' (first | exact trivial | with_reducible refine zI ?_ ?_ | rfl | exact zN rfl)))))
    refine H.tell 168 (.v (ptV (ad.mb.getD (dI s a) 0))) rfl (Imp.ptrv 93 _ 0) ?_
    refine H.o1 21 rfl (by kernel_rfl) (by kernel_rfl) (O.mapEntry (T := tt) (z := .bool false) (kv := a.mlock.v) tt_ok KeyLock.kName rfl rfl rfl (by kernel_rfl) rfl (by kernel_rfl) rfl rfl rfl rfl (by exact ⟨by (repeat' (first | exact trivial)), by (repeat' (first | exact trivial)), rfl, mlock_ok ao⟩)) (.inl (by kernel_rfl)) (by kernel_rfl) fun st => ?_
    refine H.rebase ?_
    (refine H.ts (T := tt) [22] tt_ok (by kernel_rfl) (by kernel_rfl) (by kernel_rfl) (by intro ch a a' w h; obtain ⟨_, _, _, _, _, h, _⟩ := h; cases h) rfl ?sd69 ?_; (try (case sd69 => (repeat' (first | exact trivial | with_reducible refine zI ?_ ?_)))))
    refine H.o1 23 rfl (by kernel_rfl) (by kernel_rfl) (O.entryStore rfl rfl rfl rfl rfl rfl rfl (by exact ⟨by (repeat' (first | exact trivial)), by (repeat' (first | exact trivial)), by (repeat' (first | exact trivial)), rfl, rfl⟩)) (.inl (by kernel_rfl)) (by kernel_rfl) fun _ => ?_
    refine H.o1 24 rfl (by kernel_rfl) (by kernel_rfl) (O.mapEntry (T := tt) (z := .pointer none) (kv := a.tagk.v) tt_ok KeyTag.kName rfl rfl rfl (by kernel_rfl) rfl (by kernel_rfl) rfl rfl rfl rfl (by exact ⟨by (repeat' (first | exact trivial)), by (repeat' (first | exact trivial)), rfl, tag_ok ao⟩)) (.inl (by kernel_rfl)) (by kernel_rfl) fun st2 => ?_
    refine H.rebase ?_
    (refine H.ts (T := tt) [25] tt_ok (by kernel_rfl) (by kernel_rfl) (by kernel_rfl) (by intro ch a a' w h; obtain ⟨_, _, _, _, _, h, _⟩ := h; cases h) rfl ?sd70 ?_; (try (case sd70 => (repeat' (first | exact trivial | with_reducible refine zI ?_ ?_)))))
    refine H.o1 26 rfl (by kernel_rfl) (by kernel_rfl) (O.entryStore rfl rfl rfl rfl rfl rfl rfl (by exact ⟨by (repeat' (first | exact trivial)), by (repeat' (first | exact trivial)), by (repeat' (first | exact trivial)), rfl, rfl⟩)) (.inl (by kernel_rfl)) (by kernel_rfl) fun _ => ?_
    refine H.done (by kernel_rfl) ?_
    refine mapSay 64 (lockM (a.mlock :: s.held)) rfl (mget_twice _ _ _ _) ?_
    refine mapSay 65 (tagM ((a.tagk, dI s a) :: s.holds) ad.mb) rfl (mget_twice _ _ _ _) ?_
    refine rowsEq ((93, .blk (ad.mb.getD (dI s a) 0) 116 (({ dX s a with del := true, ack := false } : MsD).cells ad.bb)) :: (90, rowL 111 ad.mb x l) :: crtR ad { setLast s a.cl a.tag with held := a.mlock :: s.held, holds := (a.tagk, dI s a) :: s.holds } (dyn4 (lineR 114 ad.bb s.bat ad.xb) A' (batR s.bs ad.bb) ((msR s.ms ad.mb ad.bb).eraseIdx (dI s a)))) rfl ?_
    refine put2 _ ((inM (push1 (by rw [msR_len hmb]; exact hIl)).symm).symm) ?_
    rw [ms_set hmb hIl]
    refine closeR (hopen _ _) ?_
    ((repeat refine S.seq ?_); refine S.region (L.go (T := tt) tt_ok rfl rfl ?sd48 ?_); (try (case sd48 => (repeat' (first | exact trivial | with_reducible refine zI ?_ ?_)))); try (refine L.nil ?_))
    ((repeat refine S.seq ?_); refine S.ret ?_)
    rw [e1, e2]
    exact E.ret (T := tt) tt_ok rfl rfl (by (repeat' (first | exact trivial | with_reducible refine zI ?_ ?_))) (Imp.refl _) (List.Sublist.refl _) ⟨rfl, rfl⟩
  intro hJ
  repeat refine S.seq ?_
  refine S.cut (ι := Nat × Nat) (fun i => [(0, .ptr 60 ad.c 0), (3, .pel 14 a.cells), (5, .ptr 94 i.1 0), (6, .ptr 95 i.2 0)])
    (fun i => (94, .blk i.1 157 [.v (.int .i64 a.m.pub), .v (.int .i64 a.q), .v (.string a.m.key)]) :: (95, .blk i.2 42 a.m.cells) :: (90, rowL 111 ad.mb x l) :: crtR ad s (dyn4 (lineR 114 ad.bb s.bat ad.xb) A' (batR s.bs ad.bb) (msR s.ms ad.mb ad.bb))) ?_ ?_
  · refine S.draw [] mixed ?_
    (refine H.ts (T := tt) [0, 1, 2, 3, 4, 5, 6, 7, 8, 9, 10] tt_ok (by kernel_rfl) (by kernel_rfl) (by kernel_rfl) (by intro ch a a' w h; obtain ⟨_, _, _, _, _, h, _⟩ := h; cases h) rfl ?sd71 ?_; (try (case sd71 => (repeat' (first | exact trivial | with_reducible refine zI ?_ ?_ | rfl | exact zN rfl)))))
    refine H.o2 11 12 rfl rfl (by kernel_rfl) (by kernel_rfl) (O.alloc (T := tt) 94 tt_ok rfl rfl rfl rfl rfl) (O.alloc (T := tt) 95 tt_ok rfl rfl rfl rfl rfl) (.inr rfl) (.inr rfl) rfl rfl (fun b5 => ?_) (fun b6 => ?_)
    · refine H.o1 12 rfl (by kernel_rfl) (by kernel_rfl) (O.alloc (T := tt) 95 tt_ok rfl rfl rfl rfl rfl) (.inr rfl) rfl fun b6 => ?_
      (refine H.store (T := tt) 13 rfl (by kernel_rfl) (by kernel_rfl) tt_ok rfl rfl rfl rfl rfl rfl ?sd95 rfl (by kernel_rfl) ?_; (try (case sd95 => (repeat' (first | exact trivial | with_reducible refine zI ?_ ?_ | rfl | exact zN rfl)))))
      (refine H.store (T := tt) 14 rfl (by kernel_rfl) (by kernel_rfl) tt_ok rfl rfl rfl rfl rfl rfl ?sd96 rfl (by kernel_rfl) ?_; (try (case sd96 => (repeat' (first | exact trivial | with_reducible refine zI ?_ ?_ | rfl | exact zN rfl)))))
      refine H.done (by kernel_rfl) ?_
      exact fun a w hR => ⟨(b5, b6), (hR.perm (List.Perm.swap _ _ _)).weak (by (repeat' (first | exact True.intro | exact Imp.refl _ | refine ⟨?_, ?_⟩))) (List.Sublist.refl _)⟩
    · refine H.o1 11 rfl (by kernel_rfl) (by kernel_rfl) (O.alloc (T := tt) 94 tt_ok rfl rfl rfl rfl rfl) (.inr rfl) rfl fun b5 => ?_
      (refine H.store (T := tt) 13 rfl (by kernel_rfl) (by kernel_rfl) tt_ok rfl rfl rfl rfl rfl rfl ?sd97 rfl (by kernel_rfl) ?_; (try (case sd97 => (repeat' (first | exact trivial | with_reducible refine zI ?_ ?_ | rfl | exact zN rfl)))))
      (refine H.store (T := tt) 14 rfl (by kernel_rfl) (by kernel_rfl) tt_ok rfl rfl rfl rfl rfl rfl ?sd98 rfl (by kernel_rfl) ?_; (try (case sd98 => (repeat' (first | exact trivial | with_reducible refine zI ?_ ?_ | rfl | exact zN rfl)))))
      refine H.done (by kernel_rfl) ?_
      exact fun a w hR => ⟨(b5, b6), hR.weak (by (repeat' (first | exact True.intro | exact Imp.refl _ | refine ⟨?_, ?_⟩))) (List.Sublist.refl _)⟩
  rintro ⟨b5, b6⟩
  dsimp only
  refine freezeBlk 5 94 rfl rfl rfl ?_
  repeat refine S.seq ?_
  refine S.draw [(3, [60]), (5, [62])] mixed ?_
  (refine H.ts (T := tt) [0, 1, 2, 3, 4] tt_ok (by kernel_rfl) (by kernel_rfl) (by kernel_rfl) (by intro ch a a' w h; obtain ⟨_, _, _, _, _, h, _⟩ := h; cases h) rfl ?sd72 ?_; (try (case sd72 => (repeat' (first | exact trivial | with_reducible refine zI ?_ ?_ | rfl)))))
  refine H.s1 5 (A := .v x) rfl (by kernel_rfl) (by kernel_rfl) (by kernel_rfl) (by kernel_rfl) (by kernel_rfl) (by intro ch a a' w h; obtain ⟨_, _, _, _, _, h, _⟩ := h; cases h) rfl rfl (by kernel_rfl) (look_sure (T := tt) (z := nilS) (kv := a.mline.v) tt_ok KeyLine.kName rfl rfl (by kernel_rfl) rfl rfl rfl (by (repeat' (first | exact trivial | with_reducible refine zI ?_ ?_))) rfl (fun _ _ => rfl) rfl hk (by rw [hx]; exact look_line ok.xa)) ?_
  refine H.tellW 27 (.ref 90 x) rfl (ownRef 90 rfl) ?_
  (refine H.ts (T := tt) [6] tt_ok (by kernel_rfl) (by kernel_rfl) (by kernel_rfl) (by intro ch a a' w h; obtain ⟨_, _, _, _, _, h, _⟩ := h; cases h) rfl ?sd73 ?_; (try (case sd73 => (repeat' (first | exact trivial | with_reducible refine zI ?_ ?_)))))
  refine H.done (by kernel_rfl) ?_
  repeat refine S.seq ?_
  refine S.cut (ι := Unit) (fun i => [(0, .ptr 60 ad.c 0), (3, .pel 14 a.cells), (6, .ptr 95 b6 0), (7, .ref 90 x), (61, .v (.bool (dNo1 s a)))])
    (fun i => (95, .blk b6 42 a.m.cells) :: (90, rowL 111 ad.mb x l) :: crtR ad s (dyn4 (lineR 114 ad.bb s.bat ad.xb) A' (batR s.bs ad.bb) (msR s.ms ad.mb ad.bb))) ?_ ?_
  · rcases hcl with h | h | h | h
    · have hla : lastAt s a.cl = s.l0 := by rw [h]; rfl
      refine slotAs 3 (.pel 14 (a.cellsC 0)) rfl (Imp.of_eq (by rw [← cellsC_eq h])) ?_
      refine S.draw [(8, [60]), (12, [95]), (17, [95]), (26, [60]), (30, [95]), (32, [64])] mixed ?_
      (refine H.ts (T := tt) [0, 1, 2, 3, 4, 5, 6, 7, 8, 9, 10, 11, 12, 13, 14, 15, 16, 17, 18, 19, 20, 21, 22, 23, 24, 25, 26, 27, 28, 29, 30, 31] tt_ok (by kernel_rfl) (by kernel_rfl) (by kernel_rfl) (by intro ch a a' w h; obtain ⟨_, _, _, _, _, h, _⟩ := h; cases h) rfl ?sd74 ?_; (try (case sd74 => (repeat' (first | exact trivial | exact zA | with_reducible refine zI ?_ ?_ | exact zB | exact zC | exact zD | exact zE | rfl | omega | (simp; done) | (simp [splice]; done))))))
      refine H.sG (A := .v (.bool (decide (a.mlock ∈ s.held)))) 32 rfl (by kernel_rfl) (by kernel_rfl) (by kernel_rfl) (by kernel_rfl) (by kernel_rfl) (by intro ch a a' w h; obtain ⟨_, _, _, _, _, h, _⟩ := h; cases h) rfl rfl rfl (fun hb => look_sure (T := tt) (z := .bool false) (kv := a.mlock.v) tt_ok KeyLock.kName rfl rfl (by kernel_rfl) rfl rfl rfl ⟨hb, hb⟩ rfl (fun _ _ => rfl) rfl (mlock_ok ao) look_lock) ?_
      (refine H.ts (T := tt) [33] tt_ok (by kernel_rfl) (by kernel_rfl) (by kernel_rfl) (by intro ch a a' w h; obtain ⟨_, _, _, _, _, h, _⟩ := h; cases h) rfl ?sd75 ?_; (try (case sd75 => (repeat' (first | exact trivial | with_reducible refine zI ?_ ?_ | exact zB)))))
      refine H.done (by kernel_rfl) ?_
      refine slotAs 61 (.v (.bool (dNo1 s a))) rfl (Imp.of_eq (by rw [dNo1, hla, dL, ← hl])) ?_
      refine slotAs 3 (.pel 14 a.cells) rfl (Imp.of_eq (by rw [← cellsC_eq h])) ?_
      exact fun a w h => ⟨(), h.weak (by (repeat' (first | exact True.intro | exact Imp.refl _ | refine ⟨?_, ?_⟩))) (List.Sublist.refl _)⟩
    · have hla : lastAt s a.cl = s.l1 := by rw [h]; rfl
      refine slotAs 3 (.pel 14 (a.cellsC 1)) rfl (Imp.of_eq (by rw [← cellsC_eq h])) ?_
      refine S.draw [(8, [60]), (12, [95]), (17, [95]), (26, [60]), (30, [95]), (32, [64])] mixed ?_
      (refine H.ts (T := tt) [0, 1, 2, 3, 4, 5, 6, 7, 8, 9, 10, 11, 12, 13, 14, 15, 16, 17, 18, 19, 20, 21, 22, 23, 24, 25, 26, 27, 28, 29, 30, 31] tt_ok (by kernel_rfl) (by kernel_rfl) (by kernel_rfl) (by intro ch a a' w h; obtain ⟨_, _, _, _, _, h, _⟩ := h; cases h) rfl ?sd76 ?_; (try (case sd76 => (repeat' (first | exact trivial | exact zA | with_reducible refine zI ?_ ?_ | exact zB | exact zC | exact zD | exact zE | rfl | omega | (simp; done) | (simp [splice]; done))))))
      refine H.sG (A := .v (.bool (decide (a.mlock ∈ s.held)))) 32 rfl (by kernel_rfl) (by kernel_rfl) (by kernel_rfl) (by kernel_rfl) (by kernel_rfl) (by intro ch a a' w h; obtain ⟨_, _, _, _, _, h, _⟩ := h; cases h) rfl rfl rfl (fun hb => look_sure (T := tt) (z := .bool false) (kv := a.mlock.v) tt_ok KeyLock.kName rfl rfl (by kernel_rfl) rfl rfl rfl ⟨hb, hb⟩ rfl (fun _ _ => rfl) rfl (mlock_ok ao) look_lock) ?_
      (refine H.ts (T := tt) [33] tt_ok (by kernel_rfl) (by kernel_rfl) (by kernel_rfl) (by intro ch a a' w h; obtain ⟨_, _, _, _, _, h, _⟩ := h; cases h) rfl ?sd77 ?_; (try (case sd77 => (repeat' (first | exact trivial | with_reducible refine zI ?_ ?_ | exact zB)))))
      refine H.done (by kernel_rfl) ?_
      refine slotAs 61 (.v (.bool (dNo1 s a))) rfl (Imp.of_eq (by rw [dNo1, hla, dL, ← hl])) ?_
      refine slotAs 3 (.pel 14 a.cells) rfl (Imp.of_eq (by rw [← cellsC_eq h])) ?_
      exact fun a w h => ⟨(), h.weak (by (repeat' (first | exact True.intro | exact Imp.refl _ | refine ⟨?_, ?_⟩))) (List.Sublist.refl _)⟩
    · have hla : lastAt s a.cl = s.l2 := by rw [h]; rfl
      refine slotAs 3 (.pel 14 (a.cellsC 2)) rfl (Imp.of_eq (by rw [← cellsC_eq h])) ?_
      refine S.draw [(8, [60]), (12, [95]), (17, [95]), (26, [60]), (30, [95]), (32, [64])] mixed ?_
      (refine H.ts (T := tt) [0, 1, 2, 3, 4, 5, 6, 7, 8, 9, 10, 11, 12, 13, 14, 15, 16, 17, 18, 19, 20, 21, 22, 23, 24, 25, 26, 27, 28, 29, 30, 31] tt_ok (by kernel_rfl) (by kernel_rfl) (by kernel_rfl) (by intro ch a a' w h; obtain ⟨_, _, _, _, _, h, _⟩ := h; cases h) rfl ?sd78 ?_; (try (case sd78 => (repeat' (first | exact trivial | exact zA | with_reducible refine zI ?_ ?_ | exact zB | exact zC | exact zD | exact zE | rfl | omega | (simp; done) | (simp [splice]; done))))))
      refine H.sG (A := .v (.bool (decide (a.mlock ∈ s.held)))) 32 rfl (by kernel_rfl) (by kernel_rfl) (by kernel_rfl) (by kernel_rfl) (by kernel_rfl) (by intro ch a a' w h; obtain ⟨_, _, _, _, _, h, _⟩ := h; cases h) rfl rfl rfl (fun hb => look_sure (T := tt) (z := .bool false) (kv := a.mlock.v) tt_ok KeyLock.kName rfl rfl (by kernel_rfl) rfl rfl rfl ⟨hb, hb⟩ rfl (fun _ _ => rfl) rfl (mlock_ok ao) look_lock) ?_
      (refine H.ts (T := tt) [33] tt_ok (by kernel_rfl) (by kernel_rfl) (by kernel_rfl) (by intro ch a a' w h; obtain ⟨_, _, _, _, _, h, _⟩ := h; cases h) rfl ?sd79 ?_; (try (case sd79 => (repeat' (first | exact trivial | with_reducible refine zI ?_ ?_ | exact zB)))))
      refine H.done (by kernel_rfl) ?_
      refine slotAs 61 (.v (.bool (dNo1 s a))) rfl (Imp.of_eq (by rw [dNo1, hla, dL, ← hl])) ?_
      refine slotAs 3 (.pel 14 a.cells) rfl (Imp.of_eq (by rw [← cellsC_eq h])) ?_
      exact fun a w h => ⟨(), h.weak (by (repeat' (first | exact True.intro | exact Imp.refl _ | refine ⟨?_, ?_⟩))) (List.Sublist.refl _)⟩
    · have hla : lastAt s a.cl = s.l3 := by rw [h]; rfl
      refine slotAs 3 (.pel 14 (a.cellsC 3)) rfl (Imp.of_eq (by rw [← cellsC_eq h])) ?_
      refine S.draw [(8, [60]), (12, [95]), (17, [95]), (26, [60]), (30, [95]), (32, [64])] mixed ?_
      (refine H.ts (T := tt) [0, 1, 2, 3, 4, 5, 6, 7, 8, 9, 10, 11, 12, 13, 14, 15, 16, 17, 18, 19, 20, 21, 22, 23, 24, 25, 26, 27, 28, 29, 30, 31] tt_ok (by kernel_rfl) (by kernel_rfl) (by kernel_rfl) (by intro ch a a' w h; obtain ⟨_, _, _, _, _, h, _⟩ := h; cases h) rfl ?sd80 ?_; (try (case sd80 => (repeat' (first | exact trivial | exact zA | with_reducible refine zI ?_ ?_ | exact zB | exact zC | exact zD | exact zE | rfl | omega | (simp; done) | (simp [splice]; done))))))
      refine H.sG (A := .v (.bool (decide (a.mlock ∈ s.held)))) 32 rfl (by kernel_rfl) (by kernel_rfl) (by kernel_rfl) (by kernel_rfl) (by kernel_rfl) (by intro ch a a' w h; obtain ⟨_, _, _, _, _, h, _⟩ := h; cases h) rfl rfl rfl (fun hb => look_sure (T := tt) (z := .bool false) (kv := a.mlock.v) tt_ok KeyLock.kName rfl rfl (by kernel_rfl) rfl rfl rfl ⟨hb, hb⟩ rfl (fun _ _ => rfl) rfl (mlock_ok ao) look_lock) ?_
      (refine H.ts (T := tt) [33] tt_ok (by kernel_rfl) (by kernel_rfl) (by kernel_rfl) (by intro ch a a' w h; obtain ⟨_, _, _, _, _, h, _⟩ := h; cases h) rfl ?sd81 ?_; (try (case sd81 => (repeat' (first | exact trivial | with_reducible refine zI ?_ ?_ | exact zB)))))
      refine H.done (by kernel_rfl) ?_
      refine slotAs 61 (.v (.bool (dNo1 s a))) rfl (Imp.of_eq (by rw [dNo1, hla, dL, ← hl])) ?_
      refine slotAs 3 (.pel 14 a.cells) rfl (Imp.of_eq (by rw [← cellsC_eq h])) ?_
      exact fun a w h => ⟨(), h.weak (by (repeat' (first | exact True.intro | exact Imp.refl _ | refine ⟨?_, ?_⟩))) (List.Sublist.refl _)⟩
  rintro ⟨⟩
  ((repeat refine S.seq ?_); refine S.cond rfl (fun h1 => ?_) (fun h1 => ?_) <;> (try first | refine S.skip ?_ | refine S.exit ?_))
  · have e1 : delivB s a = false := by rw [delivB, h1]; rfl
    have e2 : delivS s a = s := by rw [delivS, e1]; rfl
    ((repeat refine S.seq ?_); refine S.region (L.go (T := tt) tt_ok rfl rfl ?sd49 ?_); (try (case sd49 => (repeat' (first | exact trivial | with_reducible refine zI ?_ ?_)))); try (refine L.nil ?_))
    refine rowsTo _ (Sub.drop (Sub.self _)) ?_
    refine closeR (hopen _ _) ?_
    ((repeat refine S.seq ?_); refine S.ret ?_)
    rw [e1, e2]
    exact E.ret (T := tt) tt_ok rfl rfl (by (repeat' (first | exact trivial | with_reducible refine zI ?_ ?_))) (Imp.refl _) (List.Sublist.refl _) ⟨rfl, rfl⟩
  have hr1 := hr1' h1
  have hIl := hIl' h1
  ((repeat refine S.seq ?_); refine S.region (L.go (T := tt) tt_ok rfl rfl ?sd50 ?_); (try (case sd50 => (repeat' (first | exact trivial | with_reducible refine zI ?_ ?_ | rfl | omega | (unfold fits; omega))))); try (refine L.nil ?_))
  refine slotAs 8 (.ptr 93 (ad.mb.getD (dI s a) 0) 0) rfl (Imp.trans (Imp.of_eq (show _ = AV.v (ptV (ad.mb.getD (dI s a) 0)) from by rw [dI, dL, ← hl])) (Imp.vptr 93 _ 0)) ?_
  ((repeat refine S.seq ?_); refine S.region (L.go (T := tt) tt_ok rfl rfl ?sd51 ?_); (try (case sd51 => (repeat' (first | exact trivial | with_reducible refine zI ?_ ?_)))); try (refine L.nil ?_))
  (refine L.store (T := tt) tt_ok rfl rfl rfl rfl rfl rfl ?sd55 ?_; (try (case sd55 => (repeat' (first | exact trivial | with_reducible refine zI ?_ ?_ | rfl | exact zN rfl)))))
  refine L.nil ?_
  refine freezeBlk 6 95 rfl rfl rfl ?_
  refine slotAs 6 (.pel 5 (bareC a.m)) rfl (Imp.refl _) ?_
  refine take2 93 (inM (pull1 (ms_get hmb hIl))) ?_
  have hbt := hbt' h1
  refine take3 94 (inC (pull1 (bat_get hbb hbt))) ?_
  refine blkAs 93 ((dX s a).cellsW (.ptr 94 (ad.bb.getD (dX s a).bt 0) 0)) rfl ⟨Imp.refl _, Imp.refl _, Imp.refl _, Imp.refl _, Imp.refl _, Imp.vptr 94 _ 0, Imp.refl _, Imp.refl _, Imp.refl _, trivial⟩ ?_
  repeat refine S.seq ?_
  refine S.draw [(3, [93]), (10, [93]), (13, [94]), (20, [93]), (26, [93])] mixed ?_
  (refine H.ts (T := tt) [0, 1, 2, 3, 4, 5, 6, 7, 8, 9, 10, 11, 12, 13, 14, 15, 16, 17, 18, 19, 20, 21, 22, 23, 24, 25, 26, 27, 28, 29, 30, 31] tt_ok (by kernel_rfl) (by kernel_rfl) (by kernel_rfl) (by intro ch a a' w h; obtain ⟨_, _, _, _, _, h, _⟩ := h; cases h) rfl ?sd82 ?_; (try (case sd82 => (repeat' (first | exact trivial | exact zA | with_reducible refine zI ?_ ?_ | exact zB | exact zC | exact zD | exact zE | rfl | exact zN rfl | (simp; done))))))
  refine H.done (by kernel_rfl) ?_
  refine slotAs 100 (.v (.bool (dNo2 s a))) rfl (Imp.of_eq ?e2) ?_
  case e2 =>
    rw [dNo2, ← eqMsg]
    rfl
  refine rowsEq ((94, .blk (ad.bb.getD (dX s a).bt 0) 113 (s.bs.getD (dX s a).bt default).cells) :: (93, .blk (ad.mb.getD (dI s a) 0) 116 ((dX s a).cellsW (.ptr 94 (ad.bb.getD (dX s a).bt 0) 0))) :: (90, rowL 111 ad.mb x l) :: crtR ad s (dyn4 (lineR 114 ad.bb s.bat ad.xb) A' ((batR s.bs ad.bb).eraseIdx (dX s a).bt) ((msR s.ms ad.mb ad.bb).eraseIdx (dI s a)))) rfl ?_
  refine put3 _ (inC (pull1 (bat_get hbb hbt))).symm ?_
  refine blkAs 93 ((dX s a).cells ad.bb) rfl ⟨Imp.refl _, Imp.refl _, Imp.refl _, Imp.refl _, Imp.refl _, Imp.ptrv 94 _ 0, Imp.refl _, Imp.refl _, Imp.refl _, trivial⟩ ?_
  refine rowsEq ((93, .blk (ad.mb.getD (dI s a) 0) 116 ((dX s a).cells ad.bb)) :: (90, rowL 111 ad.mb x l) :: crtR ad s (dyn4 (lineR 114 ad.bb s.bat ad.xb) A' (batR s.bs ad.bb) ((msR s.ms ad.mb ad.bb).eraseIdx (dI s a)))) rfl ?_
  refine put2 _ (inM (pull1 (ms_get hmb hIl))).symm ?_
  ((repeat refine S.seq ?_); refine S.cond rfl (fun h2 => ?_) (fun h2 => ?_) <;> (try first | refine S.skip ?_ | refine S.exit ?_))
  · have e1 : delivB s a = false := by rw [delivB, h1, h2]; rfl
    have e2 : delivS s a = s := by rw [delivS, e1]; rfl
    ((repeat refine S.seq ?_); refine S.region (L.go (T := tt) tt_ok rfl rfl ?sd52 ?_); (try (case sd52 => (repeat' (first | exact trivial | with_reducible refine zI ?_ ?_)))); try (refine L.nil ?_))
    refine closeR (hopen _ _) ?_
    ((repeat refine S.seq ?_); refine S.ret ?_)
    rw [e1, e2]
    exact E.ret (T := tt) tt_ok rfl rfl (by (repeat' (first | exact trivial | with_reducible refine zI ?_ ?_))) (Imp.refl _) (List.Sublist.refl _) ⟨rfl, rfl⟩
  ((repeat refine S.seq ?_); refine S.region (L.go (T := tt) tt_ok rfl rfl ?sd53 ?_); (try (case sd53 => (repeat' (first | exact trivial | with_reducible refine zI ?_ ?_)))); try (refine L.nil ?_))
  repeat refine S.seq ?_
  refine S.label ?_
  exact fun a' w h => hJ ⟨0, h1, h2, by omega, fun j hj => absurd hj (Nat.not_lt_zero j)⟩ a' w (h.weakP (by (repeat' (first | exact True.intro | exact Imp.refl _ | refine ⟨?_, ?_⟩))) (Sub.self _))
end Go.Proofs.YtfdneepgpekmiaaDoor
