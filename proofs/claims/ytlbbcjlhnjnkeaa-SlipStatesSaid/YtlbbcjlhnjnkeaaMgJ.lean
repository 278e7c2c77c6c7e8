/- Texts of this proof, laid together: SlA, SlB, SlC. -/
import Derived.Test.YtlbbcjlhnjnkeaaMgC
/- Records, bytes. -/
namespace Go.Proofs.Ytlbbcjlhnjnkeaa
set_option linter.unusedVariables false
set_option linter.unusedSimpArgs false
set_option maxHeartbeats 8000000
open Go.RowKit
set_option maxRecDepth 4000

structure RecD where
  kind : Int
  tag : Int
  back : Bool
  batch : List Msg
  shard : Shard
  deriving DecidableEq
def shard0 : Shard := ⟨false, 0, [], [], []⟩
instance : Inhabited RecD := ⟨⟨0, 0, false, [], shard0⟩⟩
def RecD.cells (r : RecD) : List AV := [.v (.int .i64 r.kind), .v (.int .i64 r.tag), .v (.bool r.back), msgs r.batch, .v (.bool r.shard.frozen), .v (.int .i64 r.shard.next), msgs r.shard.ready, helds r.shard.held, marksA r.shard.marks]
def RecD.av (r : RecD) : AV := .agg r.cells
def recsA (l : List RecD) : AV := .lst 9 l.length (gOf RecD.cells l)

def u8C (x : UInt8) : List AV := [.v (.int .u8 (x.toNat : Int))]
def bytesL (l : List UInt8) : AV := .lst 1 l.length (gOf u8C l)
def strL (l : List UInt8) : ByteArray := ⟨l.toArray⟩
theorem strL_g (l : List UInt8) {i : Nat} (h : i < l.length) : gOf u8C l i = byteG (strL l) i := by
  rw [gOf, byteG, strL, Array.getD_eq_getD_getElem?, List.getElem?_toArray, List.getD_eq_getElem?_getD, List.getElem?_eq_getElem h]
  rfl
theorem strL_size (l : List UInt8) : (strL l).size = l.length := by simp [strL, ByteArray.size]
theorem gStr (s : ByteArray) (i : Nat) (h : i < s.size) : byteG s i = gOf u8C s.data.toList i := by
  have h' : i < s.data.size := h
  rw [gOf, byteG, Array.getD_eq_getD_getElem?, List.getD_eq_getElem?_getD, Array.getElem?_toList, Array.getElem?_eq_getElem h']
  rfl
theorem app_g {α : Type} [Inhabited α] (f : α → List AV) (l m : List α) {n : Nat} (h : Nat → List AV) (hn : n = l.length) (hh : ∀ j, j < m.length → h j = gOf f m j) {i : Nat} (hi : i < n + m.length) : joinG n (gOf f l) h i = gOf f (l ++ m) i := by
  subst hn
  unfold joinG gOf
  by_cases hlt : i < l.length
  · rw [if_pos hlt, List.getD_eq_getElem?_getD, List.getD_eq_getElem?_getD, List.getElem?_append_left hlt]
  · rw [if_neg hlt, hh _ (by omega), gOf, List.getD_eq_getElem?_getD, List.getD_eq_getElem?_getD, List.getElem?_append_right (by omega)]
theorem drop_g {α : Type} [Inhabited α] (f : α → List AV) (l : List α) (k i : Nat) : gOf f l (i + k) = gOf f (l.drop k) i := by
  unfold gOf
  rw [List.getD_eq_getElem?_getD, List.getD_eq_getElem?_getD, List.getElem?_drop, Nat.add_comm]
theorem take_gg {α : Type} [Inhabited α] (f : α → List AV) (l : List α) {k i : Nat} (h : i < k) : gOf f l i = gOf f (l.take k) i := by
  unfold gOf
  rw [List.getD_eq_getElem?_getD, List.getD_eq_getElem?_getD, List.getElem?_take_of_lt h]

/-- A number's byte. -/
def byteOf (n : Int) (k : Nat) : UInt8 := UInt8.ofNat ((n.fdiv (2 ^ (8 * k))) % 256).toNat
def numL (n : Int) : Nat → List UInt8
  | 0 => []
  | k + 1 => byteOf n k :: numL n k
theorem numL_len (n : Int) : ∀ k, (numL n k).length = k
  | 0 => rfl
  | k + 1 => by rw [numL, List.length_cons, numL_len n k]
theorem wrap_u8 (z : Int) : IntKind.u8.wrap z = ((UInt8.ofNat (z % 256).toNat).toNat : Int) := by
  have e : IntKind.u8.wrap z = z % 256 := rfl
  rw [e, UInt8.toNat_ofNat']
  omega
/-- Texts, flags, messages as bytes. -/
def txtL (s : ByteArray) : List UInt8 := numL s.size 1 ++ s.data.toList
def flagL (b : Bool) : List UInt8 := numL (if b then 1 else 0) 1
def msgL (m : Msg) : List UInt8 := numL m.pub 1 ++ numL m.seq 4 ++ flagL m.again ++ txtL m.key ++ txtL m.body
def msgsL (l : List Msg) : List UInt8 := numL l.length 1 ++ l.flatMap msgL
def recL (r : RecD) : List UInt8 := numL r.kind 1 ++ (if r.kind = 1 then msgsL r.batch else if r.kind = 2 ∨ r.kind = 3 ∨ r.kind = 4 then numL r.tag 4 else [])

/-- Reading. -/
structure RdD where
  b : List UInt8
  bad : Bool
def rawS (s : RdD) (n : Int) : List UInt8 × RdD := if s.bad || decide (n > (s.b.length : Int)) then ([], ⟨s.b, true⟩) else (s.b.take n.toNat, ⟨s.b.drop n.toNat, s.bad⟩)
def shl8 (a : Int) : Int := IntKind.i64.wrap (a * 2 ^ min 8 64)
def accS (a : Int) (c : UInt8) : Int := IntKind.i64.wrap ((BitVec.ofInt IntKind.i64.bits (shl8 a) ||| BitVec.ofInt IntKind.i64.bits (IntKind.i64.wrap (c.toNat : Int))).toNat : Int)
def numR (s : RdD) (k : Int) : Int × RdD := ((rawS s k).1.foldl accS 0, (rawS s k).2)
def txtR (s : RdD) : ByteArray × RdD := (strL (rawS (numR s 1).2 (numR s 1).1).1, (rawS (numR s 1).2 (numR s 1).1).2)
def msgR1 (s : RdD) : RdD := (numR s 1).2
def msgR2 (s : RdD) : RdD := (numR (msgR1 s) 4).2
def msgR3 (s : RdD) : RdD := (numR (msgR2 s) 1).2
def msgR4 (s : RdD) : RdD := (txtR (msgR3 s)).2
def msgR (s : RdD) : Msg × RdD := (⟨(numR s 1).1, (numR (msgR1 s) 4).1, (txtR (msgR3 s)).1, (txtR (msgR4 s)).1, (numR (msgR2 s) 1).1 == 1⟩, (txtR (msgR4 s)).2)
def msgsR : Nat → RdD → List Msg × RdD
  | 0, s => ([], s)
  | k + 1, s => if s.bad then ([], s) else ((msgR s).1 :: (msgsR k (msgR s).2).1, (msgsR k (msgR s).2).2)
theorem rawS_len (s : RdD) (n : Int) : (rawS s n).1.length ≤ n.toNat := by
  unfold rawS
  split
  · exact Nat.zero_le _
  · rw [List.length_take]; omega
theorem acc1 (c : UInt8) : 0 ≤ accS 0 c ∧ accS 0 c ≤ 255 := by
  have : ∀ n : Fin 256, 0 ≤ accS 0 (UInt8.ofNat n) ∧ accS 0 (UInt8.ofNat n) ≤ 255 := by decide +kernel
  have h := this ⟨c.toNat, c.toNat_lt⟩
  simpa using h
theorem fold1 : ∀ (l : List UInt8), l.length ≤ 1 → 0 ≤ l.foldl accS 0 ∧ l.foldl accS 0 ≤ 255
  | [], _ => by decide
  | [c], _ => acc1 c
  | _ :: _ :: _, h => absurd h (by simp)
theorem numR1 (s : RdD) : 0 ≤ (numR s 1).1 ∧ (numR s 1).1 ≤ 255 := fold1 _ (rawS_len s 1)
end Go.Proofs.Ytlbbcjlhnjnkeaa

/- A writer. -/
namespace Go.Proofs.Ytlbbcjlhnjnkeaa
set_option linter.unusedVariables false
set_option linter.unusedSimpArgs false
set_option maxHeartbeats 8000000
open Go.RowKit
set_option maxRecDepth 4000

noncomputable def wrR (a : Nat) (y : Value) (l : List UInt8) : Rows := [(30, .blk a 63 [.ref 31 y]), (31, .own y 5 1 l.length (gOf u8C l))]
def Wrote (a : Nat) (l : List UInt8) (r : AV) (F' : Rows) : Prop := r = .tup [] ∧ ∃ y, F' = wrR a y l
theorem u8_ok : u8I Try.prog 5 = true := by kernel_rfl

theorem wnum_p (a : Nat) (y : Value) (l : List UInt8) (n : Int) (k : Nat) (hk : k ≤ 8) (hl : l.length ≤ 100000) : FnC Try.prog 23 [.ptr 30 a 0, .v (.int .i64 n), .v (.int .i64 k)] (wrR a y l) (Wrote a (l ++ numL n k)) := by
  refine FnC.intro Try.func23 rfl Try.ntmps23 rfl ?_; intro off w0
  ((repeat refine S.seq ?_); refine S.region (L.go (T := tt) tt_ok rfl rfl ?sd1 ?_); (try (case sd1 => (repeat' (first | exact trivial | with_reducible refine zI ?_ ?_ | (unfold fits; omega))))); try (refine L.nil ?_))
  repeat refine S.seq ?_
  refine S.cut (ι := Value) (fun y => []) (fun y => wrR a y (l ++ numL n k)) ?_ ?_
  · repeat refine S.seq ?_
    refine S.block (S.loop (ι := { q : Nat × Value × List UInt8 // q.1 ≤ k ∧ q.2.2 ++ numL n q.1 = l ++ numL n k }) (fun q => [(0, .ptr 30 a 0), (1, .v (.int .i64 n)), (2, .v (.int .i64 ((q.1.1 : Int) - 1)))]) (fun q => wrR a q.1.2.1 q.1.2.2) (fun q => q.1.1) ?_ ?_)
    · exact fun a' w h => ⟨⟨(k, y, l), Nat.le_refl _, rfl⟩, h.weakP (by (repeat' (first | exact True.intro | exact Imp.refl _ | refine ⟨?_, ?_⟩))) (Sub.self _)⟩
    rintro ⟨⟨j, y, m⟩, hj, hm⟩
    dsimp only at hj hm ⊢
    have hlen := congrArg List.length hm
    rw [List.length_append, List.length_append, numL_len, numL_len] at hlen
    unfold wrR
    ((repeat refine S.seq ?_); refine S.region (L.go (T := tt) tt_ok rfl rfl ?sd2 ?_); (try (case sd2 => (repeat' (first | exact trivial | with_reducible refine zI ?_ ?_)))); try (refine L.nil ?_))
    ((repeat refine S.seq ?_); refine S.cond rfl (fun hc => ?_) (fun hc => ?_) <;> (try first | refine S.skip ?_ | refine S.exit ?_))
    · have hj1 : 1 ≤ j := by have := of_dec hc; omega
      obtain ⟨i, rfl⟩ : ∃ i, j = i + 1 := ⟨j - 1, by omega⟩
      have he : ((i + 1 : Nat) : Int) - 1 = i := by omega
      repeat refine S.seq ?_
      refine S.block ?_
      refine slotAs 2 (.v (.int .i64 i)) rfl (Imp.of_eq (by rw [he])) ?_
      repeat refine S.seq ?_
      refine S.region ?_
      have hw : IntKind.u64.wrap (8 * (i : Int)) = 8 * i := by
        show _ % (18446744073709551616 : Int) = _
        omega
      (refine L.go (T := tt) tt_ok rfl rfl ?sd10 ?_; (try (case sd10 => (repeat' (first | exact trivial | with_reducible refine zI ?_ ?_ | rfl | omega | (unfold fits; omega))))); try (refine L.nil ?_))
      refine slotAs 22 (.v (.int .u8 ((byteOf n i).toNat : Int))) rfl (Imp.of_eq ?_) ?_
      · rw [show IntKind.u64.wrap (8 * (i : Int)) = 8 * i from hw]
        have hm2 : min (8 * (i : Int)).toNat IntKind.i64.bits = 8 * i := by
          show min _ 64 = _
          omega
        rw [hm2, wrap_u8, byteOf]
      refine L.buildSlice (T := tt) 32 tt_ok rfl rfl rfl rfl rfl rfl (by decide) (by decide) rfl rfl (by (repeat' (first | exact trivial | with_reducible refine zI ?_ ?_ | rfl | exact zN rfl))) fun x23 => ?_
      refine L.append (T := tt) tt_ok rfl rfl rfl rfl rfl rfl rfl rfl rfl rfl (by (repeat' (first | exact trivial | with_reducible refine zI ?_ ?_ | rfl))) ⟨rfl, by decide, by decide⟩ (by simp; omega) fun y24 => ?_
      refine ownAs 31 (gOf u8C (m ++ [byteOf n i])) rfl (show m.length + 1 = (m ++ [byteOf n i]).length by simp) (fun q hq => app1_h u8C m (byteOf n i) _ rfl rfl hq) ?_
      (refine L.go (T := tt) tt_ok rfl rfl ?sd11 ?_; (try (case sd11 => (repeat' (first | exact trivial | with_reducible refine zI ?_ ?_)))); try (refine L.nil ?_))
      (refine L.store (T := tt) tt_ok rfl rfl rfl rfl rfl rfl ?sd24 ?_; (try (case sd24 => (repeat' (first | exact trivial | with_reducible refine zI ?_ ?_ | rfl | exact zN rfl)))))
      refine L.nil ?_
      ((repeat refine S.seq ?_); refine S.region (L.go (T := tt) tt_ok rfl rfl ?sd3 ?_); (try (case sd3 => (repeat' (first | exact trivial | with_reducible refine zI ?_ ?_ | (unfold fits; omega))))); try (refine L.nil ?_))
      exact fun a' w h => ⟨⟨(i, y24, m ++ [byteOf n i]), by show i ≤ k; omega, by show m ++ [byteOf n i] ++ numL n i = _; rw [List.append_assoc]; exact hm⟩, by show i < i + 1; omega, h.weakP (by (repeat' (first | exact True.intro | exact Imp.refl _ | refine ⟨?_, ?_⟩))) (by (repeat (first | exact Sub.refl _ | refine Sub.pick (by first | exact p0 | exact pS p0 | exact pS (pS p0) | exact pS (pS (pS p0)) | exact pS (pS (pS (pS p0))) | exact pS (pS (pS (pS (pS p0))))) ?_)))⟩
    have hj0 : j = 0 := by have := of_dec' hc; omega
    subst hj0
    have hm' : m = l ++ numL n k := by rw [← hm]; exact (List.append_nil m).symm
    rw [← hm']
    exact fun a' w h => ⟨y, h.weakP (by (repeat' (first | exact True.intro | exact Imp.refl _ | refine ⟨?_, ?_⟩))) (Sub.self _)⟩
  intro y
  exact E.fall (T := tt) tt_ok rfl rfl (by (repeat' (first | exact trivial))) (F' := wrR a y (l ++ numL n k)) (Imp.refl _) (List.Sublist.refl _) ⟨rfl, y, rfl⟩

theorem wflag_p (a : Nat) (y : Value) (l : List UInt8) (b : Bool) (hl : l.length ≤ 100000) : FnC Try.prog 51 [.ptr 30 a 0, .v (.bool b)] (wrR a y l) (Wrote a (l ++ flagL b)) := by
  refine FnC.intro Try.func51 rfl Try.ntmps51 rfl ?_; intro off w0
  ((repeat refine S.seq ?_); refine S.region (L.go (T := tt) tt_ok rfl rfl ?sd4 ?_); (try (case sd4 => (repeat' (first | exact trivial | with_reducible refine zI ?_ ?_)))); try (refine L.nil ?_))
  ((repeat refine S.seq ?_); refine S.region (L.go (T := tt) tt_ok rfl rfl ?sd5 ?_); (try (case sd5 => (repeat' (first | exact trivial | with_reducible refine zI ?_ ?_)))); try (refine L.nil ?_))
  repeat refine S.seq ?_
  refine S.cut (ι := Unit) (fun _ => [(0, .ptr 30 a 0), (4, .v (.int .i64 (if b then 1 else 0)))]) (fun _ => wrR a y l) ?_ ?_
  · ((repeat refine S.seq ?_); refine S.cond rfl (fun h => ?_) (fun h => ?_) <;> (try first | refine S.skip ?_ | refine S.exit ?_))
    · ((repeat refine S.seq ?_); refine S.region (L.go (T := tt) tt_ok rfl rfl ?sd6 ?_); (try (case sd6 => (repeat' (first | exact trivial | with_reducible refine zI ?_ ?_)))); try (refine L.nil ?_))
      exact fun a' w hR => ⟨(), hR.weakP ⟨Imp.refl _, Imp.of_eq (by rw [h]; rfl), trivial⟩ (Sub.self _)⟩
    · exact fun a' w hR => ⟨(), hR.weakP ⟨Imp.refl _, Imp.of_eq (by rw [h]; rfl), trivial⟩ (Sub.self _)⟩
  rintro ⟨⟩
  repeat refine S.seq ?_
  refine S.region ?_
  (refine L.go (T := tt) tt_ok rfl rfl ?sd12 ?_; (try (case sd12 => (repeat' (first | exact trivial | with_reducible refine zI ?_ ?_)))); try (refine L.nil ?_))
  refine L.call (G := wrR a y l) (H := []) rfl rfl rfl rfl rfl rfl rfl ⟨trivial, by (repeat' (first | exact trivial | with_reducible refine zI ?_ ?_))⟩ rfl (by exact Imps.refl [.ptr 30 a 0, .v (.int .i64 (if b then 1 else 0)), .v (.int .i64 1)]) (by rw [List.append_nil]) (wnum_p a y l (if b then 1 else 0) 1 (by decide) hl) ?_
  rintro r F' ⟨rfl, y2, rfl⟩
  refine L.nil ?_
  refine rowsEq (wrR a y2 (l ++ flagL b)) (List.append_nil _) ?_
  exact E.fall (T := tt) tt_ok rfl rfl (by (repeat' (first | exact trivial))) (F' := wrR a y2 (l ++ flagL b)) (Imp.refl _) (List.Sublist.refl _) ⟨rfl, y2, rfl⟩

theorem wtext_p (a : Nat) (y : Value) (l : List UInt8) (s : ByteArray) (hl : l.length ≤ 100000) (hs : s.size ≤ 100000) : FnC Try.prog 52 [.ptr 30 a 0, .v (.string s)] (wrR a y l) (Wrote a (l ++ txtL s)) := by
  refine FnC.intro Try.func52 rfl Try.ntmps52 rfl ?_; intro off w0
  repeat refine S.seq ?_
  refine S.region ?_
  (refine L.go (T := tt) tt_ok rfl rfl ?sd13 ?_; (try (case sd13 => (repeat' (first | exact trivial | with_reducible refine zI ?_ ?_)))); try (refine L.nil ?_))
  refine L.call (G := wrR a y l) (H := []) rfl rfl rfl rfl rfl rfl rfl ⟨trivial, by (repeat' (first | exact trivial | with_reducible refine zI ?_ ?_))⟩ rfl (by exact Imps.refl [.ptr 30 a 0, .v (.int .i64 s.size), .v (.int .i64 1)]) (by rw [List.append_nil]) (wnum_p a y l s.size 1 (by decide) hl) ?_
  rintro r F' ⟨rfl, y2, rfl⟩
  refine L.nil ?_
  obtain ⟨m, hm⟩ : ∃ m, m = l ++ numL s.size 1 := ⟨_, rfl⟩
  have hml : m.length = l.length + 1 := by rw [hm, List.length_append, numL_len]
  rw [← hm]
  refine rowsEq (wrR a y2 m) (List.append_nil _) ?_
  unfold wrR
  repeat refine S.seq ?_
  refine S.region ?_
  (refine L.go (T := tt) tt_ok rfl rfl ?sd14 ?_; (try (case sd14 => (repeat' (first | exact trivial | with_reducible refine zI ?_ ?_ | rfl)))); try (refine L.nil ?_))
  refine L.appStr (T := tt) tt_ok rfl rfl rfl rfl rfl rfl u8_ok rfl rfl rfl (by (repeat' (first | exact trivial | with_reducible refine zI ?_ ?_ | rfl))) (by omega) fun y3 => ?_
  have e : l ++ txtL s = m ++ s.data.toList := by rw [txtL, hm, List.append_assoc]
  have hsz : s.data.toList.length = s.size := Array.length_toList
  refine ownAs 31 (gOf u8C (l ++ txtL s)) rfl (show m.length + s.size = (l ++ txtL s).length by rw [e, List.length_append, hsz]) (fun q hq => by rw [e]; exact app_g u8C m s.data.toList (byteG s) rfl (fun j hj => gStr s j (by omega)) (by omega)) ?_
  (refine L.go (T := tt) tt_ok rfl rfl ?sd15 ?_; (try (case sd15 => (repeat' (first | exact trivial | with_reducible refine zI ?_ ?_)))); try (refine L.nil ?_))
  (refine L.store (T := tt) tt_ok rfl rfl rfl rfl rfl rfl ?sd25 ?_; (try (case sd25 => (repeat' (first | exact trivial | with_reducible refine zI ?_ ?_ | rfl | exact zN rfl)))))
  refine L.nil ?_
  exact E.fall (T := tt) tt_ok rfl rfl (by (repeat' (first | exact trivial))) (F' := wrR a y3 (l ++ txtL s)) (Imp.refl _) (by unfold wrR; (repeat (first | exact List.nil_sublist _ | refine List.Sublist.cons_cons _ ?_ | refine List.Sublist.cons _ ?_))) ⟨rfl, y3, rfl⟩

theorem wmessage_p (a : Nat) (y : Value) (l : List UInt8) (m : Msg) (hl : l.length ≤ 90000) (hk : m.key.size ≤ 1000) (hb : m.body.size ≤ 1000) : FnC Try.prog 50 [.ptr 30 a 0, m.av] (wrR a y l) (Wrote a (l ++ msgL m)) := by
  refine FnC.intro Try.func50 rfl Try.ntmps50 rfl ?_; intro off w0
  repeat refine S.seq ?_
  refine S.region ?_
  refine L.box 33 rfl rfl rfl rfl rfl trivial rfl fun b3 => ?_
  refine L.nil ?_
  refine freezeBlk 3 33 rfl rfl rfl ?_
  refine slotAs 3 (.pel 5 m.cells) rfl (Imp.refl _) ?_
  refine rowsEq (wrR a y l) rfl ?_
  repeat refine S.seq ?_
  refine S.region ?_
  (refine L.go (T := tt) tt_ok rfl rfl ?sd16 ?_; (try (case sd16 => (repeat' (first | exact trivial | with_reducible refine zI ?_ ?_)))); try (refine L.nil ?_))
  refine L.call (G := wrR a y l) (H := []) rfl rfl rfl rfl rfl rfl rfl ⟨trivial, by (repeat' (first | exact trivial | with_reducible refine zI ?_ ?_))⟩ rfl (by exact Imps.refl [.ptr 30 a 0, .v (.int .i64 m.pub), .v (.int .i64 1)]) (by rw [List.append_nil]) (wnum_p a y l m.pub 1 (by decide) (by omega)) ?_
  rintro r F' ⟨rfl, y1, rfl⟩
  refine L.nil ?_
  obtain ⟨l1, h1⟩ : ∃ l1, l1 = l ++ numL m.pub 1 := ⟨_, rfl⟩
  have g1 : l1.length = l.length + 1 := by rw [h1, List.length_append, numL_len]
  rw [← h1]
  refine rowsEq (wrR a y1 l1) (List.append_nil _) ?_
  repeat refine S.seq ?_
  refine S.region ?_
  (refine L.go (T := tt) tt_ok rfl rfl ?sd17 ?_; (try (case sd17 => (repeat' (first | exact trivial | with_reducible refine zI ?_ ?_)))); try (refine L.nil ?_))
  refine L.call (G := wrR a y1 l1) (H := []) rfl rfl rfl rfl rfl rfl rfl ⟨trivial, by (repeat' (first | exact trivial | with_reducible refine zI ?_ ?_))⟩ rfl (by exact Imps.refl [.ptr 30 a 0, .v (.int .i64 m.seq), .v (.int .i64 4)]) (by rw [List.append_nil]) (wnum_p a y1 l1 m.seq 4 (by decide) (by omega)) ?_
  rintro r F' ⟨rfl, y2, rfl⟩
  refine L.nil ?_
  obtain ⟨l2, h2⟩ : ∃ l2, l2 = l1 ++ numL m.seq 4 := ⟨_, rfl⟩
  have g2 : l2.length = l1.length + 4 := by rw [h2, List.length_append, numL_len]
  rw [← h2]
  refine rowsEq (wrR a y2 l2) (List.append_nil _) ?_
  repeat refine S.seq ?_
  refine S.region ?_
  (refine L.go (T := tt) tt_ok rfl rfl ?sd18 ?_; (try (case sd18 => (repeat' (first | exact trivial | with_reducible refine zI ?_ ?_)))); try (refine L.nil ?_))
  refine L.call (G := wrR a y2 l2) (H := []) rfl rfl rfl rfl rfl rfl rfl ⟨trivial, by (repeat' (first | exact trivial | with_reducible refine zI ?_ ?_))⟩ rfl (by exact Imps.refl [.ptr 30 a 0, .v (.bool m.again)]) (by rw [List.append_nil]) (wflag_p a y2 l2 m.again (by omega)) ?_
  rintro r F' ⟨rfl, y3, rfl⟩
  refine L.nil ?_
  obtain ⟨l3, h3⟩ : ∃ l3, l3 = l2 ++ flagL m.again := ⟨_, rfl⟩
  have g3 : l3.length = l2.length + 1 := by rw [h3, List.length_append, flagL, numL_len]
  rw [← h3]
  refine rowsEq (wrR a y3 l3) (List.append_nil _) ?_
  repeat refine S.seq ?_
  refine S.region ?_
  (refine L.go (T := tt) tt_ok rfl rfl ?sd19 ?_; (try (case sd19 => (repeat' (first | exact trivial | with_reducible refine zI ?_ ?_)))); try (refine L.nil ?_))
  refine L.call (G := wrR a y3 l3) (H := []) rfl rfl rfl rfl rfl rfl rfl ⟨trivial, by (repeat' (first | exact trivial | with_reducible refine zI ?_ ?_))⟩ rfl (by exact Imps.refl [.ptr 30 a 0, .v (.string m.key)]) (by rw [List.append_nil]) (wtext_p a y3 l3 m.key (by omega) (by omega)) ?_
  rintro r F' ⟨rfl, y4, rfl⟩
  refine L.nil ?_
  obtain ⟨l4, h4⟩ : ∃ l4, l4 = l3 ++ txtL m.key := ⟨_, rfl⟩
  have g4 : l4.length = l3.length + (1 + m.key.size) := by rw [h4, List.length_append, txtL, List.length_append, numL_len]; rfl
  rw [← h4]
  refine rowsEq (wrR a y4 l4) (List.append_nil _) ?_
  repeat refine S.seq ?_
  refine S.region ?_
  (refine L.go (T := tt) tt_ok rfl rfl ?sd20 ?_; (try (case sd20 => (repeat' (first | exact trivial | with_reducible refine zI ?_ ?_)))); try (refine L.nil ?_))
  refine L.call (G := wrR a y4 l4) (H := []) rfl rfl rfl rfl rfl rfl rfl ⟨trivial, by (repeat' (first | exact trivial | with_reducible refine zI ?_ ?_))⟩ rfl (by exact Imps.refl [.ptr 30 a 0, .v (.string m.body)]) (by rw [List.append_nil]) (wtext_p a y4 l4 m.body (by omega) (by omega)) ?_
  rintro r F' ⟨rfl, y5, rfl⟩
  refine L.nil ?_
  have e : l4 ++ txtL m.body = l ++ msgL m := by rw [h4, h3, h2, h1, msgL]; simp only [List.append_assoc]
  refine rowsEq (wrR a y5 (l ++ msgL m)) (by rw [List.append_nil, e]) ?_
  exact E.fall (T := tt) tt_ok rfl rfl (by (repeat' (first | exact trivial))) (F' := wrR a y5 (l ++ msgL m)) (Imp.refl _) (List.Sublist.refl _) ⟨rfl, y5, rfl⟩

def msgSmall (m : Msg) : Prop := m.key.size ≤ 1000 ∧ m.body.size ≤ 1000
theorem msgL_len {m : Msg} (h : msgSmall m) : (msgL m).length ≤ 2008 := by
  have h1 := h.1
  have h2 := h.2
  unfold msgL flagL txtL
  simp only [List.length_append, numL_len, Array.length_toList]
  have e1 : m.key.data.size = m.key.size := rfl
  have e2 : m.body.data.size = m.body.size := rfl
  omega
theorem flat_len : ∀ {l : List Msg}, (∀ m ∈ l, msgSmall m) → (l.flatMap msgL).length ≤ 2008 * l.length
  | [], _ => Nat.le_refl _
  | m :: t, h => by
    have h1 := msgL_len (h m List.mem_cons_self)
    have h2 := flat_len (l := t) fun x hx => h x (List.mem_cons_of_mem _ hx)
    rw [List.flatMap_cons, List.length_append, List.length_cons]
    omega

theorem wmessages_p (a : Nat) (y : Value) (l : List UInt8) (ms : List Msg) (hl : l.length ≤ 100) (hm : ms.length ≤ 12) (hs : ∀ m ∈ ms, msgSmall m) : FnC Try.prog 24 [.ptr 30 a 0, msgs ms] (wrR a y l) (Wrote a (l ++ msgsL ms)) := by
  refine FnC.intro Try.func24 rfl Try.ntmps24 rfl ?_; intro off w0
  repeat refine S.seq ?_
  refine S.region ?_
  (refine L.go (T := tt) tt_ok rfl rfl ?sd21 ?_; (try (case sd21 => (repeat' (first | exact trivial | with_reducible refine zI ?_ ?_)))); try (refine L.nil ?_))
  refine L.call (G := wrR a y l) (H := []) rfl rfl rfl rfl rfl rfl rfl ⟨trivial, by (repeat' (first | exact trivial | with_reducible refine zI ?_ ?_))⟩ rfl (by exact Imps.refl [.ptr 30 a 0, .v (.int .i64 ms.length), .v (.int .i64 1)]) (by rw [List.append_nil]) (wnum_p a y l ms.length 1 (by decide) (by omega)) ?_
  rintro r F' ⟨rfl, y1, rfl⟩
  refine L.nil ?_
  obtain ⟨l1, h1⟩ : ∃ l1, l1 = l ++ numL ms.length 1 := ⟨_, rfl⟩
  have g1 : l1.length = l.length + 1 := by rw [h1, List.length_append, numL_len]
  rw [← h1]
  refine rowsEq (wrR a y1 l1) (List.append_nil _) ?_
  ((repeat refine S.seq ?_); refine S.region (L.go (T := tt) tt_ok rfl rfl ?sd7 ?_); (try (case sd7 => (repeat' (first | exact trivial | with_reducible refine zI ?_ ?_)))); try (refine L.nil ?_))
  repeat refine S.seq ?_
  refine S.cut (ι := Value) (fun y => []) (fun y => wrR a y (l ++ msgsL ms)) ?_ ?_
  · repeat refine S.seq ?_
    refine S.block (S.loop (ι := { q : Nat × Value // q.1 ≤ ms.length }) (fun q => [(0, .ptr 30 a 0), (10, msgs ms), (11, .v (.int .i64 ms.length)), (12, .v (.int .i64 q.1.1))]) (fun q => wrR a q.1.2 (l1 ++ (ms.take q.1.1).flatMap msgL)) (fun q => ms.length - q.1.1) ?_ ?_)
    · exact fun a' w h => ⟨⟨(0, y1), Nat.zero_le _⟩, h.weakP (by (repeat' (first | exact True.intro | exact Imp.refl _ | refine ⟨?_, ?_⟩))) (Sub.of _ (by rw [List.append_nil]; exact List.Perm.of_eq (by rw [List.take_zero]; show _ = wrR a y1 (l1 ++ []); rw [List.append_nil])))⟩
    rintro ⟨⟨k, y⟩, hk⟩
    dsimp only at hk ⊢
    ((repeat refine S.seq ?_); refine S.region (L.go (T := tt) tt_ok rfl rfl ?sd8 ?_); (try (case sd8 => (repeat' (first | exact trivial | with_reducible refine zI ?_ ?_)))); try (refine L.nil ?_))
    ((repeat refine S.seq ?_); refine S.cond rfl (fun hc => ?_) (fun hc => ?_) <;> (try first | refine S.skip ?_ | refine S.exit ?_))
    · have hkl : k < ms.length := by have := of_dec hc; omega
      obtain ⟨m, hmm⟩ : ∃ m, m = ms.getD k default := ⟨_, rfl⟩
      have hsm : msgSmall m := hs m (by rw [hmm, getD_get hkl]; exact List.getElem_mem _)
      have hfl := flat_len (l := ms.take k) fun x hx => hs x (List.mem_of_mem_take hx)
      have htk : (ms.take k).length ≤ 12 := by rw [List.length_take]; omega
      have hts : (ms.take (k + 1)).flatMap msgL = (ms.take k).flatMap msgL ++ msgL m := by
        rw [List.take_add_one, List.getElem?_eq_getElem hkl, List.flatMap_append, hmm, getD_get hkl]
        simp
      obtain ⟨l2, h2⟩ : ∃ l2, l2 = l1 ++ (ms.take k).flatMap msgL := ⟨_, rfl⟩
      have g2 : l2.length ≤ 90000 := by rw [h2, List.length_append]; omega
      rw [← h2]
      repeat refine S.seq ?_
      refine S.block ?_
      repeat refine S.seq ?_
      refine S.region ?_
      (refine L.go (T := tt) tt_ok rfl rfl ?sd22 ?_; (try (case sd22 => (repeat' (first | exact trivial | with_reducible refine zI ?_ ?_ | rfl | omega)))); try (refine L.nil ?_))
      refine L.alloc (T := tt) 34 tt_ok rfl rfl rfl rfl rfl fun b5 => ?_
      (refine L.store (T := tt) tt_ok rfl rfl rfl rfl rfl rfl ?sd26 ?_; (try (case sd26 => (repeat' (first | exact trivial | with_reducible refine zI ?_ ?_ | rfl | exact zN rfl)))))
      refine L.nil ?_
      refine freezeBlk 5 34 rfl rfl rfl ?_
      refine slotAs 5 (.pel 5 m.cells) rfl (Imp.of_eq (by rw [hmm]; rfl)) ?_
      refine rowsEq (wrR a y l2) rfl ?_
      repeat refine S.seq ?_
      refine S.region ?_
      (refine L.go (T := tt) tt_ok rfl rfl ?sd23 ?_; (try (case sd23 => (repeat' (first | exact trivial | with_reducible refine zI ?_ ?_ | rfl)))); try (refine L.nil ?_))
      refine L.call (G := wrR a y l2) (H := []) rfl rfl rfl rfl rfl rfl rfl ⟨trivial, by (repeat' (first | exact trivial | with_reducible refine zI ?_ ?_))⟩ rfl (by exact Imps.refl [.ptr 30 a 0, m.av]) (by rw [List.append_nil]) (wmessage_p a y l2 m g2 hsm.1 hsm.2) ?_
      rintro r F' ⟨rfl, y2, rfl⟩
      refine L.nil ?_
      refine rowsEq (wrR a y2 (l1 ++ (ms.take (k + 1)).flatMap msgL)) (by rw [List.append_nil, hts, h2, List.append_assoc]) ?_
      ((repeat refine S.seq ?_); refine S.region (L.go (T := tt) tt_ok rfl rfl ?sd9 ?_); (try (case sd9 => (repeat' (first | exact trivial | with_reducible refine zI ?_ ?_ | (unfold fits; omega))))); try (refine L.nil ?_))
      exact fun a' w h => ⟨⟨(k + 1, y2), by show k + 1 ≤ _; omega⟩, by show ms.length - (k + 1) < ms.length - k; omega, h.weakP (by (repeat' (first | exact True.intro | exact Imp.refl _ | refine ⟨?_, ?_⟩))) (Sub.self _)⟩
    have hkl : k = ms.length := by have := of_dec' hc; omega
    subst hkl
    exact fun a' w h => ⟨y, h.weakP (by (repeat' (first | exact True.intro | exact Imp.refl _ | refine ⟨?_, ?_⟩))) (Sub.of _ (by rw [List.append_nil, List.take_length, h1, msgsL, List.append_assoc]))⟩
  intro y
  exact E.fall (T := tt) tt_ok rfl rfl (by (repeat' (first | exact trivial))) (F' := wrR a y (l ++ msgsL ms)) (Imp.refl _) (List.Sublist.refl _) ⟨rfl, y, rfl⟩
end Go.Proofs.Ytlbbcjlhnjnkeaa

/- A reader. -/
namespace Go.Proofs.Ytlbbcjlhnjnkeaa
set_option linter.unusedVariables false
set_option linter.unusedSimpArgs false
set_option maxHeartbeats 8000000
open Go.RowKit
set_option maxRecDepth 4000

def rdC (s : RdD) : List AV := [bytesL s.b, .v (.bool s.bad)]
def rdR (a : Nat) (s : RdD) : Rows := [(30, .blk a 69 (rdC s))]

theorem rraw_p (a : Nat) (s : RdD) (n : Int) (hn : 0 ≤ n) (hb : s.b.length ≤ 1000000) : FnC Try.prog 53 [.ptr 30 a 0, .v (.int .i64 n)] (rdR a s) (fun r F' => r = bytesL (rawS s n).1 ∧ F' = rdR a (rawS s n).2) := by
  unfold rdR rdC
  refine FnC.intro Try.func53 rfl Try.ntmps53 rfl ?_; intro off w0
  ((repeat refine S.seq ?_); refine S.region (L.go (T := tt) tt_ok rfl rfl ?sd27 ?_); (try (case sd27 => (repeat' (first | exact trivial | with_reducible refine zI ?_ ?_)))); try (refine L.nil ?_))
  ((repeat refine S.seq ?_); refine S.region (L.go (T := tt) tt_ok rfl rfl ?sd28 ?_); (try (case sd28 => (repeat' (first | exact trivial | exact zA | with_reducible refine zI ?_ ?_ | exact zB | exact zC | exact zD | rfl | (simp; done))))); try (refine L.nil ?_))
  obtain ⟨bb, hbb⟩ : ∃ bb, bb = (s.bad || decide (n > (s.b.length : Int))) := ⟨_, rfl⟩
  refine slotAs 18 (.v (.bool bb)) rfl (Imp.of_eq (by rw [hbb])) ?_
  ((repeat refine S.seq ?_); refine S.cond rfl (fun h => ?_) (fun h => ?_) <;> (try first | refine S.skip ?_ | refine S.exit ?_))
  · have e : rawS s n = ([], ⟨s.b, true⟩) := by rw [rawS, ← hbb, if_pos h]
    ((repeat refine S.seq ?_); refine S.region (L.go (T := tt) tt_ok rfl rfl ?sd29 ?_); (try (case sd29 => (repeat' (first | exact trivial | with_reducible refine zI ?_ ?_)))); try (refine L.nil ?_))
    (refine L.store (T := tt) tt_ok rfl rfl rfl rfl rfl rfl ?sd60 ?_; (try (case sd60 => (repeat' (first | exact trivial | with_reducible refine zI ?_ ?_ | rfl | exact zN rfl)))))
    refine L.nil ?_
    ((repeat refine S.seq ?_); refine S.region (L.go (T := tt) tt_ok rfl rfl ?sd30 ?_); (try (case sd30 => (repeat' (first | exact trivial | with_reducible refine zI ?_ ?_)))); try (refine L.nil ?_))
    refine slotAs 4 (bytesL []) rfl (Imp.nil 1 _) ?_
    ((repeat refine S.seq ?_); refine S.ret ?_)
    rw [e]
    exact E.ret (T := tt) tt_ok rfl rfl (by (repeat' (first | exact trivial | with_reducible refine zI ?_ ?_))) (F' := rdR a ⟨s.b, true⟩) (Imp.refl _) (List.Sublist.refl _) ⟨rfl, rfl⟩
  have h' : s.bad = false ∧ n ≤ (s.b.length : Int) := by
    rw [h] at hbb
    have := hbb.symm
    rw [Bool.or_eq_false_iff, decide_eq_false_iff_not] at this
    exact ⟨this.1, by omega⟩
  have e : rawS s n = (s.b.take n.toNat, ⟨s.b.drop n.toNat, s.bad⟩) := by rw [rawS, ← hbb, if_neg (by rw [h]; decide)]
  rw [e]
  ((repeat refine S.seq ?_); refine S.region (L.go (T := tt) tt_ok rfl rfl ?sd31 ?_); (try (case sd31 => (repeat' (first | exact trivial | with_reducible refine zI ?_ ?_ | rfl | omega)))); try (refine L.nil ?_))
  refine slotAs 5 (bytesL (s.b.take n.toNat)) rfl (Imp.lst (by rw [List.length_take]; omega) (fun i hi => take_gg u8C s.b (by omega))) ?_
  ((repeat refine S.seq ?_); refine S.region (L.go (T := tt) tt_ok rfl rfl ?sd32 ?_); (try (case sd32 => (repeat' (first | exact trivial | with_reducible refine zI ?_ ?_ | rfl | omega)))); try (refine L.nil ?_))
  (refine L.store (T := tt) tt_ok rfl rfl rfl rfl rfl rfl ?sd61 ?_; (try (case sd61 => (repeat' (first | exact trivial | with_reducible refine zI ?_ ?_ | rfl | exact zN rfl)))))
  refine L.nil ?_
  refine blkAs 30 (rdC ⟨s.b.drop n.toNat, s.bad⟩) rfl ⟨Imp.lst (by rw [List.length_drop]) (fun i hi => drop_g u8C s.b n.toNat i), Imp.refl _, trivial⟩ ?_
  ((repeat refine S.seq ?_); refine S.region (L.go (T := tt) tt_ok rfl rfl ?sd33 ?_); (try (case sd33 => (repeat' (first | exact trivial | with_reducible refine zI ?_ ?_)))); try (refine L.nil ?_))
  ((repeat refine S.seq ?_); refine S.ret ?_)
  exact E.ret (T := tt) tt_ok rfl rfl (by (repeat' (first | exact trivial | with_reducible refine zI ?_ ?_))) (F' := rdR a ⟨s.b.drop n.toNat, s.bad⟩) (Imp.refl _) (List.Sublist.refl _) ⟨rfl, rfl⟩

theorem rawS_b (s : RdD) (n : Int) : (rawS s n).2.b.length ≤ s.b.length := by
  unfold rawS
  split
  · exact Nat.le_refl _
  · show (s.b.drop n.toNat).length ≤ _
    rw [List.length_drop]; omega

theorem rnum_p (a : Nat) (s : RdD) (k : Nat) (hb : s.b.length ≤ 1000000) : FnC Try.prog 26 [.ptr 30 a 0, .v (.int .i64 k)] (rdR a s) (fun r F' => r = .v (.int .i64 (numR s k).1) ∧ F' = rdR a (numR s k).2) := by
  refine FnC.intro Try.func26 rfl Try.ntmps26 rfl ?_; intro off w0
  ((repeat refine S.seq ?_); refine S.region (L.go (T := tt) tt_ok rfl rfl ?sd34 ?_); (try (case sd34 => (repeat' (first | exact trivial | with_reducible refine zI ?_ ?_)))); try (refine L.nil ?_))
  ((repeat refine S.seq ?_); refine S.region (L.go (T := tt) tt_ok rfl rfl ?sd35 ?_); (try (case sd35 => (repeat' (first | exact trivial | with_reducible refine zI ?_ ?_)))); try (refine L.nil ?_))
  repeat refine S.seq ?_
  refine S.region ?_
  (refine L.go (T := tt) tt_ok rfl rfl ?sd46 ?_; (try (case sd46 => (repeat' (first | exact trivial | with_reducible refine zI ?_ ?_)))); try (refine L.nil ?_))
  refine L.call (G := rdR a s) (H := []) rfl rfl rfl rfl rfl rfl rfl ⟨trivial, by (repeat' (first | exact trivial | with_reducible refine zI ?_ ?_))⟩ rfl (by exact Imps.refl [.ptr 30 a 0, .v (.int .i64 k)]) (by rw [List.append_nil]) (rraw_p a s k (by omega) hb) ?_
  rintro r F' ⟨rfl, rfl⟩
  obtain ⟨l, hl⟩ : ∃ l, l = (rawS s k).1 := ⟨_, rfl⟩
  have hll := rawS_b s k
  have hl2 : l.length ≤ k := by rw [hl]; have := rawS_len s k; omega
  have hl3 : l.length ≤ 1000000 := by
    rw [hl]
    unfold rawS
    split
    · exact Nat.zero_le _
    · show (s.b.take _).length ≤ _
      rw [List.length_take]; omega
  have hval : (numR s k).1 = l.foldl accS 0 := by rw [numR, hl]
  rw [← hl]
  refine rowsEq (rdR a (numR s k).2) (List.append_nil _) ?_
  (refine L.go (T := tt) tt_ok rfl rfl ?sd47 ?_; (try (case sd47 => (repeat' (first | exact trivial | with_reducible refine zI ?_ ?_)))); try (refine L.nil ?_))
  repeat refine S.seq ?_
  refine S.block (S.loop (ι := { q : Nat // q ≤ l.length }) (fun q => [(5, .v (.int .i64 ((l.take q.1).foldl accS 0))), (10, bytesL l), (11, .v (.int .i64 l.length)), (12, .v (.int .i64 q.1))]) (fun q => rdR a (numR s k).2) (fun q => l.length - q.1) ?_ ?_)
  · exact fun a' w h => ⟨⟨0, Nat.zero_le _⟩, h.weakP (by (repeat' (first | exact True.intro | exact Imp.refl _ | refine ⟨?_, ?_⟩))) (Sub.self _)⟩
  rintro ⟨q, hq⟩
  dsimp only
  ((repeat refine S.seq ?_); refine S.region (L.go (T := tt) tt_ok rfl rfl ?sd36 ?_); (try (case sd36 => (repeat' (first | exact trivial | with_reducible refine zI ?_ ?_)))); try (refine L.nil ?_))
  ((repeat refine S.seq ?_); refine S.cond rfl (fun hc => ?_) (fun hc => ?_) <;> (try first | refine S.skip ?_ | refine S.exit ?_))
  · have hql : q < l.length := by have := of_dec hc; omega
    have hts : (l.take (q + 1)).foldl accS 0 = accS ((l.take q).foldl accS 0) (l.getD q default) := by
      rw [List.take_add_one, List.getElem?_eq_getElem hql, List.foldl_append, getD_get hql]
      rfl
    repeat refine S.seq ?_
    refine S.block ?_
    ((repeat refine S.seq ?_); refine S.region (L.go (T := tt) tt_ok rfl rfl ?sd37 ?_); (try (case sd37 => (repeat' (first | exact trivial | with_reducible refine zI ?_ ?_ | omega)))); try (refine L.nil ?_))
    ((repeat refine S.seq ?_); refine S.region (L.go (T := tt) tt_ok rfl rfl ?sd38 ?_); (try (case sd38 => (repeat' (first | exact trivial | with_reducible refine zI ?_ ?_ | omega)))); try (refine L.nil ?_))
    refine slotAs 5 (.v (.int .i64 ((l.take (q + 1)).foldl accS 0))) rfl (Imp.of_eq (by rw [hts]; rfl)) ?_
    ((repeat refine S.seq ?_); refine S.region (L.go (T := tt) tt_ok rfl rfl ?sd39 ?_); (try (case sd39 => (repeat' (first | exact trivial | with_reducible refine zI ?_ ?_ | (unfold fits; omega))))); try (refine L.nil ?_))
    exact fun a' w h => ⟨⟨q + 1, by omega⟩, by show l.length - (q + 1) < l.length - q; omega, h.weakP (by (repeat' (first | exact True.intro | exact Imp.refl _ | refine ⟨?_, ?_⟩))) (Sub.self _)⟩
  have hql : q = l.length := by have := of_dec' hc; omega
  subst hql
  rw [List.take_length]
  ((repeat refine S.seq ?_); refine S.region (L.go (T := tt) tt_ok rfl rfl ?sd40 ?_); (try (case sd40 => (repeat' (first | exact trivial | with_reducible refine zI ?_ ?_)))); try (refine L.nil ?_))
  ((repeat refine S.seq ?_); refine S.ret ?_)
  rw [hval]
  exact E.ret (T := tt) tt_ok rfl rfl (by (repeat' (first | exact trivial | with_reducible refine zI ?_ ?_))) (F' := rdR a (numR s k).2) (Imp.refl _) (List.Sublist.refl _) ⟨rfl, rfl⟩

theorem numR_b (s : RdD) (k : Int) : (numR s k).2.b.length ≤ s.b.length := rawS_b s k
theorem txtR_b (s : RdD) : (txtR s).2.b.length ≤ s.b.length := Nat.le_trans (rawS_b _ _) (numR_b s 1)

theorem rtext_p (a : Nat) (s : RdD) (hb : s.b.length ≤ 1000000) : FnC Try.prog 55 [.ptr 30 a 0] (rdR a s) (fun r F' => r = .v (.string (txtR s).1) ∧ F' = rdR a (txtR s).2) := by
  have h1 := numR1 s
  have hb1 := numR_b s 1
  refine FnC.intro Try.func55 rfl Try.ntmps55 rfl ?_; intro off w0
  ((repeat refine S.seq ?_); refine S.region (L.go (T := tt) tt_ok rfl rfl ?sd41 ?_); (try (case sd41 => (repeat' (first | exact trivial | with_reducible refine zI ?_ ?_)))); try (refine L.nil ?_))
  repeat refine S.seq ?_
  refine S.region ?_
  (refine L.go (T := tt) tt_ok rfl rfl ?sd48 ?_; (try (case sd48 => (repeat' (first | exact trivial | with_reducible refine zI ?_ ?_)))); try (refine L.nil ?_))
  refine L.call (G := rdR a s) (H := []) rfl rfl rfl rfl rfl rfl rfl ⟨trivial, by (repeat' (first | exact trivial | with_reducible refine zI ?_ ?_))⟩ rfl (by exact Imps.refl [.ptr 30 a 0, .v (.int .i64 1)]) (by rw [List.append_nil]) (rnum_p a s 1 hb) ?_
  rintro r F' ⟨rfl, rfl⟩
  refine rowsEq (rdR a (numR s 1).2) (List.append_nil _) ?_
  refine L.call (G := rdR a (numR s 1).2) (H := []) rfl rfl rfl rfl rfl rfl rfl ⟨trivial, by (repeat' (first | exact trivial | with_reducible refine zI ?_ ?_))⟩ rfl (by exact Imps.refl [.ptr 30 a 0, .v (.int .i64 (numR s 1).1)]) (by rw [List.append_nil]) (rraw_p a (numR s 1).2 (numR s 1).1 h1.1 (by omega)) ?_
  rintro r F' ⟨rfl, rfl⟩
  refine rowsEq (rdR a (txtR s).2) (List.append_nil _) ?_
  refine L.toStr (T := tt) (str := (txtR s).1) tt_ok rfl rfl rfl rfl rfl rfl rfl rfl rfl (by (repeat' (first | exact trivial | with_reducible refine zI ?_ ?_))) (by rw [txtR, strL_size]) (fun i hi => strL_g _ hi) ?_
  (refine L.go (T := tt) tt_ok rfl rfl ?sd49 ?_; (try (case sd49 => (repeat' (first | exact trivial | with_reducible refine zI ?_ ?_)))); try (refine L.nil ?_))
  ((repeat refine S.seq ?_); refine S.ret ?_)
  exact E.ret (T := tt) tt_ok rfl rfl (by (repeat' (first | exact trivial | with_reducible refine zI ?_ ?_))) (F' := rdR a (txtR s).2) (Imp.refl _) (List.Sublist.refl _) ⟨rfl, rfl⟩

theorem rmessage_p (a : Nat) (s : RdD) (hb : s.b.length ≤ 1000000) : FnC Try.prog 54 [.ptr 30 a 0] (rdR a s) (fun r F' => r = (msgR s).1.av ∧ F' = rdR a (msgR s).2) := by
  have b1 := numR_b s 1
  have b2 := numR_b (msgR1 s) 4
  have b3 := numR_b (msgR2 s) 1
  have b4 := txtR_b (msgR3 s)
  rw [show (numR s 1).2 = msgR1 s from rfl] at b1
  rw [show (numR (msgR1 s) 4).2 = msgR2 s from rfl] at b2
  rw [show (numR (msgR2 s) 1).2 = msgR3 s from rfl] at b3
  rw [show (txtR (msgR3 s)).2 = msgR4 s from rfl] at b4
  refine FnC.intro Try.func54 rfl Try.ntmps54 rfl ?_; intro off w0
  repeat refine S.seq ?_
  refine S.region ?_
  refine L.alloc (T := tt) 36 tt_ok rfl rfl rfl rfl rfl fun b2 => ?_
  refine L.nil ?_
  repeat refine S.seq ?_
  refine S.region ?_
  (refine L.go (T := tt) tt_ok rfl rfl ?sd50 ?_; (try (case sd50 => (repeat' (first | exact trivial | with_reducible refine zI ?_ ?_)))); try (refine L.nil ?_))
  have hp : ∀ t : RdD, (rdR a t ++ [(36, Row.blk b2 41 (default : Msg).cells)]).Perm ((36, Row.blk b2 41 (default : Msg).cells) :: rdR a t) := fun t => List.perm_append_comm
  refine rowsTo ((36, Row.blk b2 41 (default : Msg).cells) :: rdR a s) (Sub.self _) ?_
  refine L.call (G := rdR a s) (H := [(36, Row.blk b2 41 (default : Msg).cells)]) rfl rfl rfl rfl rfl rfl rfl ⟨trivial, by (repeat' (first | exact trivial | with_reducible refine zI ?_ ?_))⟩ rfl (by exact Imps.refl [.ptr 30 a 0, .v (.int .i64 1)]) (hp _).symm (rnum_p a s 1 hb) ?_
  rintro r F' ⟨rfl, rfl⟩
  (refine L.go (T := tt) tt_ok rfl rfl ?sd51 ?_; (try (case sd51 => (repeat' (first | exact trivial | with_reducible refine zI ?_ ?_)))); try (refine L.nil ?_))
  refine L.call (G := rdR a (msgR1 s)) (H := [(36, Row.blk b2 41 (default : Msg).cells)]) rfl rfl rfl rfl rfl rfl rfl ⟨trivial, by (repeat' (first | exact trivial | with_reducible refine zI ?_ ?_))⟩ rfl (by exact Imps.refl [.ptr 30 a 0, .v (.int .i64 4)]) (List.Perm.refl _) (rnum_p a (msgR1 s) 4 (by omega)) ?_
  rintro r F' ⟨rfl, rfl⟩
  (refine L.go (T := tt) tt_ok rfl rfl ?sd52 ?_; (try (case sd52 => (repeat' (first | exact trivial | with_reducible refine zI ?_ ?_)))); try (refine L.nil ?_))
  refine L.call (G := rdR a (msgR2 s)) (H := [(36, Row.blk b2 41 (default : Msg).cells)]) rfl rfl rfl rfl rfl rfl rfl ⟨trivial, by (repeat' (first | exact trivial | with_reducible refine zI ?_ ?_))⟩ rfl (by exact Imps.refl [.ptr 30 a 0, .v (.int .i64 1)]) (List.Perm.refl _) (rnum_p a (msgR2 s) 1 (by omega)) ?_
  rintro r F' ⟨rfl, rfl⟩
  (refine L.go (T := tt) tt_ok rfl rfl ?sd53 ?_; (try (case sd53 => (repeat' (first | exact trivial | with_reducible refine zI ?_ ?_)))); try (refine L.nil ?_))
  refine L.call (G := rdR a (msgR3 s)) (H := [(36, Row.blk b2 41 (default : Msg).cells)]) rfl rfl rfl rfl rfl rfl rfl ⟨trivial, by (repeat' (first | exact trivial | with_reducible refine zI ?_ ?_))⟩ rfl (by exact Imps.refl [.ptr 30 a 0]) (List.Perm.refl _) (rtext_p a (msgR3 s) (by omega)) ?_
  rintro r F' ⟨rfl, rfl⟩
  (refine L.go (T := tt) tt_ok rfl rfl ?sd54 ?_; (try (case sd54 => (repeat' (first | exact trivial | with_reducible refine zI ?_ ?_)))); try (refine L.nil ?_))
  refine L.call (G := rdR a (msgR4 s)) (H := [(36, Row.blk b2 41 (default : Msg).cells)]) rfl rfl rfl rfl rfl rfl rfl ⟨trivial, by (repeat' (first | exact trivial | with_reducible refine zI ?_ ?_))⟩ rfl (by exact Imps.refl [.ptr 30 a 0]) (List.Perm.refl _) (rtext_p a (msgR4 s) (by omega)) ?_
  rintro r F' ⟨rfl, rfl⟩
  (refine L.go (T := tt) tt_ok rfl rfl ?sd55 ?_; (try (case sd55 => (repeat' (first | exact trivial | with_reducible refine zI ?_ ?_ | rfl | exact zN rfl)))); try (refine L.nil ?_))
  (refine L.store (T := tt) tt_ok rfl rfl rfl rfl rfl rfl ?sd62 ?_; (try (case sd62 => (repeat' (first | exact trivial | with_reducible refine zI ?_ ?_ | rfl | exact zN rfl)))))
  refine L.nil ?_
  refine rowsTo ((36, Row.blk b2 41 (msgR s).1.cells) :: rdR a (msgR s).2) (Sub.of _ (by rw [List.append_nil]; exact List.perm_append_comm (l₁ := [_]))) ?_
  ((repeat refine S.seq ?_); refine S.ret ?_)
  exact E.ret (T := tt) tt_ok rfl rfl (by (repeat' (first | exact trivial | with_reducible refine zI ?_ ?_ | rfl | exact zN rfl))) (F' := rdR a (msgR s).2) (Imp.refl _) (List.Sublist.cons _ (List.Sublist.refl _)) ⟨rfl, rfl⟩

theorem msgR_b (s : RdD) : (msgR s).2.b.length ≤ s.b.length :=
  Nat.le_trans (txtR_b _) (Nat.le_trans (txtR_b _) (Nat.le_trans (numR_b _ 1) (Nat.le_trans (numR_b _ 4) (numR_b s 1))))
/-- So many messages, one by one. -/
theorem msgsR_step (k : Nat) (s : RdD) (h : s.bad = false) : msgsR (k + 1) s = ((msgR s).1 :: (msgsR k (msgR s).2).1, (msgsR k (msgR s).2).2) := by rw [msgsR, if_neg (by rw [h]; decide)]

theorem rmessages_p (a : Nat) (s : RdD) (hb : s.b.length ≤ 1000000) : FnC Try.prog 27 [.ptr 30 a 0] (rdR a s)
    (fun r F' => ∃ y, r = .ref 37 y ∧ F' = (37, .own y 41 5 (msgsR (numR s 1).1.toNat (numR s 1).2).1.length (gOf Msg.cells (msgsR (numR s 1).1.toNat (numR s 1).2).1)) :: rdR a (msgsR (numR s 1).1.toNat (numR s 1).2).2) := by
  have h1 := numR1 s
  have hb1 := numR_b s 1
  obtain ⟨n, hn⟩ : ∃ n, n = (numR s 1).1.toNat := ⟨_, rfl⟩
  have hnv : (numR s 1).1 = (n : Int) := by omega
  obtain ⟨s1, hs1⟩ : ∃ s1, s1 = (numR s 1).2 := ⟨_, rfl⟩
  rw [← hn, ← hs1]
  rw [← hs1] at hb1
  refine FnC.intro Try.func27 rfl Try.ntmps27 rfl ?_; intro off w0
  ((repeat refine S.seq ?_); refine S.region (L.go (T := tt) tt_ok rfl rfl ?sd42 ?_); (try (case sd42 => (repeat' (first | exact trivial | with_reducible refine zI ?_ ?_)))); try (refine L.nil ?_))
  repeat refine S.seq ?_
  refine S.scopeE 0 (ι := { q : List Msg × Value × RdD // q.1.length ≤ n ∧ q.2.2.b.length ≤ 1000000 ∧ (msgsR n s1).1 = q.1 ++ (msgsR (n - q.1.length) q.2.2).1 ∧ (msgsR n s1).2 = (msgsR (n - q.1.length) q.2.2).2 })
    (fun q => [(0, .ptr 30 a 0), (3, .ref 37 q.1.2.1), (4, .v (.int .i64 n))]) (fun q => (37, .own q.1.2.1 41 5 q.1.1.length (gOf Msg.cells q.1.1)) :: rdR a q.1.2.2) (fun q => n - q.1.1.length) rfl ?_ ?_
  · rintro ⟨⟨l, y, t⟩, hl, htb, hm1, hm2⟩ J hJ
    dsimp only at hl htb hm1 hm2 hJ ⊢
    unfold rdR rdC
    ((repeat refine S.seq ?_); refine S.region (L.go (T := tt) tt_ok rfl rfl ?sd43 ?_); (try (case sd43 => (repeat' (first | exact trivial | exact zA | with_reducible refine zI ?_ ?_ | exact zB | exact zC | rfl | (simp; done))))); try (refine L.nil ?_))
    obtain ⟨bb, hbb⟩ : ∃ bb, bb = (decide ((l.length : Int) < (n : Int)) && !t.bad) := ⟨_, rfl⟩
    refine slotAs 17 (.v (.bool bb)) rfl (Imp.of_eq (by rw [hbb])) ?_
    ((repeat refine S.seq ?_); refine S.cond rfl (fun h => ?_) (fun h => ?_) <;> (try first | refine S.skip ?_ | refine S.exit ?_))
    · have h' : l.length < n ∧ t.bad = false := by
        rw [h] at hbb
        have := hbb.symm
        rw [Bool.and_eq_true, decide_eq_true_eq, Bool.not_eq_true'] at this
        exact ⟨by omega, this.2⟩
      have hst : n - l.length = (n - (l.length + 1)) + 1 := by omega
      rw [hst, msgsR_step _ _ h'.2] at hm1 hm2
      have htb2 := msgR_b t
      repeat refine S.seq ?_
      refine S.region ?_
      (refine L.go (T := tt) tt_ok rfl rfl ?sd56 ?_; (try (case sd56 => (repeat' (first | exact trivial | with_reducible refine zI ?_ ?_)))); try (refine L.nil ?_))
      refine L.call (G := rdR a t) (H := [(37, .own y 41 5 l.length (gOf Msg.cells l))]) rfl rfl rfl rfl rfl rfl rfl ⟨trivial, by (repeat' (first | exact trivial | with_reducible refine zI ?_ ?_))⟩ rfl (by exact Imps.refl [.ptr 30 a 0]) (by exact List.perm_append_comm (l₁ := [_])) (rmessage_p a t htb) ?_
      rintro r F' ⟨rfl, rfl⟩
      refine L.buildSlice (T := tt) 38 tt_ok rfl rfl rfl rfl rfl rfl (by decide) (by decide) rfl rfl (by (repeat' (first | exact trivial | with_reducible refine zI ?_ ?_ | rfl | exact zN rfl))) fun x21 => ?_
      have hl9 : l.length ≤ 255 := by omega
      refine L.append (T := tt) tt_ok rfl rfl rfl rfl rfl rfl rfl rfl rfl rfl (by (repeat' (first | exact trivial | with_reducible refine zI ?_ ?_ | rfl))) ⟨rfl, by decide, by decide⟩ (by simp; omega) fun y22 => ?_
      (refine L.go (T := tt) tt_ok rfl rfl ?sd57 ?_; (try (case sd57 => (repeat' (first | exact trivial | with_reducible refine zI ?_ ?_)))); try (refine L.nil ?_))
      refine ownAs 37 (gOf Msg.cells (l ++ [(msgR t).1])) rfl (show l.length + 1 = (l ++ [(msgR t).1]).length by simp) (fun i hi => app1_h Msg.cells l (msgR t).1 _ rfl rfl hi) ?_
      repeat refine S.seq ?_
      refine S.goto ?_
      exact fun a' w hR => ⟨rfl, hJ a' w ⟨(l ++ [(msgR t).1], y22, (msgR t).2), by show (l ++ [_]).length ≤ n; rw [List.length_append]; simp; omega, Nat.le_trans htb2 htb, by show _ = (l ++ [_]) ++ (msgsR (n - (l ++ [_]).length) _).1; rw [hm1, List.append_assoc, List.length_append]; rfl, by show _ = (msgsR (n - (l ++ [_]).length) _).2; rw [hm2, List.length_append]; rfl⟩ (by show n - (l ++ [_]).length < n - l.length; rw [List.length_append]; simp; omega) (hR.weakP (by (repeat' (first | exact True.intro | exact Imp.refl _ | refine ⟨?_, ?_⟩))) (by unfold rdR rdC; (repeat (first | exact Sub.refl _ | refine Sub.pick (by first | exact p0 | exact pS p0 | exact pS (pS p0) | exact pS (pS (pS p0)) | exact pS (pS (pS (pS p0))) | exact pS (pS (pS (pS (pS p0))))) ?_))))⟩
    have hend : msgsR (n - l.length) t = ([], t) := by
      have h' : ¬ (l.length < n ∧ t.bad = false) := by
        rintro ⟨h3, h4⟩
        rw [h, h4] at hbb
        simp at hbb
        omega
      by_cases hlt : l.length < n
      · have hbd : t.bad = true := by
          cases hx : t.bad with
          | true => rfl
          | false => exact absurd ⟨hlt, hx⟩ h'
        obtain ⟨k, hk⟩ : ∃ k, n - l.length = k + 1 := ⟨n - l.length - 1, by omega⟩
        rw [hk, msgsR, if_pos hbd]
      · rw [show n - l.length = 0 by omega]
        rfl
    rw [hend, List.append_nil] at hm1
    rw [hend] at hm2
    rw [hm1, hm2]
    ((repeat refine S.seq ?_); refine S.region (L.go (T := tt) tt_ok rfl rfl ?sd44 ?_); (try (case sd44 => (repeat' (first | exact trivial | with_reducible refine zI ?_ ?_)))); try (refine L.nil ?_))
    ((repeat refine S.seq ?_); refine S.ret ?_)
    exact E.ret (T := tt) tt_ok rfl rfl (by (repeat' (first | exact trivial | with_reducible refine zI ?_ ?_))) (F' := (37, .own y 41 5 l.length (gOf Msg.cells l)) :: rdR a t) (Imp.refl _) (List.Sublist.refl _) ⟨y, rfl, rfl⟩
  · intro hJ
    ((repeat refine S.seq ?_); refine S.region (L.go (T := tt) tt_ok rfl rfl ?sd45 ?_); (try (case sd45 => (repeat' (first | exact trivial | with_reducible refine zI ?_ ?_)))); try (refine L.nil ?_))
    refine nilRow 37 41 5 (gOf Msg.cells []) ?_
    refine slotAs 3 (.ref 37 (.slice none 0 0)) rfl (Imp.vref rfl) ?_
    repeat refine S.seq ?_
    refine S.region ?_
    (refine L.go (T := tt) tt_ok rfl rfl ?sd58 ?_; (try (case sd58 => (repeat' (first | exact trivial | with_reducible refine zI ?_ ?_)))); try (refine L.nil ?_))
    refine L.call (G := rdR a s) (H := [(37, .own (.slice none 0 0) 41 5 0 (gOf Msg.cells []))]) rfl rfl rfl rfl rfl rfl rfl ⟨trivial, by (repeat' (first | exact trivial | with_reducible refine zI ?_ ?_))⟩ rfl (by exact Imps.refl [.ptr 30 a 0, .v (.int .i64 1)]) (by exact List.perm_append_comm (l₁ := [_])) (rnum_p a s 1 hb) ?_
    rintro r F' ⟨rfl, rfl⟩
    (refine L.go (T := tt) tt_ok rfl rfl ?sd59 ?_; (try (case sd59 => (repeat' (first | exact trivial | with_reducible refine zI ?_ ?_)))); try (refine L.nil ?_))
    refine slotAs 4 (.v (.int .i64 n)) rfl (Imp.of_eq (by rw [← hnv]; rfl)) ?_
    refine rowsTo ((37, .own (.slice none 0 0) 41 5 0 (gOf Msg.cells [])) :: rdR a s1) (Sub.of _ (by rw [List.append_nil, hs1]; exact List.perm_append_comm (l₁ := rdR a (numR s 1).2))) ?_
    repeat refine S.seq ?_
    refine S.label ?_
    exact fun a' w hR => hJ ⟨([], .slice none 0 0, s1), Nat.zero_le _, Nat.le_trans hb1 hb, by simp, by simp⟩ a' w (hR.weakP (by (repeat' (first | exact True.intro | exact Imp.refl _ | refine ⟨?_, ?_⟩))) (Sub.self _))
end Go.Proofs.Ytlbbcjlhnjnkeaa
