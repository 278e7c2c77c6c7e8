/- Texts of this proof, laid together: TbF, TbG, TbH, SymLab, TbI, TbJ, TbK. -/
import Derived.Test.YtlgdjmmjconbfaaDoorSymBytM
import Derived.Test.YtlgdjmmjconbfaaDoorMeH
import Derived.Test.YtlgdjmmjconbfaaDoorMeE
import Derived.Test.YtlgdjmmjconbfaaDoorMeC
import Derived.Test.YtlgdjmmjconbfaaDoorMeD
import Derived.ScopeJumps
import Derived.Test.YtlgdjmmjconbfaaDoorMeG
/- Tables as bytes: the plain law. -/
namespace Go.Proofs.YtlgdjmmjconbfaaDoor
set_option linter.unusedVariables false
set_option linter.unusedSimpArgs false
set_option maxHeartbeats 8000000
open Go.RowKit
set_option maxRecDepth 4000

def u8C (x : UInt8) : List AV := [.v (.int .u8 (x.toNat : Int))]
def bytesL (l : List UInt8) : AV := .lst 1 l.length (gOf u8C l)
def strL (l : List UInt8) : ByteArray := ⟨l.toArray⟩
theorem strL_g (l : List UInt8) {i : Nat} (h : i < l.length) : gOf u8C l i = byteG (strL l) i := by
  rw [gOf, byteG, strL, Array.getD_eq_getD_getElem?, List.getElem?_toArray, List.getD_eq_getElem?_getD, List.getElem?_eq_getElem h]
  rfl
theorem strL_size (l : List UInt8) : (strL l).size = l.length := by simp [strL, ByteArray.size]
theorem strL_inj {a b : List UInt8} (h : strL a = strL b) : a = b := by
  have := congrArg (fun x => x.data.toList) h
  simpa [strL] using this
theorem drop_g {α : Type} [Inhabited α] (f : α → List AV) (l : List α) (k i : Nat) : gOf f l (i + k) = gOf f (l.drop k) i := by
  unfold gOf
  rw [List.getD_eq_getElem?_getD, List.getD_eq_getElem?_getD, List.getElem?_drop, Nat.add_comm]
theorem take_gg {α : Type} [Inhabited α] (f : α → List AV) (l : List α) {k i : Nat} (h : i < k) : gOf f l i = gOf f (l.take k) i := by
  unfold gOf
  rw [List.getD_eq_getElem?_getD, List.getD_eq_getElem?_getD, List.getElem?_take_of_lt h]

/-- A number's byte. -/
def byteOf (n : Int) (k : Nat) : UInt8 := UInt8.ofNat ((n.fdiv (2 ^ (8 * k))) % 256).toNat
def numL (n : Int) : Nat → List UInt8
  | 0 => []
  | k + 1 => byteOf n k :: numL n k
theorem numL_len (n : Int) : ∀ k, (numL n k).length = k
  | 0 => rfl
  | k + 1 => by rw [numL, List.length_cons, numL_len n k]
theorem wrap_u8 (z : Int) : IntKind.u8.wrap z = ((UInt8.ofNat (z % 256).toNat).toNat : Int) := by
  have e : IntKind.u8.wrap z = z % 256 := rfl
  rw [e, UInt8.toNat_ofNat']
  omega
def by8 (z : Int) : UInt8 := UInt8.ofNat (z % 256).toNat
theorem by8_nat (z : Int) : ((by8 z).toNat : Int) = z % 256 := (wrap_u8 z).symm
def shl8 (a : Int) : Int := IntKind.i64.wrap (a * 2 ^ min 8 64)
def accS (a : Int) (c : UInt8) : Int := IntKind.i64.wrap ((BitVec.ofInt IntKind.i64.bits (shl8 a) ||| BitVec.ofInt IntKind.i64.bits (IntKind.i64.wrap (c.toNat : Int))).toNat : Int)
theorem bv_nat {n : Nat} (h : n < 18446744073709551616) : (BitVec.ofInt 64 (n : Int)).toNat = n := by
  rw [BitVec.toNat_ofInt]
  omega
theorem accS_eq {a : Nat} (c : UInt8) (h : a < 1099511627776) : accS (a : Int) c = ((a * 256 + c.toNat : Nat) : Int) := by
  have hc : c.toNat < 256 := c.toNat_lt
  have e1 : shl8 (a : Int) = ((a * 256 : Nat) : Int) := by
    have : (a : Int) * 2 ^ min 8 64 = (a : Int) * 256 := rfl
    rw [shl8, this, IntWalk.i64_in _ (by omega)]
    omega
  have e2 : IntKind.i64.wrap (c.toNat : Int) = (c.toNat : Int) := IntWalk.i64_in _ (by omega)
  rw [accS, e1, e2]
  show IntKind.i64.wrap (((BitVec.ofInt 64 ((a * 256 : Nat) : Int)) ||| (BitVec.ofInt 64 (c.toNat : Int))).toNat : Int) = _
  rw [BitVec.toNat_or, bv_nat (by omega), bv_nat (by omega)]
  have e3 : a * 256 ||| c.toNat = a * 256 + c.toNat := by
    have := Nat.shiftLeft_add_eq_or_of_lt (i := 8) (b := c.toNat) (by omega) a
    rw [Nat.shiftLeft_eq] at this
    exact this.symm
  rw [e3, IntWalk.i64_in _ (by omega)]
theorem acc0 (c : UInt8) : accS 0 c = (c.toNat : Int) := by
  have := accS_eq (a := 0) c (by omega)
  simpa using this
theorem acc_by8 (z : Int) : accS 0 (by8 z) = z % 256 := by rw [acc0, by8_nat]
theorem byteOf_nat {n : Int} (h : 0 ≤ n) (k : Nat) : ((byteOf n k).toNat : Int) = n / 2 ^ (8 * k) % 256 := by
  have hp : (0 : Int) ≤ 2 ^ (8 * k) := Int.le_of_lt (Int.pow_pos (by decide))
  rw [byteOf, Int.fdiv_eq_ediv_of_nonneg _ hp]
  exact by8_nat _
theorem acc1 {n : Int} (h : 0 ≤ n) (h1 : n < 256) : (numL n 1).foldl accS 0 = n := by
  show accS 0 (byteOf n 0) = n
  have b0 := byteOf_nat h 0
  have : (2 : Int) ^ (8 * 0) = 1 := rfl
  rw [this] at b0
  rw [acc0]
  omega
theorem acc2 {n : Int} (h : 0 ≤ n) (h1 : n < 65536) : (numL n 2).foldl accS 0 = n := by
  show accS (accS 0 (byteOf n 1)) (byteOf n 0) = n
  have b0 := byteOf_nat h 0
  have b1 := byteOf_nat h 1
  have e0 : (2 : Int) ^ (8 * 0) = 1 := rfl
  have e1 : (2 : Int) ^ (8 * 1) = 256 := rfl
  rw [e0] at b0
  rw [e1] at b1
  have c1 := (byteOf n 1).toNat_lt
  rw [acc0, accS_eq _ (by omega)]
  omega
theorem acc4 {n : Int} (h : 0 ≤ n) (h1 : n < 4294967296) : (numL n 4).foldl accS 0 = n := by
  show accS (accS (accS (accS 0 (byteOf n 3)) (byteOf n 2)) (byteOf n 1)) (byteOf n 0) = n
  have b0 := byteOf_nat h 0
  have b1 := byteOf_nat h 1
  have b2 := byteOf_nat h 2
  have b3 := byteOf_nat h 3
  have e0 : (2 : Int) ^ (8 * 0) = 1 := rfl
  have e1 : (2 : Int) ^ (8 * 1) = 256 := rfl
  have e2 : (2 : Int) ^ (8 * 2) = 65536 := rfl
  have e3 : (2 : Int) ^ (8 * 3) = 16777216 := rfl
  rw [e0] at b0
  rw [e1] at b1
  rw [e2] at b2
  rw [e3] at b3
  have c1 := (byteOf n 1).toNat_lt
  have c2 := (byteOf n 2).toNat_lt
  have c3 := (byteOf n 3).toNat_lt
  rw [acc0, accS_eq _ (by omega), accS_eq _ (by omega), accS_eq _ (by omega)]
  omega

/-- The parts of a table's bytes. -/
def noL (l : List Int) : List UInt8 := l.map fun n => by8 (n + 1)
def arB (a : Arc) : List UInt8 := numL a.at0 4 ++ [by8 a.shard]
def arL (l : List Arc) : List UInt8 := l.flatMap arB
def putL (t : Tab) : List UInt8 := numL t.ep 4 ++ (numL t.no.length 1 ++ (noL t.no ++ (numL t.ar.length 2 ++ arL t.ar)))
structure MayT (t : Tab) : Prop where
  ep : 1 ≤ t.ep ∧ t.ep ≤ 1073741824
  ar : MayA t.ar
  no : 1 ≤ t.no.length ∧ t.no.length ≤ 16
  nod : ∀ n ∈ t.no, -1 ≤ n ∧ n < 4
theorem mayT_of {t : Tab} (h : mayT t = true) : MayT t := by
  unfold mayT at h
  rw [Bool.and_eq_true, Bool.and_eq_true, Bool.not_eq_true', Bool.not_eq_true'] at h
  obtain ⟨⟨h1, h2⟩, -⟩ := h
  unfold headT at h1
  simp only [Bool.or_eq_false_iff, Bool.not_eq_false', decide_eq_false_iff_not] at h1
  obtain ⟨⟨⟨⟨a1, a2⟩, a3⟩, a4⟩, a5⟩ := h1
  refine ⟨by omega, mayA_of a3, by omega, fun n hn => ?_⟩
  obtain ⟨i, hi, rfl⟩ := List.getElem_of_mem hn
  have := List.any_eq_false.1 h2 i (List.mem_range.2 hi)
  unfold badNo at this
  rw [List.getD_eq_getElem?_getD, List.getElem?_eq_getElem hi, Option.getD_some] at this
  simp only [Bool.or_eq_true, decide_eq_true_eq] at this
  omega
theorem mayT_fits {t : Tab} (h : MayT t) {a : Arc} (ha : a ∈ t.ar) : 0 ≤ a.shard ∧ a.shard < 16 := by
  obtain ⟨i, hi, rfl⟩ := List.getElem_of_mem ha
  have := h.ar.shard i hi
  rwa [getD_get hi] at this

theorem noL_len (l : List Int) : (noL l).length = l.length := List.length_map _
theorem arL_len : ∀ l : List Arc, (arL l).length = 5 * l.length
  | [] => rfl
  | a :: t => by
    rw [arL, List.flatMap_cons, List.length_append, ← arL, arL_len t, arB, List.length_append, numL_len]
    simp only [List.length_cons, List.length_nil]; omega
theorem putL_len (t : Tab) : (putL t).length = 7 + t.no.length + 5 * t.ar.length := by
  simp only [putL, List.length_append, numL_len, noL_len, arL_len]
  omega
theorem noL_inj : ∀ {a b : List Int}, (∀ n ∈ a, -1 ≤ n ∧ n < 4) → (∀ n ∈ b, -1 ≤ n ∧ n < 4) → noL a = noL b → a = b
  | [], [], _, _, _ => rfl
  | [], _ :: _, _, _, h => by cases h
  | _ :: _, [], _, _, h => by cases h
  | x :: s, y :: t, ha, hb, h => by
    have h1 : by8 (x + 1) = by8 (y + 1) ∧ noL s = noL t := by
      unfold noL at h
      rw [List.map_cons, List.map_cons] at h
      exact List.cons.inj h
    have e := congrArg (fun c => (c.toNat : Int)) h1.1
    simp only [by8_nat] at e
    have hx := ha x List.mem_cons_self
    have hy := hb y List.mem_cons_self
    rw [noL_inj (fun n hn => ha n (List.mem_cons_of_mem _ hn)) (fun n hn => hb n (List.mem_cons_of_mem _ hn)) h1.2, show x = y by omega]
theorem arL_inj : ∀ {a b : List Arc}, (∀ x ∈ a, (0 ≤ x.shard ∧ x.shard < 16) ∧ 0 ≤ x.at0 ∧ x.at0 < 4294967296) → (∀ x ∈ b, (0 ≤ x.shard ∧ x.shard < 16) ∧ 0 ≤ x.at0 ∧ x.at0 < 4294967296) → arL a = arL b → a = b
  | [], [], _, _, _ => rfl
  | [], y :: t, _, _, h => by have := congrArg List.length h; rw [arL_len, arL_len] at this; simp at this
  | x :: s, [], _, _, h => by have := congrArg List.length h; rw [arL_len, arL_len] at this; simp at this
  | x :: s, y :: t, ha, hb, h => by
    have h1 : numL x.at0 4 ++ ([by8 x.shard] ++ arL s) = numL y.at0 4 ++ ([by8 y.shard] ++ arL t) := by
      have e : ∀ (z : Arc) (u : List Arc), arL (z :: u) = numL z.at0 4 ++ ([by8 z.shard] ++ arL u) := fun z u => by
        rw [arL, List.flatMap_cons, arB, List.append_assoc]; rfl
      rw [← e, ← e, h]
    obtain ⟨h2, h3⟩ := List.append_inj h1 (by rw [numL_len, numL_len])
    obtain ⟨h4, h5⟩ := List.append_inj h3 rfl
    have hx := ha x List.mem_cons_self
    have hy := hb y List.mem_cons_self
    have e1 : x.at0 = y.at0 := by rw [← acc4 hx.2.1 hx.2.2, ← acc4 hy.2.1 hy.2.2, h2]
    have e2 := congrArg (fun c => (c.toNat : Int)) (List.cons.inj h4).1
    simp only [by8_nat] at e2
    rw [arL_inj (fun n hn => ha n (List.mem_cons_of_mem _ hn)) (fun n hn => hb n (List.mem_cons_of_mem _ hn)) h5, Arc.ext' e1 (show x.shard = y.shard by omega)]
def in32 (t : Tab) : Prop := ∀ a ∈ t.ar, 0 ≤ a.at0 ∧ a.at0 < 4294967296
/-- No table's bytes begin another one's. -/
theorem put_pre {t u : Tab} (ht : MayT t) (hu : MayT u) (rt : in32 t) (ru : in32 u) {x y : List UInt8} (h : putL t ++ x = putL u ++ y) : t = u ∧ x = y := by
  simp only [putL, List.append_assoc] at h
  obtain ⟨h1, h⟩ := List.append_inj h (by rw [numL_len, numL_len])
  obtain ⟨h2, h⟩ := List.append_inj h (by rw [numL_len, numL_len])
  have e1 : t.ep = u.ep := by
    have a := ht.ep
    have b := hu.ep
    rw [← acc4 (n := t.ep) (by omega) (by omega), ← acc4 (n := u.ep) (by omega) (by omega), h1]
  have e2 : t.no.length = u.no.length := by
    have a := ht.no
    have b := hu.no
    have : ((t.no.length : Nat) : Int) = (u.no.length : Nat) := by rw [← acc1 (n := (t.no.length : Int)) (by omega) (by omega), ← acc1 (n := (u.no.length : Int)) (by omega) (by omega), h2]
    omega
  obtain ⟨h3, h⟩ := List.append_inj h (by rw [noL_len, noL_len, e2])
  obtain ⟨h4, h⟩ := List.append_inj h (by rw [numL_len, numL_len])
  have e3 : t.ar.length = u.ar.length := by
    have a := ht.ar.most
    have b := hu.ar.most
    have : ((t.ar.length : Nat) : Int) = (u.ar.length : Nat) := by rw [← acc2 (n := (t.ar.length : Int)) (by omega) (by omega), ← acc2 (n := (u.ar.length : Int)) (by omega) (by omega), h4]
    omega
  obtain ⟨h5, h⟩ := List.append_inj h (by rw [arL_len, arL_len, e3])
  have e4 := noL_inj ht.nod hu.nod h3
  have e5 := arL_inj (fun x hx => ⟨mayT_fits ht hx, rt x hx⟩) (fun x hx => ⟨mayT_fits hu hx, ru x hx⟩) h5
  refine ⟨?_, h⟩
  cases t; cases u
  cases e1; cases e4; cases e5; rfl
/-- What bytes are read as. -/
noncomputable def getF (b : List UInt8) : Tab × Int := by
  classical
  exact if h : ∃ t : Tab, mayT t = true ∧ in32 t ∧ putL t = b then (Classical.choose h, 0) else (⟨0, [], []⟩, 2)
theorem getF_ok {b : List UInt8} {t : Tab} (h1 : mayT t = true) (h2 : in32 t) (h3 : putL t = b) : getF b = (t, 0) := by
  have h : ∃ t : Tab, mayT t = true ∧ in32 t ∧ putL t = b := ⟨t, h1, h2, h3⟩
  rw [getF, dif_pos h]
  obtain ⟨c1, c2, c3⟩ := Classical.choose_spec h
  have := (put_pre (x := []) (y := []) (mayT_of c1) (mayT_of h1) c2 h2 (by rw [List.append_nil, List.append_nil, c3, h3])).1
  rw [this]
theorem getF_err {b : List UInt8} (h : ∀ t : Tab, mayT t = true → in32 t → putL t ≠ b) : getF b = (⟨0, [], []⟩, 2) := by
  rw [getF, dif_neg]
  rintro ⟨t, h1, h2, h3⟩
  exact h t h1 h2 h3
end Go.Proofs.YtlgdjmmjconbfaaDoor

/- Tables as bytes: the walk of Put. -/
namespace Go.Proofs.YtlgdjmmjconbfaaDoor
set_option linter.unusedVariables false
set_option linter.unusedSimpArgs false
set_option maxHeartbeats 8000000
open Go.RowKit
set_option maxRecDepth 4000

theorem num_p (y : Value) (l : List UInt8) (n : Int) (k : Nat) (hk : k ≤ 8) (hl : l.length ≤ 100000) : FnC Tryd.prog 59 [.ref 31 y, .v (.int .u64 n), .v (.int .i64 k)] [(31, .own y 5 1 l.length (gOf u8C l))]
    (fun r F' => ∃ z, r = .ref 31 z ∧ F' = [(31, .own z 5 1 (l ++ numL n k).length (gOf u8C (l ++ numL n k)))]) := by
  refine FnC.intro Tryd.func59 rfl Tryd.ntmps59 rfl ?_; intro off w0
  ((repeat refine S.seq ?_); refine S.region (L.go (T := tt) tt_ok rfl rfl ?sd1 ?_); (try (case sd1 => (repeat' ((first | first | exact trivial | exact zA | with_reducible refine zI ?_ ?_ | exact zB | exact zC | exact zD | exact zE | rfl | exact zN rfl | omega | assumption | (simp; done) | (simp [splice]; done) | (simp; omega) | (unfold fits; omega) | (unfold fits; simp_all; omega) | (simp_all; omega) | (simp_all; done) | intro _ | exact zI ?_ ?_ | intro _))))); try (refine L.nil ?_))
  ((repeat refine S.seq ?_); refine S.region (L.go (T := tt) tt_ok rfl rfl ?sd2 ?_); (try (case sd2 => (repeat' ((first | first | exact trivial | exact zA | with_reducible refine zI ?_ ?_ | exact zB | exact zC | exact zD | exact zE | rfl | exact zN rfl | omega | assumption | (simp; done) | (simp [splice]; done) | (simp; omega) | (unfold fits; omega) | (unfold fits; simp_all; omega) | (simp_all; omega) | (simp_all; done) | intro _ | exact zI ?_ ?_ | intro _))))); try (refine L.nil ?_))
  repeat refine S.seq ?_
  refine S.cut (ι := Value) (fun z => [(0, .ref 31 z)]) (fun z => [(31, .own z 5 1 (l ++ numL n k).length (gOf u8C (l ++ numL n k)))]) ?_ ?_
  · repeat refine S.seq ?_
    refine S.block (S.loop (ι := { q : Nat × Value × List UInt8 // q.1 ≤ k ∧ q.2.2 ++ numL n q.1 = l ++ numL n k }) (fun q => [(0, .ref 31 q.1.2.1), (1, .v (.int .u64 n)), (2, .v (.int .i64 ((q.1.1 : Int) - 1)))]) (fun q => [(31, .own q.1.2.1 5 1 q.1.2.2.length (gOf u8C q.1.2.2))]) (fun q => q.1.1) ?_ ?_)
    · exact fun a' w h => ⟨⟨(k, y, l), Nat.le_refl _, rfl⟩, h.weakP (by (repeat' (first | exact True.intro | exact Imp.refl _ | refine ⟨?_, ?_⟩))) (Sub.self _)⟩
    rintro ⟨⟨j, y, m⟩, hj, hm⟩
    dsimp only at hj hm ⊢
    have hlen := congrArg List.length hm
    rw [List.length_append, List.length_append, numL_len, numL_len] at hlen
    ((repeat refine S.seq ?_); refine S.region (L.go (T := tt) tt_ok rfl rfl ?sd3 ?_); (try (case sd3 => (repeat' ((first | first | exact trivial | exact zA | with_reducible refine zI ?_ ?_ | exact zB | exact zC | exact zD | exact zE | rfl | exact zN rfl | omega | assumption | (simp; done) | (simp [splice]; done) | (simp; omega) | (unfold fits; omega) | (unfold fits; simp_all; omega) | (simp_all; omega) | (simp_all; done) | intro _ | exact zI ?_ ?_ | intro _))))); try (refine L.nil ?_))
    ((repeat refine S.seq ?_); refine S.cond rfl (fun hc => ?_) (fun hc => ?_) <;> (try first | refine S.skip ?_ | refine S.exit ?_))
    · have hj1 : 1 ≤ j := by have := of_dec hc; omega
      obtain ⟨i, rfl⟩ : ∃ i, j = i + 1 := ⟨j - 1, by omega⟩
      have he : ((i + 1 : Nat) : Int) - 1 = i := by omega
      repeat refine S.seq ?_
      refine S.block ?_
      refine slotAs 2 (.v (.int .i64 i)) rfl (Imp.of_eq (by rw [he])) ?_
      repeat refine S.seq ?_
      refine S.region ?_
      have hw : IntKind.u64.wrap (8 * (i : Int)) = 8 * i := by
        show _ % (18446744073709551616 : Int) = _
        omega
      (refine L.go (T := tt) tt_ok rfl rfl ?sd17 ?_; (try (case sd17 => (repeat' ((first | first | exact trivial | exact zA | with_reducible refine zI ?_ ?_ | exact zB | exact zC | exact zD | exact zE | rfl | exact zN rfl | omega | assumption | (simp; done) | (simp [splice]; done) | (simp; omega) | (unfold fits; omega) | (unfold fits; simp_all; omega) | (simp_all; omega) | (simp_all; done) | intro _ | exact zI ?_ ?_ | intro _))))); try (refine L.nil ?_))
      refine slotAs 19 (.v (.int .u8 ((byteOf n i).toNat : Int))) rfl (Imp.of_eq ?_) ?_
      · rw [show IntKind.u64.wrap (8 * (i : Int)) = 8 * i from hw]
        have hm2 : min (8 * (i : Int)).toNat IntKind.u64.bits = 8 * i := by
          show min _ 64 = _
          omega
        rw [hm2, wrap_u8, byteOf]
      refine L.buildSlice (T := tt) 32 tt_ok rfl rfl rfl rfl rfl rfl (by decide) (by decide) rfl rfl (by (repeat' ((first | first | exact trivial | exact zA | with_reducible refine zI ?_ ?_ | exact zB | exact zC | exact zD | exact zE | rfl | exact zN rfl | omega | assumption | (simp; done) | (simp [splice]; done) | (simp; omega) | (unfold fits; omega) | (unfold fits; simp_all; omega) | (simp_all; omega) | (simp_all; done) | intro _ | exact zI ?_ ?_ | intro _)))) fun x20 => ?_
      refine L.append (T := tt) tt_ok rfl rfl rfl rfl rfl rfl rfl rfl rfl rfl (by (repeat' ((first | first | exact trivial | exact zA | with_reducible refine zI ?_ ?_ | exact zB | exact zC | exact zD | exact zE | rfl | exact zN rfl | omega | assumption | (simp; done) | (simp [splice]; done) | (simp; omega) | (unfold fits; omega) | (unfold fits; simp_all; omega) | (simp_all; omega) | (simp_all; done) | intro _ | exact zI ?_ ?_ | intro _)))) ⟨rfl, by decide, by decide⟩ (by simp; omega) fun y21 => ?_
      refine ownAs 31 (gOf u8C (m ++ [byteOf n i])) rfl (show m.length + 1 = (m ++ [byteOf n i]).length by simp) (fun q hq => app1_h u8C m (byteOf n i) _ rfl rfl hq) ?_
      (refine L.go (T := tt) tt_ok rfl rfl ?sd18 ?_; (try (case sd18 => (repeat' ((first | first | exact trivial | exact zA | with_reducible refine zI ?_ ?_ | exact zB | exact zC | exact zD | exact zE | rfl | exact zN rfl | omega | assumption | (simp; done) | (simp [splice]; done) | (simp; omega) | (unfold fits; omega) | (unfold fits; simp_all; omega) | (simp_all; omega) | (simp_all; done) | intro _ | exact zI ?_ ?_ | intro _))))); try (refine L.nil ?_))
      ((repeat refine S.seq ?_); refine S.region (L.go (T := tt) tt_ok rfl rfl ?sd4 ?_); (try (case sd4 => (repeat' ((first | first | exact trivial | exact zA | with_reducible refine zI ?_ ?_ | exact zB | exact zC | exact zD | exact zE | rfl | exact zN rfl | omega | assumption | (simp; done) | (simp [splice]; done) | (simp; omega) | (unfold fits; omega) | (unfold fits; simp_all; omega) | (simp_all; omega) | (simp_all; done) | intro _ | exact zI ?_ ?_ | intro _))))); try (refine L.nil ?_))
      exact fun a' w h => ⟨⟨(i, y21, m ++ [byteOf n i]), by show i ≤ k; omega, by show m ++ [byteOf n i] ++ numL n i = _; rw [List.append_assoc]; exact hm⟩, by show i < i + 1; omega, h.weakP (by (repeat' (first | exact True.intro | exact Imp.refl _ | refine ⟨?_, ?_⟩))) (by (repeat (first | exact Sub.refl _ | refine Sub.pick (by first | exact p0 | exact pS p0 | exact pS (pS p0) | exact pS (pS (pS p0)) | exact pS (pS (pS (pS p0))) | exact pS (pS (pS (pS (pS p0))))) ?_)))⟩
    have hj0 : j = 0 := by have := of_dec' hc; omega
    subst hj0
    have hm' : m = l ++ numL n k := by rw [← hm]; exact (List.append_nil m).symm
    rw [← hm']
    exact fun a' w h => ⟨y, h.weakP (by (repeat' (first | exact True.intro | exact Imp.refl _ | refine ⟨?_, ?_⟩))) (Sub.self _)⟩
  intro z
  ((repeat refine S.seq ?_); refine S.region (L.go (T := tt) tt_ok rfl rfl ?sd5 ?_); (try (case sd5 => (repeat' ((first | first | exact trivial | exact zA | with_reducible refine zI ?_ ?_ | exact zB | exact zC | exact zD | exact zE | rfl | exact zN rfl | omega | assumption | (simp; done) | (simp [splice]; done) | (simp; omega) | (unfold fits; omega) | (unfold fits; simp_all; omega) | (simp_all; omega) | (simp_all; done) | intro _ | exact zI ?_ ?_ | intro _))))); try (refine L.nil ?_))
  ((repeat refine S.seq ?_); refine S.ret ?_)
  exact E.ret (T := tt) tt_ok rfl rfl (by (repeat' ((first | first | exact trivial | exact zA | with_reducible refine zI ?_ ?_ | exact zB | exact zC | exact zD | exact zE | rfl | exact zN rfl | omega | assumption | (simp; done) | (simp [splice]; done) | (simp; omega) | (unfold fits; omega) | (unfold fits; simp_all; omega) | (simp_all; omega) | (simp_all; done) | intro _ | exact zI ?_ ?_ | intro _)))) (F' := [(31, .own z 5 1 (l ++ numL n k).length (gOf u8C (l ++ numL n k)))]) (Imp.refl _) (List.Sublist.refl _) ⟨z, rfl, rfl⟩

theorem byteseq_p (a b : List UInt8) : PFn Tryd.prog 61 [bytesL a, bytesL b] (.v (.bool (strL a == strL b))) := by
  refine FnC.intro Tryd.func61 rfl Tryd.ntmps61 rfl ?_; intro off w0
  ((repeat refine S.seq ?_); refine S.region (L.go (T := tt) tt_ok rfl rfl ?sd6 ?_); (try (case sd6 => (repeat' ((first | first | exact trivial | exact zA | with_reducible refine zI ?_ ?_ | exact zB | exact zC | exact zD | exact zE | rfl | exact zN rfl | omega | assumption | (simp; done) | (simp [splice]; done) | (simp; omega) | (unfold fits; omega) | (unfold fits; simp_all; omega) | (simp_all; omega) | (simp_all; done) | intro _ | exact zI ?_ ?_ | intro _))))); try (refine L.nil ?_))
  ((repeat refine S.seq ?_); refine S.region (L.go (T := tt) tt_ok rfl rfl ?sd7 ?_); (try (case sd7 => (repeat' ((first | first | exact trivial | exact zA | with_reducible refine zI ?_ ?_ | exact zB | exact zC | exact zD | exact zE | rfl | exact zN rfl | omega | assumption | (simp; done) | (simp [splice]; done) | (simp; omega) | (unfold fits; omega) | (unfold fits; simp_all; omega) | (simp_all; omega) | (simp_all; done) | intro _ | exact zI ?_ ?_ | intro _))))); try (refine L.nil ?_))
  refine L.toStr (T := tt) (m := a.length) (g2 := gOf u8C a) tt_ok rfl rfl rfl rfl rfl rfl rfl rfl rfl (by (repeat' ((first | first | exact trivial | exact zA | with_reducible refine zI ?_ ?_ | exact zB | exact zC | exact zD | exact zE | rfl | exact zN rfl | omega | assumption | (simp; done) | (simp [splice]; done) | (simp; omega) | (unfold fits; omega) | (unfold fits; simp_all; omega) | (simp_all; omega) | (simp_all; done) | intro _ | exact zI ?_ ?_ | intro _)))) (strL_size a).symm (fun i hi => strL_g a hi) ?_
  (refine L.go (T := tt) tt_ok rfl rfl ?sd19 ?_; (try (case sd19 => (repeat' ((first | first | exact trivial | exact zA | with_reducible refine zI ?_ ?_ | exact zB | exact zC | exact zD | exact zE | rfl | exact zN rfl | omega | assumption | (simp; done) | (simp [splice]; done) | (simp; omega) | (unfold fits; omega) | (unfold fits; simp_all; omega) | (simp_all; omega) | (simp_all; done) | intro _ | exact zI ?_ ?_ | intro _))))); try (refine L.nil ?_))
  refine L.toStr (T := tt) (m := b.length) (g2 := gOf u8C b) tt_ok rfl rfl rfl rfl rfl rfl rfl rfl rfl (by (repeat' ((first | first | exact trivial | exact zA | with_reducible refine zI ?_ ?_ | exact zB | exact zC | exact zD | exact zE | rfl | exact zN rfl | omega | assumption | (simp; done) | (simp [splice]; done) | (simp; omega) | (unfold fits; omega) | (unfold fits; simp_all; omega) | (simp_all; omega) | (simp_all; done) | intro _ | exact zI ?_ ?_ | intro _)))) (strL_size b).symm (fun i hi => strL_g b hi) ?_
  (refine L.go (T := tt) tt_ok rfl rfl ?sd20 ?_; (try (case sd20 => (repeat' ((first | first | exact trivial | exact zA | with_reducible refine zI ?_ ?_ | exact zB | exact zC | exact zD | exact zE | rfl | exact zN rfl | omega | assumption | (simp; done) | (simp [splice]; done) | (simp; omega) | (unfold fits; omega) | (unfold fits; simp_all; omega) | (simp_all; omega) | (simp_all; done) | intro _ | exact zI ?_ ?_ | intro _))))); try (refine L.nil ?_))
  ((repeat refine S.seq ?_); refine S.ret ?_)
  exact E.retP (T := tt) tt_ok rfl rfl (by (repeat' ((first | first | exact trivial | exact zA | with_reducible refine zI ?_ ?_ | exact zB | exact zC | exact zD | exact zE | rfl | exact zN rfl | omega | assumption | (simp; done) | (simp [splice]; done) | (simp; omega) | (unfold fits; omega) | (unfold fits; simp_all; omega) | (simp_all; omega) | (simp_all; done) | intro _ | exact zI ?_ ?_ | intro _)))) (Imp.refl _)

/-- A number of so many bytes, and what is behind. -/
def takeV (b : List UInt8) (k : Nat) : Int := if b.length < k then 0 else (b.take k).foldl accS 0
def takeR (b : List UInt8) (k : Nat) : List UInt8 := if b.length < k then [] else b.drop k
theorem take_p (b : List UInt8) (k : Nat) (hk : k ≤ 8) : PFn Tryd.prog 60 [bytesL b, .v (.int .i64 k)] (.tup [.v (.int .i64 (takeV b k)), bytesL (takeR b k)]) := by
  refine FnC.intro Tryd.func60 rfl Tryd.ntmps60 rfl ?_; intro off w0
  refine lenAt (sz := 1) (n := b.length) (g := gOf u8C b) 0 rfl fun hn => ?_
  ((repeat refine S.seq ?_); refine S.region (L.go (T := tt) tt_ok rfl rfl ?sd8 ?_); (try (case sd8 => (repeat' ((first | first | exact trivial | exact zA | with_reducible refine zI ?_ ?_ | exact zB | exact zC | exact zD | exact zE | rfl | exact zN rfl | omega | assumption | (simp; done) | (simp [splice]; done) | (simp; omega) | (unfold fits; omega) | (unfold fits; simp_all; omega) | (simp_all; omega) | (simp_all; done) | intro _ | exact zI ?_ ?_ | intro _))))); try (refine L.nil ?_))
  ((repeat refine S.seq ?_); refine S.region (L.go (T := tt) tt_ok rfl rfl ?sd9 ?_); (try (case sd9 => (repeat' ((first | first | exact trivial | exact zA | with_reducible refine zI ?_ ?_ | exact zB | exact zC | exact zD | exact zE | rfl | exact zN rfl | omega | assumption | (simp; done) | (simp [splice]; done) | (simp; omega) | (unfold fits; omega) | (unfold fits; simp_all; omega) | (simp_all; omega) | (simp_all; done) | intro _ | exact zI ?_ ?_ | intro _))))); try (refine L.nil ?_))
  ((repeat refine S.seq ?_); refine S.region (L.go (T := tt) tt_ok rfl rfl ?sd10 ?_); (try (case sd10 => (repeat' ((first | first | exact trivial | exact zA | with_reducible refine zI ?_ ?_ | exact zB | exact zC | exact zD | exact zE | rfl | exact zN rfl | omega | assumption | (simp; done) | (simp [splice]; done) | (simp; omega) | (unfold fits; omega) | (unfold fits; simp_all; omega) | (simp_all; omega) | (simp_all; done) | intro _ | exact zI ?_ ?_ | intro _))))); try (refine L.nil ?_))
  ((repeat refine S.seq ?_); refine S.cond rfl (fun h1 => ?_) (fun h1 => ?_) <;> (try first | refine S.skip ?_ | refine S.exit ?_))
  · have h1 : b.length < k := by have := of_dec h1; omega
    ((repeat refine S.seq ?_); refine S.region (L.go (T := tt) tt_ok rfl rfl ?sd11 ?_); (try (case sd11 => (repeat' ((first | first | exact trivial | exact zA | with_reducible refine zI ?_ ?_ | exact zB | exact zC | exact zD | exact zE | rfl | exact zN rfl | omega | assumption | (simp; done) | (simp [splice]; done) | (simp; omega) | (unfold fits; omega) | (unfold fits; simp_all; omega) | (simp_all; omega) | (simp_all; done) | intro _ | exact zI ?_ ?_ | intro _))))); try (refine L.nil ?_))
    (((repeat refine S.seq ?_); refine S.ret ?_); refine E.retP (T := tt) tt_ok rfl rfl (by (repeat' ((first | first | exact trivial | exact zA | with_reducible refine zI ?_ ?_ | exact zB | exact zC | exact zD | exact zE | rfl | exact zN rfl | omega | assumption | (simp; done) | (simp [splice]; done) | (simp; omega) | (unfold fits; omega) | (unfold fits; simp_all; omega) | (simp_all; omega) | (simp_all; done) | intro _ | exact zI ?_ ?_ | intro _)))) ?_)
    rw [takeV, takeR, if_pos h1, if_pos h1]
    exact Imp.tup ⟨Imp.refl _, Imp.nil _ _, trivial⟩
  have h1 : ¬ b.length < k := by have := of_dec' h1; omega
  obtain ⟨l, hl⟩ : ∃ l, l = b.take k := ⟨_, rfl⟩
  have hll : l.length = k := by rw [hl, List.length_take]; omega
  ((repeat refine S.seq ?_); refine S.region (L.go (T := tt) tt_ok rfl rfl ?sd12 ?_); (try (case sd12 => (repeat' ((first | first | exact trivial | exact zA | with_reducible refine zI ?_ ?_ | exact zB | exact zC | exact zD | exact zE | rfl | exact zN rfl | omega | assumption | (simp; done) | (simp [splice]; done) | (simp; omega) | (unfold fits; omega) | (unfold fits; simp_all; omega) | (simp_all; omega) | (simp_all; done) | intro _ | exact zI ?_ ?_ | intro _))))); try (refine L.nil ?_))
  refine slotAs 15 (bytesL l) rfl (Imp.lst (by rw [hll]; omega) (fun i hi => by rw [hl]; exact take_gg u8C b (by omega))) ?_
  refine slotAs 16 (.v (.int .i64 l.length)) rfl (Imp.of_eq (by rw [hll]; rfl)) ?_
  repeat refine S.seq ?_
  refine S.cut (ι := Unit) (fun _ => [(0, bytesL b), (1, .v (.int .i64 k)), (6, .v (.int .i64 (l.foldl accS 0)))]) (fun _ => []) ?_ ?_
  · refine S.block (S.loop (ι := { q : Nat // q ≤ l.length }) (fun q => [(0, bytesL b), (1, .v (.int .i64 k)), (6, .v (.int .i64 ((l.take q.1).foldl accS 0))), (15, bytesL l), (16, .v (.int .i64 l.length)), (17, .v (.int .i64 q.1))]) (fun q => []) (fun q => l.length - q.1) ?_ ?_)
    · exact fun a' w h => ⟨⟨0, Nat.zero_le _⟩, h.weakP (by (repeat' (first | exact True.intro | exact Imp.refl _ | refine ⟨?_, ?_⟩))) (Sub.self _)⟩
    rintro ⟨q, hq⟩
    dsimp only
    ((repeat refine S.seq ?_); refine S.region (L.go (T := tt) tt_ok rfl rfl ?sd13 ?_); (try (case sd13 => (repeat' ((first | first | exact trivial | exact zA | with_reducible refine zI ?_ ?_ | exact zB | exact zC | exact zD | exact zE | rfl | exact zN rfl | omega | assumption | (simp; done) | (simp [splice]; done) | (simp; omega) | (unfold fits; omega) | (unfold fits; simp_all; omega) | (simp_all; omega) | (simp_all; done) | intro _ | exact zI ?_ ?_ | intro _))))); try (refine L.nil ?_))
    ((repeat refine S.seq ?_); refine S.cond rfl (fun hc => ?_) (fun hc => ?_) <;> (try first | refine S.skip ?_ | refine S.exit ?_))
    · have hql : q < l.length := by have := of_dec hc; omega
      have hts : (l.take (q + 1)).foldl accS 0 = accS ((l.take q).foldl accS 0) (l.getD q default) := by
        rw [List.take_add_one, List.getElem?_eq_getElem hql, List.foldl_append, getD_get hql]
        rfl
      repeat refine S.seq ?_
      refine S.block ?_
      ((repeat refine S.seq ?_); refine S.region (L.go (T := tt) tt_ok rfl rfl ?sd14 ?_); (try (case sd14 => (repeat' ((first | first | exact trivial | exact zA | with_reducible refine zI ?_ ?_ | exact zB | exact zC | exact zD | exact zE | rfl | exact zN rfl | omega | assumption | (simp; done) | (simp [splice]; done) | (simp; omega) | (unfold fits; omega) | (unfold fits; simp_all; omega) | (simp_all; omega) | (simp_all; done) | intro _ | exact zI ?_ ?_ | intro _))))); try (refine L.nil ?_))
      ((repeat refine S.seq ?_); refine S.region (L.go (T := tt) tt_ok rfl rfl ?sd15 ?_); (try (case sd15 => (repeat' ((first | first | exact trivial | exact zA | with_reducible refine zI ?_ ?_ | exact zB | exact zC | exact zD | exact zE | rfl | exact zN rfl | omega | assumption | (simp; done) | (simp [splice]; done) | (simp; omega) | (unfold fits; omega) | (unfold fits; simp_all; omega) | (simp_all; omega) | (simp_all; done) | intro _ | exact zI ?_ ?_ | intro _))))); try (refine L.nil ?_))
      refine slotAs 6 (.v (.int .i64 ((l.take (q + 1)).foldl accS 0))) rfl (Imp.of_eq (by rw [hts]; rfl)) ?_
      ((repeat refine S.seq ?_); refine S.region (L.go (T := tt) tt_ok rfl rfl ?sd16 ?_); (try (case sd16 => (repeat' ((first | first | exact trivial | exact zA | with_reducible refine zI ?_ ?_ | exact zB | exact zC | exact zD | exact zE | rfl | exact zN rfl | omega | assumption | (simp; done) | (simp [splice]; done) | (simp; omega) | (unfold fits; omega) | (unfold fits; simp_all; omega) | (simp_all; omega) | (simp_all; done) | intro _ | exact zI ?_ ?_ | intro _))))); try (refine L.nil ?_))
      exact fun a' w h => ⟨⟨q + 1, hql⟩, by show l.length - (q + 1) < l.length - q; omega, h.weakP (by (repeat' (first | exact True.intro | exact Imp.refl _ | refine ⟨?_, ?_⟩))) (Sub.self _)⟩
    have hq' : q = l.length := by have := of_dec' hc; omega
    subst hq'
    exact fun a' w h => ⟨(), (slotAs (K := R _ _ _) 6 (.v (.int .i64 (l.foldl accS 0))) rfl (Imp.of_eq (by rw [List.take_length])) (fun _ _ h => h) a' w h).weakP (by (repeat' (first | exact True.intro | exact Imp.refl _ | refine ⟨?_, ?_⟩))) (Sub.self _)⟩
  intro _
  repeat refine S.seq ?_
  refine S.draw [] mixed ?_
  (refine H.ts (T := tt) [0, 1, 2, 3, 4, 5] tt_ok (by kernel_rfl) (by kernel_rfl) (by kernel_rfl) (by intro ch a a' w h; obtain ⟨_, _, _, _, _, h, _⟩ := h; cases h) rfl ?sd21 ?_; (try (case sd21 => (repeat' ((first | first | exact trivial | exact zA | with_reducible refine zI ?_ ?_ | exact zB | exact zC | exact zD | exact zE | rfl | exact zN rfl | omega | assumption | (simp; done) | (simp [splice]; done) | (simp; omega) | (unfold fits; omega) | (unfold fits; simp_all; omega) | (simp_all; omega) | (simp_all; done) | intro _ | exact zI ?_ ?_ | intro _))))))
  refine H.done (by kernel_rfl) ?_
  (((repeat refine S.seq ?_); refine S.ret ?_); refine E.retP (T := tt) tt_ok rfl rfl (by (repeat' ((first | first | exact trivial | exact zA | with_reducible refine zI ?_ ?_ | exact zB | exact zC | exact zD | exact zE | rfl | exact zN rfl | omega | assumption | (simp; done) | (simp [splice]; done) | (simp; omega) | (unfold fits; omega) | (unfold fits; simp_all; omega) | (simp_all; omega) | (simp_all; done) | intro _ | exact zI ?_ ?_ | intro _)))) ?_)
  rw [takeV, takeR, if_neg h1, if_neg h1, ← hl]
  exact Imp.tup ⟨Imp.refl _, Imp.lst (by rw [List.length_drop]; omega) (fun i hi => drop_g u8C b k i), trivial⟩
end Go.Proofs.YtlgdjmmjconbfaaDoor

/- Tables as bytes: the walk of Put. -/
namespace Go.Proofs.YtlgdjmmjconbfaaDoor
set_option linter.unusedVariables false
set_option linter.unusedSimpArgs false
set_option maxHeartbeats 8000000
open Go.RowKit
set_option maxRecDepth 4000

def noTo (l : List Int) : Nat → List UInt8
  | 0 => []
  | k + 1 => noTo l k ++ [by8 (l.getD k 0 + 1)]
def arTo (l : List Arc) : Nat → List UInt8
  | 0 => []
  | k + 1 => arTo l k ++ arB (l.getD k default)
theorem noTo_eq (l : List Int) : ∀ k, k ≤ l.length → noTo l k = noL (l.take k)
  | 0, _ => by rw [List.take_zero]; rfl
  | k + 1, hk => by
    rw [noTo, noTo_eq l k (by omega), List.take_succ_eq_append_getElem (show k < l.length by omega), List.getD_eq_getElem?_getD, List.getElem?_eq_getElem (show k < l.length by omega)]
    unfold noL
    rw [List.map_append]
    rfl
theorem arTo_eq (l : List Arc) : ∀ k, k ≤ l.length → arTo l k = arL (l.take k)
  | 0, _ => by rw [List.take_zero]; rfl
  | k + 1, hk => by
    rw [arTo, arTo_eq l k (by omega), List.take_succ_eq_append_getElem (show k < l.length by omega), getD_get (show k < l.length by omega)]
    unfold arL
    rw [List.flatMap_append, List.flatMap_cons, List.flatMap_nil, List.append_nil]
def putO (t : Tab) : List UInt8 := if mayT t = true then putL t else []
def putE (t : Tab) : Int := if mayT t = true then 0 else 1

theorem tabput_p (t : Tab) (hr : in32 t) : PFn Tryd.prog 33 [t.av] (.tup [bytesL (putO t), .v (.int .i64 (putE t))]) := by
  unfold Tab.av
  refine FnC.intro Tryd.func33 rfl Tryd.ntmps33 rfl ?_; intro off w0
  repeat refine S.seq ?_
  refine S.region ?_
  refine L.box 1 rfl rfl rfl rfl rfl trivial rfl fun b1 => ?_
  (refine L.go (T := tt) tt_ok rfl rfl ?sd11 ?_; (try (case sd11 => (repeat' ((first | first | exact trivial | exact zA | with_reducible refine zI ?_ ?_ | exact zB | exact zC | exact zD | exact zE | rfl | exact zN rfl | omega | assumption | (simp; done) | (simp [splice]; done) | (simp; omega) | (unfold fits; omega) | (unfold fits; simp_all; omega) | (simp_all; omega) | (simp_all; done) | intro _ | exact zI ?_ ?_ | intro _))))); try (refine L.nil ?_))
  repeat refine S.seq ?_
  refine S.region ?_
  (refine L.go (T := tt) tt_ok rfl rfl ?sd12 ?_; (try (case sd12 => (repeat' ((first | first | exact trivial | exact zA | with_reducible refine zI ?_ ?_ | exact zB | exact zC | exact zD | exact zE | rfl | exact zN rfl | omega | assumption | (simp; done) | (simp [splice]; done) | (simp; omega) | (unfold fits; omega) | (unfold fits; simp_all; omega) | (simp_all; omega) | (simp_all; done) | intro _ | exact zI ?_ ?_ | intro _))))); try (refine L.nil ?_))
  refine L.callP rfl rfl rfl rfl rfl rfl rfl ⟨trivial, by (repeat' ((first | first | exact trivial | exact zA | with_reducible refine zI ?_ ?_ | exact zB | exact zC | exact zD | exact zE | rfl | exact zN rfl | omega | assumption | (simp; done) | (simp [splice]; done) | (simp; omega) | (unfold fits; omega) | (unfold fits; simp_all; omega) | (simp_all; omega) | (simp_all; done) | intro _ | exact zI ?_ ?_ | intro _)))⟩ rfl (Imps.refl _) (tabmay_p t) ?_
  (refine L.go (T := tt) tt_ok rfl rfl ?sd13 ?_; (try (case sd13 => (repeat' ((first | first | exact trivial | exact zA | with_reducible refine zI ?_ ?_ | exact zB | exact zC | exact zD | exact zE | rfl | exact zN rfl | omega | assumption | (simp; done) | (simp [splice]; done) | (simp; omega) | (unfold fits; omega) | (unfold fits; simp_all; omega) | (simp_all; omega) | (simp_all; done) | intro _ | exact zI ?_ ?_ | intro _))))); try (refine L.nil ?_))
  ((repeat refine S.seq ?_); refine S.cond rfl (fun h1 => ?_) (fun h1 => ?_) <;> (try first | refine S.skip ?_ | refine S.exit ?_))
  · have h1 : mayT t = false := by simpa using h1
    ((repeat refine S.seq ?_); refine S.region (L.go (T := tt) tt_ok rfl rfl ?sd1 ?_); (try (case sd1 => (repeat' ((first | first | exact trivial | exact zA | with_reducible refine zI ?_ ?_ | exact zB | exact zC | exact zD | exact zE | rfl | exact zN rfl | omega | assumption | (simp; done) | (simp [splice]; done) | (simp; omega) | (unfold fits; omega) | (unfold fits; simp_all; omega) | (simp_all; omega) | (simp_all; done) | intro _ | exact zI ?_ ?_ | intro _))))); try (refine L.nil ?_))
    (((repeat refine S.seq ?_); refine S.ret ?_); refine E.retP (T := tt) tt_ok rfl rfl (by (repeat' ((first | first | exact trivial | exact zA | with_reducible refine zI ?_ ?_ | exact zB | exact zC | exact zD | exact zE | rfl | exact zN rfl | omega | assumption | (simp; done) | (simp [splice]; done) | (simp; omega) | (unfold fits; omega) | (unfold fits; simp_all; omega) | (simp_all; omega) | (simp_all; done) | intro _ | exact zI ?_ ?_ | intro _)))) ?_)
    rw [putO, putE, if_neg (by rw [h1]; decide), if_neg (by rw [h1]; decide)]
    exact Imp.tup ⟨Imp.nil _ _, Imp.refl _, trivial⟩
  have h1 : mayT t = true := by simpa using h1
  have hm := mayT_of h1
  have hep := hm.ep
  have hno := hm.no
  have har := hm.ar.most
  have hnl := numL_len t.ep 4
  have hnl2 := numL_len (t.no.length : Int) 1
  unfold Tab.cells
  refine nilRow 31 5 1 (gOf u8C []) ?_
  repeat refine S.seq ?_
  refine S.draw [(1, [1]), (5, [1])] mixed ?_
  (refine H.ts (T := tt) [0, 1, 2, 4, 5, 6, 7] tt_ok (by kernel_rfl) (by kernel_rfl) (by kernel_rfl) (by intro ch a a' w h; obtain ⟨_, _, _, _, _, h, _⟩ := h; cases h) rfl ?sd20 ?_; (try (case sd20 => (repeat' ((first | first | exact trivial | exact zA | with_reducible refine zI ?_ ?_ | exact zB | exact zC | exact zD | exact zE | rfl | exact zN rfl | omega | assumption | (simp; done) | (simp [splice]; done) | (simp; omega) | (unfold fits; omega) | (unfold fits; simp_all; omega) | (simp_all; omega) | (simp_all; done) | intro _ | exact zI ?_ ?_ | intro _))))))
  refine H.call 3 [(31, .own (.slice none 0 0) 5 1 0 (gOf u8C []))] _ rfl (by kernel_rfl) (by kernel_rfl) rfl rfl rfl rfl rfl rfl rfl ⟨trivial, by (repeat' ((first | first | exact trivial | exact zA | with_reducible refine zI ?_ ?_ | exact zB | exact zC | exact zD | exact zE | rfl | exact zN rfl | omega | assumption | (simp; done) | (simp [splice]; done) | (simp; omega) | (unfold fits; omega) | (unfold fits; simp_all; omega) | (simp_all; omega) | (simp_all; done) | intro _ | exact zI ?_ ?_ | intro _)))⟩ rfl (by exact (⟨Imp.vref rfl, Imp.refl _, Imp.refl _, trivial⟩ : Imps [.v (.slice none 0 0), .v (.int .u64 (IntKind.u64.wrap t.ep)), .v (.int .i64 4)] [.ref 31 (.slice none 0 0), .v (.int .u64 (IntKind.u64.wrap t.ep)), .v (.int .i64 4)])) (List.Perm.refl _) (num_p (.slice none 0 0) [] (IntKind.u64.wrap t.ep) 4 (by omega) (by simp)) (by kernel_rfl) (by kernel_rfl) ?_
  rintro r F' ⟨y, rfl, rfl⟩
  have w1 : IntKind.u64.wrap t.ep = t.ep := u64_id (by omega) (by omega)
  have w2 : IntKind.u64.wrap (t.no.length : Int) = (t.no.length : Int) := u64_id (by omega) (by omega)
  obtain ⟨l1, hl1⟩ : ∃ l1, l1 = [] ++ numL t.ep 4 := ⟨_, rfl⟩
  have hll1 : l1.length = 4 := by rw [hl1]; exact hnl
  rw [w1, ← hl1]
  refine H.call 8 [(31, .own y 5 1 l1.length (gOf u8C l1))] _ rfl (by kernel_rfl) (by kernel_rfl) rfl rfl rfl rfl rfl rfl rfl ⟨trivial, by (repeat' ((first | first | exact trivial | exact zA | with_reducible refine zI ?_ ?_ | exact zB | exact zC | exact zD | exact zE | rfl | exact zN rfl | omega | assumption | (simp; done) | (simp [splice]; done) | (simp; omega) | (unfold fits; omega) | (unfold fits; simp_all; omega) | (simp_all; omega) | (simp_all; done) | intro _ | exact zI ?_ ?_ | intro _)))⟩ rfl (by exact Imps.refl [.ref 31 y, .v (.int .u64 (IntKind.u64.wrap (t.no.length : Int))), .v (.int .i64 1)]) (List.Perm.refl _) (num_p y l1 (IntKind.u64.wrap (t.no.length : Int)) 1 (by omega) (by omega)) (by kernel_rfl) (by kernel_rfl) ?_
  rintro r F' ⟨y2, rfl, rfl⟩
  obtain ⟨l2, hl2⟩ : ∃ l2, l2 = l1 ++ numL (t.no.length : Int) 1 := ⟨_, rfl⟩
  have hll2 : l2.length = 5 := by rw [hl2, List.length_append, hll1, hnl2]
  rw [w2, ← hl2]
  (refine H.ts (T := tt) [9] tt_ok (by kernel_rfl) (by kernel_rfl) (by kernel_rfl) (by intro ch a a' w h; obtain ⟨_, _, _, _, _, h, _⟩ := h; cases h) rfl ?sd21 ?_; (try (case sd21 => (repeat' ((first | first | exact trivial | exact zA | with_reducible refine zI ?_ ?_ | exact zB | exact zC | exact zD | exact zE | rfl | exact zN rfl | omega | assumption | (simp; done) | (simp [splice]; done) | (simp; omega) | (unfold fits; omega) | (unfold fits; simp_all; omega) | (simp_all; omega) | (simp_all; done) | intro _ | exact zI ?_ ?_ | intro _))))))
  refine H.done (by kernel_rfl) ?_
  ((repeat refine S.seq ?_); refine S.region (L.go (T := tt) tt_ok rfl rfl ?sd2 ?_); (try (case sd2 => (repeat' ((first | first | exact trivial | exact zA | with_reducible refine zI ?_ ?_ | exact zB | exact zC | exact zD | exact zE | rfl | exact zN rfl | omega | assumption | (simp; done) | (simp [splice]; done) | (simp; omega) | (unfold fits; omega) | (unfold fits; simp_all; omega) | (simp_all; omega) | (simp_all; done) | intro _ | exact zI ?_ ?_ | intro _))))); try (refine L.nil ?_))
  repeat refine S.seq ?_
  refine S.cut (ι := Value) (fun x => [(1, .ptr 1 b1 0), (4, .ref 31 x)]) (fun x => [(31, .own x 5 1 (l2 ++ noTo t.no t.no.length).length (gOf u8C (l2 ++ noTo t.no t.no.length))), (1, .blk b1 44 [.v (.int .i64 t.ep), arcs t.ar, intW t.no])]) ?_ ?_
  · refine S.block (S.loop (ι := { q : Nat × Value // q.1 ≤ t.no.length }) (fun q => [(1, .ptr 1 b1 0), (4, .ref 31 q.1.2), (22, intW t.no), (23, .v (.int .i64 t.no.length)), (24, .v (.int .i64 q.1.1))])
      (fun q => [(31, .own q.1.2 5 1 (l2 ++ noTo t.no q.1.1).length (gOf u8C (l2 ++ noTo t.no q.1.1))), (1, .blk b1 44 [.v (.int .i64 t.ep), arcs t.ar, intW t.no])]) (fun q => t.no.length - q.1.1) ?_ ?_)
    · exact fun a w h => ⟨⟨(0, y2), Nat.zero_le _⟩, h.weakP (by (repeat' (first | exact True.intro | exact Imp.refl _ | refine ⟨?_, ?_⟩))) (by rw [noTo, List.append_nil]; (repeat (first | exact Sub.refl _ | refine Sub.pick (by first | exact p0 | exact pS p0 | exact pS (pS p0) | exact pS (pS (pS p0)) | exact pS (pS (pS (pS p0))) | exact pS (pS (pS (pS (pS p0))))) ?_)))⟩
    rintro ⟨⟨k, x⟩, hk⟩
    dsimp only at hk ⊢
    obtain ⟨M, hM⟩ : ∃ M, M = l2 ++ noTo t.no k := ⟨_, rfl⟩
    have hml : M.length ≤ 100 := by
      rw [hM, noTo_eq _ _ hk, List.length_append, noL_len, List.length_take]; omega
    rw [← hM]
    ((repeat refine S.seq ?_); refine S.region (L.go (T := tt) tt_ok rfl rfl ?sd3 ?_); (try (case sd3 => (repeat' ((first | first | exact trivial | exact zA | with_reducible refine zI ?_ ?_ | exact zB | exact zC | exact zD | exact zE | rfl | exact zN rfl | omega | assumption | (simp; done) | (simp [splice]; done) | (simp; omega) | (unfold fits; omega) | (unfold fits; simp_all; omega) | (simp_all; omega) | (simp_all; done) | intro _ | exact zI ?_ ?_ | intro _))))); try (refine L.nil ?_))
    ((repeat refine S.seq ?_); refine S.cond rfl (fun hc => ?_) (fun hc => ?_) <;> (try first | refine S.skip ?_ | refine S.exit ?_))
    · have hk' : k < t.no.length := by have := of_dec hc; omega
      have hnk : -1 ≤ t.no.getD k 0 ∧ t.no.getD k 0 < 4 := hm.nod _ (by rw [List.getD_eq_getElem?_getD, List.getElem?_eq_getElem hk']; exact List.getElem_mem _)
      repeat refine S.seq ?_
      refine S.block ?_
      ((repeat refine S.seq ?_); refine S.region (L.go (T := tt) tt_ok rfl rfl ?sd4 ?_); (try (case sd4 => (repeat' ((first | first | exact trivial | exact zA | with_reducible refine zI ?_ ?_ | exact zB | exact zC | exact zD | exact zE | rfl | exact zN rfl | omega | assumption | (simp; done) | (simp [splice]; done) | (simp; omega) | (unfold fits; omega) | (unfold fits; simp_all; omega) | (simp_all; omega) | (simp_all; done) | intro _ | exact zI ?_ ?_ | intro _))))); try (refine L.nil ?_))
      repeat refine S.seq ?_
      refine S.region ?_
      (refine L.go (T := tt) tt_ok rfl rfl ?sd14 ?_; (try (case sd14 => (repeat' ((first | first | exact trivial | exact zA | with_reducible refine zI ?_ ?_ | exact zB | exact zC | exact zD | exact zE | rfl | exact zN rfl | omega | assumption | (simp; done) | (simp [splice]; done) | (simp; omega) | (unfold fits; omega) | (unfold fits; simp_all; omega) | (simp_all; omega) | (simp_all; done) | intro _ | exact zI ?_ ?_ | intro _))))); try (refine L.nil ?_))
      refine slotAs 31 (.v (.int .u8 ((by8 (t.no.getD k 0 + 1)).toNat : Int))) rfl (Imp.of_eq ?_) ?_
      · rw [by8_nat]; rfl
      refine L.buildSlice (T := tt) 33 tt_ok rfl rfl rfl rfl rfl rfl (by decide) (by decide) rfl rfl (by (repeat' ((first | first | exact trivial | exact zA | with_reducible refine zI ?_ ?_ | exact zB | exact zC | exact zD | exact zE | rfl | exact zN rfl | omega | assumption | (simp; done) | (simp [splice]; done) | (simp; omega) | (unfold fits; omega) | (unfold fits; simp_all; omega) | (simp_all; omega) | (simp_all; done) | intro _ | exact zI ?_ ?_ | intro _)))) fun x32 => ?_
      refine L.append (T := tt) tt_ok rfl rfl rfl rfl rfl rfl rfl rfl rfl rfl (by (repeat' ((first | first | exact trivial | exact zA | with_reducible refine zI ?_ ?_ | exact zB | exact zC | exact zD | exact zE | rfl | exact zN rfl | omega | assumption | (simp; done) | (simp [splice]; done) | (simp; omega) | (unfold fits; omega) | (unfold fits; simp_all; omega) | (simp_all; omega) | (simp_all; done) | intro _ | exact zI ?_ ?_ | intro _)))) ⟨rfl, by decide, by decide⟩ (by simp; omega) fun y33 => ?_
      refine ownAs 31 (gOf u8C (M ++ [by8 (t.no.getD k 0 + 1)])) rfl (show M.length + 1 = (M ++ [by8 (t.no.getD k 0 + 1)]).length by simp) (fun q hq => app1_h u8C M (by8 (t.no.getD k 0 + 1)) _ rfl rfl hq) ?_
      (refine L.go (T := tt) tt_ok rfl rfl ?sd15 ?_; (try (case sd15 => (repeat' ((first | first | exact trivial | exact zA | with_reducible refine zI ?_ ?_ | exact zB | exact zC | exact zD | exact zE | rfl | exact zN rfl | omega | assumption | (simp; done) | (simp [splice]; done) | (simp; omega) | (unfold fits; omega) | (unfold fits; simp_all; omega) | (simp_all; omega) | (simp_all; done) | intro _ | exact zI ?_ ?_ | intro _))))); try (refine L.nil ?_))
      ((repeat refine S.seq ?_); refine S.region (L.go (T := tt) tt_ok rfl rfl ?sd5 ?_); (try (case sd5 => (repeat' ((first | first | exact trivial | exact zA | with_reducible refine zI ?_ ?_ | exact zB | exact zC | exact zD | exact zE | rfl | exact zN rfl | omega | assumption | (simp; done) | (simp [splice]; done) | (simp; omega) | (unfold fits; omega) | (unfold fits; simp_all; omega) | (simp_all; omega) | (simp_all; done) | intro _ | exact zI ?_ ?_ | intro _))))); try (refine L.nil ?_))
      exact fun a w hR => ⟨⟨(k + 1, y33), hk'⟩, by show t.no.length - (k + 1) < t.no.length - k; omega, hR.weakP (by (repeat' (first | exact True.intro | exact Imp.refl _ | refine ⟨?_, ?_⟩))) (by rw [noTo, ← List.append_assoc, ← hM]; (repeat (first | exact Sub.refl _ | refine Sub.pick (by first | exact p0 | exact pS p0 | exact pS (pS p0) | exact pS (pS (pS p0)) | exact pS (pS (pS (pS p0))) | exact pS (pS (pS (pS (pS p0))))) ?_)))⟩
    have hk' : k = t.no.length := by have := of_dec' hc; omega
    subst hk'
    exact fun a w hR => ⟨x, hR.weakP (by (repeat' (first | exact True.intro | exact Imp.refl _ | refine ⟨?_, ?_⟩))) (by rw [hM]; (repeat (first | exact Sub.refl _ | refine Sub.pick (by first | exact p0 | exact pS p0 | exact pS (pS p0) | exact pS (pS (pS p0)) | exact pS (pS (pS (pS p0))) | exact pS (pS (pS (pS (pS p0))))) ?_)))⟩
  intro x
  have hnl3 := numL_len (t.ar.length : Int) 2
  have w3 : IntKind.u64.wrap (t.ar.length : Int) = (t.ar.length : Int) := u64_id (by omega) (by omega)
  obtain ⟨l3, hl3⟩ : ∃ l3, l3 = l2 ++ noTo t.no t.no.length := ⟨_, rfl⟩
  have hll3 : l3.length ≤ 100 := by rw [hl3, noTo_eq _ _ (Nat.le_refl _), List.length_append, noL_len, List.length_take]; omega
  rw [← hl3]
  repeat refine S.seq ?_
  refine S.region ?_
  (refine L.go (T := tt) tt_ok rfl rfl ?sd16 ?_; (try (case sd16 => (repeat' ((first | first | exact trivial | exact zA | with_reducible refine zI ?_ ?_ | exact zB | exact zC | exact zD | exact zE | rfl | exact zN rfl | omega | assumption | (simp; done) | (simp [splice]; done) | (simp; omega) | (unfold fits; omega) | (unfold fits; simp_all; omega) | (simp_all; omega) | (simp_all; done) | intro _ | exact zI ?_ ?_ | intro _))))); try (refine L.nil ?_))
  refine L.call (G := [(31, .own x 5 1 l3.length (gOf u8C l3))]) (H := [(1, .blk b1 44 [.v (.int .i64 t.ep), arcs t.ar, intW t.no])]) rfl rfl rfl rfl rfl rfl rfl ⟨trivial, by (repeat' ((first | first | exact trivial | exact zA | with_reducible refine zI ?_ ?_ | exact zB | exact zC | exact zD | exact zE | rfl | exact zN rfl | omega | assumption | (simp; done) | (simp [splice]; done) | (simp; omega) | (unfold fits; omega) | (unfold fits; simp_all; omega) | (simp_all; omega) | (simp_all; done) | intro _ | exact zI ?_ ?_ | intro _)))⟩ rfl (by exact Imps.refl [.ref 31 x, .v (.int .u64 (IntKind.u64.wrap (t.ar.length : Int))), .v (.int .i64 2)]) (List.Perm.refl _) (num_p x l3 (IntKind.u64.wrap (t.ar.length : Int)) 2 (by omega) (by omega)) ?_
  rintro r F' ⟨y3, rfl, rfl⟩
  obtain ⟨l4, hl4⟩ : ∃ l4, l4 = l3 ++ numL (t.ar.length : Int) 2 := ⟨_, rfl⟩
  have hll4 : l4.length ≤ 102 := by rw [hl4, List.length_append, hnl3]; omega
  rw [w3, ← hl4]
  (refine L.go (T := tt) tt_ok rfl rfl ?sd17 ?_; (try (case sd17 => (repeat' ((first | first | exact trivial | exact zA | with_reducible refine zI ?_ ?_ | exact zB | exact zC | exact zD | exact zE | rfl | exact zN rfl | omega | assumption | (simp; done) | (simp [splice]; done) | (simp; omega) | (unfold fits; omega) | (unfold fits; simp_all; omega) | (simp_all; omega) | (simp_all; done) | intro _ | exact zI ?_ ?_ | intro _))))); try (refine L.nil ?_))
  refine rowsEq [(31, .own y3 5 1 l4.length (gOf u8C l4)), (1, .blk b1 44 [.v (.int .i64 t.ep), arcs t.ar, intW t.no])] rfl ?_
  ((repeat refine S.seq ?_); refine S.region (L.go (T := tt) tt_ok rfl rfl ?sd6 ?_); (try (case sd6 => (repeat' ((first | first | exact trivial | exact zA | with_reducible refine zI ?_ ?_ | exact zB | exact zC | exact zD | exact zE | rfl | exact zN rfl | omega | assumption | (simp; done) | (simp [splice]; done) | (simp; omega) | (unfold fits; omega) | (unfold fits; simp_all; omega) | (simp_all; omega) | (simp_all; done) | intro _ | exact zI ?_ ?_ | intro _))))); try (refine L.nil ?_))
  repeat refine S.seq ?_
  refine S.cut (ι := Value) (fun x => [(4, .ref 31 x)]) (fun x => [(31, .own x 5 1 (l4 ++ arTo t.ar t.ar.length).length (gOf u8C (l4 ++ arTo t.ar t.ar.length)))]) ?_ ?_
  · refine S.block (S.loop (ι := { q : Nat × Value // q.1 ≤ t.ar.length }) (fun q => [(1, .ptr 1 b1 0), (4, .ref 31 q.1.2), (42, arcs t.ar), (43, .v (.int .i64 t.ar.length)), (44, .v (.int .i64 q.1.1))])
      (fun q => [(31, .own q.1.2 5 1 (l4 ++ arTo t.ar q.1.1).length (gOf u8C (l4 ++ arTo t.ar q.1.1)))]) (fun q => t.ar.length - q.1.1) ?_ ?_)
    · exact fun a w h => ⟨⟨(0, y3), Nat.zero_le _⟩, h.weakP (by (repeat' (first | exact True.intro | exact Imp.refl _ | refine ⟨?_, ?_⟩))) (by rw [arTo, List.append_nil]; (repeat (first | exact Sub.refl _ | refine Sub.pick (by first | exact p0 | exact pS p0 | exact pS (pS p0) | exact pS (pS (pS p0)) | exact pS (pS (pS (pS p0))) | exact pS (pS (pS (pS (pS p0))))) ?_)))⟩
    rintro ⟨⟨k, x⟩, hk⟩
    dsimp only at hk ⊢
    obtain ⟨M, hM⟩ : ∃ M, M = l4 ++ arTo t.ar k := ⟨_, rfl⟩
    have hml : M.length ≤ 6000 := by
      rw [hM, arTo_eq _ _ hk, List.length_append, arL_len, List.length_take]; omega
    rw [← hM]
    ((repeat refine S.seq ?_); refine S.region (L.go (T := tt) tt_ok rfl rfl ?sd7 ?_); (try (case sd7 => (repeat' ((first | first | exact trivial | exact zA | with_reducible refine zI ?_ ?_ | exact zB | exact zC | exact zD | exact zE | rfl | exact zN rfl | omega | assumption | (simp; done) | (simp [splice]; done) | (simp; omega) | (unfold fits; omega) | (unfold fits; simp_all; omega) | (simp_all; omega) | (simp_all; done) | intro _ | exact zI ?_ ?_ | intro _))))); try (refine L.nil ?_))
    ((repeat refine S.seq ?_); refine S.cond rfl (fun hc => ?_) (fun hc => ?_) <;> (try first | refine S.skip ?_ | refine S.exit ?_))
    · have hk' : k < t.ar.length := by have := of_dec hc; omega
      have hin : t.ar.getD k default ∈ t.ar := by rw [getD_get hk']; exact List.getElem_mem _
      obtain ⟨a, ha⟩ : ∃ a, a = t.ar.getD k default := ⟨_, rfl⟩
      have hsh := mayT_fits hm hin
      have hat := hr _ hin
      rw [← ha] at hsh hat
      have hnl5 := numL_len a.at0 4
      have w5 : IntKind.u64.wrap a.at0 = a.at0 := u64_id (by omega) (by omega)
      obtain ⟨M2, hM2⟩ : ∃ M2, M2 = M ++ numL a.at0 4 := ⟨_, rfl⟩
      have hml2 : M2.length ≤ 6004 := by rw [hM2, List.length_append, hnl5]; omega
      repeat refine S.seq ?_
      refine S.block ?_
      repeat refine S.seq ?_
      refine S.region ?_
      (refine L.go (T := tt) tt_ok rfl rfl ?sd18 ?_; (try (case sd18 => (repeat' ((first | first | exact trivial | exact zA | with_reducible refine zI ?_ ?_ | exact zB | exact zC | exact zD | exact zE | rfl | exact zN rfl | omega | assumption | (simp; done) | (simp [splice]; done) | (simp; omega) | (unfold fits; omega) | (unfold fits; simp_all; omega) | (simp_all; omega) | (simp_all; done) | intro _ | exact zI ?_ ?_ | intro _))))); try (refine L.nil ?_))
      refine L.alloc (T := tt) 8 tt_ok rfl rfl rfl rfl rfl fun b8 => ?_
      (refine L.store (T := tt) tt_ok rfl rfl rfl rfl rfl rfl ?sd19 ?_; (try (case sd19 => (repeat' ((first | first | exact trivial | exact zA | with_reducible refine zI ?_ ?_ | exact zB | exact zC | exact zD | exact zE | rfl | exact zN rfl | omega | assumption | (simp; done) | (simp [splice]; done) | (simp; omega) | (unfold fits; omega) | (unfold fits; simp_all; omega) | (simp_all; omega) | (simp_all; done) | intro _ | exact zI ?_ ?_ | intro _))))))
      refine L.nil ?_
      refine rowsEq [(8, .blk b8 38 a.cells), (31, .own x 5 1 M.length (gOf u8C M))] (by rw [ha]; rfl) ?_
      unfold Arc.cells
      repeat refine S.seq ?_
      refine S.draw [(2, [8]), (6, [8])] mixed ?_
      (refine H.ts (T := tt) [0, 1, 2, 3, 5, 6, 7] tt_ok (by kernel_rfl) (by kernel_rfl) (by kernel_rfl) (by intro ch a a' w h; obtain ⟨_, _, _, _, _, h, _⟩ := h; cases h) rfl ?sd22 ?_; (try (case sd22 => (repeat' ((first | first | exact trivial | exact zA | with_reducible refine zI ?_ ?_ | exact zB | exact zC | exact zD | exact zE | rfl | exact zN rfl | omega | assumption | (simp; done) | (simp [splice]; done) | (simp; omega) | (unfold fits; omega) | (unfold fits; simp_all; omega) | (simp_all; omega) | (simp_all; done) | intro _ | exact zI ?_ ?_ | intro _))))))
      refine H.tell 55 (.v (.int .u8 ((by8 a.shard).toNat : Int))) rfl (Imp.of_eq (by rw [by8_nat]; rfl)) ?_
      refine H.o2 4 8 rfl rfl (by kernel_rfl) (by kernel_rfl) (O.call (G := [(31, .own x 5 1 M.length (gOf u8C M))]) (H := [(8, .blk b8 38 [.v (.int .u32 a.at0), .v (.int .i64 a.shard)])]) rfl rfl rfl rfl rfl rfl rfl ⟨trivial, by (repeat' ((first | first | exact trivial | exact zA | with_reducible refine zI ?_ ?_ | exact zB | exact zC | exact zD | exact zE | rfl | exact zN rfl | omega | assumption | (simp; done) | (simp [splice]; done) | (simp; omega) | (unfold fits; omega) | (unfold fits; simp_all; omega) | (simp_all; omega) | (simp_all; done) | intro _ | exact zI ?_ ?_ | intro _)))⟩ rfl (by exact Imps.refl [.ref 31 x, .v (.int .u64 (IntKind.u64.wrap a.at0)), .v (.int .i64 4)]) (List.Perm.swap _ _ _) (num_p x M (IntKind.u64.wrap a.at0) 4 (by omega) (by omega))) (O.buildSlice (T := tt) 33 tt_ok rfl rfl rfl rfl rfl rfl (by decide) (by decide) rfl rfl (by (repeat' ((first | first | exact trivial | exact zA | with_reducible refine zI ?_ ?_ | exact zB | exact zC | exact zD | exact zE | rfl | exact zN rfl | omega | assumption | (simp; done) | (simp [splice]; done) | (simp; omega) | (unfold fits; omega) | (unfold fits; simp_all; omega) | (simp_all; omega) | (simp_all; done) | intro _ | exact zI ?_ ?_ | intro _))))) (.inl (by kernel_rfl)) (.inr rfl) (by kernel_rfl) rfl ?_ (fun x56 => ?_)
      · rintro ⟨⟨r, F'⟩, hk1⟩
        dsimp only
        obtain ⟨z, hr1, hF1⟩ := hk1
        have hr1 : r = .ref 31 z := hr1
        have hF1 : F' = [(31, .own z 5 1 (M ++ numL (IntKind.u64.wrap a.at0) 4).length (gOf u8C (M ++ numL (IntKind.u64.wrap a.at0) 4)))] := hF1
        subst hr1
        subst hF1
        rw [w5, ← hM2]
        refine H.o1 8 rfl (by kernel_rfl) (by kernel_rfl) (O.buildSlice (T := tt) 33 tt_ok rfl rfl rfl rfl rfl rfl (by decide) (by decide) rfl rfl (by (repeat' ((first | first | exact trivial | exact zA | with_reducible refine zI ?_ ?_ | exact zB | exact zC | exact zD | exact zE | rfl | exact zN rfl | omega | assumption | (simp; done) | (simp [splice]; done) | (simp; omega) | (unfold fits; omega) | (unfold fits; simp_all; omega) | (simp_all; omega) | (simp_all; done) | intro _ | exact zI ?_ ?_ | intro _))))) (.inr rfl) rfl fun x56 => ?_
        refine H.o1 9 rfl (by kernel_rfl) (by kernel_rfl) (O.append (T := tt) tt_ok rfl rfl rfl rfl rfl rfl rfl rfl rfl rfl (by (repeat' ((first | first | exact trivial | exact zA | with_reducible refine zI ?_ ?_ | exact zB | exact zC | exact zD | exact zE | rfl | exact zN rfl | omega | assumption | (simp; done) | (simp [splice]; done) | (simp; omega) | (unfold fits; omega) | (unfold fits; simp_all; omega) | (simp_all; omega) | (simp_all; done) | intro _ | exact zI ?_ ?_ | intro _)))) ⟨rfl, by decide, by decide⟩ (by simp; omega)) (.inl (by kernel_rfl)) (by kernel_rfl) fun y57 => ?_
        (refine H.ts (T := tt) [10] tt_ok (by kernel_rfl) (by kernel_rfl) (by kernel_rfl) (by intro ch a a' w h; obtain ⟨_, _, _, _, _, h, _⟩ := h; cases h) rfl ?sd23 ?_; (try (case sd23 => (repeat' ((first | first | exact trivial | exact zA | with_reducible refine zI ?_ ?_ | exact zB | exact zC | exact zD | exact zE | rfl | exact zN rfl | omega | assumption | (simp; done) | (simp [splice]; done) | (simp; omega) | (unfold fits; omega) | (unfold fits; simp_all; omega) | (simp_all; omega) | (simp_all; done) | intro _ | exact zI ?_ ?_ | intro _))))))
        refine H.done (by kernel_rfl) ?_
        refine ownAs 31 (gOf u8C (M2 ++ [by8 a.shard])) rfl (show M2.length + 1 = (M2 ++ [by8 a.shard]).length by simp) (fun q hq => app1_h u8C M2 (by8 a.shard) _ rfl rfl hq) ?_
        ((repeat refine S.seq ?_); refine S.region (L.go (T := tt) tt_ok rfl rfl ?sd8 ?_); (try (case sd8 => (repeat' ((first | first | exact trivial | exact zA | with_reducible refine zI ?_ ?_ | exact zB | exact zC | exact zD | exact zE | rfl | exact zN rfl | omega | assumption | (simp; done) | (simp [splice]; done) | (simp; omega) | (unfold fits; omega) | (unfold fits; simp_all; omega) | (simp_all; omega) | (simp_all; done) | intro _ | exact zI ?_ ?_ | intro _))))); try (refine L.nil ?_))
        exact fun a1 w hR => ⟨⟨(k + 1, y57), hk'⟩, by show t.ar.length - (k + 1) < t.ar.length - k; omega, (hR.weakP (by (repeat' (first | exact True.intro | exact Imp.refl _ | refine ⟨?_, ?_⟩))) (by rw [arTo, ← ha, arB, ← List.append_assoc, ← List.append_assoc, ← hM, ← hM2]; (repeat (first | exact Sub.refl _ | refine Sub.pick (by first | exact p0 | exact pS p0 | exact pS (pS p0) | exact pS (pS (pS p0)) | exact pS (pS (pS (pS p0))) | exact pS (pS (pS (pS (pS p0))))) ?_))))⟩
      · refine H.call 4 [(31, .own x 5 1 M.length (gOf u8C M))] [(33, _), (8, .blk b8 38 [.v (.int .u32 a.at0), .v (.int .i64 a.shard)])] rfl (by kernel_rfl) (by kernel_rfl) rfl rfl rfl rfl rfl rfl rfl ⟨trivial, by (repeat' ((first | first | exact trivial | exact zA | with_reducible refine zI ?_ ?_ | exact zB | exact zC | exact zD | exact zE | rfl | exact zN rfl | omega | assumption | (simp; done) | (simp [splice]; done) | (simp; omega) | (unfold fits; omega) | (unfold fits; simp_all; omega) | (simp_all; omega) | (simp_all; done) | intro _ | exact zI ?_ ?_ | intro _)))⟩ rfl (by exact Imps.refl [.ref 31 x, .v (.int .u64 (IntKind.u64.wrap a.at0)), .v (.int .i64 4)]) ((List.Perm.cons _ (List.Perm.swap _ _ _)).trans (List.Perm.swap _ _ _)) (num_p x M (IntKind.u64.wrap a.at0) 4 (by omega) (by omega)) (by kernel_rfl) (by kernel_rfl) ?_
        rintro r F' ⟨z, rfl, rfl⟩
        rw [w5, ← hM2]
        refine H.o1 9 rfl (by kernel_rfl) (by kernel_rfl) (O.append (T := tt) tt_ok rfl rfl rfl rfl rfl rfl rfl rfl rfl rfl (by (repeat' ((first | first | exact trivial | exact zA | with_reducible refine zI ?_ ?_ | exact zB | exact zC | exact zD | exact zE | rfl | exact zN rfl | omega | assumption | (simp; done) | (simp [splice]; done) | (simp; omega) | (unfold fits; omega) | (unfold fits; simp_all; omega) | (simp_all; omega) | (simp_all; done) | intro _ | exact zI ?_ ?_ | intro _)))) ⟨rfl, by decide, by decide⟩ (by simp; omega)) (.inl (by kernel_rfl)) (by kernel_rfl) fun y57 => ?_
        (refine H.ts (T := tt) [10] tt_ok (by kernel_rfl) (by kernel_rfl) (by kernel_rfl) (by intro ch a a' w h; obtain ⟨_, _, _, _, _, h, _⟩ := h; cases h) rfl ?sd24 ?_; (try (case sd24 => (repeat' ((first | first | exact trivial | exact zA | with_reducible refine zI ?_ ?_ | exact zB | exact zC | exact zD | exact zE | rfl | exact zN rfl | omega | assumption | (simp; done) | (simp [splice]; done) | (simp; omega) | (unfold fits; omega) | (unfold fits; simp_all; omega) | (simp_all; omega) | (simp_all; done) | intro _ | exact zI ?_ ?_ | intro _))))))
        refine H.done (by kernel_rfl) ?_
        refine ownAs 31 (gOf u8C (M2 ++ [by8 a.shard])) rfl (show M2.length + 1 = (M2 ++ [by8 a.shard]).length by simp) (fun q hq => app1_h u8C M2 (by8 a.shard) _ rfl rfl hq) ?_
        ((repeat refine S.seq ?_); refine S.region (L.go (T := tt) tt_ok rfl rfl ?sd9 ?_); (try (case sd9 => (repeat' ((first | first | exact trivial | exact zA | with_reducible refine zI ?_ ?_ | exact zB | exact zC | exact zD | exact zE | rfl | exact zN rfl | omega | assumption | (simp; done) | (simp [splice]; done) | (simp; omega) | (unfold fits; omega) | (unfold fits; simp_all; omega) | (simp_all; omega) | (simp_all; done) | intro _ | exact zI ?_ ?_ | intro _))))); try (refine L.nil ?_))
        exact fun a1 w hR => ⟨⟨(k + 1, y57), hk'⟩, by show t.ar.length - (k + 1) < t.ar.length - k; omega, (hR.weakP (by (repeat' (first | exact True.intro | exact Imp.refl _ | refine ⟨?_, ?_⟩))) (by rw [arTo, ← ha, arB, ← List.append_assoc, ← List.append_assoc, ← hM, ← hM2]; (repeat (first | exact Sub.refl _ | refine Sub.pick (by first | exact p0 | exact pS p0 | exact pS (pS p0) | exact pS (pS (pS p0)) | exact pS (pS (pS (pS p0))) | exact pS (pS (pS (pS (pS p0))))) ?_))))⟩
    have hk' : k = t.ar.length := by have := of_dec' hc; omega
    subst hk'
    exact fun a w hR => ⟨x, hR.weakP (by (repeat' (first | exact True.intro | exact Imp.refl _ | refine ⟨?_, ?_⟩))) (by rw [hM]; (repeat (first | exact Sub.refl _ | refine Sub.pick (by first | exact p0 | exact pS p0 | exact pS (pS p0) | exact pS (pS (pS p0)) | exact pS (pS (pS (pS p0))) | exact pS (pS (pS (pS (pS p0))))) ?_)))⟩
  intro x
  have hfin : l4 ++ arTo t.ar t.ar.length = putO t := by
    rw [putO, if_pos h1, hl4, hl3, hl2, hl1, noTo_eq _ _ (Nat.le_refl _), arTo_eq _ _ (Nat.le_refl _), List.take_length, List.take_length, putL]
    simp only [List.nil_append, List.append_assoc]
  rw [hfin]
  refine freezeSlot 4 31 rfl rfl rfl ?_
  ((repeat refine S.seq ?_); refine S.region (L.go (T := tt) tt_ok rfl rfl ?sd10 ?_); (try (case sd10 => (repeat' ((first | first | exact trivial | exact zA | with_reducible refine zI ?_ ?_ | exact zB | exact zC | exact zD | exact zE | rfl | exact zN rfl | omega | assumption | (simp; done) | (simp [splice]; done) | (simp; omega) | (unfold fits; omega) | (unfold fits; simp_all; omega) | (simp_all; omega) | (simp_all; done) | intro _ | exact zI ?_ ?_ | intro _))))); try (refine L.nil ?_))
  (((repeat refine S.seq ?_); refine S.ret ?_); refine E.retP (T := tt) tt_ok rfl rfl (by (repeat' ((first | first | exact trivial | exact zA | with_reducible refine zI ?_ ?_ | exact zB | exact zC | exact zD | exact zE | rfl | exact zN rfl | omega | assumption | (simp; done) | (simp [splice]; done) | (simp; omega) | (unfold fits; omega) | (unfold fits; simp_all; omega) | (simp_all; omega) | (simp_all; done) | intro _ | exact zI ?_ ?_ | intro _)))) ?_)
  rw [putE, if_pos h1]
  exact Imp.refl _
end Go.Proofs.YtlgdjmmjconbfaaDoor

/- A scope with several labels that are jumped back to. -/
namespace Go.Proofs.YtlgdjmmjconbfaaDoor
set_option linter.unusedVariables false
set_option linter.unusedSimpArgs false
set_option maxHeartbeats 8000000
open Go.RowKit
set_option maxRecDepth 4000

/-- As Q; by a goto: J of its label. -/
def jumpM (J : Nat → Act → World → Prop) (Q : Exit → Act → World → Prop) : Exit → Act → World → Prop
  | .goto l, a, w => J l a w
  | e, a, w => Q e a w

theorem wp_scope_many {P : Program} {a : Act} {w : World} {Q : Exit → Act → World → Prop} {c : Code} (J : Nat → Act → World → Prop) (μ : Nat → Act → World → Nat) (rest : Nat → Code) (hf : ∀ l a w, J l a w → findLabel c l = some (rest l))
    (first : c.wp P (jumpM J Q) a w)
    (pass : ∀ l a w, J l a w → (rest l).wp P (jumpM (fun l' a' w' => J l' a' w' ∧ μ l' a' w' < μ l a w) Q) a w) : (Code.scope c).wp P Q a w := by
  intro b k cs
  have hg : ∀ l a w, J l a w → gotoIn l (.inScope c :: k) = some (.code (rest l) :: .inScope c :: k) := fun l a w h => by simp [gotoIn, hf l a w h]
  have key : ∀ n l a w, μ l a w = n → J l a w → ∃ e a' w', Q e a' w' ∧ Arrives P (lone (b.at a (.code (rest l) :: .inScope c :: k)) cs w) b k cs e a' w' := by
    intro n
    induction n using Nat.strongRecOn with
    | _ n ih =>
      intro l a w hn hJ
      obtain ⟨e, a₁, w₁, hq, harr⟩ := pass l a w hJ b (.inScope c :: k) cs
      cases e with
      | normal => exact ⟨.normal, a₁, w₁, hq, Steps.trans harr (.one step_inScope)⟩
      | exit id => exact ⟨.exit id, a₁, w₁, hq, fun k' hk => harr k' (by simp [exitTo, hk])⟩
      | goto l' =>
        obtain ⟨hJ', hlt⟩ := hq
        obtain ⟨e₂, a₂, w₂, hq₂, harr₂⟩ := ih _ (by omega) l' a₁ w₁ rfl hJ'
        exact ⟨e₂, a₂, w₂, hq₂, .of_steps (harr _ (hg l' a₁ w₁ hJ')) harr₂⟩
      | ret => exact ⟨_, a₁, w₁, hq, harr⟩
      | panic ch => exact ⟨_, a₁, w₁, hq, harr⟩
      | outgrown => exact ⟨_, a₁, w₁, hq, harr⟩
  obtain ⟨e, a₁, w₁, hq, harr⟩ := first b (.inScope c :: k) cs
  cases e with
  | normal => exact ⟨.normal, a₁, w₁, hq, .head step_scope (Steps.trans harr (.one step_inScope))⟩
  | exit id => exact ⟨.exit id, a₁, w₁, hq, fun k' hk => .head step_scope (harr k' (by simp [exitTo, hk]))⟩
  | goto l' =>
    obtain ⟨e₂, a₂, w₂, hq₂, harr₂⟩ := key _ l' a₁ w₁ rfl hq
    exact ⟨e₂, a₂, w₂, hq₂, .of_steps (.head step_scope (harr _ (hg l' a₁ w₁ hq))) harr₂⟩
  | ret => exact ⟨_, a₁, w₁, hq, .of_steps (.one step_scope) harr⟩
  | panic ch => exact ⟨_, a₁, w₁, hq, .of_steps (.one step_scope) harr⟩
  | outgrown => exact ⟨_, a₁, w₁, hq, .of_steps (.one step_scope) harr⟩

/-- A scope with two labels: the states behind each, and what each pass makes smaller. -/
theorem S.scope2 {P : Program} {c : Ctx} {σ : Slots} {F : Rows} {Q : Exit → Act → World → Prop} {ι κ : Type} {x B C : Code} (l m : Nat) (hlm : l ≠ m) (sl : ι → Slots) (ro : ι → Rows) (μ : ι → Nat) (sm : κ → Slots) (rm : κ → Rows) (ν : κ → Nat) (hν : ∀ i k, ν k < μ i)
    (hf : findLabel x l = some (.seq .skip B)) (hg : findLabel x m = some (.seq .skip C))
    (passC : ∀ k (J : Nat → Act → World → Prop), (∀ a w j, ν j < ν k → R c (sm j) (rm j) a w → J m a w) → S P c C (sm k) (rm k) (jumpM J Q))
    (passB : ∀ i (J : Nat → Act → World → Prop), (∀ a w j, μ j < μ i → R c (sl j) (ro j) a w → J l a w) → (∀ k, S P c C (sm k) (rm k) (jumpM J Q)) → S P c B (sl i) (ro i) (jumpM J Q))
    (first : ∀ J : Nat → Act → World → Prop, (∀ i, S P c B (sl i) (ro i) (jumpM J Q)) → S P c x σ F (jumpM J Q)) : S P c (.scope x) σ F Q := by
  intro a w hR
  obtain ⟨I, hI⟩ : ∃ I : Nat → (ι ⊕ κ) → Act → World → Prop, I = fun n s a w => match s with | .inl i => n = l ∧ R c (sl i) (ro i) a w | .inr k => n = m ∧ R c (sm k) (rm k) a w := ⟨_, rfl⟩
  have ml : (ι ⊕ κ) → Nat := fun s => match s with | .inl i => μ i | .inr k => ν k
  obtain ⟨ms, hms⟩ : ∃ ms : (ι ⊕ κ) → Nat, ms = fun s => match s with | .inl i => μ i | .inr k => ν k := ⟨_, rfl⟩
  have hl : ∀ i a w, R c (sl i) (ro i) a w → I l (.inl i) a w := fun i a w h => by rw [hI]; exact ⟨rfl, h⟩
  have hm : ∀ k a w, R c (sm k) (rm k) a w → I m (.inr k) a w := fun k a w h => by rw [hI]; exact ⟨rfl, h⟩
  refine wp_scope_many (fun n a w => ∃ s, I n s a w) (fun n => least (I n) ms) (fun n => if n = l then .seq .skip B else .seq .skip C) ?_ ?_ ?_
  · rintro n a w ⟨s, hs⟩
    rw [hI] at hs
    cases s with
    | inl i => obtain ⟨rfl, -⟩ := hs; simpa using hf
    | inr k => obtain ⟨rfl, -⟩ := hs; rw [if_neg hlm.symm]; exact hg
  · exact first _ (fun i => passB i _ (fun a w j _ h => ⟨.inl j, hl j a w h⟩) fun k => passC k _ fun a w j _ h => ⟨.inr j, hm j a w h⟩) a w hR
  · rintro n a w ⟨s0, hs0⟩
    obtain ⟨s, hs, he⟩ := least_at (I := I n) (μ := ms) hs0
    have small : ∀ n' s' a' w', ms s' < ms s → I n' s' a' w' → (∃ s, I n' s a' w') ∧ least (I n') ms a' w' < least (I n) ms a w := fun n' s' a' w' hlt h => ⟨⟨s', h⟩, by have := least_le (I := I n') (μ := ms) h; omega⟩
    have hs' := hs
    rw [hI] at hs'
    cases s with
    | inl i =>
      obtain ⟨rfl, hR'⟩ := hs'
      show Code.wp P (if n = n then _ else _) _ a w
      rw [if_pos rfl]
      refine S.seq (S.skip (passB i _ (fun a w j hj h => small n (.inl j) a w (by rw [hms]; exact hj) (hl j a w h)) fun k => passC k _ fun a w j hj h => small m (.inr j) a w (by rw [hms]; exact Nat.lt_trans hj (hν i k)) (hm j a w h))) a w hR'
    | inr k =>
      obtain ⟨rfl, hR'⟩ := hs'
      show Code.wp P (if n = l then _ else _) _ a w
      rw [if_neg hlm.symm]
      exact S.seq (S.skip (passC k _ fun a w j hj h => small n (.inr j) a w (by rw [hms]; exact hj) (hm j a w h))) a w hR'
end Go.Proofs.YtlgdjmmjconbfaaDoor

/- Tables as bytes: the walk of Get. -/
namespace Go.Proofs.YtlgdjmmjconbfaaDoor
set_option linter.unusedVariables false
set_option linter.unusedSimpArgs false
set_option maxHeartbeats 8000000
open Go.RowKit
set_option maxRecDepth 4000

structure StN (b : List UInt8) (ep n : Int) (M : List Int) (r : List UInt8) : Prop where
  len : M.length + r.length ≤ b.length
  told : ∀ t : Tab, mayT t = true → in32 t → putL t = b → ep = t.ep ∧ n = t.no.length ∧ ∃ u, t.no = M ++ u ∧ r = noL u ++ (numL t.ar.length 2 ++ arL t.ar)
structure StR (b : List UInt8) (ep : Int) (M : List Int) (n : Int) (A : List Arc) (r : List UInt8) : Prop where
  len : A.length + r.length ≤ b.length
  rng : ∀ a ∈ A, 0 ≤ a.at0 ∧ a.at0 < 4294967296
  told : ∀ t : Tab, mayT t = true → in32 t → putL t = b → ep = t.ep ∧ M = t.no ∧ n = t.ar.length ∧ ∃ u, t.ar = A ++ u ∧ r = arL u
theorem take_app (x y : List UInt8) : takeV (x ++ y) x.length = x.foldl accS 0 ∧ takeR (x ++ y) x.length = y := by
  have h : ¬ (x ++ y).length < x.length := by rw [List.length_append]; omega
  rw [takeV, takeR, if_neg h, if_neg h, List.take_left, List.drop_left]
  exact ⟨rfl, rfl⟩
theorem take_num {n : Int} {k : Nat} (y : List UInt8) (h : (numL n k).foldl accS 0 = n) : takeV (numL n k ++ y) k = n ∧ takeR (numL n k ++ y) k = y := by
  have := take_app (numL n k) y
  rw [numL_len, h] at this
  exact this
theorem takeR_len (b : List UInt8) (k : Nat) : (takeR b k).length ≤ b.length - k := by
  rw [takeR]
  split
  · simp
  · rw [List.length_drop]; exact Nat.le_refl _
theorem take_one (c : UInt8) (t : List UInt8) : takeV (c :: t) 1 = (c.toNat : Int) ∧ takeR (c :: t) 1 = t := by
  have h : ¬ (c :: t).length < 1 := by simp
  rw [takeV, takeR, if_neg h, if_neg h]
  exact ⟨acc0 c, rfl⟩
theorem StN.start (b : List UInt8) : StN b (takeV b 4) (takeV (takeR b 4) 1) [] (takeR (takeR b 4) 1) := by
  refine ⟨by have h1 := takeR_len b 4; have h2 := takeR_len (takeR b 4) 1; simp only [List.length_nil]; omega, fun t hm hr hb => ?_⟩
  have m := mayT_of hm
  have h1 := m.ep
  have h2 := m.no
  obtain ⟨e1, e2⟩ := take_num (numL t.no.length 1 ++ (noL t.no ++ (numL t.ar.length 2 ++ arL t.ar))) (acc4 (n := t.ep) (by omega) (by omega))
  obtain ⟨e3, e4⟩ := take_num (noL t.no ++ (numL t.ar.length 2 ++ arL t.ar)) (acc1 (n := (t.no.length : Int)) (by omega) (by omega))
  rw [← hb]
  unfold putL
  rw [e1, e2, e3, e4]
  exact ⟨rfl, rfl, t.no, rfl, rfl⟩
theorem StN.step {b : List UInt8} {ep n : Int} {M : List Int} {c : UInt8} {r : List UInt8} (s : StN b ep n M (c :: r)) (hc : (M.length : Int) < n) : StN b ep n (M ++ [(c.toNat : Int) - 1]) r := by
  have hl := s.len
  refine ⟨by rw [List.length_append]; simp only [List.length_cons, List.length_nil] at hl ⊢; omega, fun t hm hr hb => ?_⟩
  obtain ⟨h1, h2, u, h3, h4⟩ := s.told t hm hr hb
  have m := mayT_of hm
  refine ⟨h1, h2, ?_⟩
  cases u with
  | nil =>
    rw [List.append_nil] at h3
    rw [h2, h3] at hc
    omega
  | cons z u =>
    have hz := m.nod z (by rw [h3]; simp)
    have h5 : c :: r = by8 (z + 1) :: (noL u ++ (numL t.ar.length 2 ++ arL t.ar)) := h4
    obtain ⟨h6, h7⟩ := List.cons.inj h5
    have h8 := by8_nat (z + 1)
    rw [← h6] at h8
    refine ⟨u, ?_, h7⟩
    rw [h3, List.append_assoc]
    have : (c.toNat : Int) - 1 = z := by omega
    rw [this]
    rfl
theorem StN.stop {b : List UInt8} {ep n : Int} {M : List Int} {r : List UInt8} (s : StN b ep n M r) (hc : ¬ ((M.length : Int) < n ∧ 0 < r.length)) : StR b ep M (takeV r 2) [] (takeR r 2) := by
  have hl := s.len
  refine ⟨by have h2 := takeR_len r 2; simp only [List.length_nil]; omega, (by intro a ha; cases ha), fun t hm hr hb => ?_⟩
  obtain ⟨h1, h2, u, h3, h4⟩ := s.told t hm hr hb
  have m := mayT_of hm
  have hu : u = [] := by
    cases u with
    | nil => rfl
    | cons z u =>
      exfalso
      refine hc ⟨by rw [h2, h3, List.length_append, List.length_cons]; omega, ?_⟩
      rw [h4]
      unfold noL
      rw [List.map_cons, List.cons_append, List.length_cons]
      omega
  subst hu
  rw [List.append_nil] at h3
  have har := m.ar.most
  obtain ⟨e1, e2⟩ := take_num (arL t.ar) (acc2 (n := (t.ar.length : Int)) (by omega) (by omega))
  have h4 : r = numL t.ar.length 2 ++ arL t.ar := h4
  rw [h4, e1, e2]
  exact ⟨h1, h3.symm, rfl, t.ar, rfl, rfl⟩
def arG (r : List UInt8) : Arc := ⟨IntKind.u32.wrap (takeV r 4), takeV (takeR r 4) 1⟩
theorem StR.step {b : List UInt8} {ep n : Int} {M : List Int} {A : List Arc} {r : List UInt8} (s : StR b ep M n A r) (hc : (A.length : Int) < n) (h0 : 0 < r.length) : StR b ep M n (A ++ [arG r]) (takeR (takeR r 4) 1) := by
  have hl := s.len
  refine ⟨by have h1 := takeR_len r 4; have h2 := takeR_len (takeR r 4) 1; rw [List.length_append]; simp only [List.length_cons, List.length_nil]; omega, fun a ha => ?_, fun t hm hr hb => ?_⟩
  · rcases List.mem_append.1 ha with ha | ha
    · exact s.rng a ha
    · rw [List.mem_singleton.1 ha]
      show 0 ≤ IntKind.u32.wrap (takeV r 4) ∧ IntKind.u32.wrap (takeV r 4) < 4294967296
      have e : IntKind.u32.wrap (takeV r 4) = takeV r 4 % 4294967296 := rfl
      omega
  · obtain ⟨h1, h2, h3, u, h4, h5⟩ := s.told t hm hr hb
    have m := mayT_of hm
    refine ⟨h1, h2, h3, ?_⟩
    cases u with
    | nil =>
      rw [List.append_nil] at h4
      rw [h3, h4] at hc
      omega
    | cons z u =>
      have hz : z ∈ t.ar := by rw [h4]; simp
      have hz1 := hr z hz
      have hz2 := mayT_fits m hz
      have h6 : r = numL z.at0 4 ++ (by8 z.shard :: arL u) := by
        rw [h5, arL, List.flatMap_cons, arB, List.append_assoc]; rfl
      obtain ⟨e1, e2⟩ := take_num (by8 z.shard :: arL u) (acc4 hz1.1 hz1.2)
      obtain ⟨e3, e4⟩ := take_one (by8 z.shard) (arL u)
      have e5 : arG r = z := by
        rw [arG, h6, e1, e2, e3, by8_nat, u32_id hz1.1 hz1.2]
        exact Arc.ext' rfl (by show z.shard % 256 = z.shard; omega)
      refine ⟨u, ?_, ?_⟩
      · rw [h4, e5, List.append_assoc]; rfl
      · rw [h6, e2, e4]
theorem StR.stop {b : List UInt8} {ep n : Int} {M : List Int} {A : List Arc} {r : List UInt8} (s : StR b ep M n A r) (hc : ¬ ((A.length : Int) < n ∧ 0 < r.length)) : in32 ⟨ep, A, M⟩ ∧ ∀ t : Tab, mayT t = true → in32 t → putL t = b → (⟨ep, A, M⟩ : Tab) = t := by
  refine ⟨s.rng, fun t hm hr hb => ?_⟩
  obtain ⟨h1, h2, h3, u, h4, h5⟩ := s.told t hm hr hb
  have hu : u = [] := by
    cases u with
    | nil => rfl
    | cons z u =>
      exfalso
      refine hc ⟨by rw [h3, h4, List.length_append, List.length_cons]; omega, ?_⟩
      rw [h5, arL_len, List.length_cons]
      omega
  subst hu
  rw [List.append_nil] at h4
  cases t
  cases h1; cases h2; cases h4
  rfl
end Go.Proofs.YtlgdjmmjconbfaaDoor

/- Tables as bytes: the walk of Get. -/
namespace Go.Proofs.YtlgdjmmjconbfaaDoor
set_option linter.unusedVariables false
set_option linter.unusedSimpArgs false
set_option maxHeartbeats 8000000
open Go.RowKit
set_option maxRecDepth 4000

theorem beq_bytes (a b : ByteArray) : (a == b) = decide (a = b) := by
  obtain ⟨x⟩ := a
  obtain ⟨y⟩ := b
  have e : ((⟨x⟩ : ByteArray) == ⟨y⟩) = (x == y) := rfl
  rw [e, Bool.eq_iff_iff, beq_iff_eq, decide_eq_true_eq]
  exact ⟨fun h => by rw [h], fun h => by cases h; rfl⟩
theorem takeV_fit (b : List UInt8) (k : Nat) (h : k ≤ 4) : 0 ≤ takeV b k ∧ takeV b k < 1099511627776 := by
  rw [takeV]
  split
  · exact ⟨Int.le_refl _, by decide⟩
  · have key : ∀ l : List UInt8, ∃ m : Nat, l.length ≤ 4 → l.foldl accS 0 = (m : Int) ∧ m < 256 ^ l.length := fun l => by
      match l with
      | [] => exact ⟨0, fun _ => ⟨rfl, by simp⟩⟩
      | [x] => exact ⟨x.toNat, fun _ => ⟨acc0 x, by simpa using x.toNat_lt⟩⟩
      | [x, y] =>
        have hx := x.toNat_lt
        have hy := y.toNat_lt
        exact ⟨x.toNat * 256 + y.toNat, fun _ => ⟨by show accS (accS 0 x) y = _; rw [acc0, accS_eq _ (by omega)], by simp; omega⟩⟩
      | [x, y, z] =>
        have hx := x.toNat_lt
        have hy := y.toNat_lt
        have hz := z.toNat_lt
        exact ⟨(x.toNat * 256 + y.toNat) * 256 + z.toNat, fun _ => ⟨by show accS (accS (accS 0 x) y) z = _; rw [acc0, accS_eq _ (by omega), accS_eq _ (by omega)], by simp; omega⟩⟩
      | [x, y, z, u] =>
        have hx := x.toNat_lt
        have hy := y.toNat_lt
        have hz := z.toNat_lt
        have hu := u.toNat_lt
        exact ⟨((x.toNat * 256 + y.toNat) * 256 + z.toNat) * 256 + u.toNat, fun _ => ⟨by show accS (accS (accS (accS 0 x) y) z) u = _; rw [acc0, accS_eq _ (by omega), accS_eq _ (by omega), accS_eq _ (by omega)], by simp; omega⟩⟩
      | x :: y :: z :: u :: v :: t => exact ⟨0, fun h => by simp only [List.length_cons] at h; omega⟩
    obtain ⟨m, hm⟩ := key (b.take k)
    have hl : (b.take k).length ≤ 4 := by rw [List.length_take]; omega
    obtain ⟨e, hlt⟩ := hm hl
    rw [e]
    have : 256 ^ (b.take k).length ≤ 256 ^ 4 := Nat.pow_le_pow_right (by decide) hl
    have e4 : 256 ^ 4 = 4294967296 := rfl
    omega

theorem tabget_p (b : List UInt8) (hb : b.length ≤ 100000) : PFn Tryd.prog 34 [bytesL b] (.tup [(getF b).1.av, .v (.int .i64 (getF b).2)]) := by
  obtain ⟨ep, hep⟩ : ∃ ep, ep = takeV b 4 := ⟨_, rfl⟩
  obtain ⟨n0, hn0⟩ : ∃ n0, n0 = takeV (takeR b 4) 1 := ⟨_, rfl⟩
  have st := StN.start b
  have fep := takeV_fit b 4 (by decide)
  have fn0 := takeV_fit (takeR b 4) 1 (by decide)
  rw [← hep, ← hn0] at st
  rw [← hep] at fep
  rw [← hn0] at fn0
  refine FnC.intro Tryd.func34 rfl Tryd.ntmps34 rfl ?_; intro off w0
  repeat refine S.seq ?_
  refine S.region ?_
  refine L.alloc (T := tt) 2 tt_ok rfl rfl rfl rfl rfl fun b2 => ?_
  (refine L.go (T := tt) tt_ok rfl rfl ?sd5 ?_; (try (case sd5 => (repeat' ((first | first | exact trivial | exact zA | with_reducible refine zI ?_ ?_ | exact zB | exact zC | exact zD | exact zE | rfl | exact zN rfl | omega | assumption | (simp; done) | (simp [splice]; done) | (simp; omega) | (unfold fits; omega) | (unfold fits; simp_all; omega) | (simp_all; omega) | (simp_all; done) | intro _ | exact zI ?_ ?_ | intro _))))); try (refine L.nil ?_))
  repeat refine S.seq ?_
  refine S.scope2 0 1 (by decide)
    (ι := { p : Nat × List Int × Value × List UInt8 // StN b ep n0 p.2.1 p.2.2.2 }) (κ := { p : Nat × (List Int × Value) × Int × List Arc × Value × List UInt8 // StR b ep p.2.1.1 p.2.2.1 p.2.2.2.1 p.2.2.2.2.2 })
    (fun p => [(0, bytesL b), (2, .ptr 2 b2 0), (3, .v (.int .i64 0)), (4, .ptr 4 p.1.1 0), (5, .v (.int .i64 n0)), (8, bytesL p.1.2.2.2)])
    (fun p => [(61, .own p.1.2.2.1 3 1 p.1.2.1.length (gOf intC p.1.2.1)), (4, .blk p.1.1 44 [.v (.int .i64 ep), .v (.slice none 0 0), .ref 61 p.1.2.2.1]), (2, .blk b2 44 [.v (.int .i64 0), .v (.slice none 0 0), .v (.slice none 0 0)])])
    (fun p => b.length + 1 + p.1.2.2.2.length)
    (fun p => [(0, bytesL b), (2, .ptr 2 b2 0), (3, .v (.int .i64 0)), (4, .ptr 4 p.1.1 0), (5, .v (.int .i64 p.1.2.2.1)), (8, bytesL p.1.2.2.2.2.2)])
    (fun p => [(62, .own p.1.2.2.2.2.1 38 2 p.1.2.2.2.1.length (gOf Arc.cells p.1.2.2.2.1)), (61, .own p.1.2.1.2 3 1 p.1.2.1.1.length (gOf intC p.1.2.1.1)), (4, .blk p.1.1 44 [.v (.int .i64 ep), .ref 62 p.1.2.2.2.2.1, .ref 61 p.1.2.1.2]), (2, .blk b2 44 [.v (.int .i64 0), .v (.slice none 0 0), .v (.slice none 0 0)])])
    (fun p => p.1.2.2.2.2.2.length) (fun i k => by have := k.2.len; omega) rfl rfl ?_ ?_ ?_
  · rintro ⟨⟨b4, ⟨M, x⟩, n, A, y, r⟩, s⟩ J hJ
    dsimp only at s hJ ⊢
    have slen := s.len
    ((repeat refine S.seq ?_); refine S.region (L.go (T := tt) tt_ok rfl rfl ?sd1 ?_); (try (case sd1 => (repeat' ((first | first | exact trivial | exact zA | with_reducible refine zI ?_ ?_ | exact zB | exact zC | exact zD | exact zE | rfl | exact zN rfl | omega | assumption | (simp; done) | (simp [splice]; done) | (simp; omega) | (unfold fits; omega) | (unfold fits; simp_all; omega) | (simp_all; omega) | (simp_all; done) | intro _ | exact zI ?_ ?_ | intro _))))); try (refine L.nil ?_))
    ((repeat refine S.seq ?_); refine S.cond rfl (fun h1 => ?_) (fun h1 => ?_) <;> (try first | refine S.skip ?_ | refine S.exit ?_))
    · have h1' : (A.length : Int) < n ∧ 0 < r.length := by
        rw [Bool.and_eq_true, decide_eq_true_eq, decide_eq_true_eq] at h1
        exact ⟨h1.1, by omega⟩
      have hal : A.length ≤ 100000 := by omega
      obtain ⟨e, he⟩ : ∃ e, e = arG r := ⟨_, rfl⟩
      have f1 := takeV_fit r 4 (by decide)
      repeat refine S.seq ?_
      refine S.region ?_
      (refine L.go (T := tt) tt_ok rfl rfl ?sd6 ?_; (try (case sd6 => (repeat' ((first | first | exact trivial | exact zA | with_reducible refine zI ?_ ?_ | exact zB | exact zC | exact zD | exact zE | rfl | exact zN rfl | omega | assumption | (simp; done) | (simp [splice]; done) | (simp; omega) | (unfold fits; omega) | (unfold fits; simp_all; omega) | (simp_all; omega) | (simp_all; done) | intro _ | exact zI ?_ ?_ | intro _))))); try (refine L.nil ?_))
      refine L.callP rfl rfl rfl rfl rfl rfl rfl ⟨trivial, by (repeat' ((first | first | exact trivial | exact zA | with_reducible refine zI ?_ ?_ | exact zB | exact zC | exact zD | exact zE | rfl | exact zN rfl | omega | assumption | (simp; done) | (simp [splice]; done) | (simp; omega) | (unfold fits; omega) | (unfold fits; simp_all; omega) | (simp_all; omega) | (simp_all; done) | intro _ | exact zI ?_ ?_ | intro _)))⟩ rfl (Imps.refl _) (take_p r 4 (by omega)) ?_
      (refine L.go (T := tt) tt_ok rfl rfl ?sd7 ?_; (try (case sd7 => (repeat' ((first | first | exact trivial | exact zA | with_reducible refine zI ?_ ?_ | exact zB | exact zC | exact zD | exact zE | rfl | exact zN rfl | omega | assumption | (simp; done) | (simp [splice]; done) | (simp; omega) | (unfold fits; omega) | (unfold fits; simp_all; omega) | (simp_all; omega) | (simp_all; done) | intro _ | exact zI ?_ ?_ | intro _))))); try (refine L.nil ?_))
      repeat refine S.seq ?_
      refine S.region ?_
      (refine L.go (T := tt) tt_ok rfl rfl ?sd8 ?_; (try (case sd8 => (repeat' ((first | first | exact trivial | exact zA | with_reducible refine zI ?_ ?_ | exact zB | exact zC | exact zD | exact zE | rfl | exact zN rfl | omega | assumption | (simp; done) | (simp [splice]; done) | (simp; omega) | (unfold fits; omega) | (unfold fits; simp_all; omega) | (simp_all; omega) | (simp_all; done) | intro _ | exact zI ?_ ?_ | intro _))))); try (refine L.nil ?_))
      refine L.callP rfl rfl rfl rfl rfl rfl rfl ⟨trivial, by (repeat' ((first | first | exact trivial | exact zA | with_reducible refine zI ?_ ?_ | exact zB | exact zC | exact zD | exact zE | rfl | exact zN rfl | omega | assumption | (simp; done) | (simp [splice]; done) | (simp; omega) | (unfold fits; omega) | (unfold fits; simp_all; omega) | (simp_all; omega) | (simp_all; done) | intro _ | exact zI ?_ ?_ | intro _)))⟩ rfl (Imps.refl _) (take_p (takeR r 4) 1 (by omega)) ?_
      (refine L.go (T := tt) tt_ok rfl rfl ?sd9 ?_; (try (case sd9 => (repeat' ((first | first | exact trivial | exact zA | with_reducible refine zI ?_ ?_ | exact zB | exact zC | exact zD | exact zE | rfl | exact zN rfl | omega | assumption | (simp; done) | (simp [splice]; done) | (simp; omega) | (unfold fits; omega) | (unfold fits; simp_all; omega) | (simp_all; omega) | (simp_all; done) | intro _ | exact zI ?_ ?_ | intro _))))); try (refine L.nil ?_))
      repeat refine S.seq ?_
      refine S.region ?_
      (refine L.go (T := tt) tt_ok rfl rfl ?sd10 ?_; (try (case sd10 => (repeat' ((first | first | exact trivial | exact zA | with_reducible refine zI ?_ ?_ | exact zB | exact zC | exact zD | exact zE | rfl | exact zN rfl | omega | assumption | (simp; done) | (simp [splice]; done) | (simp; omega) | (unfold fits; omega) | (unfold fits; simp_all; omega) | (simp_all; omega) | (simp_all; done) | intro _ | exact zI ?_ ?_ | intro _))))); try (refine L.nil ?_))
      refine slotAs 75 e.av rfl (Imp.of_eq (by rw [he]; rfl)) ?_
      refine L.buildSlice (T := tt) 63 tt_ok rfl rfl rfl rfl rfl rfl (by decide) (by decide) rfl rfl (by (repeat' ((first | first | exact trivial | exact zA | with_reducible refine zI ?_ ?_ | exact zB | exact zC | exact zD | exact zE | rfl | exact zN rfl | omega | assumption | (simp; done) | (simp [splice]; done) | (simp; omega) | (unfold fits; omega) | (unfold fits; simp_all; omega) | (simp_all; omega) | (simp_all; done) | intro _ | exact zI ?_ ?_ | intro _)))) fun x76 => ?_
      refine L.append (T := tt) tt_ok rfl rfl rfl rfl rfl rfl rfl rfl rfl rfl (by (repeat' ((first | first | exact trivial | exact zA | with_reducible refine zI ?_ ?_ | exact zB | exact zC | exact zD | exact zE | rfl | exact zN rfl | omega | assumption | (simp; done) | (simp [splice]; done) | (simp; omega) | (unfold fits; omega) | (unfold fits; simp_all; omega) | (simp_all; omega) | (simp_all; done) | intro _ | exact zI ?_ ?_ | intro _)))) ⟨rfl, by decide, by decide⟩ (by simp; omega) fun y77 => ?_
      refine ownAs 62 (gOf Arc.cells (A ++ [e])) rfl (show A.length + 1 = (A ++ [e]).length by simp) (fun i hi => app1_h Arc.cells A e _ rfl rfl hi) ?_
      (refine L.go (T := tt) tt_ok rfl rfl ?sd11 ?_; (try (case sd11 => (repeat' ((first | first | exact trivial | exact zA | with_reducible refine zI ?_ ?_ | exact zB | exact zC | exact zD | exact zE | rfl | exact zN rfl | omega | assumption | (simp; done) | (simp [splice]; done) | (simp; omega) | (unfold fits; omega) | (unfold fits; simp_all; omega) | (simp_all; omega) | (simp_all; done) | intro _ | exact zI ?_ ?_ | intro _))))); try (refine L.nil ?_))
      (refine L.store (T := tt) tt_ok rfl rfl rfl rfl rfl rfl ?sd31 ?_; (try (case sd31 => (repeat' ((first | first | exact trivial | exact zA | with_reducible refine zI ?_ ?_ | exact zB | exact zC | exact zD | exact zE | rfl | exact zN rfl | omega | assumption | (simp; done) | (simp [splice]; done) | (simp; omega) | (unfold fits; omega) | (unfold fits; simp_all; omega) | (simp_all; omega) | (simp_all; done) | intro _ | exact zI ?_ ?_ | intro _))))))
      refine L.nil ?_
      have hlen2 : (takeR (takeR r 4) 1).length < r.length := by
        have g1 := takeR_len r 4
        have g2 := takeR_len (takeR r 4) 1
        omega
      repeat refine S.seq ?_
      refine S.goto ?_
      exact fun a w hR => hJ a w ⟨(b4, (M, x), n, A ++ [e], y77, takeR (takeR r 4) 1), by rw [he]; exact s.step h1'.1 h1'.2⟩ hlen2 (hR.weakP (by (repeat' (first | exact True.intro | exact Imp.refl _ | refine ⟨?_, ?_⟩))) (by (repeat (first | exact Sub.refl _ | refine Sub.pick (by first | exact p0 | exact pS p0 | exact pS (pS p0) | exact pS (pS (pS p0)) | exact pS (pS (pS (pS p0))) | exact pS (pS (pS (pS (pS p0))))) ?_))))
    have h1' : ¬ ((A.length : Int) < n ∧ 0 < r.length) := fun h => by
      rw [Bool.and_eq_false_iff, decide_eq_false_iff_not, decide_eq_false_iff_not] at h1
      omega
    obtain ⟨v1, v2⟩ := s.stop h1'
    obtain ⟨v, hv⟩ : ∃ v : Tab, v = ⟨ep, A, M⟩ := ⟨_, rfl⟩
    rw [← hv] at v1 v2
    refine freezeCell 4 1 62 rfl rfl rfl rfl ?_
    refine freezeCell 4 2 61 rfl rfl rfl rfl ?_
    refine blkAs 4 [.v (.int .i64 v.ep), arcs v.ar, intW v.no] rfl ⟨Imp.of_eq (by rw [hv]), Imp.of_eq (by rw [hv]; rfl), Imp.of_eq (by rw [hv]; rfl), trivial⟩ ?_
    repeat refine S.seq ?_
    refine S.region ?_
    (refine L.go (T := tt) tt_ok rfl rfl ?sd12 ?_; (try (case sd12 => (repeat' ((first | first | exact trivial | exact zA | with_reducible refine zI ?_ ?_ | exact zB | exact zC | exact zD | exact zE | rfl | exact zN rfl | omega | assumption | (simp; done) | (simp [splice]; done) | (simp; omega) | (unfold fits; omega) | (unfold fits; simp_all; omega) | (simp_all; omega) | (simp_all; done) | intro _ | exact zI ?_ ?_ | intro _))))); try (refine L.nil ?_))
    refine L.callP rfl rfl rfl rfl rfl rfl rfl ⟨trivial, by (repeat' ((first | first | exact trivial | exact zA | with_reducible refine zI ?_ ?_ | exact zB | exact zC | exact zD | exact zE | rfl | exact zN rfl | omega | assumption | (simp; done) | (simp [splice]; done) | (simp; omega) | (unfold fits; omega) | (unfold fits; simp_all; omega) | (simp_all; omega) | (simp_all; done) | intro _ | exact zI ?_ ?_ | intro _)))⟩ rfl (Imps.refl _) (tabput_p v v1) ?_
    (refine L.go (T := tt) tt_ok rfl rfl ?sd13 ?_; (try (case sd13 => (repeat' ((first | first | exact trivial | exact zA | with_reducible refine zI ?_ ?_ | exact zB | exact zC | exact zD | exact zE | rfl | exact zN rfl | omega | assumption | (simp; done) | (simp [splice]; done) | (simp; omega) | (unfold fits; omega) | (unfold fits; simp_all; omega) | (simp_all; omega) | (simp_all; done) | intro _ | exact zI ?_ ?_ | intro _))))); try (refine L.nil ?_))
    repeat refine S.seq ?_
    refine S.region ?_
    (refine L.go (T := tt) tt_ok rfl rfl ?sd14 ?_; (try (case sd14 => (repeat' ((first | first | exact trivial | exact zA | with_reducible refine zI ?_ ?_ | exact zB | exact zC | exact zD | exact zE | rfl | exact zN rfl | omega | assumption | (simp; done) | (simp [splice]; done) | (simp; omega) | (unfold fits; omega) | (unfold fits; simp_all; omega) | (simp_all; omega) | (simp_all; done) | intro _ | exact zI ?_ ?_ | intro _))))); try (refine L.nil ?_))
    refine L.callG rfl rfl rfl rfl rfl rfl rfl (fun _ => ⟨trivial, by (repeat' ((first | first | exact trivial | exact zA | with_reducible refine zI ?_ ?_ | exact zB | exact zC | exact zD | exact zE | rfl | exact zN rfl | omega | assumption | (simp; done) | (simp [splice]; done) | (simp; omega) | (unfold fits; omega) | (unfold fits; simp_all; omega) | (simp_all; omega) | (simp_all; done) | intro _ | exact zI ?_ ?_ | intro _)))⟩) rfl (Imps.refl _) (fun _ => byteseq_p (putO v) b) ?_
    (refine L.go (T := tt) tt_ok rfl rfl ?sd15 ?_; (try (case sd15 => (repeat' ((first | first | exact trivial | exact zA | with_reducible refine zI ?_ ?_ | exact zB | exact zC | exact zD | exact zE | rfl | exact zN rfl | omega | assumption | (simp; done) | (simp [splice]; done) | (simp; omega) | (unfold fits; omega) | (unfold fits; simp_all; omega) | (simp_all; omega) | (simp_all; done) | intro _ | exact zI ?_ ?_ | intro _))))); try (refine L.nil ?_))
    ((repeat refine S.seq ?_); refine S.cond rfl (fun h2 => ?_) (fun h2 => ?_) <;> (try first | refine S.skip ?_ | refine S.exit ?_))
    · have herr : getF b = (⟨0, [], []⟩, 2) := getF_err fun t hm hr hb => by
        have e := v2 t hm hr hb
        rw [← e] at hm hb
        rw [putE, if_pos hm, putO, if_pos hm, hb, beq_bytes, decide_eq_true rfl] at h2
        exact absurd h2 (by decide)
      repeat refine S.seq ?_
      refine S.region ?_
      (refine L.go (T := tt) tt_ok rfl rfl ?sd16 ?_; (try (case sd16 => (repeat' ((first | first | exact trivial | exact zA | with_reducible refine zI ?_ ?_ | exact zB | exact zC | exact zD | exact zE | rfl | exact zN rfl | omega | assumption | (simp; done) | (simp [splice]; done) | (simp; omega) | (unfold fits; omega) | (unfold fits; simp_all; omega) | (simp_all; omega) | (simp_all; done) | intro _ | exact zI ?_ ?_ | intro _))))); try (refine L.nil ?_))
      (refine L.store (T := tt) tt_ok rfl rfl rfl rfl rfl rfl ?sd32 ?_; (try (case sd32 => (repeat' ((first | first | exact trivial | exact zA | with_reducible refine zI ?_ ?_ | exact zB | exact zC | exact zD | exact zE | rfl | exact zN rfl | omega | assumption | (simp; done) | (simp [splice]; done) | (simp; omega) | (unfold fits; omega) | (unfold fits; simp_all; omega) | (simp_all; omega) | (simp_all; done) | intro _ | exact zI ?_ ?_ | intro _))))))
      (refine L.go (T := tt) tt_ok rfl rfl ?sd17 ?_; (try (case sd17 => (repeat' ((first | first | exact trivial | exact zA | with_reducible refine zI ?_ ?_ | exact zB | exact zC | exact zD | exact zE | rfl | exact zN rfl | omega | assumption | (simp; done) | (simp [splice]; done) | (simp; omega) | (unfold fits; omega) | (unfold fits; simp_all; omega) | (simp_all; omega) | (simp_all; done) | intro _ | exact zI ?_ ?_ | intro _))))); try (refine L.nil ?_))
      (((repeat refine S.seq ?_); refine S.ret ?_); refine E.retP (T := tt) tt_ok rfl rfl (by (repeat' ((first | first | exact trivial | exact zA | with_reducible refine zI ?_ ?_ | exact zB | exact zC | exact zD | exact zE | rfl | exact zN rfl | omega | assumption | (simp; done) | (simp [splice]; done) | (simp; omega) | (unfold fits; omega) | (unfold fits; simp_all; omega) | (simp_all; omega) | (simp_all; done) | intro _ | exact zI ?_ ?_ | intro _)))) ?_)
      rw [herr]
      exact Imp.tup ⟨Imp.agg ⟨Imp.refl _, Imp.nil _ _, Imp.nil _ _, trivial⟩, Imp.refl _, trivial⟩
    rw [Bool.or_eq_false_iff] at h2
    have hmv : mayT v = true := by
      cases h : mayT v
      · have h3 := h2.1
        rw [putE, if_neg (by rw [h]; decide)] at h3
        exact absurd h3 (by decide)
      · rfl
    have hpv : putL v = b := by
      have h3 := h2.2
      rw [putO, if_pos hmv] at h3
      rw [beq_bytes, Bool.not_eq_false', decide_eq_true_eq] at h3
      exact strL_inj h3
    have hok := getF_ok hmv v1 hpv
    repeat refine S.seq ?_
    refine S.region ?_
    (refine L.go (T := tt) tt_ok rfl rfl ?sd18 ?_; (try (case sd18 => (repeat' ((first | first | exact trivial | exact zA | with_reducible refine zI ?_ ?_ | exact zB | exact zC | exact zD | exact zE | rfl | exact zN rfl | omega | assumption | (simp; done) | (simp [splice]; done) | (simp; omega) | (unfold fits; omega) | (unfold fits; simp_all; omega) | (simp_all; omega) | (simp_all; done) | intro _ | exact zI ?_ ?_ | intro _))))); try (refine L.nil ?_))
    (refine L.store (T := tt) tt_ok rfl rfl rfl rfl rfl rfl ?sd33 ?_; (try (case sd33 => (repeat' ((first | first | exact trivial | exact zA | with_reducible refine zI ?_ ?_ | exact zB | exact zC | exact zD | exact zE | rfl | exact zN rfl | omega | assumption | (simp; done) | (simp [splice]; done) | (simp; omega) | (unfold fits; omega) | (unfold fits; simp_all; omega) | (simp_all; omega) | (simp_all; done) | intro _ | exact zI ?_ ?_ | intro _))))))
    (refine L.go (T := tt) tt_ok rfl rfl ?sd19 ?_; (try (case sd19 => (repeat' ((first | first | exact trivial | exact zA | with_reducible refine zI ?_ ?_ | exact zB | exact zC | exact zD | exact zE | rfl | exact zN rfl | omega | assumption | (simp; done) | (simp [splice]; done) | (simp; omega) | (unfold fits; omega) | (unfold fits; simp_all; omega) | (simp_all; omega) | (simp_all; done) | intro _ | exact zI ?_ ?_ | intro _))))); try (refine L.nil ?_))
    (((repeat refine S.seq ?_); refine S.ret ?_); refine E.retP (T := tt) tt_ok rfl rfl (by (repeat' ((first | first | exact trivial | exact zA | with_reducible refine zI ?_ ?_ | exact zB | exact zC | exact zD | exact zE | rfl | exact zN rfl | omega | assumption | (simp; done) | (simp [splice]; done) | (simp; omega) | (unfold fits; omega) | (unfold fits; simp_all; omega) | (simp_all; omega) | (simp_all; done) | intro _ | exact zI ?_ ?_ | intro _)))) ?_)
    rw [hok]
    exact Imp.refl _
  · rintro ⟨⟨b4, M, x, r⟩, s⟩ J hJ hC
    dsimp only at s hJ ⊢
    have slen := s.len
    ((repeat refine S.seq ?_); refine S.region (L.go (T := tt) tt_ok rfl rfl ?sd2 ?_); (try (case sd2 => (repeat' ((first | first | exact trivial | exact zA | with_reducible refine zI ?_ ?_ | exact zB | exact zC | exact zD | exact zE | rfl | exact zN rfl | omega | assumption | (simp; done) | (simp [splice]; done) | (simp; omega) | (unfold fits; omega) | (unfold fits; simp_all; omega) | (simp_all; omega) | (simp_all; done) | intro _ | exact zI ?_ ?_ | intro _))))); try (refine L.nil ?_))
    ((repeat refine S.seq ?_); refine S.cond rfl (fun h1 => ?_) (fun h1 => ?_) <;> (try first | refine S.skip ?_ | refine S.exit ?_))
    · have h1' : (M.length : Int) < n0 ∧ 0 < r.length := by
        rw [Bool.and_eq_true, decide_eq_true_eq, decide_eq_true_eq] at h1
        exact ⟨h1.1, by omega⟩
      cases r with
      | nil => exact absurd h1'.2 (by simp)
      | cons c r =>
        have hcl := c.toNat_lt
        obtain ⟨e1, e2⟩ := take_one c r
        have hml : M.length ≤ 100000 := by omega
        obtain ⟨z, hz⟩ : ∃ z, z = (c.toNat : Int) - 1 := ⟨_, rfl⟩
        repeat refine S.seq ?_
        refine S.region ?_
        (refine L.go (T := tt) tt_ok rfl rfl ?sd20 ?_; (try (case sd20 => (repeat' ((first | first | exact trivial | exact zA | with_reducible refine zI ?_ ?_ | exact zB | exact zC | exact zD | exact zE | rfl | exact zN rfl | omega | assumption | (simp; done) | (simp [splice]; done) | (simp; omega) | (unfold fits; omega) | (unfold fits; simp_all; omega) | (simp_all; omega) | (simp_all; done) | intro _ | exact zI ?_ ?_ | intro _))))); try (refine L.nil ?_))
        refine L.callP rfl rfl rfl rfl rfl rfl rfl ⟨trivial, by (repeat' ((first | first | exact trivial | exact zA | with_reducible refine zI ?_ ?_ | exact zB | exact zC | exact zD | exact zE | rfl | exact zN rfl | omega | assumption | (simp; done) | (simp [splice]; done) | (simp; omega) | (unfold fits; omega) | (unfold fits; simp_all; omega) | (simp_all; omega) | (simp_all; done) | intro _ | exact zI ?_ ?_ | intro _)))⟩ rfl (Imps.refl _) (take_p (c :: r) 1 (by omega)) ?_
        rw [e1, e2]
        (refine L.go (T := tt) tt_ok rfl rfl ?sd21 ?_; (try (case sd21 => (repeat' ((first | first | exact trivial | exact zA | with_reducible refine zI ?_ ?_ | exact zB | exact zC | exact zD | exact zE | rfl | exact zN rfl | omega | assumption | (simp; done) | (simp [splice]; done) | (simp; omega) | (unfold fits; omega) | (unfold fits; simp_all; omega) | (simp_all; omega) | (simp_all; done) | intro _ | exact zI ?_ ?_ | intro _))))); try (refine L.nil ?_))
        repeat refine S.seq ?_
        refine S.region ?_
        (refine L.go (T := tt) tt_ok rfl rfl ?sd22 ?_; (try (case sd22 => (repeat' ((first | first | exact trivial | exact zA | with_reducible refine zI ?_ ?_ | exact zB | exact zC | exact zD | exact zE | rfl | exact zN rfl | omega | assumption | (simp; done) | (simp [splice]; done) | (simp; omega) | (unfold fits; omega) | (unfold fits; simp_all; omega) | (simp_all; omega) | (simp_all; done) | intro _ | exact zI ?_ ?_ | intro _))))); try (refine L.nil ?_))
        refine slotAs 41 (.v (.int .i64 z)) rfl (Imp.of_eq (by rw [hz])) ?_
        refine L.buildSlice (T := tt) 63 tt_ok rfl rfl rfl rfl rfl rfl (by decide) (by decide) rfl rfl (by (repeat' ((first | first | exact trivial | exact zA | with_reducible refine zI ?_ ?_ | exact zB | exact zC | exact zD | exact zE | rfl | exact zN rfl | omega | assumption | (simp; done) | (simp [splice]; done) | (simp; omega) | (unfold fits; omega) | (unfold fits; simp_all; omega) | (simp_all; omega) | (simp_all; done) | intro _ | exact zI ?_ ?_ | intro _)))) fun x42 => ?_
        refine L.append (T := tt) tt_ok rfl rfl rfl rfl rfl rfl rfl rfl rfl rfl (by (repeat' ((first | first | exact trivial | exact zA | with_reducible refine zI ?_ ?_ | exact zB | exact zC | exact zD | exact zE | rfl | exact zN rfl | omega | assumption | (simp; done) | (simp [splice]; done) | (simp; omega) | (unfold fits; omega) | (unfold fits; simp_all; omega) | (simp_all; omega) | (simp_all; done) | intro _ | exact zI ?_ ?_ | intro _)))) ⟨rfl, by decide, by decide⟩ (by simp; omega) fun y43 => ?_
        refine ownAs 61 (gOf intC (M ++ [z])) rfl (show M.length + 1 = (M ++ [z]).length by simp) (fun i hi => app1_h intC M z _ rfl rfl hi) ?_
        (refine L.go (T := tt) tt_ok rfl rfl ?sd23 ?_; (try (case sd23 => (repeat' ((first | first | exact trivial | exact zA | with_reducible refine zI ?_ ?_ | exact zB | exact zC | exact zD | exact zE | rfl | exact zN rfl | omega | assumption | (simp; done) | (simp [splice]; done) | (simp; omega) | (unfold fits; omega) | (unfold fits; simp_all; omega) | (simp_all; omega) | (simp_all; done) | intro _ | exact zI ?_ ?_ | intro _))))); try (refine L.nil ?_))
        (refine L.store (T := tt) tt_ok rfl rfl rfl rfl rfl rfl ?sd34 ?_; (try (case sd34 => (repeat' ((first | first | exact trivial | exact zA | with_reducible refine zI ?_ ?_ | exact zB | exact zC | exact zD | exact zE | rfl | exact zN rfl | omega | assumption | (simp; done) | (simp [splice]; done) | (simp; omega) | (unfold fits; omega) | (unfold fits; simp_all; omega) | (simp_all; omega) | (simp_all; done) | intro _ | exact zI ?_ ?_ | intro _))))))
        refine L.nil ?_
        repeat refine S.seq ?_
        refine S.goto ?_
        exact fun a w hR => hJ a w ⟨(b4, M ++ [z], y43, r), by rw [hz]; exact s.step h1'.1⟩ (by show b.length + 1 + r.length < b.length + 1 + (c :: r).length; simp) (hR.weakP (by (repeat' (first | exact True.intro | exact Imp.refl _ | refine ⟨?_, ?_⟩))) (by (repeat (first | exact Sub.refl _ | refine Sub.pick (by first | exact p0 | exact pS p0 | exact pS (pS p0) | exact pS (pS (pS p0)) | exact pS (pS (pS (pS p0))) | exact pS (pS (pS (pS (pS p0))))) ?_))))
    have h1' : ¬ ((M.length : Int) < n0 ∧ 0 < r.length) := fun h => by
      rw [Bool.and_eq_false_iff, decide_eq_false_iff_not, decide_eq_false_iff_not] at h1
      omega
    repeat refine S.seq ?_
    refine S.region ?_
    (refine L.go (T := tt) tt_ok rfl rfl ?sd24 ?_; (try (case sd24 => (repeat' ((first | first | exact trivial | exact zA | with_reducible refine zI ?_ ?_ | exact zB | exact zC | exact zD | exact zE | rfl | exact zN rfl | omega | assumption | (simp; done) | (simp [splice]; done) | (simp; omega) | (unfold fits; omega) | (unfold fits; simp_all; omega) | (simp_all; omega) | (simp_all; done) | intro _ | exact zI ?_ ?_ | intro _))))); try (refine L.nil ?_))
    refine L.callP rfl rfl rfl rfl rfl rfl rfl ⟨trivial, by (repeat' ((first | first | exact trivial | exact zA | with_reducible refine zI ?_ ?_ | exact zB | exact zC | exact zD | exact zE | rfl | exact zN rfl | omega | assumption | (simp; done) | (simp [splice]; done) | (simp; omega) | (unfold fits; omega) | (unfold fits; simp_all; omega) | (simp_all; omega) | (simp_all; done) | intro _ | exact zI ?_ ?_ | intro _)))⟩ rfl (Imps.refl _) (take_p r 2 (by omega)) ?_
    (refine L.go (T := tt) tt_ok rfl rfl ?sd25 ?_; (try (case sd25 => (repeat' ((first | first | exact trivial | exact zA | with_reducible refine zI ?_ ?_ | exact zB | exact zC | exact zD | exact zE | rfl | exact zN rfl | omega | assumption | (simp; done) | (simp [splice]; done) | (simp; omega) | (unfold fits; omega) | (unfold fits; simp_all; omega) | (simp_all; omega) | (simp_all; done) | intro _ | exact zI ?_ ?_ | intro _))))); try (refine L.nil ?_))
    refine nilRow 62 38 2 (gOf Arc.cells []) ?_
    refine blkAs 4 [.v (.int .i64 ep), .ref 62 (.slice none 0 0), .ref 61 x] rfl ⟨Imp.refl _, Imp.vref rfl, Imp.refl _, trivial⟩ ?_
    repeat refine S.seq ?_
    refine S.label ?_
    exact fun a w hR => hC ⟨(b4, (M, x), takeV r 2, [], .slice none 0 0, takeR r 2), s.stop h1'⟩ a w (hR.weakP (by (repeat' (first | exact True.intro | exact Imp.refl _ | refine ⟨?_, ?_⟩))) (by (repeat (first | exact Sub.refl _ | refine Sub.pick (by first | exact p0 | exact pS p0 | exact pS (pS p0) | exact pS (pS (pS p0)) | exact pS (pS (pS (pS p0))) | exact pS (pS (pS (pS (pS p0))))) ?_))))
  · intro J hB
    repeat refine S.seq ?_
    refine S.region ?_
    refine L.alloc (T := tt) 4 tt_ok rfl rfl rfl rfl rfl fun b4 => ?_
    refine L.nil ?_
    ((repeat refine S.seq ?_); refine S.region (L.go (T := tt) tt_ok rfl rfl ?sd3 ?_); (try (case sd3 => (repeat' ((first | first | exact trivial | exact zA | with_reducible refine zI ?_ ?_ | exact zB | exact zC | exact zD | exact zE | rfl | exact zN rfl | omega | assumption | (simp; done) | (simp [splice]; done) | (simp; omega) | (unfold fits; omega) | (unfold fits; simp_all; omega) | (simp_all; omega) | (simp_all; done) | intro _ | exact zI ?_ ?_ | intro _))))); try (refine L.nil ?_))
    ((repeat refine S.seq ?_); refine S.region (L.go (T := tt) tt_ok rfl rfl ?sd4 ?_); (try (case sd4 => (repeat' ((first | first | exact trivial | exact zA | with_reducible refine zI ?_ ?_ | exact zB | exact zC | exact zD | exact zE | rfl | exact zN rfl | omega | assumption | (simp; done) | (simp [splice]; done) | (simp; omega) | (unfold fits; omega) | (unfold fits; simp_all; omega) | (simp_all; omega) | (simp_all; done) | intro _ | exact zI ?_ ?_ | intro _))))); try (refine L.nil ?_))
    repeat refine S.seq ?_
    refine S.region ?_
    (refine L.go (T := tt) tt_ok rfl rfl ?sd26 ?_; (try (case sd26 => (repeat' ((first | first | exact trivial | exact zA | with_reducible refine zI ?_ ?_ | exact zB | exact zC | exact zD | exact zE | rfl | exact zN rfl | omega | assumption | (simp; done) | (simp [splice]; done) | (simp; omega) | (unfold fits; omega) | (unfold fits; simp_all; omega) | (simp_all; omega) | (simp_all; done) | intro _ | exact zI ?_ ?_ | intro _))))); try (refine L.nil ?_))
    refine L.callP rfl rfl rfl rfl rfl rfl rfl ⟨trivial, by (repeat' ((first | first | exact trivial | exact zA | with_reducible refine zI ?_ ?_ | exact zB | exact zC | exact zD | exact zE | rfl | exact zN rfl | omega | assumption | (simp; done) | (simp [splice]; done) | (simp; omega) | (unfold fits; omega) | (unfold fits; simp_all; omega) | (simp_all; omega) | (simp_all; done) | intro _ | exact zI ?_ ?_ | intro _)))⟩ rfl (Imps.refl _) (take_p b 4 (by omega)) ?_
    rw [← hep]
    (refine L.go (T := tt) tt_ok rfl rfl ?sd27 ?_; (try (case sd27 => (repeat' ((first | first | exact trivial | exact zA | with_reducible refine zI ?_ ?_ | exact zB | exact zC | exact zD | exact zE | rfl | exact zN rfl | omega | assumption | (simp; done) | (simp [splice]; done) | (simp; omega) | (unfold fits; omega) | (unfold fits; simp_all; omega) | (simp_all; omega) | (simp_all; done) | intro _ | exact zI ?_ ?_ | intro _))))); try (refine L.nil ?_))
    (refine L.store (T := tt) tt_ok rfl rfl rfl rfl rfl rfl ?sd35 ?_; (try (case sd35 => (repeat' ((first | first | exact trivial | exact zA | with_reducible refine zI ?_ ?_ | exact zB | exact zC | exact zD | exact zE | rfl | exact zN rfl | omega | assumption | (simp; done) | (simp [splice]; done) | (simp; omega) | (unfold fits; omega) | (unfold fits; simp_all; omega) | (simp_all; omega) | (simp_all; done) | intro _ | exact zI ?_ ?_ | intro _))))))
    (refine L.go (T := tt) tt_ok rfl rfl ?sd28 ?_; (try (case sd28 => (repeat' ((first | first | exact trivial | exact zA | with_reducible refine zI ?_ ?_ | exact zB | exact zC | exact zD | exact zE | rfl | exact zN rfl | omega | assumption | (simp; done) | (simp [splice]; done) | (simp; omega) | (unfold fits; omega) | (unfold fits; simp_all; omega) | (simp_all; omega) | (simp_all; done) | intro _ | exact zI ?_ ?_ | intro _))))); try (refine L.nil ?_))
    repeat refine S.seq ?_
    refine S.region ?_
    (refine L.go (T := tt) tt_ok rfl rfl ?sd29 ?_; (try (case sd29 => (repeat' ((first | first | exact trivial | exact zA | with_reducible refine zI ?_ ?_ | exact zB | exact zC | exact zD | exact zE | rfl | exact zN rfl | omega | assumption | (simp; done) | (simp [splice]; done) | (simp; omega) | (unfold fits; omega) | (unfold fits; simp_all; omega) | (simp_all; omega) | (simp_all; done) | intro _ | exact zI ?_ ?_ | intro _))))); try (refine L.nil ?_))
    refine L.callP rfl rfl rfl rfl rfl rfl rfl ⟨trivial, by (repeat' ((first | first | exact trivial | exact zA | with_reducible refine zI ?_ ?_ | exact zB | exact zC | exact zD | exact zE | rfl | exact zN rfl | omega | assumption | (simp; done) | (simp [splice]; done) | (simp; omega) | (unfold fits; omega) | (unfold fits; simp_all; omega) | (simp_all; omega) | (simp_all; done) | intro _ | exact zI ?_ ?_ | intro _)))⟩ rfl (Imps.refl _) (take_p (takeR b 4) 1 (by omega)) ?_
    rw [← hn0]
    (refine L.go (T := tt) tt_ok rfl rfl ?sd30 ?_; (try (case sd30 => (repeat' ((first | first | exact trivial | exact zA | with_reducible refine zI ?_ ?_ | exact zB | exact zC | exact zD | exact zE | rfl | exact zN rfl | omega | assumption | (simp; done) | (simp [splice]; done) | (simp; omega) | (unfold fits; omega) | (unfold fits; simp_all; omega) | (simp_all; omega) | (simp_all; done) | intro _ | exact zI ?_ ?_ | intro _))))); try (refine L.nil ?_))
    refine nilRow 61 3 1 (gOf intC []) ?_
    refine blkAs 4 [.v (.int .i64 ep), .v (.slice none 0 0), .ref 61 (.slice none 0 0)] rfl ⟨Imp.refl _, Imp.refl _, Imp.vref rfl, trivial⟩ ?_
    repeat refine S.seq ?_
    refine S.label ?_
    exact fun a w hR => hB ⟨(b4, [], .slice none 0 0, takeR (takeR b 4) 1), st⟩ a w (hR.weakP (by (repeat' (first | exact True.intro | exact Imp.refl _ | refine ⟨?_, ?_⟩))) (by (repeat (first | exact Sub.refl _ | refine Sub.pick (by first | exact p0 | exact pS p0 | exact pS (pS p0) | exact pS (pS (pS p0)) | exact pS (pS (pS (pS p0))) | exact pS (pS (pS (pS (pS p0))))) ?_))))
end Go.Proofs.YtlgdjmmjconbfaaDoor

/- What the program tells of a few: law 10. -/
namespace Go.Proofs.YtlgdjmmjconbfaaDoor
set_option linter.unusedVariables false
set_option linter.unusedSimpArgs false
set_option maxHeartbeats 8000000
open Go.RowKit
set_option maxRecDepth 4000

theorem k1 : hasA (bldA [1, 1]) 0 = true := by decide +kernel
theorem k2 : hasA (bldA [1, 1]) 1 = true := by decide +kernel
theorem k3 : newOk [1, 1] 2 = true := by decide +kernel
theorem k4 : mayT ⟨1, bldA [1, 1], [0, 1]⟩ = true := by decide +kernel
theorem k5 : 0 < (halveA (bldA [1, 1]) 1 2).length := by decide +kernel
theorem k6 : hasA (halveA (bldA [1, 1]) 1 2) 2 = true := by decide +kernel
theorem k7 : (bldA [1, 1]).length ≤ 500 := by decide +kernel
theorem k8 : OkW [1, 1] := (okW_iff _).1 (by decide +kernel)
structure ToldT (R S : List Arc) : Prop where
  h0 : hasA R 0 = true
  h1 : hasA R 1 = true
  new : newT [1, 1] 2 = ⟨1, R, [0, 1]⟩ ∧ newE [1, 1] 2 = 0
  may : mayT ⟨1, R, [0, 1]⟩ = true
  hv : S = halveA R 1 2
  some : 0 < S.length
  has : hasA S 2 = true
  len : R.length ≤ 500
  rng : ∀ a ∈ R, 0 ≤ a.at0 ∧ a.at0 < 4294967296
theorem nodeTo2 {l : List Arc} (h0 : hasA l 0 = true) (h1 : hasA l 1 = true) : nodeTo l 2 2 = [0, 1] := by
  rw [nodeTo, nodeTo, nodeTo]
  have h0 : hasA l ((0 : Nat) : Int) = true := h0
  have h1' : hasA l ((0 + 1 : Nat) : Int) = true := h1
  rw [if_pos h0, if_pos h1']
  rfl
theorem toldT : ∃ R S, ToldT R S := by
  refine ⟨bldA [1, 1], halveA (bldA [1, 1]) 1 2, k1, k2, ?_, k4, rfl, k5, k6, k7, (build_may k8).2.2.2⟩
  rw [newT, newE, if_pos k3, if_pos k3]
  refine ⟨?_, rfl⟩
  show (⟨1, bldA [1, 1], nodeTo (bldA [1, 1]) 2 2⟩ : Tab) = _
  rw [nodeTo2 k1 k2]
theorem k10 : getF [] = (⟨0, [], []⟩, 2) := getF_err fun t _ _ h => by
  have := putL_len t
  rw [h] at this
  simp at this
  omega

theorem told10_p : PFn Tryd.prog 28 [] (.v (.bool true)) := by
  obtain ⟨R1, S1, h⟩ := toldT
  obtain ⟨t, ht⟩ : ∃ t : Tab, t = ⟨1, R1, [0, 1]⟩ := ⟨_, rfl⟩
  have hmay := h.may
  have hnew := h.new.1
  rw [← ht] at hmay hnew
  have e1 : t.ep = 1 := by rw [ht]
  have e2 : t.ar = R1 := by rw [ht]
  have e3 : t.no = [0, 1] := by rw [ht]
  have hin : in32 t := by unfold in32; rw [e2]; exact h.rng
  have c1 : ((mayT t && hasA t.ar 1) && decide (t.ep < 1073741824)) = true := by rw [hmay, e1, e2, h.h1]; rfl
  have c0 : ((mayT t && hasA t.ar 0) && decide (t.ep < 1073741824)) = true := by rw [hmay, e1, e2, h.h0]; rfl
  have n2 : t.no.length = 2 := by rw [e3]; rfl
  have pS := split_p t 1 c1 (by omega) (by rw [e2]; exact h.len) (by unfold inR32; rw [e2]; exact h.rng) S1 (by rw [e2, n2]; exact h.hv) h.some (by rw [n2]; exact h.has) (by omega) (by omega)
  have pM := move_p t 0 1 c0 (by omega) (by rw [e3]; decide) (by decide) (by omega) (by rw [e2]; exact h.len) (by omega)
  have pN := move_same t 0 0 c0 (by omega) (by rw [e3]; rfl) (by decide)
  have pP := tabput_p t hin
  have hl : (putL t).length ≤ 100000 := by rw [putL_len, n2, e2]; have := h.len; omega
  have pG := tabget_p (putL t) hl
  have pE := tabget_p [] (by decide)
  have pY := tabsame_p t t
  have pX := tabmay_p t
  rw [putO, putE, if_pos hmay, if_pos hmay] at pP
  rw [getF_ok hmay hin rfl] at pG
  rw [k10] at pE
  rw [sameT_self] at pY
  rw [hmay] at pX
  have pW := tabnew_p [1, 1] 2 (fit_lit (by decide))
  rw [hnew, h.new.2] at pW
  dsimp only at pG pE
  obtain ⟨t2, ht2⟩ : ∃ t2 : Tab, t2 = ⟨t.ep + 1, S1, t.no ++ [t.no.getD (Int.toNat 1) 0]⟩ := ⟨_, rfl⟩
  rw [← ht2, n2] at pS
  have a1 : t2.ep = 2 := by rw [ht2, e1]; rfl
  have a2 : t2.no.length = 3 := by rw [ht2, e3]; rfl
  have a3 : t2.no.getD 2 0 = 1 := by rw [ht2, e3]; rfl
  obtain ⟨t3, ht3⟩ : ∃ t3 : Tab, t3 = ⟨t.ep + 1, t.ar, t.no.set (Int.toNat 0) 1⟩ := ⟨_, rfl⟩
  rw [← ht3] at pM
  have b1' : t3.no.length = 2 := by rw [ht3, e3]; rfl
  have b2' : t3.no.getD 0 0 = 1 := by rw [ht3, e3]; rfl
  have d1 : t.no.getD 1 0 = 1 := by rw [e3]; rfl
  obtain ⟨B, hB⟩ : ∃ B, B = putL t := ⟨_, rfl⟩
  rw [← hB] at pP pG
  clear ht2 ht3 hB hl c0 c1 hin hnew hmay e2 e3 ht h
  refine FnC.intro Tryd.func28 rfl Tryd.ntmps28 rfl ?_; intro off w0
  ((repeat refine S.seq ?_); refine S.region (L.go (T := tt) tt_ok rfl rfl ?sd1 ?_); (try (case sd1 => (repeat' ((first | first | exact trivial | exact zA | with_reducible refine zI ?_ ?_ | exact zB | exact zC | exact zD | exact zE | rfl | exact zN rfl | omega | assumption | (simp; done) | (simp [splice]; done) | (simp; omega) | (unfold fits; omega) | (unfold fits; simp_all; omega) | (simp_all; omega) | (simp_all; done) | intro _ | exact zI ?_ ?_ | intro _))))); try (refine L.nil ?_))
  repeat refine S.seq ?_
  refine S.region ?_
  refine L.buildSlice (T := tt) 60 tt_ok rfl rfl rfl rfl rfl rfl (by decide) (by decide) rfl rfl (by (repeat' ((first | first | exact trivial | exact zA | with_reducible refine zI ?_ ?_ | exact zB | exact zC | exact zD | exact zE | rfl | exact zN rfl | omega | assumption | (simp; done) | (simp [splice]; done) | (simp; omega) | (unfold fits; omega) | (unfold fits; simp_all; omega) | (simp_all; omega) | (simp_all; done) | intro _ | exact zI ?_ ?_ | intro _)))) fun x17 => ?_
  refine freezeSlot 17 60 rfl rfl rfl (slotAs 17 (intW [1, 1]) rfl (Imp.lst rfl fun i hi => ?_) ?_)
  · have hi : i < 2 := hi
    have : i = 0 ∨ i = 1 := by omega
    rcases this with rfl | rfl <;> rfl
  refine L.callP rfl rfl rfl rfl rfl rfl rfl ⟨trivial, by (repeat' ((first | first | exact trivial | exact zA | with_reducible refine zI ?_ ?_ | exact zB | exact zC | exact zD | exact zE | rfl | exact zN rfl | omega | assumption | (simp; done) | (simp [splice]; done) | (simp; omega) | (unfold fits; omega) | (unfold fits; simp_all; omega) | (simp_all; omega) | (simp_all; done) | intro _ | exact zI ?_ ?_ | intro _)))⟩ rfl (Imps.refl _) pW ?_
  (refine L.go (T := tt) tt_ok rfl rfl ?sd2 ?_; (try (case sd2 => (repeat' ((first | first | exact trivial | exact zA | with_reducible refine zI ?_ ?_ | exact zB | exact zC | exact zD | exact zE | rfl | exact zN rfl | omega | assumption | (simp; done) | (simp [splice]; done) | (simp; omega) | (unfold fits; omega) | (unfold fits; simp_all; omega) | (simp_all; omega) | (simp_all; done) | intro _ | exact zI ?_ ?_ | intro _))))); try (refine L.nil ?_))
  refine L.alloc (T := tt) 1 tt_ok rfl rfl rfl rfl rfl fun b1 => ?_
  (refine L.store (T := tt) tt_ok rfl rfl rfl rfl rfl rfl ?sd23 ?_; (try (case sd23 => (repeat' ((first | first | exact trivial | exact zA | with_reducible refine zI ?_ ?_ | exact zB | exact zC | exact zD | exact zE | rfl | exact zN rfl | omega | assumption | (simp; done) | (simp [splice]; done) | (simp; omega) | (unfold fits; omega) | (unfold fits; simp_all; omega) | (simp_all; omega) | (simp_all; done) | intro _ | exact zI ?_ ?_ | intro _))))))
  (refine L.go (T := tt) tt_ok rfl rfl ?sd3 ?_; (try (case sd3 => (repeat' ((first | first | exact trivial | exact zA | with_reducible refine zI ?_ ?_ | exact zB | exact zC | exact zD | exact zE | rfl | exact zN rfl | omega | assumption | (simp; done) | (simp [splice]; done) | (simp; omega) | (unfold fits; omega) | (unfold fits; simp_all; omega) | (simp_all; omega) | (simp_all; done) | intro _ | exact zI ?_ ?_ | intro _))))); try (refine L.nil ?_))
  repeat refine S.seq ?_
  refine S.region ?_
  (refine L.go (T := tt) tt_ok rfl rfl ?sd4 ?_; (try (case sd4 => (repeat' ((first | first | exact trivial | exact zA | with_reducible refine zI ?_ ?_ | exact zB | exact zC | exact zD | exact zE | rfl | exact zN rfl | omega | assumption | (simp; done) | (simp [splice]; done) | (simp; omega) | (unfold fits; omega) | (unfold fits; simp_all; omega) | (simp_all; omega) | (simp_all; done) | intro _ | exact zI ?_ ?_ | intro _))))); try (refine L.nil ?_))
  refine L.callP rfl rfl rfl rfl rfl rfl rfl ⟨trivial, by (repeat' ((first | first | exact trivial | exact zA | with_reducible refine zI ?_ ?_ | exact zB | exact zC | exact zD | exact zE | rfl | exact zN rfl | omega | assumption | (simp; done) | (simp [splice]; done) | (simp; omega) | (unfold fits; omega) | (unfold fits; simp_all; omega) | (simp_all; omega) | (simp_all; done) | intro _ | exact zI ?_ ?_ | intro _)))⟩ rfl (Imps.refl _) pS ?_
  (refine L.go (T := tt) tt_ok rfl rfl ?sd5 ?_; (try (case sd5 => (repeat' ((first | first | exact trivial | exact zA | with_reducible refine zI ?_ ?_ | exact zB | exact zC | exact zD | exact zE | rfl | exact zN rfl | omega | assumption | (simp; done) | (simp [splice]; done) | (simp; omega) | (unfold fits; omega) | (unfold fits; simp_all; omega) | (simp_all; omega) | (simp_all; done) | intro _ | exact zI ?_ ?_ | intro _))))); try (refine L.nil ?_))
  refine L.alloc (T := tt) 3 tt_ok rfl rfl rfl rfl rfl fun b3 => ?_
  (refine L.store (T := tt) tt_ok rfl rfl rfl rfl rfl rfl ?sd24 ?_; (try (case sd24 => (repeat' ((first | first | exact trivial | exact zA | with_reducible refine zI ?_ ?_ | exact zB | exact zC | exact zD | exact zE | rfl | exact zN rfl | omega | assumption | (simp; done) | (simp [splice]; done) | (simp; omega) | (unfold fits; omega) | (unfold fits; simp_all; omega) | (simp_all; omega) | (simp_all; done) | intro _ | exact zI ?_ ?_ | intro _))))))
  (refine L.go (T := tt) tt_ok rfl rfl ?sd6 ?_; (try (case sd6 => (repeat' ((first | first | exact trivial | exact zA | with_reducible refine zI ?_ ?_ | exact zB | exact zC | exact zD | exact zE | rfl | exact zN rfl | omega | assumption | (simp; done) | (simp [splice]; done) | (simp; omega) | (unfold fits; omega) | (unfold fits; simp_all; omega) | (simp_all; omega) | (simp_all; done) | intro _ | exact zI ?_ ?_ | intro _))))); try (refine L.nil ?_))
  repeat refine S.seq ?_
  refine S.region ?_
  (refine L.go (T := tt) tt_ok rfl rfl ?sd7 ?_; (try (case sd7 => (repeat' ((first | first | exact trivial | exact zA | with_reducible refine zI ?_ ?_ | exact zB | exact zC | exact zD | exact zE | rfl | exact zN rfl | omega | assumption | (simp; done) | (simp [splice]; done) | (simp; omega) | (unfold fits; omega) | (unfold fits; simp_all; omega) | (simp_all; omega) | (simp_all; done) | intro _ | exact zI ?_ ?_ | intro _))))); try (refine L.nil ?_))
  refine L.callP rfl rfl rfl rfl rfl rfl rfl ⟨trivial, by (repeat' ((first | first | exact trivial | exact zA | with_reducible refine zI ?_ ?_ | exact zB | exact zC | exact zD | exact zE | rfl | exact zN rfl | omega | assumption | (simp; done) | (simp [splice]; done) | (simp; omega) | (unfold fits; omega) | (unfold fits; simp_all; omega) | (simp_all; omega) | (simp_all; done) | intro _ | exact zI ?_ ?_ | intro _)))⟩ rfl (Imps.refl _) pM ?_
  (refine L.go (T := tt) tt_ok rfl rfl ?sd8 ?_; (try (case sd8 => (repeat' ((first | first | exact trivial | exact zA | with_reducible refine zI ?_ ?_ | exact zB | exact zC | exact zD | exact zE | rfl | exact zN rfl | omega | assumption | (simp; done) | (simp [splice]; done) | (simp; omega) | (unfold fits; omega) | (unfold fits; simp_all; omega) | (simp_all; omega) | (simp_all; done) | intro _ | exact zI ?_ ?_ | intro _))))); try (refine L.nil ?_))
  refine L.alloc (T := tt) 6 tt_ok rfl rfl rfl rfl rfl fun b6 => ?_
  (refine L.store (T := tt) tt_ok rfl rfl rfl rfl rfl rfl ?sd25 ?_; (try (case sd25 => (repeat' ((first | first | exact trivial | exact zA | with_reducible refine zI ?_ ?_ | exact zB | exact zC | exact zD | exact zE | rfl | exact zN rfl | omega | assumption | (simp; done) | (simp [splice]; done) | (simp; omega) | (unfold fits; omega) | (unfold fits; simp_all; omega) | (simp_all; omega) | (simp_all; done) | intro _ | exact zI ?_ ?_ | intro _))))))
  (refine L.go (T := tt) tt_ok rfl rfl ?sd9 ?_; (try (case sd9 => (repeat' ((first | first | exact trivial | exact zA | with_reducible refine zI ?_ ?_ | exact zB | exact zC | exact zD | exact zE | rfl | exact zN rfl | omega | assumption | (simp; done) | (simp [splice]; done) | (simp; omega) | (unfold fits; omega) | (unfold fits; simp_all; omega) | (simp_all; omega) | (simp_all; done) | intro _ | exact zI ?_ ?_ | intro _))))); try (refine L.nil ?_))
  repeat refine S.seq ?_
  refine S.region ?_
  (refine L.go (T := tt) tt_ok rfl rfl ?sd10 ?_; (try (case sd10 => (repeat' ((first | first | exact trivial | exact zA | with_reducible refine zI ?_ ?_ | exact zB | exact zC | exact zD | exact zE | rfl | exact zN rfl | omega | assumption | (simp; done) | (simp [splice]; done) | (simp; omega) | (unfold fits; omega) | (unfold fits; simp_all; omega) | (simp_all; omega) | (simp_all; done) | intro _ | exact zI ?_ ?_ | intro _))))); try (refine L.nil ?_))
  refine L.callP rfl rfl rfl rfl rfl rfl rfl ⟨trivial, by (repeat' ((first | first | exact trivial | exact zA | with_reducible refine zI ?_ ?_ | exact zB | exact zC | exact zD | exact zE | rfl | exact zN rfl | omega | assumption | (simp; done) | (simp [splice]; done) | (simp; omega) | (unfold fits; omega) | (unfold fits; simp_all; omega) | (simp_all; omega) | (simp_all; done) | intro _ | exact zI ?_ ?_ | intro _)))⟩ rfl (Imps.refl _) pN ?_
  (refine L.go (T := tt) tt_ok rfl rfl ?sd11 ?_; (try (case sd11 => (repeat' ((first | first | exact trivial | exact zA | with_reducible refine zI ?_ ?_ | exact zB | exact zC | exact zD | exact zE | rfl | exact zN rfl | omega | assumption | (simp; done) | (simp [splice]; done) | (simp; omega) | (unfold fits; omega) | (unfold fits; simp_all; omega) | (simp_all; omega) | (simp_all; done) | intro _ | exact zI ?_ ?_ | intro _))))); try (refine L.nil ?_))
  refine L.alloc (T := tt) 8 tt_ok rfl rfl rfl rfl rfl fun b8 => ?_
  (refine L.store (T := tt) tt_ok rfl rfl rfl rfl rfl rfl ?sd26 ?_; (try (case sd26 => (repeat' ((first | first | exact trivial | exact zA | with_reducible refine zI ?_ ?_ | exact zB | exact zC | exact zD | exact zE | rfl | exact zN rfl | omega | assumption | (simp; done) | (simp [splice]; done) | (simp; omega) | (unfold fits; omega) | (unfold fits; simp_all; omega) | (simp_all; omega) | (simp_all; done) | intro _ | exact zI ?_ ?_ | intro _))))))
  (refine L.go (T := tt) tt_ok rfl rfl ?sd12 ?_; (try (case sd12 => (repeat' ((first | first | exact trivial | exact zA | with_reducible refine zI ?_ ?_ | exact zB | exact zC | exact zD | exact zE | rfl | exact zN rfl | omega | assumption | (simp; done) | (simp [splice]; done) | (simp; omega) | (unfold fits; omega) | (unfold fits; simp_all; omega) | (simp_all; omega) | (simp_all; done) | intro _ | exact zI ?_ ?_ | intro _))))); try (refine L.nil ?_))
  repeat refine S.seq ?_
  refine S.region ?_
  (refine L.go (T := tt) tt_ok rfl rfl ?sd13 ?_; (try (case sd13 => (repeat' ((first | first | exact trivial | exact zA | with_reducible refine zI ?_ ?_ | exact zB | exact zC | exact zD | exact zE | rfl | exact zN rfl | omega | assumption | (simp; done) | (simp [splice]; done) | (simp; omega) | (unfold fits; omega) | (unfold fits; simp_all; omega) | (simp_all; omega) | (simp_all; done) | intro _ | exact zI ?_ ?_ | intro _))))); try (refine L.nil ?_))
  refine L.callP rfl rfl rfl rfl rfl rfl rfl ⟨trivial, by (repeat' ((first | first | exact trivial | exact zA | with_reducible refine zI ?_ ?_ | exact zB | exact zC | exact zD | exact zE | rfl | exact zN rfl | omega | assumption | (simp; done) | (simp [splice]; done) | (simp; omega) | (unfold fits; omega) | (unfold fits; simp_all; omega) | (simp_all; omega) | (simp_all; done) | intro _ | exact zI ?_ ?_ | intro _)))⟩ rfl (Imps.refl _) pP ?_
  (refine L.go (T := tt) tt_ok rfl rfl ?sd14 ?_; (try (case sd14 => (repeat' ((first | first | exact trivial | exact zA | with_reducible refine zI ?_ ?_ | exact zB | exact zC | exact zD | exact zE | rfl | exact zN rfl | omega | assumption | (simp; done) | (simp [splice]; done) | (simp; omega) | (unfold fits; omega) | (unfold fits; simp_all; omega) | (simp_all; omega) | (simp_all; done) | intro _ | exact zI ?_ ?_ | intro _))))); try (refine L.nil ?_))
  repeat refine S.seq ?_
  refine S.region ?_
  (refine L.go (T := tt) tt_ok rfl rfl ?sd15 ?_; (try (case sd15 => (repeat' ((first | first | exact trivial | exact zA | with_reducible refine zI ?_ ?_ | exact zB | exact zC | exact zD | exact zE | rfl | exact zN rfl | omega | assumption | (simp; done) | (simp [splice]; done) | (simp; omega) | (unfold fits; omega) | (unfold fits; simp_all; omega) | (simp_all; omega) | (simp_all; done) | intro _ | exact zI ?_ ?_ | intro _))))); try (refine L.nil ?_))
  refine L.callP rfl rfl rfl rfl rfl rfl rfl ⟨trivial, by (repeat' ((first | first | exact trivial | exact zA | with_reducible refine zI ?_ ?_ | exact zB | exact zC | exact zD | exact zE | rfl | exact zN rfl | omega | assumption | (simp; done) | (simp [splice]; done) | (simp; omega) | (unfold fits; omega) | (unfold fits; simp_all; omega) | (simp_all; omega) | (simp_all; done) | intro _ | exact zI ?_ ?_ | intro _)))⟩ rfl (Imps.refl _) pG ?_
  (refine L.go (T := tt) tt_ok rfl rfl ?sd16 ?_; (try (case sd16 => (repeat' ((first | first | exact trivial | exact zA | with_reducible refine zI ?_ ?_ | exact zB | exact zC | exact zD | exact zE | rfl | exact zN rfl | omega | assumption | (simp; done) | (simp [splice]; done) | (simp; omega) | (unfold fits; omega) | (unfold fits; simp_all; omega) | (simp_all; omega) | (simp_all; done) | intro _ | exact zI ?_ ?_ | intro _))))); try (refine L.nil ?_))
  refine L.alloc (T := tt) 12 tt_ok rfl rfl rfl rfl rfl fun b12 => ?_
  (refine L.store (T := tt) tt_ok rfl rfl rfl rfl rfl rfl ?sd27 ?_; (try (case sd27 => (repeat' ((first | first | exact trivial | exact zA | with_reducible refine zI ?_ ?_ | exact zB | exact zC | exact zD | exact zE | rfl | exact zN rfl | omega | assumption | (simp; done) | (simp [splice]; done) | (simp; omega) | (unfold fits; omega) | (unfold fits; simp_all; omega) | (simp_all; omega) | (simp_all; done) | intro _ | exact zI ?_ ?_ | intro _))))))
  (refine L.go (T := tt) tt_ok rfl rfl ?sd17 ?_; (try (case sd17 => (repeat' ((first | first | exact trivial | exact zA | with_reducible refine zI ?_ ?_ | exact zB | exact zC | exact zD | exact zE | rfl | exact zN rfl | omega | assumption | (simp; done) | (simp [splice]; done) | (simp; omega) | (unfold fits; omega) | (unfold fits; simp_all; omega) | (simp_all; omega) | (simp_all; done) | intro _ | exact zI ?_ ?_ | intro _))))); try (refine L.nil ?_))
  repeat refine S.seq ?_
  refine S.region ?_
  refine L.callP (Bs := [bytesL []]) rfl rfl rfl rfl rfl rfl rfl ⟨trivial, by (repeat' ((first | first | exact trivial | exact zA | with_reducible refine zI ?_ ?_ | exact zB | exact zC | exact zD | exact zE | rfl | exact zN rfl | omega | assumption | (simp; done) | (simp [splice]; done) | (simp; omega) | (unfold fits; omega) | (unfold fits; simp_all; omega) | (simp_all; omega) | (simp_all; done) | intro _ | exact zI ?_ ?_ | intro _)))⟩ rfl (by exact ⟨Imp.nil _ _, trivial⟩) pE ?_
  (refine L.go (T := tt) tt_ok rfl rfl ?sd18 ?_; (try (case sd18 => (repeat' ((first | first | exact trivial | exact zA | with_reducible refine zI ?_ ?_ | exact zB | exact zC | exact zD | exact zE | rfl | exact zN rfl | omega | assumption | (simp; done) | (simp [splice]; done) | (simp; omega) | (unfold fits; omega) | (unfold fits; simp_all; omega) | (simp_all; omega) | (simp_all; done) | intro _ | exact zI ?_ ?_ | intro _))))); try (refine L.nil ?_))
  refine L.alloc (T := tt) 14 tt_ok rfl rfl rfl rfl rfl fun b14 => ?_
  (refine L.store (T := tt) tt_ok rfl rfl rfl rfl rfl rfl ?sd28 ?_; (try (case sd28 => (repeat' ((first | first | exact trivial | exact zA | with_reducible refine zI ?_ ?_ | exact zB | exact zC | exact zD | exact zE | rfl | exact zN rfl | omega | assumption | (simp; done) | (simp [splice]; done) | (simp; omega) | (unfold fits; omega) | (unfold fits; simp_all; omega) | (simp_all; omega) | (simp_all; done) | intro _ | exact zI ?_ ?_ | intro _))))))
  (refine L.go (T := tt) tt_ok rfl rfl ?sd19 ?_; (try (case sd19 => (repeat' ((first | first | exact trivial | exact zA | with_reducible refine zI ?_ ?_ | exact zB | exact zC | exact zD | exact zE | rfl | exact zN rfl | omega | assumption | (simp; done) | (simp [splice]; done) | (simp; omega) | (unfold fits; omega) | (unfold fits; simp_all; omega) | (simp_all; omega) | (simp_all; done) | intro _ | exact zI ?_ ?_ | intro _))))); try (refine L.nil ?_))
  repeat refine S.seq ?_
  refine S.region ?_
  (refine L.go (T := tt) tt_ok rfl rfl ?sd20 ?_; (try (case sd20 => (repeat' ((first | first | exact trivial | exact zA | with_reducible refine zI ?_ ?_ | exact zB | exact zC | exact zD | exact zE | rfl | exact zN rfl | omega | assumption | (simp; done) | (simp [splice]; done) | (simp; omega) | (unfold fits; omega) | (unfold fits; simp_all; omega) | (simp_all; omega) | (simp_all; done) | intro _ | exact zI ?_ ?_ | intro _))))); try (refine L.nil ?_))
  refine L.callG rfl rfl rfl rfl rfl rfl rfl (fun _ => ⟨trivial, by (repeat' ((first | first | exact trivial | exact zA | with_reducible refine zI ?_ ?_ | exact zB | exact zC | exact zD | exact zE | rfl | exact zN rfl | omega | assumption | (simp; done) | (simp [splice]; done) | (simp; omega) | (unfold fits; omega) | (unfold fits; simp_all; omega) | (simp_all; omega) | (simp_all; done) | intro _ | exact zI ?_ ?_ | intro _)))⟩) rfl (Imps.refl _) (fun _ => pY) ?_
  (refine L.go (T := tt) tt_ok rfl rfl ?sd21 ?_; (try (case sd21 => (repeat' ((first | first | exact trivial | exact zA | with_reducible refine zI ?_ ?_ | exact zB | exact zC | exact zD | exact zE | rfl | exact zN rfl | omega | assumption | (simp; done) | (simp [splice]; done) | (simp; omega) | (unfold fits; omega) | (unfold fits; simp_all; omega) | (simp_all; omega) | (simp_all; done) | intro _ | exact zI ?_ ?_ | intro _))))); try (refine L.nil ?_))
  refine L.callG rfl rfl rfl rfl rfl rfl rfl (fun _ => ⟨trivial, by (repeat' ((first | first | exact trivial | exact zA | with_reducible refine zI ?_ ?_ | exact zB | exact zC | exact zD | exact zE | rfl | exact zN rfl | omega | assumption | (simp; done) | (simp [splice]; done) | (simp; omega) | (unfold fits; omega) | (unfold fits; simp_all; omega) | (simp_all; omega) | (simp_all; done) | intro _ | exact zI ?_ ?_ | intro _)))⟩) rfl (Imps.refl _) (fun _ => pX) ?_
  (refine L.go (T := tt) tt_ok rfl rfl ?sd22 ?_; (try (case sd22 => (repeat' ((first | first | exact trivial | exact zA | with_reducible refine zI ?_ ?_ | exact zB | exact zC | exact zD | exact zE | rfl | exact zN rfl | omega | assumption | (simp; done) | (simp [splice]; done) | (simp; omega) | (unfold fits; omega) | (unfold fits; simp_all; omega) | (simp_all; omega) | (simp_all; done) | intro _ | exact zI ?_ ?_ | intro _))))); try (refine L.nil ?_))
  (((repeat refine S.seq ?_); refine S.ret ?_); refine E.retP (T := tt) tt_ok rfl rfl (by (repeat' ((first | first | exact trivial | exact zA | with_reducible refine zI ?_ ?_ | exact zB | exact zC | exact zD | exact zE | rfl | exact zN rfl | omega | assumption | (simp; done) | (simp [splice]; done) | (simp; omega) | (unfold fits; omega) | (unfold fits; simp_all; omega) | (simp_all; omega) | (simp_all; done) | intro _ | exact zI ?_ ?_ | intro _)))) (Imp.of_eq ?_))
  have d1' : t.no.getD (Int.toNat 1) 0 = 1 := d1
  have a3' : t2.no.getD (Int.toNat 2) 0 = 1 := a3
  have b3' : t3.no.getD (Int.toNat 0) 0 = 1 := b2'
  rw [e1, n2, d1', a1, a2, a3', b3']
  rfl
end Go.Proofs.YtlgdjmmjconbfaaDoor
