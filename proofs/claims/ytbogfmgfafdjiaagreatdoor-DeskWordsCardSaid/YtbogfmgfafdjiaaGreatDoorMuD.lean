/- Texts of this proof, laid together: DkL, SymIns, DkM, KeyLine, KeyLock, KeyTag, JdA, JdB, JdC, JdD, JdE, ApiEq, JdF, JdG, JdH, JdI, JdJ, DkD, DkE, ClnB, DkS, TbG. -/
import Derived.Test.YtbogfmgfafdjiaaGreatDoorMuC
import Derived.Test.YtbogfmgfafdjiaaGreatDoorMuB
import Derived.Lib.IndexBytes
import Derived.Lib.IndexLaws
import Derived.Lib.SplitLaws
/- Texts: cut at each byte of a kind; trimmed of digits; numbers (strings, strconv), on abstract values. -/
namespace Go.Proofs.YtbogfmgfafdjiaaGreatDoor
set_option linter.unusedVariables false
set_option linter.unusedSimpArgs false
set_option maxHeartbeats 8000000
open Go.RowKit Go.Shelf
set_option maxRecDepth 4000

def strC (s : ByteArray) : List AV := [.v (.string s)]
def strsA (l : List ByteArray) : AV := .lst 1 l.length (gOf strC l)
instance : Inhabited ByteArray := ⟨ByteArray.empty⟩
/-- A text, cut at each c. -/
def spl (c : UInt8) : List UInt8 → List (List UInt8)
  | [] => [[]]
  | x :: t => if x == c then [] :: spl c t else match spl c t with
    | [] => [[x]]
    | h :: r => (x :: h) :: r
def splS (c : UInt8) (s : ByteArray) : List ByteArray := (spl c s.data.toList).map strL
theorem spl_ne (c : UInt8) : ∀ l, spl c l ≠ []
  | [] => by simp [spl]
  | x :: t => by
    rw [spl]
    split
    · simp
    · split <;> simp
theorem spl_step (c : UInt8) : ∀ l, (Lib.indexByte l c = -1 ∧ spl c l = [l] ∧ l.count c = 0) ∨ ∃ i : Nat, Lib.indexByte l c = i ∧ i < l.length ∧ spl c l = l.take i :: spl c (l.drop (i + 1)) ∧ l.count c = (l.drop (i + 1)).count c + 1
  | [] => .inl ⟨rfl, rfl, rfl⟩
  | x :: t => by
    by_cases hx : x = c
    · subst hx
      refine .inr ⟨0, by simp [Lib.indexByte], by simp, by simp [spl], by simp⟩
    · have hb : (x == c) = false := by simpa using hx
      have hc : (x :: t).count c = t.count c := by rw [List.count_cons]; simp [hb]
      rcases spl_step c t with ⟨h1, h2, h3⟩ | ⟨i, h1, hi, h2, h3⟩
      · exact .inl ⟨by rw [Lib.indexByte, hb]; simp [h1], by rw [spl, hb, h2]; rfl, by rw [hc, h3]⟩
      · refine .inr ⟨i + 1, ?_, by simpa using hi, ?_, ?_⟩
        · rw [Lib.indexByte, hb, h1]
          have : ((i : Int) == -1) = false := by rw [beq_eq_false_iff_ne]; omega
          simp [this]
        · rw [spl, hb, h2]; rfl
        · rw [hc, h3]; rfl
theorem splK (c : UInt8) : ∀ (k : Nat) (l : List UInt8), l.count c ≤ k → Lib.splitK [c] 0 k l = spl c l
  | 0, l, h => by
    rcases spl_step c l with ⟨-, h2, -⟩ | ⟨i, -, -, -, h3⟩
    · rw [h2]; rfl
    · omega
  | k + 1, l, h => by
    rw [Lib.splitK, Lib.index_one]
    rcases spl_step c l with ⟨h1, h2, -⟩ | ⟨i, h1, -, h2, h3⟩
    · rw [h1, h2]; rfl
    · have e : ((i : Int) == -1) = false := by rw [beq_eq_false_iff_ne]; omega
      rw [h1, h2, e, Int.toNat_natCast]
      simp only [Bool.false_eq_true, if_false, Nat.add_zero, List.length_singleton]
      rw [splK c k _ (by omega)]
theorem splB (c : UInt8) (k : Nat) (s : ByteArray) (h : s.data.toList.count c ≤ k) : Lib.splitB ⟨#[c]⟩ 0 k s = splS c s := by
  have e := Lib.splitB_data ⟨#[c]⟩ 0 k s
  rw [show (⟨#[c]⟩ : ByteArray).data.toList = [c] from rfl, splK c k _ h] at e
  rw [splS, ← e, List.map_map]
  refine (List.map_id'' (fun x => ?_) _).symm
  show strL x.data.toList = x
  rw [strL, Array.toArray_toList]
theorem gsplit_p (s : ByteArray) (c : UInt8) (hs : s.size < 4294967281) : PFn Tryz.prog 57 [.v (.string s), .v (.string ⟨#[c]⟩), .v (.int .i64 0), .v (.int .i64 (-1))] (strsA (splS c s)) := by
  intro off w vs hoff hS hl hr
  obtain ⟨v0, v1, v2, v3, rfl⟩ : ∃ a b d e, vs = [a, b, d, e] := by
    match vs, hl with
    | [a, b, d, e], _ => exact ⟨a, b, d, e, rfl⟩
  have h0 := repV (hr 0 _ _ rfl rfl)
  have h1 := repV (hr 1 _ _ rfl rfl)
  have h2 := repV (hr 2 _ _ rfl rfl)
  have h3 := repV (hr 3 _ _ rfl rfl)
  subst h0 h1 h2 h3
  have hcb : Lib.countB s ⟨#[c]⟩ = s.data.toList.count c := Lib.count_one _ _
  have hle : s.data.toList.count c ≤ s.size := by
    have := List.count_le_length (a := c) (l := s.data.toList)
    rw [Lib.size_eq]
    exact this
  refine (Any.strings_genSplit_core Tryz.lays221 (by kernel_rfl) s ⟨#[c]⟩ 0 (-1) (s.data.toList.count c + 1) w hs (show 1 ≤ 1 from Nat.le_refl _) (Nat.zero_le _) (fun x c' _ => ?_) ?_ (by decide) (by decide) ?_).mono ?_
  · refine (Any.strings_Index_one { Tryz.lays221 with } x c _).mono ?_
    rintro e w' ⟨rfl, rfl⟩
    exact ⟨by rw [show Lib.indexB x ⟨#[c]⟩ = Lib.index x.data.toList [c] from rfl, Lib.index_one], rfl⟩
  · refine (Any.strings_Count_one { Tryz.lays221 with } s c w).mono ?_
    rintro e w' ⟨rfl, rfl⟩
    exact ⟨by rw [hcb]; rfl, rfl⟩
  · rw [if_pos (by decide), hcb]
    push_cast
    omega
  rintro e w' ⟨rfl, rfl⟩
  rw [Nat.add_sub_cancel, splB c _ s (Nat.le_refl _)]
  obtain ⟨D, hD⟩ : ∃ D, D = splS c s := ⟨_, rfl⟩
  have hDl : D.length ≤ s.data.toList.count c + 1 := by
    rw [hD, ← splB c _ s (Nat.le_refl _)]
    exact Lib.splitB_length_le _ _ _ _
  rw [← hD]
  refine ⟨_, strsA D, [], ⟨rfl, rfl⟩, rfl, ?_, Sat.nil _ _, ?_, fun s hs => by cases hs⟩
  · refine .lst (fun i _ => .string (D.getD i default)) hDl (by unfold maxLen; omega) (fun h => by cases h) (fun i hi => rfl) (fun _ _ => rfl) (fun ad ha i hi j hj => ?_) (fun ad ha _ _ => ?_) (fun i hi j B hB => ?_)
    · cases ha
      have hj0 : j = 0 := by omega
      subst hj0
      have e1 : (World.cell? (w.alloc (.cells (Lib.cellsOf D (s.data.toList.count c + 1)) (Tryz.lays221_ren.t 9))) ⟨w.heap.size, i, none⟩) = some (.string (D.getD i default)) := by
        rw [World.cell?_alloc_at _ _ _ _ (by simp)]
        unfold Lib.cellsOf
        rw [List.getElem?_toArray, List.getElem?_append_left (by simpa using hi), List.getElem?_map, List.getElem?_eq_getElem hi, Option.map_some, getD_get hi]
      refine Eq.trans ?_ e1
      rw [add_lit, Nat.mul_one]
      rfl
    · cases ha
      intro ho
      rcases ho with h | ⟨r, hr, -⟩
      · exact absurd (hoff _ h) (Nat.lt_irrefl _)
      · cases hr
    · match j with
      | 0 => cases hB; exact .v _
      | j + 1 => simp [gOf, strC] at hB
  · exact (Kept.refl _ w).alloc _
theorem split_p (s : ByteArray) (c : UInt8) (hs : s.size < 4294967281) : PFn Tryz.prog 22 [.v (.string s), .v (.string ⟨#[c]⟩)] (strsA (splS c s)) := by
  refine FnC.intro Tryz.func22 rfl Tryz.ntmps22 rfl ?_; intro off w0
  ((repeat refine S.seq ?_); refine wG (k := ?_); try (refine L.nil ?_))
  repeat refine S.seq ?_
  refine S.region ?_
  (refine wL (k := ?_); try (refine L.nil ?_))
  refine wP ((gsplit_p s c hs)) (k := ?_)
  (refine wL (k := ?_); try (refine L.nil ?_))
  (((repeat refine S.seq ?_); refine S.ret ?_); refine wRt (k := ?_))
  exact Imp.refl _
/-- Whether all bytes are digits; a number of digits. -/
def digB (x : UInt8) : Bool := decide (48 ≤ x.toNat) && decide (x.toNat ≤ 57)
def valL (l : List UInt8) : Int := (((Lib.decFrom 0 l).getD 0 : Nat) : Int)
def numF (s : ByteArray) : Int := if decide ((s.size : Int) < 1) || decide ((s.size : Int) > 4) || !(s.data.toList.all digB) then -1 else valL s.data.toList
def dgs : ByteArray := ⟨#[48, 49, 50, 51, 52, 53, 54, 55, 56, 57]⟩
theorem dgs_has (x : UInt8) : dgs.data.toList.contains x = digB x := by
  revert x
  have : ∀ n : Fin 256, dgs.data.toList.contains (UInt8.ofNat n.val) = digB (UInt8.ofNat n.val) := by decide +kernel
  intro x
  have h := this ⟨x.toNat, x.toNat_lt⟩
  simpa using h
theorem trim_p (s : ByteArray) (hs : s.size ≤ 1000000) : PFn Tryz.prog 96 [.v (.string s), .v (.string dgs)] (.v (.string ⟨(Lib.trimS s.data.toList dgs.data.toList).toArray⟩)) := by
  intro off w vs hoff hS hl hr
  obtain ⟨v0, v1, rfl⟩ : ∃ a b, vs = [a, b] := by
    match vs, hl with
    | [a, b], _ => exact ⟨a, b, rfl⟩
  have h0 := repV (hr 0 _ _ rfl rfl)
  have h1 := repV (hr 1 _ _ rfl rfl)
  subst h0 h1
  have h116 : (Tryz.prog.info? (Tryz.lays160_ren.t 116)).map (fun i => (i.zero, i.size)) = some (some (.agg (Array.replicate 256 (.bool false))), 256) := by kernel_rfl
  refine (Any.strings_Trim_ascii Tryz.lays160 (zero_of_info h116).1 (zero_of_info h116).2 s dgs w (by omega) (by decide) (fun j b hj => ?_)).mono ?_
  · have : b ∈ dgs.data.toList := List.mem_of_getElem? hj
    have h2 := dgs_has b
    rw [List.contains_iff_mem.2 this] at h2
    have h3 := h2.symm
    simp only [digB, Bool.and_eq_true, decide_eq_true_eq] at h3
    omega
  rintro e w' ⟨rfl, hb⟩
  exact ⟨_, _, [], ⟨rfl, rfl⟩, rfl, .v _, Sat.nil _ _, ⟨hb.os, hb.tape, hb.output, hb.size, fun k hk _ => hb.block k hk⟩, fun s hs => by cases hs⟩
theorem dw_nil {α : Type} (p : α → Bool) : ∀ l : List α, l.dropWhile p = [] ↔ ∀ x ∈ l, p x = true
  | [] => by simp
  | a :: t => by
    rw [List.dropWhile_cons]
    cases h : p a with
    | true => simp [dw_nil p t, h]
    | false => simp [h]
theorem dw_hd {α : Type} (p : α → Bool) {x : α} {r : List α} : ∀ l : List α, l.dropWhile p = x :: r → p x = false
  | [], h => by cases h
  | a :: t, h => by
    rw [List.dropWhile_cons] at h
    cases ha : p a with
    | true => rw [ha] at h; exact dw_hd p t h
    | false => rw [ha] at h; cases h; exact ha
theorem trim_all (l : List UInt8) : Lib.trimS l dgs.data.toList = [] ↔ l.all digB = true := by
  have e : (dgs.data.toList.contains ·) = digB := funext dgs_has
  rw [Lib.trimS, Lib.trimLeftS, Lib.trimRightS, e, dw_nil, List.all_eq_true]
  constructor
  · intro h
    cases hd : l.reverse.dropWhile digB with
    | nil => exact fun x hx => (dw_nil digB _).1 hd x (List.mem_reverse.2 hx)
    | cons x r =>
      have h1 := dw_hd digB _ hd
      have h2 := h x (by rw [hd]; simp)
      rw [h1] at h2
      cases h2
  · intro h x hx
    rw [(dw_nil digB _).2 fun y hy => h y (List.mem_reverse.1 hy)] at hx
    cases hx
theorem digv {x : UInt8} (h : digB x = true) : ∃ d, Lib.digitVal x = some d ∧ d ≤ 9 := by
  simp only [digB, Bool.and_eq_true, decide_eq_true_eq] at h
  exact ⟨x.toNat - 48, by rw [Lib.digitVal, if_pos h], by omega⟩
theorem decs : ∀ (l : List UInt8) (n : Nat), l.all digB = true → ∃ m, Lib.decFrom n l = some m ∧ m + 1 ≤ (n + 1) * 10 ^ l.length
  | [], n, _ => ⟨n, rfl, by simp⟩
  | x :: t, n, h => by
    rw [List.all_cons, Bool.and_eq_true] at h
    obtain ⟨d, hd, h9⟩ := digv h.1
    obtain ⟨m, hm, hb⟩ := decs t (n * 10 + d) h.2
    refine ⟨m, by rw [Lib.decFrom, hd]; exact hm, Nat.le_trans hb ?_⟩
    rw [List.length_cons, Nat.pow_succ, Nat.mul_comm (10 ^ t.length) 10, ← Nat.mul_assoc]
    exact Nat.mul_le_mul_right _ (by omega)
theorem atoi_p (s : ByteArray) (h0 : 1 ≤ s.size) (h4 : s.size ≤ 4) (hd : s.data.toList.all digB = true) : PFn Tryz.prog 97 [.v (.string s)] (.tup [.v (.int .i64 (valL s.data.toList)), .v .nilIface]) := by
  have ha : Lib.atoi s.data.toList = some (valL s.data.toList) := by
    cases hl : s.data.toList with
    | nil => have := Lib.size_eq s; rw [hl, List.length_nil] at this; omega
    | cons b r =>
      rw [hl] at hd
      have hb := (Bool.and_eq_true _ _ ▸ (List.all_cons ▸ hd : (digB b && r.all digB) = true) : digB b = true ∧ r.all digB = true).1
      simp only [digB, Bool.and_eq_true, decide_eq_true_eq] at hb
      have h45 : (b == 45) = false := by rw [beq_eq_false_iff_ne]; rintro rfl; exact absurd hb.1 (by decide)
      have h43 : (b == 43) = false := by rw [beq_eq_false_iff_ne]; rintro rfl; exact absurd hb.1 (by decide)
      obtain ⟨m, hm, -⟩ := decs (b :: r) 0 hd
      rw [Lib.atoi, h45, h43, valL, hm]
      simp only [Bool.false_eq_true, if_false]
      rw [Lib.decNat, if_neg (by simp), hm]
      rfl
  intro off w vs hoff hS hl hr
  obtain ⟨v0, rfl⟩ : ∃ a, vs = [a] := by
    match vs, hl with
    | [a], _ => exact ⟨a, rfl⟩
  have e0 := repV (hr 0 _ _ rfl rfl)
  subst e0
  refine (Any.strconv_Atoi Tryz.lays172 s _ (by omega) ha w).mono ?_
  rintro e w' ⟨rfl, t, rfl⟩
  have hk : Kept (blocksOf []) w (Lib.bytesWorld w (Tryz.lays172_ren.t 5) t) := by
    exact ⟨rfl, rfl, rfl, by rw [Lib.bytesWorld_size]; omega, fun k hk _ => Lib.bytesWorld_at_old _ _ _ _ hk⟩
  refine ⟨_, _, [], ⟨rfl, rfl⟩, rfl, .tup (us := [.int .i64 (valL s.data.toList), .nilIface]) rfl (fun j A u hA hu => ?_), Sat.nil _ _, hk, fun s hs => by cases hs⟩
  match j with
  | 0 => cases hA; cases hu; exact .v _
  | 1 => cases hA; cases hu; exact .v _
  | j + 2 => simp at hA
theorem numF_rng (s : ByteArray) : -1 ≤ numF s ∧ numF s ≤ 9999 := by
  unfold numF
  split
  · omega
  · rename_i h
    simp only [Bool.or_eq_true, decide_eq_true_eq, Bool.not_eq_true'] at h
    have hd : s.data.toList.all digB = true := by
      cases hx : s.data.toList.all digB with
      | true => rfl
      | false => exact absurd (.inr hx) h
    obtain ⟨m, hm, hb⟩ := decs s.data.toList 0 hd
    have hs := Lib.size_eq s
    have h4 : s.data.toList.length ≤ 4 := by omega
    have := Nat.pow_le_pow_right (show 0 < 10 by decide) h4
    rw [valL, hm, Option.getD_some]
    omega
theorem number_p (s : ByteArray) (hs : s.size ≤ 1000000) : PFn Tryz.prog 61 [.v (.string s)] (.v (.int .i64 (numF s))) := by
  have e1 : ∀ l : List UInt8, ((⟨l.toArray⟩ : ByteArray) = ByteArray.empty) ↔ l = [] := fun l => by
    constructor
    · intro h
      have := congrArg (fun b => b.data.toList) h
      simpa using this
    · rintro rfl; rfl
  have e2 : (!((⟨(Lib.trimS s.data.toList dgs.data.toList).toArray⟩ : ByteArray) == ⟨#[]⟩)) = !(s.data.toList.all digB) := by
    congr 1
    rw [Bool.eq_iff_iff, beq_iff_eq, ← trim_all]
    exact e1 _
  refine FnC.intro Tryz.func61 rfl Tryz.ntmps61 rfl ?_; intro off w0
  ((repeat refine S.seq ?_); refine wG (k := ?_); try (refine L.nil ?_))
  repeat refine S.seq ?_
  refine S.region ?_
  (refine wL (k := ?_); try (refine L.nil ?_))
  refine wQ (fun _ => (trim_p s hs)) (k := ?_)
  (refine wL (k := ?_); try (refine L.nil ?_))
  ((repeat refine S.seq ?_); refine S.cond rfl (fun hc => ?_) (fun hc => ?_) <;> (try first | refine S.skip ?_ | refine S.exit ?_))
  · ((repeat refine S.seq ?_); refine wG (k := ?_); try (refine L.nil ?_))
    (((repeat refine S.seq ?_); refine S.ret ?_); refine wRt (k := Imp.of_eq ?_))
    rw [e2] at hc
    rw [numF, if_pos hc]
    rfl
  · rw [e2] at hc
    have hc2 := hc
    simp only [Bool.or_eq_false_iff, decide_eq_false_iff_not, Bool.not_eq_false'] at hc2
    repeat refine S.seq ?_
    refine S.region ?_
    (refine wL (k := ?_); try (refine L.nil ?_))
    refine wP ((atoi_p s (by omega) (by omega) hc2.2)) (k := ?_)
    (refine wL (k := ?_); try (refine L.nil ?_))
    ((repeat refine S.seq ?_); refine wG (k := ?_); try (refine L.nil ?_))
    (((repeat refine S.seq ?_); refine S.ret ?_); refine wRt (k := Imp.of_eq ?_))
    rw [numF, if_neg (by rw [hc]; decide)]
    rfl
/-- Numbers, as far as they are some. -/
def numsOk (l : List ByteArray) (k : Nat) : Bool := (List.range k).all fun i => decide (0 ≤ numF (l.getD i default))
def numsTo (l : List ByteArray) (k : Nat) : List Int := (l.take k).map numF
theorem numsOk_succ {l : List ByteArray} {k : Nat} : numsOk l (k + 1) = (numsOk l k && decide (0 ≤ numF (l.getD k default))) := by
  unfold numsOk
  rw [List.range_succ, List.all_append, List.all_cons, List.all_nil, Bool.and_true]
theorem numsTo_succ {l : List ByteArray} {k : Nat} (h : k < l.length) : numsTo l (k + 1) = numsTo l k ++ [numF (l.getD k default)] := by
  unfold numsTo
  rw [List.take_succ_eq_append_getElem h, List.map_append, getD_get h]
  rfl
def numsF (l : List ByteArray) : List Int × Bool := if numsOk l l.length then (l.map numF, true) else ([], false)
theorem numbers_p (l : List ByteArray) (hl : l.length ≤ 1000000) (hs : ∀ s ∈ l, s.size ≤ 1000000) : PFn Tryz.prog 59 [strsA l] (.tup [intW (numsF l).1, .v (.bool (numsF l).2)]) := by
  unfold strsA
  refine FnC.intro Tryz.func59 rfl Tryz.ntmps59 rfl ?_; intro off w0
  ((repeat refine S.seq ?_); refine wG (k := ?_); try (refine L.nil ?_))
  refine lenAt (sz := 1) (n := l.length) (g := gOf strC l) 0 rfl fun hn => ?_
  repeat refine S.seq ?_
  refine S.scopeE 0 (ι := { q : Nat × Value // q.1 ≤ l.length ∧ numsOk l q.1 = true }) (fun q => [(0, .lst 1 l.length (gOf strC l)), (4, .ref 60 q.1.2), (5, .v (.int .i64 q.1.1))])
    (fun q => [(60, .own q.1.2 3 1 (numsTo l q.1.1).length (gOf intC (numsTo l q.1.1)))]) (fun q => l.length - q.1.1) rfl ?_ ?_
  · rintro ⟨⟨k, x⟩, hk, hok⟩ J hJ
    dsimp only at hk hok hJ ⊢
    obtain ⟨M, hM⟩ : ∃ M, M = numsTo l k := ⟨_, rfl⟩
    have hMl : M.length ≤ 1000000 := by rw [hM, numsTo, List.length_map, List.length_take]; omega
    rw [← hM]
    ((repeat refine S.seq ?_); refine wG (k := ?_); try (refine L.nil ?_))
    ((repeat refine S.seq ?_); refine S.cond rfl (fun h1 => ?_) (fun h1 => ?_) <;> (try first | refine S.skip ?_ | refine S.exit ?_))
    · have h1 : k = l.length := by have := of_dec h1; omega
      subst h1
      refine freezeSlot 4 60 rfl rfl rfl ?_
      ((repeat refine S.seq ?_); refine wG (k := ?_); try (refine L.nil ?_))
      (((repeat refine S.seq ?_); refine S.ret ?_); refine wRt (k := ?_))
      rw [numsF, if_pos hok, hM, numsTo, List.take_length]
      exact Imp.refl _
    have h1 : k < l.length := by have := of_dec' h1; omega
    have hb := hs (l.getD k default) (by rw [getD_get h1]; exact List.getElem_mem _)
    repeat refine S.seq ?_
    refine S.region ?_
    (refine wL (k := ?_); try (refine L.nil ?_))
    refine wP ((number_p (l.getD k default) hb)) (k := ?_)
    (refine wL (k := ?_); try (refine L.nil ?_))
    have hr := numF_rng (l.getD k default)
    have hsc := numsOk_succ (l := l) (k := k)
    have htc := numsTo_succ h1
    rw [hok, Bool.true_and] at hsc
    obtain ⟨z, hz⟩ : ∃ z, z = numF (l.getD k default) := ⟨_, rfl⟩
    rw [← hz] at hr hsc htc ⊢
    ((repeat refine S.seq ?_); refine wG (k := ?_); try (refine L.nil ?_))
    ((repeat refine S.seq ?_); refine S.cond rfl (fun h2 => ?_) (fun h2 => ?_) <;> (try first | refine S.skip ?_ | refine S.exit ?_))
    · have h2 : z < 0 := of_dec h2
      ((repeat refine S.seq ?_); refine wG (k := ?_); try (refine L.nil ?_))
      (((repeat refine S.seq ?_); refine S.ret ?_); refine wRt (k := ?_))
      have : numsOk l l.length = false := by
        cases hx : numsOk l l.length with
        | false => rfl
        | true =>
          exfalso
          unfold numsOk at hx
          rw [List.all_eq_true] at hx
          have := of_decide_eq_true (hx k (List.mem_range.2 h1))
          omega
      rw [numsF, if_neg (by rw [this]; decide)]
      exact Imp.tup ⟨Imp.nil _ _, Imp.refl _, trivial⟩
    have h2 : 0 ≤ z := by have := of_dec' h2; omega
    rw [decide_eq_true h2] at hsc
    repeat refine S.seq ?_
    refine S.region ?_
    (refine wL (k := ?_); try (refine L.nil ?_))
    refine wF 61 (k := fun x19 => ?_)
    refine wY (k := fun y20 => ?_)
    refine ownAs 60 (gOf intC (M ++ [z])) rfl (show M.length + 1 = (M ++ [z]).length by simp) (fun i hi => app1_h intC M z _ rfl rfl hi) ?_
    (refine wL (k := ?_); try (refine L.nil ?_))
    ((repeat refine S.seq ?_); refine wG (k := ?_); try (refine L.nil ?_))
    repeat refine S.seq ?_
    refine S.goto ?_
    exact fun a w hR => ⟨rfl, hJ a w ⟨(k + 1, y20), h1, hsc⟩ (by show l.length - (k + 1) < l.length - k; omega) (hR.weakP (by (repeat' (first | exact True.intro | exact Imp.refl _ | refine ⟨?_, ?_⟩))) (by rw [htc, ← hM]; (repeat (first | exact Sub.refl _ | refine Sub.pick (by first | exact p0 | exact pS p0 | exact pS (pS p0) | exact pS (pS (pS p0)) | exact pS (pS (pS (pS p0))) | exact pS (pS (pS (pS (pS p0))))) ?_))))⟩
  · intro hp
    ((repeat refine S.seq ?_); refine wG (k := ?_); try (refine L.nil ?_))
    ((repeat refine S.seq ?_); refine wG (k := ?_); try (refine L.nil ?_))
    refine nilRow 60 3 1 (gOf intC []) (slotAs 4 (.ref 60 (.slice none 0 0)) rfl (Imp.vref rfl) ?_)
    repeat refine S.seq ?_
    refine S.label ?_
    exact fun a w hR => hp ⟨(0, .slice none 0 0), Nat.zero_le _, rfl⟩ a w (hR.weakP (by (repeat' (first | exact True.intro | exact Imp.refl _ | refine ⟨?_, ?_⟩))) (by (repeat (first | exact Sub.refl _ | refine Sub.pick (by first | exact p0 | exact pS p0 | exact pS (pS p0) | exact pS (pS (pS p0)) | exact pS (pS (pS (pS p0))) | exact pS (pS (pS (pS (pS p0))))) ?_))))
end Go.Proofs.YtbogfmgfafdjiaaGreatDoor

/- What a map's literal lays. -/
namespace Go.Proofs.YtbogfmgfafdjiaaGreatDoor
set_option linter.unusedVariables false
set_option linter.unusedSimpArgs false
set_option maxHeartbeats 8000000
open Go.RowKit
open Go.Maps (Keyed)
section
variable {P : Program} {T : Types} {c : Ctx} {σ σ1 : Slots} {F F1 : Rows} {rd : List Nat} {rdf : List (Nat × List Nat)} {Q : Exit → Act → World → Prop} {ops : Array Oper} {rest : List Oper} {o : Oper} {fuel : Nat} {listed : Array Bool}
theorem O.mapIns {t k e : TypeId} {x y z : Operand} {id b : Nat} {X kv : Value} {B A : AV} {p q r : Prop} {m : List (Value × AV)} (hT : TOk P T) (K : Keyed P k) (ho : o.op = .insert t x y z) (hg : o.guard = none) (hd : o.dst = none) (ht : tdOf T t = some (.map k e))
    (hx : evalS σ x = some (.ref id X, p)) (hy : evalS σ y = some (B, q)) (hkv : keyV B = some kv) (hz : evalS σ z = some (A, r)) (hpq : p ∧ q ∧ r) (hrow : F.lookup id = some (.map b (kOf P k) m)) (hX : X = .map (some b)) (hkey : kOf P k kv = true) :
    O P ops c o σ F Q [id] Unit (fun _ => σ) (fun _ => setF id id (.map b (kOf P k) ((kv, A) :: m)) F) := by
  intro a w hR KK hK
  refine Op1.plain hg ?_
  obtain ⟨ti, hti, htd⟩ := tdOf_some ht
  have hm := (hT.told hti).map htd
  have hxv : a.eval x = .map (some b) := by
    have h := hR.evals hx hpq.1
    generalize a.eval x = v at h
    cases h
    exact hX
  have hyv : a.eval y = kv := keyV_rep hkv (hR.evals hy hpq.2.1)
  have hzr := hR.evals hz hpq.2.2
  obtain ⟨es, clock, hh, h1, h2, h3, h4, hst⟩ := hR.sat.at hrow
  obtain ⟨lx, hlx⟩ := Option.isSome_iff_exists.1 hkey
  have hlt := hR.sat.lt (lookup_mem hrow) (b := b) rfl
  obtain ⟨es', clock', hrun, q1, q2, q3, q4⟩ : ∃ es' clock', (execOp a.eval o).run P w = .ok .skip (ChangeMaps.setBlock w b (.map es' clock')) ∧ (∀ e ∈ es'.toList, (e ∈ es.toList ∧ e.key ≠ kv) ∨ (e.key = kv ∧ e.val = a.eval z)) ∧
      (∀ key, (∀ e ∈ es'.toList, e.key ≠ key) → key ≠ kv ∧ ∀ e ∈ es.toList, e.key ≠ key) ∧ (es'.toList.Pairwise fun x y => x.key ≠ y.key) ∧ Stmp es' clock' := by
    rcases find_at K h1 hkey w with ⟨f1, f2⟩ | ⟨j', e2, f1, f2, f3⟩
    · refine ⟨es.push ⟨kv, a.eval z, clock⟩, clock + 1, ?_, fun e he => ?_, fun key hne => ?_, ?_, hst.push _ _⟩
      · simp [execOp, ho, hxv, hyv, Instr.mapUpdate, run_underlying hm, MapKept.run_getObj_map hh, K.check w false hlx, f1, MapKept.run_setObj_map _ hh, Result.andThen, ChangeMaps.setBlock]
      · simp only [Array.toList_push, List.mem_append, List.mem_singleton] at he
        rcases he with he | rfl
        · exact .inl ⟨he, f2 e he⟩
        · exact .inr ⟨rfl, rfl⟩
      · simp only [Array.toList_push, List.mem_append, List.mem_singleton] at hne
        exact ⟨fun e => hne _ (.inr rfl) e.symm, fun e he => hne e (.inl he)⟩
      · simp only [Array.toList_push]
        refine List.pairwise_append.2 ⟨h4, by simp, fun x hx y hy => ?_⟩
        rw [List.mem_singleton] at hy
        subst hy
        exact f2 x hx
    · have hjl : j' < es.toList.length := (List.getElem?_eq_some_iff.1 f2).1
      have hjs : j' < es.size := by simpa using hjl
      have hget : es[j']? = some e2 := by simpa using f2
      have hlist : (es.modify j' fun e => { e with key := kv, val := a.eval z }).toList = es.toList.set j' { e2 with key := kv, val := a.eval z } := by
        apply List.ext_getElem?
        intro i
        simp only [Array.toList_modify, List.getElem?_modify, List.getElem?_set]
        by_cases hi : j' = i
        · subst hi
          rw [f2]; simp; exact hjs
        · simp [hi]
      have hsame : ∀ e ∈ es.toList, e.key = kv → e = e2 := by
        intro e he hek
        exact same_entry _ h4 e he e2 (List.mem_of_getElem? f2) (hek.trans f3.symm)
      refine ⟨es.modify j' fun e => { e with key := kv, val := a.eval z }, clock, ?_, fun e he => ?_, fun key hne => ?_, ?_, hst.mods (e3 := ⟨kv, a.eval z, 0⟩) f2 (by rw [hlist])⟩
      · simp [execOp, ho, hxv, hyv, Instr.mapUpdate, run_underlying hm, MapKept.run_getObj_map hh, K.check w false hlx, f1, hget, f3, K.stays w hlx, MapKept.run_setObj_map _ hh, Result.andThen, ChangeMaps.setBlock]
      · rw [hlist] at he
        obtain ⟨i, hi⟩ := List.getElem?_of_mem he
        rw [List.getElem?_set] at hi
        split at hi
        · first
          | (cases hi; exact .inr ⟨rfl, rfl⟩)
          | (split at hi
             · cases hi; exact .inr ⟨rfl, rfl⟩
             · cases hi)
        · rename_i hne
          refine .inl ⟨List.mem_of_getElem? hi, fun hek => ?_⟩
          have := List.pairwise_iff_getElem.1 h4
          have hil := (List.getElem?_eq_some_iff.1 hi).1
          have he1 : es.toList[i] = e := (List.getElem?_eq_some_iff.1 hi).2
          have he2 : es.toList[j'] = e2 := (List.getElem?_eq_some_iff.1 f2).2
          rcases Nat.lt_or_gt_of_ne hne with hlt | hgt
          · exact this j' i hjl hil hlt (by rw [he1, he2, hek, f3])
          · exact this i j' hil hjl hgt (by rw [he1, he2, hek, f3])
      · rw [hlist] at hne
        have hkn : key ≠ kv := fun e => hne _ (List.mem_iff_getElem?.2 ⟨j', by rw [List.getElem?_set, if_pos rfl]; first | rfl | (rw [if_pos hjl])⟩) e.symm
        refine ⟨hkn, fun e he hek => ?_⟩
        obtain ⟨i, hi⟩ := List.getElem?_of_mem he
        by_cases hij : j' = i
        · subst hij
          rw [f2] at hi
          cases hi
          exact hkn (hek.symm.trans f3)
        · exact hne e (List.mem_iff_getElem?.2 ⟨i, by rw [List.getElem?_set, if_neg hij]; exact hi⟩) hek
      · rw [hlist]
        rw [List.pairwise_iff_getElem] at h4 ⊢
        intro i1 i2 hi1 hi2 hlt
        simp only [List.length_set] at hi1 hi2
        have he2 : es.toList[j'] = e2 := (List.getElem?_eq_some_iff.1 f2).2
        have := h4 i1 i2 hi1 hi2 hlt
        rw [List.getElem_set, List.getElem_set]
        split
        · rename_i e1
          subst e1
          split
          · omega
          · show kv ≠ _
            rw [he2, f3] at this
            exact this
        · split
          · rename_i e1
            subst e1
            show _ ≠ kv
            rw [he2, f3] at this
            exact this
          · exact this
  obtain ⟨k1, k2, k3, k4⟩ := hR.write (i' := id) (r' := .map b (kOf P k) ((kv, A) :: m)) hrow (w' := ChangeMaps.setBlock w b (.map es' clock')) (by simp [ChangeMaps.setBlock]) rfl rfl rfl
    (fun b' hlt' hne => heap_setBlock_ne w b b' _ (fun e => hne (by rw [e]; rfl))) (fun b' hb' => .inl hb') (fun he => by
      refine ⟨es', clock', heap_setBlock_at w b _ hlt, fun e hm' => ?_, fun e hm' => ?_, fun key hne => ?_, q3, q4⟩
      · rcases q1 e hm' with ⟨g1, -⟩ | ⟨g1, -⟩
        · exact h1 e g1
        · rw [g1]; exact hkey
      · rcases q1 e hm' with ⟨g1, g2⟩ | ⟨g1, g2⟩
        · obtain ⟨A', hA', hr'⟩ := h2 e g1
          exact ⟨A', by rw [mget_cons_other _ _ (Ne.symm g2)]; exact hA', hr'.ext he⟩
        · exact ⟨A, by rw [g1, mget_cons_same], by rw [g2]; exact hzr.ext he⟩
      · obtain ⟨g1, g2⟩ := q2 key hne
        rw [mget_cons_other _ _ (Ne.symm g1)]
        exact h3 key g2)
  simp only [Oper.wp]
  rw [hrun, Oper.upon_skip, hd]
  exact hK () _ _ (hR.step_none k1 k2 k3 k4.ext) k4 ⟨undef, by rw [hd]⟩
theorem L.mapIns {t k e : TypeId} {x y z : Operand} {id b : Nat} {X kv : Value} {B A : AV} {p q r : Prop} {m : List (Value × AV)} (hT : TOk P T) (K : Keyed P k) (ho : o.op = .insert t x y z) (hg : o.guard = none) (hd : o.dst = none) (ht : tdOf T t = some (.map k e))
    (hx : evalS σ x = some (.ref id X, p)) (hy : evalS σ y = some (B, q)) (hkv : keyV B = some kv) (hz : evalS σ z = some (A, r)) (hpq : p ∧ q ∧ r) (hrow : F.lookup id = some (.map b (kOf P k) m)) (hX : X = .map (some b)) (hkey : kOf P k kv = true)
    (next : L P ops c rest σ (setF id id (.map b (kOf P k) ((kv, A) :: m)) F) Q) : L P ops c (o :: rest) σ F Q := L.of (O.mapIns hT K ho hg hd ht hx hy hkv hz hpq hrow hX hkey) fun _ => next
end
end Go.Proofs.YtbogfmgfafdjiaaGreatDoor

/- The desk: steps by words. -/
namespace Go.Proofs.YtbogfmgfafdjiaaGreatDoor
set_option linter.unusedVariables false
set_option linter.unusedSimpArgs false
set_option maxHeartbeats 8000000
open Go.RowKit
set_option maxRecDepth 8000

/-- A step of a script. -/
structure StpD where
  kind : Int
  cl : Int
  q : Int
  sh : Int
  tag : Int
  n : Int
  keep : Int
  many : Int
  key : ByteArray
  body : ByteArray
  deriving DecidableEq
def stp0 : StpD := ⟨0, 0, 0, 0, 0, 0, 0, 0, ByteArray.empty, ByteArray.empty⟩
instance : Inhabited StpD := ⟨stp0⟩
def StpD.cells (s : StpD) : List AV := [.v (.int .i64 s.kind), .v (.int .i64 s.cl), .v (.int .i64 s.q), .v (.int .i64 s.sh), .v (.int .i64 s.tag), .v (.int .i64 s.n), .v (.int .i64 s.keep), .v (.int .i64 s.many), .v (.string s.key), .v (.string s.body)]
def StpD.av (s : StpD) : AV := .agg s.cells
def kGet : ByteArray := ⟨#[103, 101, 116]⟩
def kAck : ByteArray := ⟨#[97, 99, 107]⟩
def kBack : ByteArray := ⟨#[98, 97, 99, 107]⟩
def kSplit : ByteArray := ⟨#[115, 112, 108, 105, 116]⟩
def kMove : ByteArray := ⟨#[109, 111, 118, 101]⟩
def kCrash : ByteArray := ⟨#[99, 114, 97, 115, 104]⟩
def kTick : ByteArray := ⟨#[116, 105, 99, 107]⟩
def kDeliver : ByteArray := ⟨#[100, 101, 108, 105, 118, 101, 114]⟩
def kDrop : ByteArray := ⟨#[100, 114, 111, 112]⟩
def kDouble : ByteArray := ⟨#[100, 111, 117, 98, 108, 101]⟩
def kStart : ByteArray := ⟨#[115, 116, 97, 114, 116]⟩
def isG (w : ByteArray) : Bool := w == kGet || w == kAck || w == kBack
def isM (w : ByteArray) : Bool := w == kSplit || w == kMove
def gK (w : ByteArray) : Int := if kBack = w then 4 else if kAck = w then 3 else if kGet = w then 2 else 0
def mK (w : ByteArray) : Int := if kMove = w then 6 else if kSplit = w then 5 else 0
def tK (w : ByteArray) : Int := if kStart = w then 12 else if kDouble = w then 10 else if kDrop = w then 9 else if kDeliver = w then 8 else if kTick = w then 7 else 0
def at_ (n : List Int) (i : Nat) : Int := n.getD i 0
def isMv (w : ByteArray) (n : List Int) : Bool := (decide (mK w = 6) && decide ((n.length : Int) = 3)) || (decide (mK w = 5) && decide ((n.length : Int) = 2))
def stepsF (w : ByteArray) (n : List Int) : StpD × Bool :=
  if isG w then (if decide ((n.length : Int) = 2) then { stp0 with kind := gK w, cl := at_ n 0, q := at_ n 1, tag := at_ n 1 } else { stp0 with kind := gK w }, decide ((n.length : Int) = 2))
  else if isM w then (if isMv w n then { stp0 with kind := mK w, q := at_ n 0, sh := at_ n 1, n := at_ n (n.length - 1) } else { stp0 with kind := mK w }, isMv w n)
  else if w == kCrash then (if decide ((n.length : Int) = 2) then { stp0 with kind := 11, n := at_ n 0, keep := at_ n 1 } else { stp0 with kind := 11 }, decide ((n.length : Int) = 2))
  else (if decide ((n.length : Int) = 1) then { stp0 with kind := tK w, n := at_ n 0 } else { stp0 with kind := tK w }, decide (tK w > 0) && decide ((n.length : Int) = 1))
theorem bAs {x y : Bool} (h : x = y) : Imp (.v (.bool x)) (.v (.bool y)) := Imp.of_eq (by rw [h])
theorem mg_one (a w : ByteArray) (x : AV) (t : List (Value × AV)) : mget ((.string a, x) :: t) (.string w) = if a = w then some x else mget t (.string w) := by
  by_cases h : a = w
  · subst h; simp [mget]
  · rw [if_neg h]; simp [mget, h]
theorem mlG (w : ByteArray) : mlook [(.string kBack, .v (.int .i64 4)), (.string kAck, .v (.int .i64 3)), (.string kGet, .v (.int .i64 2))] (.string w) (.int .i64 0) = .v (.int .i64 (gK w)) := by
  rw [mlook, mg_one, mg_one, mg_one, gK]
  repeat' split
  all_goals rfl
theorem mlM (w : ByteArray) : mlook [(.string kMove, .v (.int .i64 6)), (.string kSplit, .v (.int .i64 5))] (.string w) (.int .i64 0) = .v (.int .i64 (mK w)) := by
  rw [mlook, mg_one, mg_one, mK]
  repeat' split
  all_goals rfl
theorem mlT (w : ByteArray) : mlook [(.string kStart, .v (.int .i64 12)), (.string kDouble, .v (.int .i64 10)), (.string kDrop, .v (.int .i64 9)), (.string kDeliver, .v (.int .i64 8)), (.string kTick, .v (.int .i64 7))] (.string w) (.int .i64 0) = .v (.int .i64 (tK w)) := by
  rw [mlook, mg_one, mg_one, mg_one, mg_one, mg_one, tK]
  repeat' split
  all_goals rfl
theorem steps_p (w : ByteArray) (n : List Int) (hw : fitS w) : PFn Tryz.prog 64 [.v (.string w), intW n] (.tup [(stepsF w n).1.av, .v (.bool (stepsF w n).2)]) := by
  have hkw : kOf Tryz.prog 9 (.string w) = true := kStr_ok hw
  have k1 : ∀ b : ByteArray, b.size ≤ 100 → kOf Tryz.prog 9 (.string b) = true := fun b hb => kStr_ok (by unfold fitS; omega)
  unfold intW
  refine FnC.intro Tryz.func64 rfl Tryz.ntmps64 rfl ?_; intro off w0
  refine lenAt (sz := 1) (n := n.length) (g := fun i => [.v (.int .i64 (n.getD i 0))]) 1 rfl fun hn => ?_
  repeat refine S.seq ?_
  refine S.region ?_
  refine wA 11 (k := fun b4 => ?_)
  (refine wL (k := ?_); try (refine L.nil ?_))
  repeat refine S.seq ?_
  refine S.region ?_
  refine wA 12 (k := fun b6 => ?_)
  refine L.nil ?_
  refine blkAs 12 stp0.cells rfl (Imps.refl stp0.cells) ?_
  ((repeat refine S.seq ?_); refine wG (k := ?_); try (refine L.nil ?_))
  repeat refine S.seq ?_
  refine S.block ?_
  ((repeat refine S.seq ?_); refine wG (k := ?_); try (refine L.nil ?_))
  repeat refine S.seq ?_
  refine S.cut (ι := Unit) (fun _ => [(0, .v (.string w)), (1, .lst 1 n.length (fun i => [.v (.int .i64 (n.getD i 0))])), (4, .ptr 11 b4 0), (6, .ptr 12 b6 0), (8, .v (.string w)), (9, .v (.bool (isG w)))]) (fun _ => [(11, .blk b4 33 stp0.cells), (12, .blk b6 33 stp0.cells)]) ?_ ?_
  · have g1 : isG w = ((w == kGet || w == kAck) || w == kBack) := rfl
    ((repeat refine S.seq ?_); refine S.cond rfl (fun h1 => ?_) (fun h1 => ?_) <;> (try first | refine S.skip ?_ | refine S.exit ?_))
    · refine slotAs 9 (.v (.bool (isG w))) rfl (bAs (by rw [g1, show (w == kGet) = true from h1]; exact h1)) ?_
      exact fun a w' hR => ⟨(), hR.weakP (by (repeat' (first | exact True.intro | exact Imp.refl _ | refine ⟨?_, ?_⟩))) (by (repeat (first | exact Sub.refl _ | refine Sub.pick (by first | exact p0 | exact pS p0 | exact pS (pS p0) | exact pS (pS (pS p0)) | exact pS (pS (pS (pS p0))) | exact pS (pS (pS (pS (pS p0))))) ?_)))⟩
    · ((repeat refine S.seq ?_); refine wG (k := ?_); try (refine L.nil ?_))
      ((repeat refine S.seq ?_); refine S.cond rfl (fun h2 => ?_) (fun h2 => ?_) <;> (try first | refine S.skip ?_ | refine S.exit ?_))
      · refine slotAs 9 (.v (.bool (isG w))) rfl (bAs (by rw [g1, show (w == kAck) = true from h2, Bool.or_true]; exact h2)) ?_
        exact fun a w' hR => ⟨(), hR.weakP (by (repeat' (first | exact True.intro | exact Imp.refl _ | refine ⟨?_, ?_⟩))) (by (repeat (first | exact Sub.refl _ | refine Sub.pick (by first | exact p0 | exact pS p0 | exact pS (pS p0) | exact pS (pS (pS p0)) | exact pS (pS (pS (pS p0))) | exact pS (pS (pS (pS (pS p0))))) ?_)))⟩
      · ((repeat refine S.seq ?_); refine wG (k := ?_); try (refine L.nil ?_))
        refine slotAs 9 (.v (.bool (isG w))) rfl (bAs (by rw [g1, show (w == kGet) = false from h1, show (w == kAck) = false from h2]; rfl)) ?_
        exact fun a w' hR => ⟨(), hR.weakP (by (repeat' (first | exact True.intro | exact Imp.refl _ | refine ⟨?_, ?_⟩))) (by (repeat (first | exact Sub.refl _ | refine Sub.pick (by first | exact p0 | exact pS p0 | exact pS (pS p0) | exact pS (pS (pS p0)) | exact pS (pS (pS (pS p0))) | exact pS (pS (pS (pS (pS p0))))) ?_)))⟩
  intro _
  ((repeat refine S.seq ?_); refine S.cond rfl (fun hG => ?_) (fun hG => ?_) <;> (try first | refine S.skip ?_ | refine S.exit ?_))
  · repeat refine S.seq ?_
    refine S.region ?_
    refine L.makeMap 13 9 rfl rfl rfl rfl fun b13 => ?_
    refine L.mapIns (T := tt) tt_ok kStr rfl rfl rfl rfl rfl rfl rfl rfl (by exact sd) rfl rfl (k1 kGet (by decide)) ?_
    refine L.mapIns (T := tt) tt_ok kStr rfl rfl rfl rfl rfl rfl rfl rfl (by exact sd) rfl rfl (k1 kAck (by decide)) ?_
    refine L.mapIns (T := tt) tt_ok kStr rfl rfl rfl rfl rfl rfl rfl rfl (by exact sd) rfl rfl (k1 kBack (by decide)) ?_
    (refine wL (k := ?_); try (refine L.nil ?_))
    refine L.sure (rd := [13]) (A := .v (.int .i64 (gK w))) (look_sure (T := tt) tt_ok kStr rfl rfl (by kernel_rfl) rfl rfl rfl (by exact sd) rfl (fun _ _ => rfl) rfl hkw (mlG w)) rfl rfl rfl ?_
    (refine wL (k := ?_); try (refine L.nil ?_))
    refine wS (k := ?_)
    refine L.nil ?_
    refine blkAs 12 { stp0 with kind := gK w }.cells rfl (Imps.refl { stp0 with kind := gK w }.cells) ?_
    ((repeat refine S.seq ?_); refine wG (k := ?_); try (refine L.nil ?_))
    repeat refine S.seq ?_
    refine S.cut (ι := Unit) (fun _ => [(1, .lst 1 n.length (fun i => [.v (.int .i64 (n.getD i 0))])), (4, .ptr 11 b4 0), (6, .ptr 12 b6 0)]) (fun _ => [(11, .blk b4 33 stp0.cells), (12, .blk b6 33 (stepsF w n).1.cells)]) ?_ ?_
    · ((repeat refine S.seq ?_); refine S.cond rfl (fun h2 => ?_) (fun h2 => ?_) <;> (try first | refine S.skip ?_ | refine S.exit ?_))
      · have h3 : (n.length : Int) = 2 := of_dec h2
        repeat refine S.seq ?_
        refine S.draw [] mixed ?_
        refine wT [0, 1, 2, 3, 4, 5, 6, 7, 8, 9] (k := ?_)
        refine wHS 10 (k := ?_)
        refine wT [11] (k := ?_)
        refine wHS 12 (k := ?_)
        refine wT [13] (k := ?_)
        refine wHS 14 (k := ?_)
        refine wD (k := ?_)
        refine blkAs 12 (stepsF w n).1.cells rfl ?_ ?_
        · rw [stepsF, if_pos hG, if_pos (show decide ((n.length : Int) = 2) = true from h2)]
          exact Imps.refl _
        exact fun a w' hR => ⟨(), hR.weakP (by (repeat' (first | exact True.intro | exact Imp.refl _ | refine ⟨?_, ?_⟩))) (by (repeat (first | exact Sub.refl _ | refine Sub.pick (by first | exact p0 | exact pS p0 | exact pS (pS p0) | exact pS (pS (pS p0)) | exact pS (pS (pS (pS p0))) | exact pS (pS (pS (pS (pS p0))))) ?_)))⟩
      · refine blkAs 12 (stepsF w n).1.cells rfl ?_ ?_
        · rw [stepsF, if_pos hG, if_neg (by rw [show decide ((n.length : Int) = 2) = false from h2]; decide)]
          exact Imps.refl _
        exact fun a w' hR => ⟨(), hR.weakP (by (repeat' (first | exact True.intro | exact Imp.refl _ | refine ⟨?_, ?_⟩))) (by (repeat (first | exact Sub.refl _ | refine Sub.pick (by first | exact p0 | exact pS p0 | exact pS (pS p0) | exact pS (pS (pS p0)) | exact pS (pS (pS (pS p0))) | exact pS (pS (pS (pS (pS p0))))) ?_)))⟩
    intro _
    ((repeat refine S.seq ?_); refine wG (k := ?_); try (refine L.nil ?_))
    refine wS (k := ?_)
    (refine wL (k := ?_); try (refine L.nil ?_))
    refine blkAs 11 (stepsF w n).1.cells rfl (Imps.refl (stepsF w n).1.cells) ?_
    (((repeat refine S.seq ?_); refine S.ret ?_); refine wRt (k := ?_))
    exact Imp.tup ⟨Imp.refl _, bAs (by rw [stepsF, if_pos hG]; rfl), trivial⟩
  have hG' : ¬ isG w = true := by rw [show isG w = false from hG]; decide
  ((repeat refine S.seq ?_); refine wG (k := ?_); try (refine L.nil ?_))
  repeat refine S.seq ?_
  refine S.cut (ι := Unit) (fun _ => [(0, .v (.string w)), (1, .lst 1 n.length (fun i => [.v (.int .i64 (n.getD i 0))])), (4, .ptr 11 b4 0), (6, .ptr 12 b6 0), (8, .v (.string w)), (37, .v (.bool (isM w)))]) (fun _ => [(11, .blk b4 33 stp0.cells), (12, .blk b6 33 stp0.cells)]) ?_ ?_
  · have g1 : isM w = (w == kSplit || w == kMove) := rfl
    ((repeat refine S.seq ?_); refine S.cond rfl (fun h1 => ?_) (fun h1 => ?_) <;> (try first | refine S.skip ?_ | refine S.exit ?_))
    · refine slotAs 37 (.v (.bool (isM w))) rfl (bAs (by rw [g1, show (w == kSplit) = true from h1]; exact h1)) ?_
      exact fun a w' hR => ⟨(), hR.weakP (by (repeat' (first | exact True.intro | exact Imp.refl _ | refine ⟨?_, ?_⟩))) (by (repeat (first | exact Sub.refl _ | refine Sub.pick (by first | exact p0 | exact pS p0 | exact pS (pS p0) | exact pS (pS (pS p0)) | exact pS (pS (pS (pS p0))) | exact pS (pS (pS (pS (pS p0))))) ?_)))⟩
    · ((repeat refine S.seq ?_); refine wG (k := ?_); try (refine L.nil ?_))
      refine slotAs 37 (.v (.bool (isM w))) rfl (bAs (by rw [g1, show (w == kSplit) = false from h1]; rfl)) ?_
      exact fun a w' hR => ⟨(), hR.weakP (by (repeat' (first | exact True.intro | exact Imp.refl _ | refine ⟨?_, ?_⟩))) (by (repeat (first | exact Sub.refl _ | refine Sub.pick (by first | exact p0 | exact pS p0 | exact pS (pS p0) | exact pS (pS (pS p0)) | exact pS (pS (pS (pS p0))) | exact pS (pS (pS (pS (pS p0))))) ?_)))⟩
  intro _
  ((repeat refine S.seq ?_); refine S.cond rfl (fun hM => ?_) (fun hM => ?_) <;> (try first | refine S.skip ?_ | refine S.exit ?_))
  · repeat refine S.seq ?_
    refine S.region ?_
    refine L.makeMap 13 9 rfl rfl rfl rfl fun b13 => ?_
    refine L.mapIns (T := tt) tt_ok kStr rfl rfl rfl rfl rfl rfl rfl rfl (by exact sd) rfl rfl (k1 kSplit (by decide)) ?_
    refine L.mapIns (T := tt) tt_ok kStr rfl rfl rfl rfl rfl rfl rfl rfl (by exact sd) rfl rfl (k1 kMove (by decide)) ?_
    (refine wL (k := ?_); try (refine L.nil ?_))
    refine L.sure (rd := [13]) (A := .v (.int .i64 (mK w))) (look_sure (T := tt) tt_ok kStr rfl rfl (by kernel_rfl) rfl rfl rfl (by exact sd) rfl (fun _ _ => rfl) rfl hkw (mlM w)) rfl rfl rfl ?_
    (refine wL (k := ?_); try (refine L.nil ?_))
    refine wS (k := ?_)
    refine L.nil ?_
    refine blkAs 12 { stp0 with kind := mK w }.cells rfl (Imps.refl { stp0 with kind := mK w }.cells) ?_
    obtain ⟨km, hkm⟩ : ∃ km, km = mK w := ⟨_, rfl⟩
    rw [← hkm]
    ((repeat refine S.seq ?_); refine wG (k := ?_); try (refine L.nil ?_))
    ((repeat refine S.seq ?_); refine S.cond rfl (fun h2 => ?_) (fun h2 => ?_) <;> (try first | refine S.skip ?_ | refine S.exit ?_))
    · have h2' : isMv w n = true := by rw [isMv, ← hkm]; exact h2
      have h2n : 2 ≤ n.length := by
        rw [isMv, Bool.or_eq_true, Bool.and_eq_true, Bool.and_eq_true, decide_eq_true_eq, decide_eq_true_eq, decide_eq_true_eq, decide_eq_true_eq] at h2'
        omega
      repeat refine S.seq ?_
      refine S.draw [] mixed ?_
      refine wT [0, 1, 2, 3, 4, 5, 6, 7, 8, 9, 10, 11, 12] (k := ?_)
      refine wHS 13 (k := ?_)
      refine wT [14] (k := ?_)
      refine wHS 15 (k := ?_)
      refine wT [16] (k := ?_)
      refine wHS 17 (k := ?_)
      refine wD (k := ?_)
      refine blkAs 12 (stepsF w n).1.cells rfl ?_ ?_
      · rw [stepsF, if_neg hG', if_pos hM, if_pos h2', hkm]
        have en : ((n.length : Int) - 1).toNat = n.length - 1 := by omega
        have ew : IntKind.i64.wrap ((n.length : Int) - 1) = (n.length : Int) - 1 := IntWalk.i64_in _ (by omega)
        refine ⟨Imp.refl _, Imp.refl _, Imp.refl _, Imp.refl _, Imp.refl _, ?_, Imp.refl _, Imp.refl _, Imp.refl _, Imp.refl _, trivial⟩
        have e9 : n.getD ((n.length : Int) - 1).toNat 0 = at_ n (n.length - 1) := by rw [en]; rfl
        exact Imp.of_eq (congrArg (fun z => AV.v (.int .i64 z)) e9)
      ((repeat refine S.seq ?_); refine wG (k := ?_); try (refine L.nil ?_))
      refine wS (k := ?_)
      (refine wL (k := ?_); try (refine L.nil ?_))
      refine blkAs 11 (stepsF w n).1.cells rfl (Imps.refl (stepsF w n).1.cells) ?_
      (((repeat refine S.seq ?_); refine S.ret ?_); refine wRt (k := ?_))
      exact Imp.tup ⟨Imp.refl _, bAs (by rw [stepsF, if_neg hG', if_pos hM, h2']), trivial⟩
    · have h2' : isMv w n = false := by rw [isMv, ← hkm]; exact h2
      refine blkAs 12 (stepsF w n).1.cells rfl ?_ ?_
      · rw [stepsF, if_neg hG', if_pos hM, if_neg (by rw [h2']; decide), hkm]
        exact Imps.refl _
      ((repeat refine S.seq ?_); refine wG (k := ?_); try (refine L.nil ?_))
      refine wS (k := ?_)
      (refine wL (k := ?_); try (refine L.nil ?_))
      refine blkAs 11 (stepsF w n).1.cells rfl (Imps.refl (stepsF w n).1.cells) ?_
      (((repeat refine S.seq ?_); refine S.ret ?_); refine wRt (k := ?_))
      exact Imp.tup ⟨Imp.refl _, bAs (by rw [stepsF, if_neg hG', if_pos hM, h2']), trivial⟩
  have hM' : ¬ isM w = true := by rw [show isM w = false from hM]; decide
  ((repeat refine S.seq ?_); refine wG (k := ?_); try (refine L.nil ?_))
  ((repeat refine S.seq ?_); refine S.cond rfl (fun hC => ?_) (fun hC => ?_) <;> (try first | refine S.skip ?_ | refine S.exit ?_))
  · ((repeat refine S.seq ?_); refine wG (k := ?_); try (refine L.nil ?_))
    refine wS (k := ?_)
    refine L.nil ?_
    refine blkAs 12 { stp0 with kind := 11 }.cells rfl (Imps.refl { stp0 with kind := 11 }.cells) ?_
    ((repeat refine S.seq ?_); refine wG (k := ?_); try (refine L.nil ?_))
    repeat refine S.seq ?_
    refine S.cut (ι := Unit) (fun _ => [(1, .lst 1 n.length (fun i => [.v (.int .i64 (n.getD i 0))])), (4, .ptr 11 b4 0), (6, .ptr 12 b6 0)]) (fun _ => [(11, .blk b4 33 stp0.cells), (12, .blk b6 33 (stepsF w n).1.cells)]) ?_ ?_
    · ((repeat refine S.seq ?_); refine S.cond rfl (fun h2 => ?_) (fun h2 => ?_) <;> (try first | refine S.skip ?_ | refine S.exit ?_))
      · have h3 : (n.length : Int) = 2 := of_dec h2
        repeat refine S.seq ?_
        refine S.draw [] mixed ?_
        refine wT [0, 1, 2, 3, 4, 5, 6] (k := ?_)
        refine wHS 7 (k := ?_)
        refine wT [8] (k := ?_)
        refine wHS 9 (k := ?_)
        refine wD (k := ?_)
        refine blkAs 12 (stepsF w n).1.cells rfl ?_ ?_
        · rw [stepsF, if_neg hG', if_neg hM', if_pos (show (w == kCrash) = true from hC), if_pos (show decide ((n.length : Int) = 2) = true from h2)]
          exact Imps.refl _
        exact fun a w' hR => ⟨(), hR.weakP (by (repeat' (first | exact True.intro | exact Imp.refl _ | refine ⟨?_, ?_⟩))) (by (repeat (first | exact Sub.refl _ | refine Sub.pick (by first | exact p0 | exact pS p0 | exact pS (pS p0) | exact pS (pS (pS p0)) | exact pS (pS (pS (pS p0))) | exact pS (pS (pS (pS (pS p0))))) ?_)))⟩
      · refine blkAs 12 (stepsF w n).1.cells rfl ?_ ?_
        · rw [stepsF, if_neg hG', if_neg hM', if_pos (show (w == kCrash) = true from hC), if_neg (by rw [show decide ((n.length : Int) = 2) = false from h2]; decide)]
          exact Imps.refl _
        exact fun a w' hR => ⟨(), hR.weakP (by (repeat' (first | exact True.intro | exact Imp.refl _ | refine ⟨?_, ?_⟩))) (by (repeat (first | exact Sub.refl _ | refine Sub.pick (by first | exact p0 | exact pS p0 | exact pS (pS p0) | exact pS (pS (pS p0)) | exact pS (pS (pS (pS p0))) | exact pS (pS (pS (pS (pS p0))))) ?_)))⟩
    intro _
    ((repeat refine S.seq ?_); refine wG (k := ?_); try (refine L.nil ?_))
    refine wS (k := ?_)
    (refine wL (k := ?_); try (refine L.nil ?_))
    refine blkAs 11 (stepsF w n).1.cells rfl (Imps.refl (stepsF w n).1.cells) ?_
    (((repeat refine S.seq ?_); refine S.ret ?_); refine wRt (k := ?_))
    exact Imp.tup ⟨Imp.refl _, bAs (by rw [stepsF, if_neg hG', if_neg hM', if_pos (show (w == kCrash) = true from hC)]; rfl), trivial⟩
  have hC' : ¬ (w == kCrash) = true := by rw [show (w == kCrash) = false from hC]; decide
  repeat refine S.seq ?_
  refine S.region ?_
  refine L.makeMap 13 9 rfl rfl rfl rfl fun b13 => ?_
  refine L.mapIns (T := tt) tt_ok kStr rfl rfl rfl rfl rfl rfl rfl rfl (by exact sd) rfl rfl (k1 kTick (by decide)) ?_
  refine L.mapIns (T := tt) tt_ok kStr rfl rfl rfl rfl rfl rfl rfl rfl (by exact sd) rfl rfl (k1 kDeliver (by decide)) ?_
  refine L.mapIns (T := tt) tt_ok kStr rfl rfl rfl rfl rfl rfl rfl rfl (by exact sd) rfl rfl (k1 kDrop (by decide)) ?_
  refine L.mapIns (T := tt) tt_ok kStr rfl rfl rfl rfl rfl rfl rfl rfl (by exact sd) rfl rfl (k1 kDouble (by decide)) ?_
  refine L.mapIns (T := tt) tt_ok kStr rfl rfl rfl rfl rfl rfl rfl rfl (by exact sd) rfl rfl (k1 kStart (by decide)) ?_
  (refine wL (k := ?_); try (refine L.nil ?_))
  refine L.sure (rd := [13]) (A := .v (.int .i64 (tK w))) (look_sure (T := tt) tt_ok kStr rfl rfl (by kernel_rfl) rfl rfl rfl (by exact sd) rfl (fun _ _ => rfl) rfl hkw (mlT w)) rfl rfl rfl ?_
  (refine wL (k := ?_); try (refine L.nil ?_))
  obtain ⟨kt, hkt⟩ : ∃ kt, kt = tK w := ⟨_, rfl⟩
  rw [← hkt]
  ((repeat refine S.seq ?_); refine wG (k := ?_); try (refine L.nil ?_))
  refine wS (k := ?_)
  refine L.nil ?_
  refine blkAs 12 { stp0 with kind := kt }.cells rfl (Imps.refl { stp0 with kind := kt }.cells) ?_
  ((repeat refine S.seq ?_); refine wG (k := ?_); try (refine L.nil ?_))
  repeat refine S.seq ?_
  refine S.cut (ι := Unit) (fun _ => [(1, .lst 1 n.length (fun i => [.v (.int .i64 (n.getD i 0))])), (4, .ptr 11 b4 0), (6, .ptr 12 b6 0), (7, .v (.int .i64 kt))]) (fun _ => [(11, .blk b4 33 stp0.cells), (12, .blk b6 33 (stepsF w n).1.cells)]) ?_ ?_
  · ((repeat refine S.seq ?_); refine S.cond rfl (fun h2 => ?_) (fun h2 => ?_) <;> (try first | refine S.skip ?_ | refine S.exit ?_))
    · have h3 : (n.length : Int) = 1 := of_dec h2
      ((repeat refine S.seq ?_); refine wG (k := ?_); try (refine L.nil ?_))
      refine wS (k := ?_)
      refine L.nil ?_
      refine blkAs 12 (stepsF w n).1.cells rfl ?_ ?_
      · rw [stepsF, if_neg hG', if_neg hM', if_neg hC', if_pos (show decide ((n.length : Int) = 1) = true from h2), hkt]
        exact Imps.refl _
      exact fun a w' hR => ⟨(), hR.weakP (by (repeat' (first | exact True.intro | exact Imp.refl _ | refine ⟨?_, ?_⟩))) (by (repeat (first | exact Sub.refl _ | refine Sub.pick (by first | exact p0 | exact pS p0 | exact pS (pS p0) | exact pS (pS (pS p0)) | exact pS (pS (pS (pS p0))) | exact pS (pS (pS (pS (pS p0))))) ?_)))⟩
    · refine blkAs 12 (stepsF w n).1.cells rfl ?_ ?_
      · rw [stepsF, if_neg hG', if_neg hM', if_neg hC', if_neg (by rw [show decide ((n.length : Int) = 1) = false from h2]; decide), hkt]
        exact Imps.refl _
      exact fun a w' hR => ⟨(), hR.weakP (by (repeat' (first | exact True.intro | exact Imp.refl _ | refine ⟨?_, ?_⟩))) (by (repeat (first | exact Sub.refl _ | refine Sub.pick (by first | exact p0 | exact pS p0 | exact pS (pS p0) | exact pS (pS (pS p0)) | exact pS (pS (pS (pS p0))) | exact pS (pS (pS (pS (pS p0))))) ?_)))⟩
  intro _
  ((repeat refine S.seq ?_); refine wG (k := ?_); try (refine L.nil ?_))
  refine wS (k := ?_)
  (refine wL (k := ?_); try (refine L.nil ?_))
  refine blkAs 11 (stepsF w n).1.cells rfl (Imps.refl (stepsF w n).1.cells) ?_
  (((repeat refine S.seq ?_); refine S.ret ?_); refine wRt (k := ?_))
  exact Imp.tup ⟨Imp.refl _, bAs (by rw [stepsF, if_neg hG', if_neg hM', if_neg hC', hkt]; rfl), trivial⟩
end Go.Proofs.YtbogfmgfafdjiaaGreatDoor

/- Keys of a map whose keys are two numbers and a text. -/
namespace Go.Proofs.YtbogfmgfafdjiaaGreatDoor.KeyLine
set_option linter.unusedVariables false
set_option linter.unusedSimpArgs false
set_option maxHeartbeats 8000000
open Go.RowKit
open Go.Maps (Keyed)
set_option maxRecDepth 20000

theorem rowName : Nat.blt 453 Tryz.prog.types.size = true := by kernel_rfl
theorem sizeT : ∃ m, Tryz.prog.types.size = m + 1 := by
  have h := of_blt rowName
  generalize Tryz.prog.types.size = n at h ⊢
  exact ⟨n - 1, by omega⟩
theorem kName : Keyed Tryz.prog 453 := Keyed.of_law (deep_law_laid laid (m := 2) (by omega) (of_blt rowName) (by kernel_rfl) (by kernel_rfl))

theorem keyT : Tryz.prog.keyType 453 = true := by kernel_rfl
theorem cellsT : Tryz.prog.cellsOf 453 = 3 := by kernel_rfl
theorem cellsI : Tryz.prog.cellsOf 3 = 1 := by kernel_rfl
theorem cellsS : Tryz.prog.cellsOf 9 = 1 := by kernel_rfl

theorem kName_ok {p q : Int} {b : ByteArray} (hp : fitI p) (hq : fitI q) (h : fitS b) : kOf Tryz.prog 453 (.agg #[.int .i64 p, .int .i64 q, .string b]) = true := by
  have hs : Tryz.prog.underlying 9 = some .string := by kernel_rfl
  have hi : Tryz.prog.underlying 3 = some (.int .i64) := by kernel_rfl
  obtain ⟨l, hu, hfs⟩ := (TOk.told (P := Tryz.prog) (T := tt) tt_ok (t := 453) rfl).struct rfl
  obtain ⟨m, hm⟩ := sizeT
  obtain ⟨fl⟩ := l
  match fl, hfs with
  | [f1, f2, f3], hfs =>
    simp only [fsOk, Bool.and_eq_true, beq_iff_eq, bne_iff_ne, ne_eq] at hfs
    obtain ⟨⟨⟨⟨⟨o1, t1⟩, -⟩, -⟩, n1⟩, ⟨⟨⟨⟨o2, t2⟩, -⟩, -⟩, n2⟩, ⟨⟨⟨⟨o3, t3⟩, -⟩, -⟩, n3⟩, -⟩ := hfs
    have wf : ∀ {z : Int}, fitI z → (Lit.int .i64 z).wf = true := fun {z} h => by
      have := h.1; have := h.2
      simp [Lit.wf, IntKind.min, IntKind.max, IntKind.signed, IntKind.bits]
      omega
    have w1 := wf hp
    have w2 := wf hq
    have w3 : b.size ≤ maxLen := by unfold fitS at h; simp only [maxLen]; omega
    have hform : (Value.agg #[.int .i64 p, .int .i64 q, .string b]).formed Tryz.prog 453 = true := by
      simp [Value.formed, hu, cellsT]
    simp only [kOf, keyOf, hu, keyT, hform, Bool.and_self, if_true, hm]
    simp [Program.keyLits, hu, Value.cells, cellsT, n1, n2, n3, o1, t1, o2, t2, o3, t3, cellsI, cellsS, hs, hi, w1, w2, w3]

end Go.Proofs.YtbogfmgfafdjiaaGreatDoor.KeyLine

/- Keys of a map whose keys are a number and a text. -/
namespace Go.Proofs.YtbogfmgfafdjiaaGreatDoor.KeyLock
set_option linter.unusedVariables false
set_option linter.unusedSimpArgs false
set_option maxHeartbeats 8000000
open Go.RowKit
open Go.Maps (Keyed)
set_option maxRecDepth 20000

theorem rowName : Nat.blt 462 Tryz.prog.types.size = true := by kernel_rfl
theorem sizeT : ∃ m, Tryz.prog.types.size = m + 1 := by
  have h := of_blt rowName
  generalize Tryz.prog.types.size = n at h ⊢
  exact ⟨n - 1, by omega⟩
theorem kName : Keyed Tryz.prog 462 := Keyed.of_law (deep_law_laid laid (m := 2) (by omega) (of_blt rowName) (by kernel_rfl) (by kernel_rfl))

theorem keyT : Tryz.prog.keyType 462 = true := by kernel_rfl
theorem cellsT : Tryz.prog.cellsOf 462 = 2 := by kernel_rfl
theorem cellsI : Tryz.prog.cellsOf 3 = 1 := by kernel_rfl
theorem cellsS : Tryz.prog.cellsOf 9 = 1 := by kernel_rfl

theorem kName_ok {p : Int} {b : ByteArray} (hp : fitI p) (h : fitS b) : kOf Tryz.prog 462 (nameV p b) = true := by
  have hs : Tryz.prog.underlying 9 = some .string := by kernel_rfl
  have hi : Tryz.prog.underlying 3 = some (.int .i64) := by kernel_rfl
  obtain ⟨l, hu, hfs⟩ := (TOk.told (P := Tryz.prog) (T := tt) tt_ok (t := 462) rfl).struct rfl
  obtain ⟨m, hm⟩ := sizeT
  obtain ⟨fl⟩ := l
  match fl, hfs with
  | [f1, f2], hfs =>
    simp only [fsOk, Bool.and_eq_true, beq_iff_eq, bne_iff_ne, ne_eq] at hfs
    obtain ⟨⟨⟨⟨⟨o1, t1⟩, -⟩, -⟩, n1⟩, ⟨⟨⟨⟨o2, t2⟩, -⟩, -⟩, n2⟩, -⟩ := hfs
    have hwf : (Lit.int .i64 p).wf = true := by
      have := hp.1; have := hp.2
      simp [Lit.wf, IntKind.min, IntKind.max, IntKind.signed, IntKind.bits]
      omega
    have hsz : b.size ≤ maxLen := by unfold fitS at h; simp only [maxLen]; omega
    have hform : (nameV p b).formed Tryz.prog 462 = true := by
      simp [Value.formed, nameV, hu, cellsT]
    simp only [kOf, keyOf, hu, keyT, hform, Bool.and_self, if_true, hm]
    simp [Program.keyLits, hu, nameV, Value.cells, cellsT, n1, n2, o1, t1, o2, t2, cellsI, cellsS, hs, hi, hwf, hsz]

end Go.Proofs.YtbogfmgfafdjiaaGreatDoor.KeyLock

/- Keys of a map whose keys are two numbers and a third one. -/
namespace Go.Proofs.YtbogfmgfafdjiaaGreatDoor.KeyTag
set_option linter.unusedVariables false
set_option linter.unusedSimpArgs false
set_option maxHeartbeats 8000000
open Go.RowKit
open Go.Maps (Keyed)
set_option maxRecDepth 20000

theorem rowName : Nat.blt 464 Tryz.prog.types.size = true := by kernel_rfl
theorem sizeT : ∃ m, Tryz.prog.types.size = m + 1 := by
  have h := of_blt rowName
  generalize Tryz.prog.types.size = n at h ⊢
  exact ⟨n - 1, by omega⟩
theorem kName : Keyed Tryz.prog 464 := Keyed.of_law (deep_law_laid laid (m := 2) (by omega) (of_blt rowName) (by kernel_rfl) (by kernel_rfl))

theorem keyT : Tryz.prog.keyType 464 = true := by kernel_rfl
theorem cellsT : Tryz.prog.cellsOf 464 = 3 := by kernel_rfl
theorem cellsI : Tryz.prog.cellsOf 3 = 1 := by kernel_rfl
theorem cellsS : Tryz.prog.cellsOf 9 = 1 := by kernel_rfl

theorem kName_ok {p q : Int} {b : Int} (hp : fitI p) (hq : fitI q) (h : fitI b) : kOf Tryz.prog 464 (.agg #[.int .i64 p, .int .i64 q, .int .i64 b]) = true := by
  have hs : Tryz.prog.underlying 9 = some .string := by kernel_rfl
  have hi : Tryz.prog.underlying 3 = some (.int .i64) := by kernel_rfl
  obtain ⟨l, hu, hfs⟩ := (TOk.told (P := Tryz.prog) (T := tt) tt_ok (t := 464) rfl).struct rfl
  obtain ⟨m, hm⟩ := sizeT
  obtain ⟨fl⟩ := l
  match fl, hfs with
  | [f1, f2, f3], hfs =>
    simp only [fsOk, Bool.and_eq_true, beq_iff_eq, bne_iff_ne, ne_eq] at hfs
    obtain ⟨⟨⟨⟨⟨o1, t1⟩, -⟩, -⟩, n1⟩, ⟨⟨⟨⟨o2, t2⟩, -⟩, -⟩, n2⟩, ⟨⟨⟨⟨o3, t3⟩, -⟩, -⟩, n3⟩, -⟩ := hfs
    have wf : ∀ {z : Int}, fitI z → (Lit.int .i64 z).wf = true := fun {z} h => by
      have := h.1; have := h.2
      simp [Lit.wf, IntKind.min, IntKind.max, IntKind.signed, IntKind.bits]
      omega
    have w1 := wf hp
    have w2 := wf hq
    have w3 : (Lit.int .i64 b).wf = true := wf h
    have hform : (Value.agg #[.int .i64 p, .int .i64 q, .int .i64 b]).formed Tryz.prog 464 = true := by
      simp [Value.formed, hu, cellsT]
    simp only [kOf, keyOf, hu, keyT, hform, Bool.and_self, if_true, hm]
    simp [Program.keyLits, hu, Value.cells, cellsT, n1, n2, n3, o1, t1, o2, t2, o3, t3, cellsI, cellsS, hs, hi, w1, w2, w3]

end Go.Proofs.YtbogfmgfafdjiaaGreatDoor.KeyTag

/- The judge: what it keeps, as rows; beginning. -/
namespace Go.Proofs.YtbogfmgfafdjiaaGreatDoor
set_option linter.unusedVariables false
set_option linter.unusedSimpArgs false
set_option maxHeartbeats 8000000
open Go.RowKit
set_option maxRecDepth 4000

structure ActD where
  kind : Int
  cl : Int
  q : Int
  seq : Int
  tag : Int
  code : Int
  key : ByteArray
  body : ByteArray
  many : Int
  m : Msg
  deriving DecidableEq
instance : Inhabited ActD := ⟨⟨0, 0, 0, 0, 0, 0, ByteArray.empty, ByteArray.empty, 0, default⟩⟩
def ActD.cells (a : ActD) : List AV := [.v (.int .i64 a.kind), .v (.int .i64 a.cl), .v (.int .i64 a.q), .v (.int .i64 a.seq), .v (.int .i64 a.tag), .v (.int .i64 a.code), .v (.string a.key), .v (.string a.body), .v (.int .i64 a.many),
  .v (.int .i64 a.m.pub), .v (.int .i64 a.m.seq), .v (.string a.m.key), .v (.string a.m.body), .v (.bool a.m.again)]
def ActD.av (a : ActD) : AV := .agg a.cells

structure LineK where
  pub : Int
  q : Int
  key : ByteArray
  deriving DecidableEq
instance : Inhabited LineK := ⟨⟨0, 0, ByteArray.empty⟩⟩
def LineK.v (k : LineK) : Value := .agg #[.int .i64 k.pub, .int .i64 k.q, .string k.key]
theorem LineK.inj {a b : LineK} (h : a.v = b.v) : a = b := by
  cases a; cases b
  simp [LineK.v] at h
  obtain ⟨h1, h2, h3⟩ := h
  subst h1; subst h2; subst h3; rfl
structure LockK where
  q : Int
  key : ByteArray
  deriving DecidableEq
def LockK.v (k : LockK) : Value := .agg #[.int .i64 k.q, .string k.key]
theorem LockK.inj {a b : LockK} (h : a.v = b.v) : a = b := by
  cases a; cases b
  simp [LockK.v] at h
  obtain ⟨h1, h2⟩ := h
  subst h1; subst h2; rfl
structure TagK where
  cl : Int
  q : Int
  tag : Int
  deriving DecidableEq
def TagK.v (k : TagK) : Value := .agg #[.int .i64 k.cl, .int .i64 k.q, .int .i64 k.tag]
theorem TagK.inj {a b : TagK} (h : a.v = b.v) : a = b := by
  cases a; cases b
  simp [TagK.v] at h
  obtain ⟨h1, h2, h3⟩ := h
  subst h1; subst h2; subst h3; rfl

structure BatD where
  fr : Int
  to : Int
  st : Int
  deriving DecidableEq
instance : Inhabited BatD := ⟨⟨0, 0, 0⟩⟩
def BatD.cells (b : BatD) : List AV := [.v (.int .i64 b.fr), .v (.int .i64 b.to), .v (.int .i64 b.st)]
structure MsD where
  m : Msg
  bt : Nat
  del : Bool
  ack : Bool
  fin : Bool
  deriving DecidableEq
instance : Inhabited MsD := ⟨⟨default, 0, false, false, false⟩⟩
def ptV (b : Nat) : Value := .pointer (some ⟨b, 0, none⟩)
def ptC (pb : List Nat) (i : Nat) : List AV := [.v (ptV (pb.getD i 0))]
def MsD.cells (bb : List Nat) (x : MsD) : List AV := [.v (.int .i64 x.m.pub), .v (.int .i64 x.m.seq), .v (.string x.m.key), .v (.string x.m.body), .v (.bool x.m.again), .v (ptV (bb.getD x.bt 0)), .v (.bool x.del), .v (.bool x.ack), .v (.bool x.fin)]

abbrev LineM := List (LineK × List Nat)
structure Crt where
  bat : LineM
  all : LineM
  bs : List BatD
  ms : List MsD
  held : List LockK
  holds : List (TagK × Nat)
  acks : List (TagK × Nat)
  l0 : Int
  l1 : Int
  l2 : Int
  l3 : Int
structure Adr where
  c : Nat
  mB : Nat
  mA : Nat
  mH : Nat
  mO : Nat
  mK : Nat
  xo : Value
  xb : List Value
  xa : List Value
  bb : List Nat
  mb : List Nat

/-- A map from lines to slices of pointers. -/
def lineM (l : LineM) (xs : List Value) : List (Value × AV) := (l.zip xs).map fun p => (p.1.1.v, .v p.2)
def lineR (E : TypeId) (pb : List Nat) (l : LineM) (xs : List Value) : List Row := (l.zip xs).map fun p => .own p.2 E 1 p.1.2.length (gOf (ptC pb) p.1.2)
def batR (bs : List BatD) (bb : List Nat) : List Row := (bs.zip bb).map fun p => .blk p.2 456 p.1.cells
def msR (ms : List MsD) (mb bb : List Nat) : List Row := (ms.zip mb).map fun p => .blk p.2 460 (p.1.cells bb)
def lockM (l : List LockK) : List (Value × AV) := l.map fun k => (k.v, .v (.bool true))
def tagM (l : List (TagK × Nat)) (mb : List Nat) : List (Value × AV) := l.map fun p => (p.1.v, .v (ptV (mb.getD p.2 0)))
def dynS (ad : Adr) (s : Crt) : List Row := dyn4 (lineR 454 ad.bb s.bat ad.xb) (lineR 458 ad.mb s.all ad.xa) (batR s.bs ad.bb) (msR s.ms ad.mb ad.bb)

def crtC (ad : Adr) (s : Crt) : List AV := [.ref 61 (.map (some ad.mB)), .ref 62 (.map (some ad.mA)), .ref 63 ad.xo, .ref 64 (.map (some ad.mH)), .ref 65 (.map (some ad.mO)), .ref 66 (.map (some ad.mK)), .v (.int .i64 s.l0), .v (.int .i64 s.l1), .v (.int .i64 s.l2), .v (.int .i64 s.l3)]
noncomputable def crtR (ad : Adr) (s : Crt) (D : List Row) : Rows := (60, .blk ad.c 366 (crtC ad s)) :: (61, .map ad.mB (kOf Tryz.prog 453) (lineM s.bat ad.xb)) :: (62, .map ad.mA (kOf Tryz.prog 453) (lineM s.all ad.xa)) ::
  (63, .own ad.xo 458 1 ad.mb.length (gOf (fun b => [.v (ptV b)]) ad.mb)) :: (64, .map ad.mH (kOf Tryz.prog 462) (lockM s.held)) :: (65, .map ad.mO (kOf Tryz.prog 464) (tagM s.holds ad.mb)) :: (66, .map ad.mK (kOf Tryz.prog 464) (tagM s.acks ad.mb)) :: tl D

/-- The addresses fit. -/
structure AdOk (ad : Adr) (s : Crt) : Prop where
  xb : ad.xb.length = s.bat.length
  xa : ad.xa.length = s.all.length
  bb : ad.bb.length = s.bs.length
  mb : ad.mb.length = s.ms.length
structure CrtOk (s : Crt) : Prop where
  bat : ∀ p ∈ s.bat, ∀ j ∈ p.2, j < s.bs.length
  all : ∀ p ∈ s.all, ∀ j ∈ p.2, j < s.ms.length
  bt : ∀ m ∈ s.ms, m.bt < s.bs.length
  holds : ∀ p ∈ s.holds, p.2 < s.ms.length
  acks : ∀ p ∈ s.acks, p.2 < s.ms.length
  blen : s.bs.length ≤ 1000
  mlen : s.ms.length ≤ 8 * s.bs.length
  len1 : ∀ p ∈ s.bat, p.2.length ≤ s.bs.length
  len2 : ∀ p ∈ s.all, p.2.length ≤ s.ms.length
def crt0 : Crt := ⟨[], [], [], [], [], [], [], 0, 0, 0, 0⟩
noncomputable def courtR (ad : Adr) (s : Crt) : Rows := crtR ad s (dynS ad s)

/-- How the tail of a court's rows turns. -/
theorem crtPm {c : Ctx} {σ : Slots} {K : Act → World → Prop} {ad : Adr} {s : Crt} {D : List Row} (X Y : Rows) (D' : List Row) (h : (X.map (·.2) ++ D).Perm (Y.map (·.2) ++ D')) (next : ∀ a w, R c σ (Y ++ crtR ad s D') a w → K a w) : ∀ a w, R c σ (X ++ crtR ad s D) a w → K a w := by
  refine rowsPm (Y ++ crtR ad s D') ?_ next
  have e : ∀ (Z : Rows) (G : List Row), ∃ L : List Row, (Z ++ crtR ad s G).map (·.2) = Z.map (·.2) ++ (L ++ G) ∧ L = (crtR ad s []).map (·.2) := fun Z G => by
    refine ⟨_, ?_, rfl⟩
    simp only [List.map_append, crtR, List.map_cons, tl_snd, List.cons_append]
    rfl
  obtain ⟨L1, e1, f1⟩ := e X D
  obtain ⟨L2, e2, f2⟩ := e Y D'
  rw [e1, e2, f1, f2]
  have sw : ∀ (P Q S : List Row), (P ++ (Q ++ S)).Perm (Q ++ (P ++ S)) := fun P Q S => by
    rw [← List.append_assoc, ← List.append_assoc]
    exact List.Perm.append_right S List.perm_append_comm
  exact (sw _ _ _).trans ((List.Perm.append_left _ h).trans (sw _ _ _))
section
variable {c : Ctx} {σ : Slots} {K : Act → World → Prop} {ad : Adr} {s : Crt} {D D' : List Row} {p q : Nat × Row} {r : Row}
theorem take1 (j : Nat) (h : D.Perm (r :: D')) (next : ∀ a w, R c σ ((j, r) :: crtR ad s D') a w → K a w) : ∀ a w, R c σ (crtR ad s D) a w → K a w :=
  crtPm [] [(j, r)] D' (by simpa using h) next
theorem take2 (j : Nat) (h : D.Perm (r :: D')) (next : ∀ a w, R c σ ((j, r) :: p :: crtR ad s D') a w → K a w) : ∀ a w, R c σ (p :: crtR ad s D) a w → K a w :=
  crtPm [p] [(j, r), p] D' (by simpa using ((List.Perm.cons p.2 h).trans (List.Perm.swap _ _ _))) next
theorem take3 (j : Nat) (h : D.Perm (r :: D')) (next : ∀ a w, R c σ ((j, r) :: p :: q :: crtR ad s D') a w → K a w) : ∀ a w, R c σ (p :: q :: crtR ad s D) a w → K a w :=
  crtPm [p, q] [(j, r), p, q] D' (by simpa using (pull (X := [p.2, q.2]) h)) next
theorem put1 (D' : List Row) (h : (p.2 :: D).Perm D') (next : ∀ a w, R c σ (crtR ad s D') a w → K a w) : ∀ a w, R c σ (p :: crtR ad s D) a w → K a w :=
  crtPm [p] [] D' (by simpa using h) next
theorem put2 (D' : List Row) (h : (p.2 :: D).Perm D') (next : ∀ a w, R c σ (q :: crtR ad s D') a w → K a w) : ∀ a w, R c σ (p :: q :: crtR ad s D) a w → K a w :=
  crtPm [p, q] [q] D' (by simpa using ((List.Perm.swap _ _ _).trans (List.Perm.cons q.2 h))) next
theorem put2' (D' : List Row) (h : (q.2 :: D).Perm D') (next : ∀ a w, R c σ (p :: crtR ad s D') a w → K a w) : ∀ a w, R c σ (p :: q :: crtR ad s D) a w → K a w :=
  crtPm [p, q] [p] D' (by simpa using (List.Perm.cons p.2 h)) next
theorem put3 (D' : List Row) {t : Nat × Row} (h : (p.2 :: D).Perm D') (next : ∀ a w, R c σ (q :: t :: crtR ad s D') a w → K a w) : ∀ a w, R c σ (p :: q :: t :: crtR ad s D) a w → K a w :=
  crtPm [p, q, t] [q, t] D' (by simpa using ((pull (X := [q.2, t.2]) h.symm).symm)) next
end

theorem newCourt_p : FnC Tryz.prog 167 [] [] (fun r F' => ∃ ad, r = .ptr 60 ad.c 0 ∧ F' = courtR ad crt0 ∧ AdOk ad crt0) := by
  refine FnC.intro Tryz.func167 rfl Tryz.ntmps167 rfl ?_; intro off w0
  ((repeat refine S.seq ?_); refine wG (k := ?_); try (refine L.nil ?_))
  repeat refine S.seq ?_
  refine S.region ?_
  refine L.makeMap 61 453 rfl rfl rfl rfl fun b1 => ?_
  refine L.makeMap 62 453 rfl rfl rfl rfl fun b2 => ?_
  refine L.makeMap 64 462 rfl rfl rfl rfl fun b3 => ?_
  refine L.makeMap 65 464 rfl rfl rfl rfl fun b4 => ?_
  refine L.makeMap 66 464 rfl rfl rfl rfl fun b5 => ?_
  (refine wL (k := ?_); try (refine L.nil ?_))
  refine wB 60 (k := fun b7 => ?_)
  (refine wL (k := ?_); try (refine L.nil ?_))
  refine nilRow 63 458 1 (gOf (fun b => [.v (ptV b)]) []) ?_
  refine blkAs 60 (crtC ⟨b7, b1, b2, b3, b4, b5, .slice none 0 0, [], [], [], []⟩ crt0) rfl ⟨Imp.refl _, Imp.refl _, Imp.vref rfl, Imp.refl _, Imp.refl _, Imp.refl _, Imp.refl _, Imp.refl _, Imp.refl _, Imp.refl _, trivial⟩ ?_
  refine rowsTo (courtR ⟨b7, b1, b2, b3, b4, b5, .slice none 0 0, [], [], [], []⟩ crt0) (by unfold courtR crtR; (repeat (first | exact Sub.refl _ | refine Sub.pick (by first | exact p0 | exact pS p0 | exact pS (pS p0) | exact pS (pS (pS p0)) | exact pS (pS (pS (pS p0))) | exact pS (pS (pS (pS (pS p0))))) ?_))) ?_
  ((repeat refine S.seq ?_); refine S.ret ?_)
  exact E.ret (T := tt) tt_ok rfl rfl (by exact sd) (Imp.refl _) (List.Sublist.refl _) ⟨_, rfl, rfl, ⟨rfl, rfl, rfl, rfl⟩⟩

end Go.Proofs.YtbogfmgfafdjiaaGreatDoor

/- The judge: plain laws of its rows. -/
namespace Go.Proofs.YtbogfmgfafdjiaaGreatDoor
set_option linter.unusedVariables false
set_option linter.unusedSimpArgs false
set_option maxHeartbeats 8000000
open Go.RowKit
set_option maxRecDepth 4000

def nilS : Value := .slice none 0 0
def lkL : LineM → LineK → List Nat
  | [], _ => []
  | p :: t, k => if p.1 = k then p.2 else lkL t k
def hasL : LineM → LineK → Bool
  | [], _ => false
  | p :: t, k => if p.1 = k then true else hasL t k
def slx : LineM → List Value → LineK → Value
  | p :: t, y :: xs, k => if p.1 = k then y else slx t xs k
  | _, _, _ => nilS
def jputL : LineM → LineK → List Nat → LineM
  | [], k, v => [(k, v)]
  | p :: t, k, v => if p.1 = k then (k, v) :: t else p :: jputL t k v
def putX : LineM → List Value → LineK → Value → List Value
  | p :: t, y :: xs, k, x => if p.1 = k then x :: xs else y :: putX t xs k x
  | _, _, _, x => [x]
def rowL (E : TypeId) (pb : List Nat) (x : Value) (v : List Nat) : Row := .own x E 1 v.length (gOf (ptC pb) v)
def rmR (E : TypeId) (pb : List Nat) : LineM → List Value → LineK → List Row
  | p :: t, y :: xs, k => if p.1 = k then lineR E pb t xs else rowL E pb y p.2 :: rmR E pb t xs k
  | _, _, _ => []

theorem lineR_cons (E : TypeId) (pb : List Nat) (p : LineK × List Nat) (t : LineM) (y : Value) (xs : List Value) : lineR E pb (p :: t) (y :: xs) = rowL E pb y p.2 :: lineR E pb t xs := rfl
theorem open_has {E : TypeId} {pb : List Nat} {k : LineK} : ∀ {l : LineM} {xs : List Value}, xs.length = l.length → hasL l k = true → (lineR E pb l xs).Perm (rowL E pb (slx l xs k) (lkL l k) :: rmR E pb l xs k)
  | [], _, _, h => by cases h
  | p :: t, [], hl, _ => by simp at hl
  | p :: t, y :: xs, hl, h => by
    rw [lineR_cons]
    simp only [slx, lkL, rmR, hasL] at h ⊢
    split
    · exact List.Perm.refl _
    · rename_i hk
      rw [if_neg hk] at h
      exact (List.Perm.cons _ (open_has (by simpa using hl) h)).trans (List.Perm.swap _ _ _)
theorem open_no {E : TypeId} {pb : List Nat} {k : LineK} : ∀ {l : LineM} {xs : List Value}, xs.length = l.length → hasL l k = false → slx l xs k = nilS ∧ lkL l k = [] ∧ rmR E pb l xs k = lineR E pb l xs
  | [], xs, _, h => ⟨rfl, rfl, rfl⟩
  | p :: t, [], hl, _ => by simp at hl
  | p :: t, y :: xs, hl, h => by
    rw [lineR_cons]
    simp only [slx, lkL, rmR, hasL] at h ⊢
    split at h
    · cases h
    · rename_i hk
      obtain ⟨h1, h2, h3⟩ := open_no (E := E) (pb := pb) (l := t) (xs := xs) (by simpa using hl) h
      rw [if_neg hk, if_neg hk, if_neg hk, h1, h2, h3]
      exact ⟨rfl, rfl, rfl⟩
theorem open_put {E : TypeId} {pb : List Nat} {k : LineK} (x' : Value) (v : List Nat) : ∀ {l : LineM} {xs : List Value}, xs.length = l.length → (rowL E pb x' v :: rmR E pb l xs k).Perm (lineR E pb (jputL l k v) (putX l xs k x'))
  | [], xs, _ => by
    cases xs <;> exact List.Perm.refl _
  | p :: t, [], hl => by simp at hl
  | p :: t, y :: xs, hl => by
    simp only [rmR, jputL, putX]
    split
    · exact List.Perm.refl _
    · rw [lineR_cons]
      exact (List.Perm.swap _ _ _).trans (List.Perm.cons _ (open_put x' v (by simpa using hl)))
theorem lineM_cons (p : LineK × List Nat) (t : LineM) (y : Value) (xs : List Value) : lineM (p :: t) (y :: xs) = (p.1.v, .v y) :: lineM t xs := rfl
theorem look_line {k : LineK} : ∀ {l : LineM} {xs : List Value}, xs.length = l.length → mlook (lineM l xs) k.v nilS = .v (slx l xs k)
  | [], xs, _ => by cases xs <;> rfl
  | p :: t, [], hl => by simp at hl
  | p :: t, y :: xs, hl => by
    rw [lineM_cons]
    simp only [slx]
    split
    · rename_i hk
      rw [← hk, mlook, mget_cons_same]
      rfl
    · rename_i hk
      rw [mlook, mget_cons_other _ _ (fun e => hk (LineK.inj e))]
      exact look_line (by simpa using hl)
theorem put_line {k : LineK} (x' : Value) (v : List Nat) (key : Value) : ∀ {l : LineM} {xs : List Value}, xs.length = l.length → mget ((k.v, .v x') :: lineM l xs) key = mget (lineM (jputL l k v) (putX l xs k x')) key
  | [], xs, _ => by cases xs <;> rfl
  | p :: t, [], hl => by simp at hl
  | p :: t, y :: xs, hl => by
    rw [lineM_cons]
    simp only [jputL, putX]
    split
    · rename_i hk
      rw [hk]
      show _ = mget ((k.v, .v x') :: lineM t xs) key
      by_cases h : k.v = key
      · rw [← h, mget_cons_same, mget_cons_same]
      · rw [mget_cons_other _ _ h, mget_cons_other _ _ h, mget_cons_other _ _ h]
    · rename_i hk
      rw [lineM_cons]
      have ih := put_line x' v key (k := k) (l := t) (xs := xs) (by simpa using hl)
      by_cases h : p.1.v = key
      · rw [← h, mget_cons_other _ _ (fun e => hk (LineK.inj e).symm), mget_cons_same, mget_cons_same]
      · by_cases h2 : k.v = key
        · rw [mget_cons_other _ _ h, ← ih, ← h2, mget_cons_same, mget_cons_same]
        · rw [mget_cons_other _ _ h2, mget_cons_other _ _ h, mget_cons_other _ _ h, ← ih, mget_cons_other _ _ h2]
theorem putX_len {k : LineK} {x : Value} {v : List Nat} : ∀ {l : LineM} {xs : List Value}, xs.length = l.length → (putX l xs k x).length = (jputL l k v).length
  | [], xs, hl => by cases xs <;> rfl
  | p :: t, [], hl => by simp at hl
  | p :: t, y :: xs, hl => by
    simp only [putX, jputL]
    split
    · simpa using hl
    · simp only [List.length_cons]
      rw [putX_len (v := v) (by simpa using hl)]
theorem mem_put {k : LineK} {v : List Nat} {p : LineK × List Nat} : ∀ {l : LineM}, p ∈ jputL l k v → p ∈ l ∨ p = (k, v)
  | [], h => by simpa [jputL] using h
  | a :: t, h => by
    simp only [jputL] at h
    split at h
    · rcases List.mem_cons.1 h with h | h
      · exact .inr h
      · exact .inl (List.mem_cons_of_mem _ h)
    · rcases List.mem_cons.1 h with h | h
      · exact .inl (by simp [h])
      · rcases mem_put h with h | h
        · exact .inl (List.mem_cons_of_mem _ h)
        · exact .inr h
theorem lk_mem {k : LineK} : ∀ {l : LineM}, lkL l k = [] ∨ ∃ p ∈ l, p.2 = lkL l k
  | [] => .inl rfl
  | p :: t => by
    simp only [lkL]
    split
    · exact .inr ⟨p, by simp, rfl⟩
    · rcases lk_mem (l := t) (k := k) with h | ⟨q, h1, h2⟩
      · exact .inl h
      · exact .inr ⟨q, by simp [h1], h2⟩
theorem lk_put {k k' : LineK} {v : List Nat} : ∀ {l : LineM}, lkL (jputL l k v) k' = if k = k' then v else lkL l k'
  | [] => by simp only [jputL, lkL]
  | p :: t => by
    simp only [jputL, lkL]
    split
    · rename_i h
      subst h
      simp only [lkL]
      split <;> rfl
    · rename_i h
      simp only [lkL]
      rw [lk_put]
      split
      · rename_i h2
        subst h2
        rw [if_neg (fun e => h e.symm)]
      · rfl

theorem zip_at {α β : Type} {l : List α} {m : List β} {j : Nat} {a : α} {b : β} (h1 : l[j]? = some a) (h2 : m[j]? = some b) : (l.zip m)[j]? = some (a, b) := by
  simp [List.zip, List.getElem?_zipWith, h1, h2]
theorem bat_get {bs : List BatD} {bb : List Nat} {j : Nat} (hb : bb.length = bs.length) (h : j < bs.length) : (batR bs bb)[j]? = some (.blk (bb.getD j 0) 456 (bs.getD j default).cells) := by
  unfold batR
  rw [List.getElem?_map, zip_at (List.getElem?_eq_getElem h) (List.getElem?_eq_getElem (by omega)), List.getD_eq_getElem?_getD, List.getD_eq_getElem?_getD, List.getElem?_eq_getElem h, List.getElem?_eq_getElem (l := bb) (by omega)]
  rfl
theorem bat_set {bs : List BatD} {bb : List Nat} {j : Nat} (hb : bb.length = bs.length) (h : j < bs.length) (b : BatD) : (batR bs bb).set j (.blk (bb.getD j 0) 456 b.cells) = batR (bs.set j b) bb := by
  unfold batR
  apply List.ext_getElem?
  intro i
  rw [List.getElem?_set]
  by_cases hi : j = i
  · subst hi
    rw [if_pos rfl, if_pos (by simp; omega), List.getElem?_map, zip_at (a := b) (List.getElem?_set_self h) (List.getElem?_eq_getElem (by omega)), List.getD_eq_getElem?_getD, List.getElem?_eq_getElem (l := bb) (by omega)]
    rfl
  · rw [if_neg hi]
    simp only [List.getElem?_map, List.zip, List.getElem?_zipWith, List.getElem?_set_ne hi]
theorem ms_get {ms : List MsD} {mb bb : List Nat} {j : Nat} (hb : mb.length = ms.length) (h : j < ms.length) : (msR ms mb bb)[j]? = some (.blk (mb.getD j 0) 460 ((ms.getD j default).cells bb)) := by
  unfold msR
  rw [List.getElem?_map, zip_at (List.getElem?_eq_getElem h) (List.getElem?_eq_getElem (by omega)), List.getD_eq_getElem?_getD, List.getD_eq_getElem?_getD, List.getElem?_eq_getElem h, List.getElem?_eq_getElem (l := mb) (by omega)]
  rfl
theorem ms_set {ms : List MsD} {mb bb : List Nat} {j : Nat} (hb : mb.length = ms.length) (h : j < ms.length) (b : MsD) : (msR ms mb bb).set j (.blk (mb.getD j 0) 460 (b.cells bb)) = msR (ms.set j b) mb bb := by
  unfold msR
  apply List.ext_getElem?
  intro i
  rw [List.getElem?_set]
  by_cases hi : j = i
  · subst hi
    rw [if_pos rfl, if_pos (by simp; omega), List.getElem?_map, zip_at (a := b) (List.getElem?_set_self h) (List.getElem?_eq_getElem (by omega)), List.getD_eq_getElem?_getD, List.getElem?_eq_getElem (l := mb) (by omega)]
    rfl
  · rw [if_neg hi]
    simp only [List.getElem?_map, List.zip, List.getElem?_zipWith, List.getElem?_set_ne hi]
theorem batR_len {bs : List BatD} {bb : List Nat} (hb : bb.length = bs.length) : (batR bs bb).length = bs.length := by simp [batR, hb]
theorem msR_len {ms : List MsD} {mb bb : List Nat} (hb : mb.length = ms.length) : (msR ms mb bb).length = ms.length := by simp [msR, hb]

section
variable {c : Ctx} {σ : Slots} {K : Act → World → Prop} {ad : Adr} {s : Crt} {D D' : List Row} {p q : Nat × Row} {E : TypeId} {pb : List Nat} {x : Value} {v : List Nat}
def OpenD (E : TypeId) (pb : List Nat) (x : Value) (v : List Nat) (D D' : List Row) : Prop := D.Perm (rowL E pb x v :: D') ∨ (x = nilS ∧ v = [] ∧ D' = D)
theorem openR (j : Nat) (h : OpenD E pb x v D D') (next : ∀ a w, R c σ ((j, rowL E pb x v) :: crtR ad s D') a w → K a w) : ∀ a w, R c σ (crtR ad s D) a w → K a w := by
  rcases h with h | ⟨rfl, rfl, rfl⟩
  · exact take1 j h next
  · exact nilRow j E 1 (gOf (ptC pb) []) next
theorem closeR {j : Nat} (h : OpenD E pb x v D D') (next : ∀ a w, R c σ (crtR ad s D) a w → K a w) : ∀ a w, R c σ ((j, rowL E pb x v) :: crtR ad s D') a w → K a w := by
  rcases h with h | ⟨rfl, rfl, rfl⟩
  · exact put1 D h.symm next
  · exact rowsTo _ (Sub.drop (Sub.self _)) next
theorem openA {k : LineK} {l : LineM} {xs : List Value} {B C M : List Row} (hl : xs.length = l.length) : OpenD E pb (slx l xs k) (lkL l k) (dyn4 (lineR E pb l xs) B C M) (dyn4 (rmR E pb l xs k) B C M) := by
  cases h : hasL l k with
  | true => exact .inl (inA (open_has hl h))
  | false =>
    obtain ⟨h1, h2, h3⟩ := open_no (E := E) (pb := pb) hl h
    exact .inr ⟨h1, h2, by rw [h3]⟩
theorem openB {k : LineK} {l : LineM} {xs : List Value} {A C M : List Row} (hl : xs.length = l.length) : OpenD E pb (slx l xs k) (lkL l k) (dyn4 A (lineR E pb l xs) C M) (dyn4 A (rmR E pb l xs k) C M) := by
  cases h : hasL l k with
  | true => exact .inl (inB (open_has hl h))
  | false =>
    obtain ⟨h1, h2, h3⟩ := open_no (E := E) (pb := pb) hl h
    exact .inr ⟨h1, h2, by rw [h3]⟩
end

/-- Locks. -/
theorem look_lock {k : LockK} : ∀ {l : List LockK}, mlook (lockM l) k.v (.bool false) = .v (.bool (decide (k ∈ l)))
  | [] => rfl
  | p :: t => by
    show mlook ((p.v, .v (.bool true)) :: lockM t) k.v (.bool false) = _
    by_cases h : p = k
    · rw [h, mlook, mget_cons_same]
      simp
    · rw [mlook, mget_cons_other _ _ (fun e => h (LockK.inj e))]
      have := look_lock (k := k) (l := t)
      rw [mlook] at this
      rw [this]
      simp [Ne.symm h]
theorem del_lock {k : LockK} (l : List LockK) : mdel (lockM l) k.v = lockM (l.filter (fun x => x ≠ k)) := by
  unfold mdel lockM
  rw [List.filter_map]
  congr 1
  apply List.filter_congr
  intro x _
  by_cases h : x = k
  · simp [h]
  · have h2 : x.v ≠ k.v := fun e => h (LockK.inj e)
    simp [h, h2]
def lkT : List (TagK × Nat) → TagK → Option Nat
  | [], _ => none
  | p :: t, k => if p.1 = k then some p.2 else lkT t k
def ptO (mb : List Nat) : Option Nat → Value
  | some i => ptV (mb.getD i 0)
  | none => .pointer none
theorem look_tag {k : TagK} {mb : List Nat} : ∀ {l : List (TagK × Nat)}, mlook (tagM l mb) k.v (.pointer none) = .v (ptO mb (lkT l k))
  | [] => rfl
  | p :: t => by
    show mlook ((p.1.v, .v (ptV (mb.getD p.2 0))) :: tagM t mb) k.v (.pointer none) = _
    simp only [lkT]
    by_cases h : p.1 = k
    · rw [h, mlook, mget_cons_same, if_pos rfl]
      rfl
    · rw [mlook, mget_cons_other _ _ (fun e => h (TagK.inj e)), if_neg h]
      exact look_tag
theorem del_tag {k : TagK} (l : List (TagK × Nat)) (mb : List Nat) : mdel (tagM l mb) k.v = tagM (l.filter (fun x => x.1 ≠ k)) mb := by
  unfold mdel tagM
  rw [List.filter_map]
  congr 1
  apply List.filter_congr
  intro x _
  by_cases h : x.1 = k
  · simp [h]
  · have h2 : x.1.v ≠ k.v := fun e => h (TagK.inj e)
    simp [h, h2]
theorem lkT_mem {k : TagK} {i : Nat} : ∀ {l : List (TagK × Nat)}, lkT l k = some i → (k, i) ∈ l
  | [], h => by cases h
  | p :: t, h => by
    simp only [lkT] at h
    split at h
    · rename_i hk
      cases h
      rw [← hk]
      exact List.mem_cons_self
    · exact List.mem_cons_of_mem _ (lkT_mem h)
theorem mget_twice (k : Value) (A B : AV) (m : List (Value × AV)) (key : Value) : mget ((k, A) :: (k, B) :: m) key = mget ((k, A) :: m) key := by
  by_cases h : k = key
  · rw [← h, mget_cons_same, mget_cons_same]
  · rw [mget_cons_other _ _ h, mget_cons_other _ _ h, mget_cons_other _ _ h]
theorem mget_head {A B : AV} (k : Value) (m : List (Value × AV)) (key : Value) (h : A = B) : mget ((k, A) :: m) key = mget ((k, B) :: m) key := by rw [h]

end Go.Proofs.YtbogfmgfafdjiaaGreatDoor

/- The judge: a batch is confirmed, or refused. -/
namespace Go.Proofs.YtbogfmgfafdjiaaGreatDoor
set_option linter.unusedVariables false
set_option linter.unusedSimpArgs false
set_option maxHeartbeats 8000000
open Go.RowKit
set_option maxRecDepth 4000

structure ActOk (a : ActD) : Prop where
  kind : fitI a.kind
  cl : fitI a.cl
  q : fitI a.q
  seq : fitI a.seq
  tag : fitI a.tag
  many : fitI a.many
  key : a.key.size ≤ 1000
  body : a.body.size ≤ 1000
  mpub : fitI a.m.pub
  mseq : fitI a.m.seq
  mkey : a.m.key.size ≤ 1000
  mbody : a.m.body.size ≤ 1000

def ActD.line (a : ActD) : LineK := ⟨a.cl, a.q, a.key⟩
theorem line_ok {a : ActD} (h : ActOk a) : kOf Tryz.prog 453 a.line.v = true := KeyLine.kName_ok h.cl h.q (by have := h.key; show a.key.size ≤ _; omega)

/-- The first batch of some that waits. -/
def jfirst (bs : List BatD) (l : List Nat) : Option Nat := l.find? fun j => (bs.getD j default).st == 0
def toldJB (s : Crt) (a : ActD) : Bool := match jfirst s.bs (lkL s.bat a.line) with
  | some j => (bs1 s j).to == a.seq
  | none => false
where bs1 (s : Crt) (j : Nat) : BatD := s.bs.getD j default
def toldJS (s : Crt) (a : ActD) (st : Int) : Crt := match jfirst s.bs (lkL s.bat a.line) with
  | some j => { s with bs := s.bs.set j { s.bs.getD j default with st := st } }
  | none => s

theorem find_at_of {p : Nat → Bool} {l : List Nat} {i : Nat} (hi : i < l.length) (hp : p l[i] = true) (hno : ∀ j (h : j < l.length), j < i → p l[j] = false) : l.find? p = some l[i] := by
  rw [List.find?_eq_some_iff_getElem]
  exact ⟨hp, i, hi, rfl, fun j hj => by simpa using hno j (by omega) hj⟩

theorem jtold_p (ad : Adr) (s : Crt) (a : ActD) (st : Int) (ok : AdOk ad s) (co : CrtOk s) (ao : ActOk a) : FnC Tryz.prog 307 [.ptr 60 ad.c 0, a.av, .v (.int .i64 st)] (courtR ad s)
    (fun r F' => r = .v (.bool (toldJB s a)) ∧ F' = courtR ad (toldJS s a st)) := by
  have hk := line_ok ao
  have hbb := ok.bb
  have hbl := co.blen
  obtain ⟨l, hl⟩ : ∃ l, l = lkL s.bat a.line := ⟨_, rfl⟩
  have hln : l.length ≤ 1000 := by
    rcases lk_mem (l := s.bat) (k := a.line) with h | ⟨p, hp, h⟩
    · rw [hl, h]; simp
    · rw [hl, ← h]; have := co.len1 p hp; omega
  have hlb : ∀ j ∈ l, j < s.bs.length := fun j hj => by
    rcases lk_mem (l := s.bat) (k := a.line) with h | ⟨p, hp, h⟩
    · rw [hl, h] at hj; cases hj
    · rw [hl, ← h] at hj; exact co.bat p hp j hj
  have hopen := fun C => openA (E := 454) (pb := ad.bb) (k := a.line) (B := lineR 458 ad.mb s.all ad.xa) (C := C) (M := msR s.ms ad.mb ad.bb) ok.xb
  obtain ⟨x, hx⟩ : ∃ x, x = slx s.bat ad.xb a.line := ⟨_, rfl⟩
  simp only [← hx, ← hl] at hopen
  obtain ⟨A', hA'⟩ : ∃ A', A' = rmR 454 ad.bb s.bat ad.xb a.line := ⟨_, rfl⟩
  simp only [← hA'] at hopen
  unfold courtR dynS
  refine FnC.intro Tryz.func307 rfl Tryz.ntmps307 rfl ?_; intro off w0
  repeat refine S.seq ?_
  refine S.region ?_
  refine wB 91 (k := fun b4 => ?_)
  (refine wL (k := ?_); try (refine L.nil ?_))
  refine freezeBlk 4 91 rfl rfl rfl ?_
  refine openR 90 (hopen _) ?_
  repeat refine S.seq ?_
  refine S.draw [(3, [60]), (11, [61])] mixed ?_
  refine wT [0, 1, 2, 3, 4, 5, 6, 7, 8, 9, 10] (k := ?_)
  refine H.s1 11 (A := .v x) rfl (by kernel_rfl) (by kernel_rfl) (by kernel_rfl) (by kernel_rfl) (by kernel_rfl) (by intro ch a a' w h; obtain ⟨_, _, _, _, _, h, _⟩ := h; cases h) rfl rfl (by kernel_rfl) (look_sure (T := tt) (z := nilS) (kv := a.line.v) tt_ok KeyLine.kName rfl rfl (by kernel_rfl) rfl rfl rfl (by exact sd) rfl (fun _ _ => rfl) rfl hk (by rw [hx]; exact look_line ok.xb)) ?_
  refine H.tellW 20 (.ref 90 x) rfl (ownRef 90 rfl) ?_
  refine wT [12, 13] (k := ?_)
  refine wD (k := ?_)
  repeat refine S.seq ?_
  refine S.block (S.loop (ι := { i : Nat // i ≤ l.length ∧ ∀ j (h : j < l.length), j < i → ((s.bs.getD l[j] default).st == 0) = false }) (fun i => [(0, .ptr 60 ad.c 0), (2, .v (.int .i64 st)), (4, .pel 14 a.cells), (20, .ref 90 x), (21, .v (.int .i64 l.length)), (22, .v (.int .i64 i.1))])
    (fun _ => (90, rowL 454 ad.bb x l) :: crtR ad s (dyn4 A' (lineR 458 ad.mb s.all ad.xa) (batR s.bs ad.bb) (msR s.ms ad.mb ad.bb))) (fun i => l.length - i.1) ?_ ?_)
  · exact fun a w h => ⟨⟨0, Nat.zero_le _, fun j _ h => absurd h (by omega)⟩, h.weakP (by (repeat' (first | exact True.intro | exact Imp.refl _ | refine ⟨?_, ?_⟩))) (Sub.self _)⟩
  rintro ⟨i, hi, hno⟩
  dsimp only
  ((repeat refine S.seq ?_); refine wG (k := ?_); try (refine L.nil ?_))
  ((repeat refine S.seq ?_); refine S.cond rfl (fun hc => ?_) (fun hc => ?_) <;> (try first | refine S.skip ?_ | refine S.exit ?_))
  · have hil : i < l.length := by have := of_dec hc; omega
    obtain ⟨j, hj⟩ : ∃ j, j = l[i] := ⟨_, rfl⟩
    have hjb : j < s.bs.length := hlb j (by rw [hj]; exact List.getElem_mem _)
    obtain ⟨b, hb⟩ : ∃ b, b = s.bs.getD j default := ⟨_, rfl⟩
    have hg : ptC ad.bb (l.getD i default) = [.v (ptV (ad.bb.getD j 0))] := by rw [getD_get hil, ← hj]; rfl
    repeat refine S.seq ?_
    refine S.block ?_
    ((repeat refine S.seq ?_); refine wG (k := ?_); try (refine L.nil ?_))
    refine slotAs 8 (.ptr 91 (ad.bb.getD j 0) 0) rfl (Imp.trans (Imp.of_eq (show _ = AV.v (ptV (ad.bb.getD j 0)) from by rw [hj, ← getD_get hil]; rfl)) (Imp.vptr 91 _ 0)) ?_
    refine take2 91 (inC (pull1 (bat_get hbb hjb))) ?_
    rw [← hb]
    ((repeat refine S.seq ?_); refine wG (k := ?_); try (refine L.nil ?_))
    ((repeat refine S.seq ?_); refine S.cond rfl (fun h2 => ?_) (fun h2 => ?_) <;> (try first | refine S.skip ?_ | refine S.exit ?_))
    · have h2e : b.st = 0 := by simpa using h2
      ((repeat refine S.seq ?_); refine wG (k := ?_); try (refine L.nil ?_))
      refine wS (k := ?_)
      refine L.nil ?_
      repeat refine S.seq ?_
      refine S.draw [(3, [91])] mixed ?_
      refine wT [0, 1, 2, 3, 4, 5, 6, 7] (k := ?_)
      refine wD (k := ?_)
      have hf : jfirst s.bs l = some j := by rw [hj]; exact find_at_of hil (by rw [← hj, ← hb, h2e]; rfl) hno
      have e1 : toldJB s a = (b.to == a.seq) := by rw [toldJB, ← hl, hf]; simp only [toldJB.bs1]; rw [← hb]
      have e2 : toldJS s a st = { s with bs := s.bs.set j { b with st := st } } := by rw [toldJS, ← hl, hf]; simp only; rw [← hb]
      refine rowsEq ((91, .blk (ad.bb.getD j 0) 456 ({ b with st := st } : BatD).cells) :: (90, rowL 454 ad.bb x l) :: crtR ad s (dyn4 A' (lineR 458 ad.mb s.all ad.xa) ((batR s.bs ad.bb).eraseIdx j) (msR s.ms ad.mb ad.bb))) rfl ?_
      refine put2 _ ((inC (push1 (by rw [batR_len hbb]; exact hjb)).symm).symm) ?_
      rw [bat_set hbb hjb]
      refine closeR (hopen _) ?_
      ((repeat refine S.seq ?_); refine S.ret ?_)
      rw [e1, e2]
      exact E.ret (T := tt) tt_ok rfl rfl (by exact sd) (Imp.refl _) (List.Sublist.refl _) ⟨rfl, rfl⟩
    · have h2e : (b.st == 0) = false := h2
      refine rowsEq ((91, .blk (ad.bb.getD j 0) 456 b.cells) :: (90, rowL 454 ad.bb x l) :: crtR ad s (dyn4 A' (lineR 458 ad.mb s.all ad.xa) ((batR s.bs ad.bb).eraseIdx j) (msR s.ms ad.mb ad.bb))) rfl ?_
      refine put2 _ (inC (pull1 (by rw [hb]; exact bat_get hbb hjb))).symm ?_
      ((repeat refine S.seq ?_); refine wG (k := ?_); try (refine L.nil ?_))
      exact fun a w h => ⟨⟨i + 1, by omega, fun j' h' hji => by
        rcases Nat.lt_or_ge j' i with hlt | hge
        · exact hno j' h' hlt
        · have : j' = i := by omega
          subst this
          rw [← hj, ← hb]
          exact h2e⟩, by show l.length - (i + 1) < l.length - i; omega, h.weakP (by (repeat' (first | exact True.intro | exact Imp.refl _ | refine ⟨?_, ?_⟩))) (Sub.self _)⟩
  have hil : i = l.length := by have := of_dec' hc; omega
  have hf : jfirst s.bs l = none := by
    unfold jfirst
    rw [List.find?_eq_none]
    intro j hj
    obtain ⟨k, hk1, hk2⟩ := List.getElem_of_mem hj
    have := hno k hk1 (by omega)
    rw [hk2] at this
    simpa using this
  have e1 : toldJB s a = false := by rw [toldJB, ← hl, hf]
  have e2 : toldJS s a st = s := by rw [toldJS, ← hl, hf]
  ((repeat refine S.seq ?_); refine wG (k := ?_); try (refine L.nil ?_))
  refine closeR (hopen _) ?_
  ((repeat refine S.seq ?_); refine S.ret ?_)
  rw [e1, e2]
  exact E.ret (T := tt) tt_ok rfl rfl (by exact sd) (Imp.refl _) (List.Sublist.refl _) ⟨rfl, rfl⟩
end Go.Proofs.YtbogfmgfafdjiaaGreatDoor

/- The judge: a message is settled. -/
namespace Go.Proofs.YtbogfmgfafdjiaaGreatDoor
set_option linter.unusedVariables false
set_option linter.unusedSimpArgs false
set_option maxHeartbeats 8000000
open Go.RowKit
set_option maxRecDepth 4000

def ActD.tagk (a : ActD) : TagK := ⟨a.cl, a.q, a.tag⟩
theorem tag_ok {a : ActD} (h : ActOk a) : kOf Tryz.prog 464 a.tagk.v = true := KeyTag.kName_ok h.cl h.q h.tag
def settledJ (s : Crt) (a : ActD) : Crt := match lkT s.acks a.tagk with
  | some i => { s with acks := s.acks.filter (fun x => x.1 ≠ a.tagk), ms := s.ms.set i { s.ms.getD i default with fin := true } }
  | none => s

theorem jsettled_p (ad : Adr) (s : Crt) (a : ActD) (ok : AdOk ad s) (co : CrtOk s) (ao : ActOk a) : FnC Tryz.prog 310 [.ptr 60 ad.c 0, a.av] (courtR ad s)
    (fun r F' => r = .v (.bool (lkT s.acks a.tagk).isSome) ∧ F' = courtR ad (settledJ s a)) := by
  have hk := tag_ok ao
  have hmb := ok.mb
  unfold courtR dynS
  refine FnC.intro Tryz.func310 rfl Tryz.ntmps310 rfl ?_; intro off w0
  repeat refine S.seq ?_
  refine S.region ?_
  refine wB 91 (k := fun b4 => ?_)
  (refine wL (k := ?_); try (refine L.nil ?_))
  refine freezeBlk 3 91 rfl rfl rfl ?_
  ((repeat refine S.seq ?_); refine wG (k := ?_); try (refine L.nil ?_))
  refine wA 92 (k := fun b5 => ?_)
  refine wS (k := ?_)
  refine L.nil ?_
  refine freezeBlk 5 92 rfl rfl rfl ?_
  repeat refine S.seq ?_
  refine S.draw [(3, [60]), (5, [66])] mixed ?_
  refine wT [0, 1, 2, 3, 4] (k := ?_)
  refine H.s1 5 (A := .v (ptO ad.mb (lkT s.acks a.tagk))) rfl (by kernel_rfl) (by kernel_rfl) (by kernel_rfl) (by kernel_rfl) (by kernel_rfl) (by intro ch a a' w h; obtain ⟨_, _, _, _, _, h, _⟩ := h; cases h) rfl rfl (by kernel_rfl) (look_sure (T := tt) (z := .pointer none) (kv := a.tagk.v) tt_ok KeyTag.kName rfl rfl (by kernel_rfl) rfl rfl rfl (by exact sd) rfl (fun _ _ => rfl) rfl hk look_tag) ?_
  refine wT [6] (k := ?_)
  refine wD (k := ?_)
  cases hi : lkT s.acks a.tagk with
  | none =>
    have e2 : settledJ s a = s := by rw [settledJ, hi]
    ((repeat refine S.seq ?_); refine wG (k := ?_); try (refine L.nil ?_))
    ((repeat refine S.seq ?_); refine S.cond rfl (fun h1 => ?_) (fun h1 => ?_) <;> (try first | refine S.skip ?_ | refine S.exit ?_))
    · ((repeat refine S.seq ?_); refine wG (k := ?_); try (refine L.nil ?_))
      ((repeat refine S.seq ?_); refine S.ret ?_)
      rw [e2]
      exact E.ret (T := tt) tt_ok rfl rfl (by exact sd) (F' := crtR ad s _) (Imp.refl _) (List.Sublist.refl _) ⟨rfl, rfl⟩
    cases h1
  | some i =>
    have hil : i < s.ms.length := co.acks _ (lkT_mem hi)
    obtain ⟨m, hm⟩ : ∃ m, m = s.ms.getD i default := ⟨_, rfl⟩
    have e2 : settledJ s a = { s with acks := s.acks.filter (fun x => x.1 ≠ a.tagk), ms := s.ms.set i { m with fin := true } } := by rw [settledJ, hi, hm]
    refine slotAs 6 (.ptr 93 (ad.mb.getD i 0) 0) rfl (Imp.vptr 93 _ 0) ?_
    ((repeat refine S.seq ?_); refine wG (k := ?_); try (refine L.nil ?_))
    ((repeat refine S.seq ?_); refine S.cond rfl (fun h1 => ?_) (fun h1 => ?_) <;> (try first | refine S.skip ?_ | refine S.exit ?_))
    · cases h1
    repeat refine S.seq ?_
    refine S.draw [(3, [60])] mixed ?_
    refine wT [0, 1, 2, 3, 4] (k := ?_)
    refine H.o1 5 rfl (by kernel_rfl) (by kernel_rfl) (O.mapDel (T := tt) (kv := a.tagk.v) tt_ok KeyTag.kName rfl rfl rfl rfl rfl rfl rfl rfl (by exact ⟨by exact sd, by exact sd, rfl, hk⟩)) (.inl (by kernel_rfl)) (by kernel_rfl) fun _ => ?_
    refine wD (k := ?_)
    refine rowsEq (crtR ad { s with acks := s.acks.filter (fun x => x.1 ≠ a.tagk) } (dynS ad s)) (by rw [del_tag]; rfl) ?_
    refine take1 93 (inM (pull1 (ms_get hmb hil))) ?_
    rw [← hm]
    ((repeat refine S.seq ?_); refine wG (k := ?_); try (refine L.nil ?_))
    refine wS (k := ?_)
    refine L.nil ?_
    refine rowsEq ((93, .blk (ad.mb.getD i 0) 460 (({ m with fin := true } : MsD).cells ad.bb)) :: crtR ad { s with acks := s.acks.filter (fun x => x.1 ≠ a.tagk) } _) rfl ?_
    refine put1 _ ((inM (push1 (by rw [msR_len hmb]; exact hil)).symm).symm) ?_
    rw [ms_set hmb hil]
    ((repeat refine S.seq ?_); refine wG (k := ?_); try (refine L.nil ?_))
    ((repeat refine S.seq ?_); refine S.ret ?_)
    rw [e2]
    exact E.ret (T := tt) tt_ok rfl rfl (by exact sd) (Imp.refl _) (List.Sublist.refl _) ⟨rfl, rfl⟩
end Go.Proofs.YtbogfmgfafdjiaaGreatDoor

/- The judge: a client holds a message no more. -/
namespace Go.Proofs.YtbogfmgfafdjiaaGreatDoor
set_option linter.unusedVariables false
set_option linter.unusedSimpArgs false
set_option maxHeartbeats 8000000
open Go.RowKit
set_option maxRecDepth 4000

def lockOf (q : Int) (m : Msg) : LockK := ⟨q, m.key⟩
theorem lock_ok {q : Int} {k : ByteArray} (hq : fitI q) (h : fitS k) : kOf Tryz.prog 462 (LockK.mk q k).v = true := KeyLock.kName_ok hq h
def leaves0 (s : Crt) (a : ActD) (i : Nat) : Crt := { s with holds := s.holds.filter (fun x => x.1 ≠ a.tagk), held := s.held.filter (fun x => x ≠ ⟨a.q, (s.ms.getD i default).m.key⟩) }
def leavesJ (s : Crt) (a : ActD) : Crt := match lkT s.holds a.tagk with
  | some i => if a.kind = 5 then { leaves0 s a i with acks := (a.tagk, i) :: s.acks, ms := s.ms.set i { s.ms.getD i default with ack := true } } else leaves0 s a i
  | none => s

theorem jleaves_p (ad : Adr) (s : Crt) (a : ActD) (ok : AdOk ad s) (co : CrtOk s) (ao : ActOk a) (hkeys : ∀ m ∈ s.ms, fitS m.m.key) : FnC Tryz.prog 309 [.ptr 60 ad.c 0, a.av] (courtR ad s)
    (fun r F' => r = .v (.bool (lkT s.holds a.tagk).isSome) ∧ F' = courtR ad (leavesJ s a)) := by
  have hk := tag_ok ao
  have hmb := ok.mb
  unfold courtR dynS
  refine FnC.intro Tryz.func309 rfl Tryz.ntmps309 rfl ?_; intro off w0
  repeat refine S.seq ?_
  refine S.region ?_
  refine wB 91 (k := fun b4 => ?_)
  (refine wL (k := ?_); try (refine L.nil ?_))
  refine freezeBlk 3 91 rfl rfl rfl ?_
  ((repeat refine S.seq ?_); refine wG (k := ?_); try (refine L.nil ?_))
  refine wA 92 (k := fun b5 => ?_)
  refine wS (k := ?_)
  refine L.nil ?_
  refine freezeBlk 5 92 rfl rfl rfl ?_
  repeat refine S.seq ?_
  refine S.draw [(3, [60]), (5, [65])] mixed ?_
  refine wT [0, 1, 2, 3, 4] (k := ?_)
  refine H.s1 5 (A := .v (ptO ad.mb (lkT s.holds a.tagk))) rfl (by kernel_rfl) (by kernel_rfl) (by kernel_rfl) (by kernel_rfl) (by kernel_rfl) (by intro ch a a' w h; obtain ⟨_, _, _, _, _, h, _⟩ := h; cases h) rfl rfl (by kernel_rfl) (look_sure (T := tt) (z := .pointer none) (kv := a.tagk.v) tt_ok KeyTag.kName rfl rfl (by kernel_rfl) rfl rfl rfl (by exact sd) rfl (fun _ _ => rfl) rfl hk look_tag) ?_
  refine wT [6] (k := ?_)
  refine wD (k := ?_)
  cases hi : lkT s.holds a.tagk with
  | none =>
    have e2 : leavesJ s a = s := by rw [leavesJ, hi]
    ((repeat refine S.seq ?_); refine wG (k := ?_); try (refine L.nil ?_))
    ((repeat refine S.seq ?_); refine S.cond rfl (fun h1 => ?_) (fun h1 => ?_) <;> (try first | refine S.skip ?_ | refine S.exit ?_))
    · ((repeat refine S.seq ?_); refine wG (k := ?_); try (refine L.nil ?_))
      ((repeat refine S.seq ?_); refine S.ret ?_)
      rw [e2]
      exact E.ret (T := tt) tt_ok rfl rfl (by exact sd) (F' := crtR ad s _) (Imp.refl _) (List.Sublist.refl _) ⟨rfl, rfl⟩
    cases h1
  | some i =>
    have hil : i < s.ms.length := co.holds _ (lkT_mem hi)
    obtain ⟨m, hm⟩ : ∃ m, m = s.ms.getD i default := ⟨_, rfl⟩
    have hmk : fitS m.m.key := hkeys m (by rw [hm, getD_get hil]; exact List.getElem_mem _)
    refine slotAs 6 (.ptr 93 (ad.mb.getD i 0) 0) rfl (Imp.vptr 93 _ 0) ?_
    ((repeat refine S.seq ?_); refine wG (k := ?_); try (refine L.nil ?_))
    ((repeat refine S.seq ?_); refine S.cond rfl (fun h1 => ?_) (fun h1 => ?_) <;> (try first | refine S.skip ?_ | refine S.exit ?_))
    · cases h1
    repeat refine S.seq ?_
    refine S.draw [(3, [60])] mixed ?_
    refine wT [0, 1, 2, 3, 4] (k := ?_)
    refine H.o1 5 rfl (by kernel_rfl) (by kernel_rfl) (O.mapDel (T := tt) (kv := a.tagk.v) tt_ok KeyTag.kName rfl rfl rfl rfl rfl rfl rfl rfl (by exact ⟨by exact sd, by exact sd, rfl, hk⟩)) (.inl (by kernel_rfl)) (by kernel_rfl) fun _ => ?_
    refine wD (k := ?_)
    refine rowsEq (crtR ad { s with holds := s.holds.filter (fun x => x.1 ≠ a.tagk) } (dynS ad s)) (by rw [del_tag]; rfl) ?_
    refine take1 93 (inM (pull1 (ms_get hmb hil))) ?_
    rw [← hm]
    repeat refine S.seq ?_
    refine S.draw [(3, [60]), (10, [93])] mixed ?_
    refine wT [0, 1, 2, 3, 4, 5, 6, 7, 8, 9, 10, 11] (k := ?_)
    refine H.o1 12 rfl (by kernel_rfl) (by kernel_rfl) (O.mapDel (T := tt) (kv := (LockK.mk a.q m.m.key).v) tt_ok KeyLock.kName rfl rfl rfl rfl rfl rfl rfl rfl (by exact ⟨by exact sd, by exact sd, rfl, lock_ok ao.q hmk⟩)) (.inl (by kernel_rfl)) (by kernel_rfl) fun _ => ?_
    refine wD (k := ?_)
    refine rowsEq ((93, .blk (ad.mb.getD i 0) 460 (m.cells ad.bb)) :: crtR ad (leaves0 s a i) _) (by rw [leaves0, ← hm, del_lock]; rfl) ?_
    ((repeat refine S.seq ?_); refine wG (k := ?_); try (refine L.nil ?_))
    ((repeat refine S.seq ?_); refine S.cond rfl (fun h5 => ?_) (fun h5 => ?_) <;> (try first | refine S.skip ?_ | refine S.exit ?_))
    · have h5n : a.kind = 5 := of_dec h5
      have e2 : leavesJ s a = { leaves0 s a i with acks := (a.tagk, i) :: s.acks, ms := s.ms.set i { m with ack := true } } := by rw [leavesJ, hi, hm]; exact if_pos h5n
      repeat refine S.seq ?_
      refine S.draw [(4, [60])] mixed ?_
      refine wT [0, 1, 2, 3, 4, 5, 6, 7, 8] (k := ?_)
      refine H.tell 48 (.v (ptV (ad.mb.getD i 0))) rfl (Imp.ptrv 93 _ 0) ?_
      refine wHS 9 (k := ?_)
      refine H.o1 10 rfl (by kernel_rfl) (by kernel_rfl) (O.mapEntry (T := tt) (z := .pointer none) (kv := a.tagk.v) tt_ok KeyTag.kName rfl rfl rfl (by kernel_rfl) rfl (by kernel_rfl) rfl rfl rfl rfl (by exact ⟨by exact sd, by exact sd, rfl, hk⟩)) (.inl (by kernel_rfl)) (by kernel_rfl) fun st => ?_
      refine wN ?_
      refine wT [11] (k := ?_)
      refine H.o1 12 rfl (by kernel_rfl) (by kernel_rfl) (O.entryStore rfl rfl rfl rfl rfl rfl rfl (by exact ⟨by exact sd, by exact sd, by exact sd, rfl, rfl⟩)) (.inl (by kernel_rfl)) (by kernel_rfl) fun _ => ?_
      refine wD (k := ?_)
      refine mapSay 66 (tagM ((a.tagk, i) :: s.acks) ad.mb) rfl (mget_twice _ _ _ _) ?_
      refine rowsEq ((93, .blk (ad.mb.getD i 0) 460 (({ m with ack := true } : MsD).cells ad.bb)) :: crtR ad { leaves0 s a i with acks := (a.tagk, i) :: s.acks } _) rfl ?_
      refine put1 _ ((inM (push1 (by rw [msR_len hmb]; exact hil)).symm).symm) ?_
      rw [ms_set hmb hil]
      ((repeat refine S.seq ?_); refine wG (k := ?_); try (refine L.nil ?_))
      ((repeat refine S.seq ?_); refine S.ret ?_)
      rw [e2]
      exact E.ret (T := tt) tt_ok rfl rfl (by exact sd) (Imp.refl _) (List.Sublist.refl _) ⟨rfl, rfl⟩
    · have h5n : ¬ a.kind = 5 := of_dec' h5
      have e2 : leavesJ s a = leaves0 s a i := by rw [leavesJ, hi]; exact if_neg h5n
      refine put1 _ ((inM (pull1 (by rw [hm]; exact ms_get hmb hil))).symm) ?_
      ((repeat refine S.seq ?_); refine wG (k := ?_); try (refine L.nil ?_))
      ((repeat refine S.seq ?_); refine S.ret ?_)
      rw [e2]
      exact E.ret (T := tt) tt_ok rfl rfl (by exact sd) (Imp.refl _) (List.Sublist.refl _) ⟨rfl, rfl⟩
end Go.Proofs.YtbogfmgfafdjiaaGreatDoor

/- Equality of messages, held ones, marks, as the code tells it. -/
namespace Go.Proofs.YtbogfmgfafdjiaaGreatDoor
set_option linter.unusedVariables false
set_option linter.unusedSimpArgs false
set_option maxHeartbeats 8000000
open Go.RowKit

theorem eqMsg (a b : Msg) : (a.pub == b.pub && (a.seq == b.seq && (a.key == b.key && (a.body == b.body && (a.again == b.again && true))))) = decide (a = b) := by
  rw [Bool.eq_iff_iff]
  cases a; cases b
  simp
theorem eqMark (a b : Mark) : (a.pub == b.pub && (a.key == b.key && (a.seq == b.seq && true))) = decide (a = b) := by
  rw [Bool.eq_iff_iff]
  cases a; cases b
  simp
theorem eqHeld (a b : Held) : (a.tag == b.tag && ((a.m.pub == b.m.pub && (a.m.seq == b.m.seq && (a.m.key == b.m.key && (a.m.body == b.m.body && (a.m.again == b.m.again && true))))) && true)) = decide (a = b) := by
  rw [eqMsg, Bool.eq_iff_iff]
  cases a; cases b
  simp

/-- Two lists agree so far. -/
def eqTo {α : Type} [DecidableEq α] [Inhabited α] (l m : List α) (k : Nat) : Bool := (List.range k).all fun i => decide (l.getD i default = m.getD i default)
theorem eqTo_succ {α : Type} [DecidableEq α] [Inhabited α] (l m : List α) (k : Nat) : eqTo l m (k + 1) = (eqTo l m k && decide (l.getD k default = m.getD k default)) := by simp [eqTo, List.range_succ]
theorem eqTo_eq {α : Type} [DecidableEq α] [Inhabited α] {l m : List α} (hl : l.length = m.length) (h : eqTo l m l.length = true) : l = m := by
  apply List.ext_getElem hl
  intro i h1 h2
  have := List.all_eq_true.1 h i (by simpa using h1)
  simp only [decide_eq_true_eq, List.getD_eq_getElem?_getD, List.getElem?_eq_getElem h1, List.getElem?_eq_getElem h2, Option.getD_some] at this
  exact this

end Go.Proofs.YtbogfmgfafdjiaaGreatDoor

/- The judge: a message is handed out. -/
namespace Go.Proofs.YtbogfmgfafdjiaaGreatDoor
set_option linter.unusedVariables false
set_option linter.unusedSimpArgs false
set_option maxHeartbeats 8000000
open Go.RowKit
set_option maxRecDepth 4000

def lastAt (s : Crt) (c : Int) : Int := if c = 0 then s.l0 else if c = 1 then s.l1 else if c = 2 then s.l2 else s.l3
def setLast (s : Crt) (c t : Int) : Crt := { s with l0 := if c = 0 then t else s.l0, l1 := if c = 1 then t else s.l1, l2 := if c = 2 then t else s.l2, l3 := if c = 3 then t else s.l3 }
def ActD.mline (a : ActD) : LineK := ⟨a.m.pub, a.q, a.m.key⟩
def ActD.mlock (a : ActD) : LockK := ⟨a.q, a.m.key⟩
def dL (s : Crt) (a : ActD) : List Nat := lkL s.all a.mline
def dNo1 (s : Crt) (a : ActD) : Bool := ((decide (a.tag ≤ lastAt s a.cl) || decide (a.m.seq < 1)) || decide (a.m.seq > ((dL s a).length : Int))) || decide (a.mlock ∈ s.held)
def dI (s : Crt) (a : ActD) : Nat := (dL s a).getD (a.m.seq - 1).toNat default
def dX (s : Crt) (a : ActD) : MsD := s.ms.getD (dI s a) default
def bare (m : Msg) : Msg := { m with again := false }
def bareC (m : Msg) : List AV := [.v (.int .i64 m.pub), .v (.int .i64 m.seq), .v (.string m.key), .v (.string m.body), .v (.bool false)]
def stOf (s : Crt) (x : MsD) : Int := (s.bs.getD x.bt default).st
def dNo2 (s : Crt) (a : ActD) : Bool := ((!decide ((dX s a).m = bare a.m) || (stOf s (dX s a) == 2)) || (dX s a).fin) || ((dX s a).del != a.m.again)
def dY (s : Crt) (a : ActD) (j : Nat) : MsD := s.ms.getD ((dL s a).getD j default) default
def dWait (s : Crt) (a : ActD) (j : Nat) : Bool := !(dY s a j).del && !(stOf s (dY s a j) == 2)
def dNo3 (s : Crt) (a : ActD) : Bool := !(dX s a).del && (List.range (a.m.seq - 1).toNat).any (dWait s a)
def delivB (s : Crt) (a : ActD) : Bool := !dNo1 s a && !dNo2 s a && !dNo3 s a
def delivS (s : Crt) (a : ActD) : Crt := if delivB s a then { setLast s a.cl a.tag with ms := s.ms.set (dI s a) { dX s a with del := true, ack := false }, held := a.mlock :: s.held, holds := (a.tagk, dI s a) :: s.holds } else s

def ActD.cellsC (a : ActD) (c : Int) : List AV := [.v (.int .i64 a.kind), .v (.int .i64 c), .v (.int .i64 a.q), .v (.int .i64 a.seq), .v (.int .i64 a.tag), .v (.int .i64 a.code), .v (.string a.key), .v (.string a.body), .v (.int .i64 a.many),
  .v (.int .i64 a.m.pub), .v (.int .i64 a.m.seq), .v (.string a.m.key), .v (.string a.m.body), .v (.bool a.m.again)]
theorem cellsC_eq {a : ActD} {c : Int} (h : a.cl = c) : a.cells = a.cellsC c := by subst h; rfl
def MsD.cellsW (p : AV) (x : MsD) : List AV := [.v (.int .i64 x.m.pub), .v (.int .i64 x.m.seq), .v (.string x.m.key), .v (.string x.m.body), .v (.bool x.m.again), p, .v (.bool x.del), .v (.bool x.ack), .v (.bool x.fin)]
theorem mline_ok {a : ActD} (h : ActOk a) : kOf Tryz.prog 453 a.mline.v = true := KeyLine.kName_ok h.mpub h.q (by have := h.mkey; show a.m.key.size ≤ _; omega)
theorem mlock_ok {a : ActD} (h : ActOk a) : kOf Tryz.prog 462 a.mlock.v = true := lock_ok h.q (by have := h.mkey; show a.m.key.size ≤ _; omega)

theorem jdeliver_p (ad : Adr) (s : Crt) (a : ActD) (ok : AdOk ad s) (co : CrtOk s) (ao : ActOk a) (hcl : a.cl = 0 ∨ a.cl = 1 ∨ a.cl = 2 ∨ a.cl = 3) : FnC Tryz.prog 308 [.ptr 60 ad.c 0, a.av] (courtR ad s)
    (fun r F' => r = .v (.bool (delivB s a)) ∧ F' = courtR ad (delivS s a)) := by
  have hk := mline_ok ao
  have hmb := ok.mb
  have hbb := ok.bb
  have hbl := co.blen
  have hml := co.mlen
  obtain ⟨l, hl⟩ : ∃ l, l = dL s a := ⟨_, rfl⟩
  have hln : l.length ≤ 8000 := by
    rcases lk_mem (l := s.all) (k := a.mline) with h | ⟨p, hp, h⟩
    · rw [hl, dL, h]; simp
    · rw [hl, dL, ← h]; have := co.len2 p hp; omega
  have hlb : ∀ j ∈ l, j < s.ms.length := fun j hj => by
    rcases lk_mem (l := s.all) (k := a.mline) with h | ⟨p, hp, h⟩
    · rw [hl, dL, h] at hj; cases hj
    · rw [hl, dL, ← h] at hj; exact co.all p hp j hj
  have hopen := fun C M => openB (E := 458) (pb := ad.mb) (k := a.mline) (A := lineR 454 ad.bb s.bat ad.xb) (C := C) (M := M) ok.xa
  obtain ⟨x, hx⟩ : ∃ x, x = slx s.all ad.xa a.mline := ⟨_, rfl⟩
  rw [dL] at hl
  simp only [← hx, ← hl] at hopen
  obtain ⟨A', hA'⟩ : ∃ A', A' = rmR 458 ad.mb s.all ad.xa a.mline := ⟨_, rfl⟩
  simp only [← hA'] at hopen
  have hr1' : dNo1 s a = false → 1 ≤ a.m.seq ∧ a.m.seq ≤ (l.length : Int) := fun h1 => by
    simp only [dNo1, Bool.or_eq_false_iff, decide_eq_false_iff_not, dL, ← hl] at h1
    omega
  have hIl' : dNo1 s a = false → dI s a < s.ms.length := fun h1 => by
    have hr1 := hr1' h1
    have hsI : dI s a = l[(a.m.seq - 1).toNat]'(by omega) := by rw [dI, dL, ← hl, getD_get]
    exact hlb _ (by rw [hsI]; exact List.getElem_mem _)
  have hbt' : dNo1 s a = false → (dX s a).bt < s.bs.length := fun h1 => co.bt _ (by rw [dX, getD_get (hIl' h1)]; exact List.getElem_mem _)
  unfold courtR dynS
  refine FnC.intro Tryz.func308 rfl Tryz.ntmps308 rfl ?_; intro off w0
  repeat refine S.seq ?_
  refine S.region ?_
  refine wB 91 (k := fun b4 => ?_)
  (refine wL (k := ?_); try (refine L.nil ?_))
  refine freezeBlk 3 91 rfl rfl rfl ?_
  refine openR 90 (hopen _ _) ?_
  repeat refine S.seq ?_
  refine S.scopeE 0 (ι := { i : Nat // dNo1 s a = false ∧ dNo2 s a = false ∧ (i : Int) ≤ a.m.seq - 1 ∧ ∀ j, j < i → dWait s a j = false }) (fun i => [(0, .ptr 60 ad.c 0), (3, .pel 14 a.cells), (6, .pel 5 (bareC a.m)), (7, .ref 90 x), (8, .ptr 93 (ad.mb.getD (dI s a) 0) 0), (9, .v (.int .i64 i.1))])
    (fun _ => (90, rowL 458 ad.mb x l) :: crtR ad s (dyn4 (lineR 454 ad.bb s.bat ad.xb) A' (batR s.bs ad.bb) (msR s.ms ad.mb ad.bb))) (fun i => (a.m.seq - 1).toNat - i.1) rfl ?_ ?_
  · rintro ⟨i, h1, h2, hi, hno⟩ J hJ
    dsimp only at hi hno hJ ⊢
    have hr1 := hr1' h1
    have hIl := hIl' h1
    refine take2 93 (inM (pull1 (ms_get hmb hIl))) ?_
    refine rowsEq ((93, .blk (ad.mb.getD (dI s a) 0) 460 ((dX s a).cells ad.bb)) :: (90, rowL 458 ad.mb x l) :: crtR ad s (dyn4 (lineR 454 ad.bb s.bat ad.xb) A' (batR s.bs ad.bb) ((msR s.ms ad.mb ad.bb).eraseIdx (dI s a)))) rfl ?_
    ((repeat refine S.seq ?_); refine wG (k := ?_); try (refine L.nil ?_))
    ((repeat refine S.seq ?_); refine S.cond rfl (fun hc => ?_) (fun hc => ?_) <;> (try first | refine S.skip ?_ | refine S.exit ?_))
    · have hc2 : (i : Int) < a.m.seq - 1 ∧ (dX s a).del = false := by simpa using hc
      refine put2 _ (inM (pull1 (ms_get hmb hIl))).symm ?_
      obtain ⟨j, hj⟩ : ∃ j, j = l.getD i default := ⟨_, rfl⟩
      have hjl : j < s.ms.length := hlb j (by rw [hj, getD_get (by omega)]; exact List.getElem_mem _)
      have hy : dY s a i = s.ms.getD j default := by rw [dY, dL, ← hl, ← hj]
      have hyb : (dY s a i).bt < s.bs.length := co.bt _ (by rw [hy, getD_get hjl]; exact List.getElem_mem _)
      ((repeat refine S.seq ?_); refine wG (k := ?_); try (refine L.nil ?_))
      refine slotAs 10 (.ptr 93 (ad.mb.getD j 0) 0) rfl (Imp.trans (Imp.of_eq (show _ = AV.v (ptV (ad.mb.getD j 0)) from by rw [hj]; rfl)) (Imp.vptr 93 _ 0)) ?_
      refine take2 93 (inM (pull1 (ms_get hmb hjl))) ?_
      rw [← hy]
      refine take3 94 (inC (pull1 (bat_get hbb hyb))) ?_
      refine blkAs 93 ((dY s a i).cellsW (.ptr 94 (ad.bb.getD (dY s a i).bt 0) 0)) rfl ⟨Imp.refl _, Imp.refl _, Imp.refl _, Imp.refl _, Imp.refl _, Imp.vptr 94 _ 0, Imp.refl _, Imp.refl _, Imp.refl _, trivial⟩ ?_
      ((repeat refine S.seq ?_); refine wG (k := ?_); try (refine L.nil ?_))
      refine slotAs 131 (.v (.bool (dWait s a i))) rfl (Imp.of_eq rfl) ?_
      refine rowsEq ((94, .blk (ad.bb.getD (dY s a i).bt 0) 456 (s.bs.getD (dY s a i).bt default).cells) :: (93, .blk (ad.mb.getD j 0) 460 ((dY s a i).cellsW (.ptr 94 (ad.bb.getD (dY s a i).bt 0) 0))) :: (90, rowL 458 ad.mb x l) :: crtR ad s (dyn4 (lineR 454 ad.bb s.bat ad.xb) A' ((batR s.bs ad.bb).eraseIdx (dY s a i).bt) ((msR s.ms ad.mb ad.bb).eraseIdx j))) rfl ?_
      refine put3 _ (inC (pull1 (bat_get hbb hyb))).symm ?_
      refine blkAs 93 ((dY s a i).cells ad.bb) rfl ⟨Imp.refl _, Imp.refl _, Imp.refl _, Imp.refl _, Imp.refl _, Imp.ptrv 94 _ 0, Imp.refl _, Imp.refl _, Imp.refl _, trivial⟩ ?_
      refine rowsEq ((93, .blk (ad.mb.getD j 0) 460 ((dY s a i).cells ad.bb)) :: (90, rowL 458 ad.mb x l) :: crtR ad s (dyn4 (lineR 454 ad.bb s.bat ad.xb) A' (batR s.bs ad.bb) ((msR s.ms ad.mb ad.bb).eraseIdx j))) rfl ?_
      refine put2 _ (inM (pull1 (by rw [hy]; exact ms_get hmb hjl))).symm ?_
      ((repeat refine S.seq ?_); refine S.cond rfl (fun hw => ?_) (fun hw => ?_) <;> (try first | refine S.skip ?_ | refine S.exit ?_))
      · have e1 : delivB s a = false := by
          have h3 : dNo3 s a = true := by
            rw [dNo3, hc2.2, Bool.not_false, Bool.true_and, List.any_eq_true]
            exact ⟨i, List.mem_range.2 (by omega), hw⟩
          rw [delivB, h3, Bool.not_true, Bool.and_false]
        have e2 : delivS s a = s := by rw [delivS, e1]; rfl
        ((repeat refine S.seq ?_); refine wG (k := ?_); try (refine L.nil ?_))
        refine closeR (hopen _ _) ?_
        ((repeat refine S.seq ?_); refine S.ret ?_)
        rw [e1, e2]
        exact E.ret (T := tt) tt_ok rfl rfl (by exact sd) (Imp.refl _) (List.Sublist.refl _) ⟨rfl, rfl⟩
      ((repeat refine S.seq ?_); refine wG (k := ?_); try (refine L.nil ?_))
      repeat refine S.seq ?_
      refine S.goto ?_
      exact fun a' w hR => ⟨rfl, hJ a' w ⟨i + 1, h1, h2, by omega, fun j' hj' => by
        rcases Nat.lt_or_ge j' i with hlt | hge
        · exact hno j' hlt
        · have : j' = i := by omega
          subst this
          exact hw⟩ (by show (a.m.seq - 1).toNat - (i + 1) < (a.m.seq - 1).toNat - i; omega) (hR.weakP (by (repeat' (first | exact True.intro | exact Imp.refl _ | refine ⟨?_, ?_⟩))) (Sub.self _))⟩
    have e1 : delivB s a = true := by
      have h3 : dNo3 s a = false := by
        rw [dNo3]
        cases hd : (dX s a).del with
        | true => rfl
        | false =>
          have hc2 : ¬ (i : Int) < a.m.seq - 1 := by
            intro h
            rw [hd] at hc
            simp at hc
            omega
          rw [Bool.not_false, Bool.true_and, List.any_eq_false]
          intro j hj
          rw [hno j (by have := List.mem_range.1 hj; omega)]
          decide
      rw [delivB, h1, h2, h3]
      rfl
    have e2 : delivS s a = { setLast s a.cl a.tag with ms := s.ms.set (dI s a) { dX s a with del := true, ack := false }, held := a.mlock :: s.held, holds := (a.tagk, dI s a) :: s.holds } := by rw [delivS, e1]; rfl
    repeat refine S.seq ?_
    refine S.cut (ι := Unit) (fun i => [(0, .ptr 60 ad.c 0), (3, .pel 14 a.cells), (6, .pel 5 (bareC a.m)), (8, .ptr 93 (ad.mb.getD (dI s a) 0) 0)])
      (fun i => (93, .blk (ad.mb.getD (dI s a) 0) 460 (({ dX s a with del := true, ack := false } : MsD).cells ad.bb)) :: (90, rowL 458 ad.mb x l) :: crtR ad (setLast s a.cl a.tag) (dyn4 (lineR 454 ad.bb s.bat ad.xb) A' (batR s.bs ad.bb) ((msR s.ms ad.mb ad.bb).eraseIdx (dI s a)))) ?_ ?_
    · rcases hcl with h | h | h | h
      · have hst : setLast s 0 a.tag = { s with l0 := a.tag } := rfl
        refine slotAs 3 (.pel 14 (a.cellsC 0)) rfl (Imp.of_eq (by rw [← cellsC_eq h])) ?_
        refine S.draw [] mixed ?_
        refine wT [0, 1, 2, 3, 4, 5, 6, 7, 8, 13, 14] (k := ?_)
        refine wHS 9 (k := ?_)
        refine wT [10, 11] (k := ?_)
        refine wHS 12 (k := ?_)
        refine wT [15] (k := ?_)
        refine wHS 16 (k := ?_)
        refine wD (k := ?_)
        refine slotAs 3 (.pel 14 a.cells) rfl (Imp.of_eq (by rw [← cellsC_eq h])) ?_
        refine rowsEq ((93, .blk (ad.mb.getD (dI s a) 0) 460 (({ dX s a with del := true, ack := false } : MsD).cells ad.bb)) :: (90, rowL 458 ad.mb x l) :: crtR ad (setLast s a.cl a.tag) (dyn4 (lineR 454 ad.bb s.bat ad.xb) A' (batR s.bs ad.bb) ((msR s.ms ad.mb ad.bb).eraseIdx (dI s a)))) (by rw [h]; rfl) ?_
        exact fun a w h => ⟨(), h.weak (by (repeat' (first | exact True.intro | exact Imp.refl _ | refine ⟨?_, ?_⟩))) (List.Sublist.refl _)⟩
      · have hst : setLast s 1 a.tag = { s with l1 := a.tag } := rfl
        refine slotAs 3 (.pel 14 (a.cellsC 1)) rfl (Imp.of_eq (by rw [← cellsC_eq h])) ?_
        refine S.draw [] mixed ?_
        refine wT [0, 1, 2, 3, 4, 5, 6, 7, 8, 13, 14] (k := ?_)
        refine wHS 9 (k := ?_)
        refine wT [10, 11] (k := ?_)
        refine wHS 12 (k := ?_)
        refine wT [15] (k := ?_)
        refine wHS 16 (k := ?_)
        refine wD (k := ?_)
        refine slotAs 3 (.pel 14 a.cells) rfl (Imp.of_eq (by rw [← cellsC_eq h])) ?_
        refine rowsEq ((93, .blk (ad.mb.getD (dI s a) 0) 460 (({ dX s a with del := true, ack := false } : MsD).cells ad.bb)) :: (90, rowL 458 ad.mb x l) :: crtR ad (setLast s a.cl a.tag) (dyn4 (lineR 454 ad.bb s.bat ad.xb) A' (batR s.bs ad.bb) ((msR s.ms ad.mb ad.bb).eraseIdx (dI s a)))) (by rw [h]; rfl) ?_
        exact fun a w h => ⟨(), h.weak (by (repeat' (first | exact True.intro | exact Imp.refl _ | refine ⟨?_, ?_⟩))) (List.Sublist.refl _)⟩
      · have hst : setLast s 2 a.tag = { s with l2 := a.tag } := rfl
        refine slotAs 3 (.pel 14 (a.cellsC 2)) rfl (Imp.of_eq (by rw [← cellsC_eq h])) ?_
        refine S.draw [] mixed ?_
        refine wT [0, 1, 2, 3, 4, 5, 6, 7, 8, 13, 14] (k := ?_)
        refine wHS 9 (k := ?_)
        refine wT [10, 11] (k := ?_)
        refine wHS 12 (k := ?_)
        refine wT [15] (k := ?_)
        refine wHS 16 (k := ?_)
        refine wD (k := ?_)
        refine slotAs 3 (.pel 14 a.cells) rfl (Imp.of_eq (by rw [← cellsC_eq h])) ?_
        refine rowsEq ((93, .blk (ad.mb.getD (dI s a) 0) 460 (({ dX s a with del := true, ack := false } : MsD).cells ad.bb)) :: (90, rowL 458 ad.mb x l) :: crtR ad (setLast s a.cl a.tag) (dyn4 (lineR 454 ad.bb s.bat ad.xb) A' (batR s.bs ad.bb) ((msR s.ms ad.mb ad.bb).eraseIdx (dI s a)))) (by rw [h]; rfl) ?_
        exact fun a w h => ⟨(), h.weak (by (repeat' (first | exact True.intro | exact Imp.refl _ | refine ⟨?_, ?_⟩))) (List.Sublist.refl _)⟩
      · have hst : setLast s 3 a.tag = { s with l3 := a.tag } := rfl
        refine slotAs 3 (.pel 14 (a.cellsC 3)) rfl (Imp.of_eq (by rw [← cellsC_eq h])) ?_
        refine S.draw [] mixed ?_
        refine wT [0, 1, 2, 3, 4, 5, 6, 7, 8, 13, 14] (k := ?_)
        refine wHS 9 (k := ?_)
        refine wT [10, 11] (k := ?_)
        refine wHS 12 (k := ?_)
        refine wT [15] (k := ?_)
        refine wHS 16 (k := ?_)
        refine wD (k := ?_)
        refine slotAs 3 (.pel 14 a.cells) rfl (Imp.of_eq (by rw [← cellsC_eq h])) ?_
        refine rowsEq ((93, .blk (ad.mb.getD (dI s a) 0) 460 (({ dX s a with del := true, ack := false } : MsD).cells ad.bb)) :: (90, rowL 458 ad.mb x l) :: crtR ad (setLast s a.cl a.tag) (dyn4 (lineR 454 ad.bb s.bat ad.xb) A' (batR s.bs ad.bb) ((msR s.ms ad.mb ad.bb).eraseIdx (dI s a)))) (by rw [h]; rfl) ?_
        exact fun a w h => ⟨(), h.weak (by (repeat' (first | exact True.intro | exact Imp.refl _ | refine ⟨?_, ?_⟩))) (List.Sublist.refl _)⟩
    rintro ⟨⟩
    repeat refine S.seq ?_
    refine S.draw [(3, [60]), (12, [60])] mixed ?_
    refine wT [0, 1, 2, 3, 4, 5, 6, 7, 8, 9, 10, 11, 12, 13, 14, 15, 16, 17, 18, 19, 20] (k := ?_)
    refine H.tell 168 (.v (ptV (ad.mb.getD (dI s a) 0))) rfl (Imp.ptrv 93 _ 0) ?_
    refine H.o1 21 rfl (by kernel_rfl) (by kernel_rfl) (O.mapEntry (T := tt) (z := .bool false) (kv := a.mlock.v) tt_ok KeyLock.kName rfl rfl rfl (by kernel_rfl) rfl (by kernel_rfl) rfl rfl rfl rfl (by exact ⟨by exact sd, by exact sd, rfl, mlock_ok ao⟩)) (.inl (by kernel_rfl)) (by kernel_rfl) fun st => ?_
    refine wN ?_
    refine wT [22] (k := ?_)
    refine H.o1 23 rfl (by kernel_rfl) (by kernel_rfl) (O.entryStore rfl rfl rfl rfl rfl rfl rfl (by exact ⟨by exact sd, by exact sd, by exact sd, rfl, rfl⟩)) (.inl (by kernel_rfl)) (by kernel_rfl) fun _ => ?_
    refine H.o1 24 rfl (by kernel_rfl) (by kernel_rfl) (O.mapEntry (T := tt) (z := .pointer none) (kv := a.tagk.v) tt_ok KeyTag.kName rfl rfl rfl (by kernel_rfl) rfl (by kernel_rfl) rfl rfl rfl rfl (by exact ⟨by exact sd, by exact sd, rfl, tag_ok ao⟩)) (.inl (by kernel_rfl)) (by kernel_rfl) fun st2 => ?_
    refine wN ?_
    refine wT [25] (k := ?_)
    refine H.o1 26 rfl (by kernel_rfl) (by kernel_rfl) (O.entryStore rfl rfl rfl rfl rfl rfl rfl (by exact ⟨by exact sd, by exact sd, by exact sd, rfl, rfl⟩)) (.inl (by kernel_rfl)) (by kernel_rfl) fun _ => ?_
    refine wD (k := ?_)
    refine mapSay 64 (lockM (a.mlock :: s.held)) rfl (mget_twice _ _ _ _) ?_
    refine mapSay 65 (tagM ((a.tagk, dI s a) :: s.holds) ad.mb) rfl (mget_twice _ _ _ _) ?_
    refine rowsEq ((93, .blk (ad.mb.getD (dI s a) 0) 460 (({ dX s a with del := true, ack := false } : MsD).cells ad.bb)) :: (90, rowL 458 ad.mb x l) :: crtR ad { setLast s a.cl a.tag with held := a.mlock :: s.held, holds := (a.tagk, dI s a) :: s.holds } (dyn4 (lineR 454 ad.bb s.bat ad.xb) A' (batR s.bs ad.bb) ((msR s.ms ad.mb ad.bb).eraseIdx (dI s a)))) rfl ?_
    refine put2 _ ((inM (push1 (by rw [msR_len hmb]; exact hIl)).symm).symm) ?_
    rw [ms_set hmb hIl]
    refine closeR (hopen _ _) ?_
    ((repeat refine S.seq ?_); refine wG (k := ?_); try (refine L.nil ?_))
    ((repeat refine S.seq ?_); refine S.ret ?_)
    rw [e1, e2]
    exact E.ret (T := tt) tt_ok rfl rfl (by exact sd) (Imp.refl _) (List.Sublist.refl _) ⟨rfl, rfl⟩
  intro hJ
  repeat refine S.seq ?_
  refine S.cut (ι := Nat × Nat) (fun i => [(0, .ptr 60 ad.c 0), (3, .pel 14 a.cells), (5, .ptr 94 i.1 0), (6, .ptr 95 i.2 0)])
    (fun i => (94, .blk i.1 453 [.v (.int .i64 a.m.pub), .v (.int .i64 a.q), .v (.string a.m.key)]) :: (95, .blk i.2 70 a.m.cells) :: (90, rowL 458 ad.mb x l) :: crtR ad s (dyn4 (lineR 454 ad.bb s.bat ad.xb) A' (batR s.bs ad.bb) (msR s.ms ad.mb ad.bb))) ?_ ?_
  · refine S.draw [] mixed ?_
    refine wT [0, 1, 2, 3, 4, 5, 6, 7, 8, 9, 10] (k := ?_)
    refine H.o2 11 12 rfl rfl (by kernel_rfl) (by kernel_rfl) (O.alloc (T := tt) 94 tt_ok rfl rfl rfl rfl rfl) (O.alloc (T := tt) 95 tt_ok rfl rfl rfl rfl rfl) (.inr rfl) (.inr rfl) rfl rfl (fun b5 => ?_) (fun b6 => ?_)
    · refine H.o1 12 rfl (by kernel_rfl) (by kernel_rfl) (O.alloc (T := tt) 95 tt_ok rfl rfl rfl rfl rfl) (.inr rfl) rfl fun b6 => ?_
      refine wHS 13 (k := ?_)
      refine wHS 14 (k := ?_)
      refine wD (k := ?_)
      exact fun a w hR => ⟨(b5, b6), (hR.perm (List.Perm.swap _ _ _)).weak (by (repeat' (first | exact True.intro | exact Imp.refl _ | refine ⟨?_, ?_⟩))) (List.Sublist.refl _)⟩
    · refine H.o1 11 rfl (by kernel_rfl) (by kernel_rfl) (O.alloc (T := tt) 94 tt_ok rfl rfl rfl rfl rfl) (.inr rfl) rfl fun b5 => ?_
      refine wHS 13 (k := ?_)
      refine wHS 14 (k := ?_)
      refine wD (k := ?_)
      exact fun a w hR => ⟨(b5, b6), hR.weak (by (repeat' (first | exact True.intro | exact Imp.refl _ | refine ⟨?_, ?_⟩))) (List.Sublist.refl _)⟩
  rintro ⟨b5, b6⟩
  dsimp only
  refine freezeBlk 5 94 rfl rfl rfl ?_
  repeat refine S.seq ?_
  refine S.draw [(3, [60]), (5, [62])] mixed ?_
  refine wT [0, 1, 2, 3, 4] (k := ?_)
  refine H.s1 5 (A := .v x) rfl (by kernel_rfl) (by kernel_rfl) (by kernel_rfl) (by kernel_rfl) (by kernel_rfl) (by intro ch a a' w h; obtain ⟨_, _, _, _, _, h, _⟩ := h; cases h) rfl rfl (by kernel_rfl) (look_sure (T := tt) (z := nilS) (kv := a.mline.v) tt_ok KeyLine.kName rfl rfl (by kernel_rfl) rfl rfl rfl (by exact sd) rfl (fun _ _ => rfl) rfl hk (by rw [hx]; exact look_line ok.xa)) ?_
  refine H.tellW 27 (.ref 90 x) rfl (ownRef 90 rfl) ?_
  refine wT [6] (k := ?_)
  refine wD (k := ?_)
  repeat refine S.seq ?_
  refine S.cut (ι := Unit) (fun i => [(0, .ptr 60 ad.c 0), (3, .pel 14 a.cells), (6, .ptr 95 b6 0), (7, .ref 90 x), (61, .v (.bool (dNo1 s a)))])
    (fun i => (95, .blk b6 70 a.m.cells) :: (90, rowL 458 ad.mb x l) :: crtR ad s (dyn4 (lineR 454 ad.bb s.bat ad.xb) A' (batR s.bs ad.bb) (msR s.ms ad.mb ad.bb))) ?_ ?_
  · rcases hcl with h | h | h | h
    · have hla : lastAt s a.cl = s.l0 := by rw [h]; rfl
      refine slotAs 3 (.pel 14 (a.cellsC 0)) rfl (Imp.of_eq (by rw [← cellsC_eq h])) ?_
      refine S.draw [(8, [60]), (12, [95]), (17, [95]), (26, [60]), (30, [95]), (32, [64])] mixed ?_
      refine wT [0, 1, 2, 3, 4, 5, 6, 7, 8, 9, 10, 11, 12, 13, 14, 15, 16, 17, 18, 19, 20, 21, 22, 23, 24, 25, 26, 27, 28, 29, 30, 31] (k := ?_)
      refine H.sG (A := .v (.bool (decide (a.mlock ∈ s.held)))) 32 rfl (by kernel_rfl) (by kernel_rfl) (by kernel_rfl) (by kernel_rfl) (by kernel_rfl) (by intro ch a a' w h; obtain ⟨_, _, _, _, _, h, _⟩ := h; cases h) rfl rfl rfl (fun hb => look_sure (T := tt) (z := .bool false) (kv := a.mlock.v) tt_ok KeyLock.kName rfl rfl (by kernel_rfl) rfl rfl rfl ⟨hb, hb⟩ rfl (fun _ _ => rfl) rfl (mlock_ok ao) look_lock) ?_
      refine wT [33] (k := ?_)
      refine wD (k := ?_)
      refine slotAs 61 (.v (.bool (dNo1 s a))) rfl (Imp.of_eq (by rw [dNo1, hla, dL, ← hl])) ?_
      refine slotAs 3 (.pel 14 a.cells) rfl (Imp.of_eq (by rw [← cellsC_eq h])) ?_
      exact fun a w h => ⟨(), h.weak (by (repeat' (first | exact True.intro | exact Imp.refl _ | refine ⟨?_, ?_⟩))) (List.Sublist.refl _)⟩
    · have hla : lastAt s a.cl = s.l1 := by rw [h]; rfl
      refine slotAs 3 (.pel 14 (a.cellsC 1)) rfl (Imp.of_eq (by rw [← cellsC_eq h])) ?_
      refine S.draw [(8, [60]), (12, [95]), (17, [95]), (26, [60]), (30, [95]), (32, [64])] mixed ?_
      refine wT [0, 1, 2, 3, 4, 5, 6, 7, 8, 9, 10, 11, 12, 13, 14, 15, 16, 17, 18, 19, 20, 21, 22, 23, 24, 25, 26, 27, 28, 29, 30, 31] (k := ?_)
      refine H.sG (A := .v (.bool (decide (a.mlock ∈ s.held)))) 32 rfl (by kernel_rfl) (by kernel_rfl) (by kernel_rfl) (by kernel_rfl) (by kernel_rfl) (by intro ch a a' w h; obtain ⟨_, _, _, _, _, h, _⟩ := h; cases h) rfl rfl rfl (fun hb => look_sure (T := tt) (z := .bool false) (kv := a.mlock.v) tt_ok KeyLock.kName rfl rfl (by kernel_rfl) rfl rfl rfl ⟨hb, hb⟩ rfl (fun _ _ => rfl) rfl (mlock_ok ao) look_lock) ?_
      refine wT [33] (k := ?_)
      refine wD (k := ?_)
      refine slotAs 61 (.v (.bool (dNo1 s a))) rfl (Imp.of_eq (by rw [dNo1, hla, dL, ← hl])) ?_
      refine slotAs 3 (.pel 14 a.cells) rfl (Imp.of_eq (by rw [← cellsC_eq h])) ?_
      exact fun a w h => ⟨(), h.weak (by (repeat' (first | exact True.intro | exact Imp.refl _ | refine ⟨?_, ?_⟩))) (List.Sublist.refl _)⟩
    · have hla : lastAt s a.cl = s.l2 := by rw [h]; rfl
      refine slotAs 3 (.pel 14 (a.cellsC 2)) rfl (Imp.of_eq (by rw [← cellsC_eq h])) ?_
      refine S.draw [(8, [60]), (12, [95]), (17, [95]), (26, [60]), (30, [95]), (32, [64])] mixed ?_
      refine wT [0, 1, 2, 3, 4, 5, 6, 7, 8, 9, 10, 11, 12, 13, 14, 15, 16, 17, 18, 19, 20, 21, 22, 23, 24, 25, 26, 27, 28, 29, 30, 31] (k := ?_)
      refine H.sG (A := .v (.bool (decide (a.mlock ∈ s.held)))) 32 rfl (by kernel_rfl) (by kernel_rfl) (by kernel_rfl) (by kernel_rfl) (by kernel_rfl) (by intro ch a a' w h; obtain ⟨_, _, _, _, _, h, _⟩ := h; cases h) rfl rfl rfl (fun hb => look_sure (T := tt) (z := .bool false) (kv := a.mlock.v) tt_ok KeyLock.kName rfl rfl (by kernel_rfl) rfl rfl rfl ⟨hb, hb⟩ rfl (fun _ _ => rfl) rfl (mlock_ok ao) look_lock) ?_
      refine wT [33] (k := ?_)
      refine wD (k := ?_)
      refine slotAs 61 (.v (.bool (dNo1 s a))) rfl (Imp.of_eq (by rw [dNo1, hla, dL, ← hl])) ?_
      refine slotAs 3 (.pel 14 a.cells) rfl (Imp.of_eq (by rw [← cellsC_eq h])) ?_
      exact fun a w h => ⟨(), h.weak (by (repeat' (first | exact True.intro | exact Imp.refl _ | refine ⟨?_, ?_⟩))) (List.Sublist.refl _)⟩
    · have hla : lastAt s a.cl = s.l3 := by rw [h]; rfl
      refine slotAs 3 (.pel 14 (a.cellsC 3)) rfl (Imp.of_eq (by rw [← cellsC_eq h])) ?_
      refine S.draw [(8, [60]), (12, [95]), (17, [95]), (26, [60]), (30, [95]), (32, [64])] mixed ?_
      refine wT [0, 1, 2, 3, 4, 5, 6, 7, 8, 9, 10, 11, 12, 13, 14, 15, 16, 17, 18, 19, 20, 21, 22, 23, 24, 25, 26, 27, 28, 29, 30, 31] (k := ?_)
      refine H.sG (A := .v (.bool (decide (a.mlock ∈ s.held)))) 32 rfl (by kernel_rfl) (by kernel_rfl) (by kernel_rfl) (by kernel_rfl) (by kernel_rfl) (by intro ch a a' w h; obtain ⟨_, _, _, _, _, h, _⟩ := h; cases h) rfl rfl rfl (fun hb => look_sure (T := tt) (z := .bool false) (kv := a.mlock.v) tt_ok KeyLock.kName rfl rfl (by kernel_rfl) rfl rfl rfl ⟨hb, hb⟩ rfl (fun _ _ => rfl) rfl (mlock_ok ao) look_lock) ?_
      refine wT [33] (k := ?_)
      refine wD (k := ?_)
      refine slotAs 61 (.v (.bool (dNo1 s a))) rfl (Imp.of_eq (by rw [dNo1, hla, dL, ← hl])) ?_
      refine slotAs 3 (.pel 14 a.cells) rfl (Imp.of_eq (by rw [← cellsC_eq h])) ?_
      exact fun a w h => ⟨(), h.weak (by (repeat' (first | exact True.intro | exact Imp.refl _ | refine ⟨?_, ?_⟩))) (List.Sublist.refl _)⟩
  rintro ⟨⟩
  ((repeat refine S.seq ?_); refine S.cond rfl (fun h1 => ?_) (fun h1 => ?_) <;> (try first | refine S.skip ?_ | refine S.exit ?_))
  · have e1 : delivB s a = false := by rw [delivB, h1]; rfl
    have e2 : delivS s a = s := by rw [delivS, e1]; rfl
    ((repeat refine S.seq ?_); refine wG (k := ?_); try (refine L.nil ?_))
    refine rowsTo _ (Sub.drop (Sub.self _)) ?_
    refine closeR (hopen _ _) ?_
    ((repeat refine S.seq ?_); refine S.ret ?_)
    rw [e1, e2]
    exact E.ret (T := tt) tt_ok rfl rfl (by exact sd) (Imp.refl _) (List.Sublist.refl _) ⟨rfl, rfl⟩
  have hr1 := hr1' h1
  have hIl := hIl' h1
  ((repeat refine S.seq ?_); refine wG (k := ?_); try (refine L.nil ?_))
  refine slotAs 8 (.ptr 93 (ad.mb.getD (dI s a) 0) 0) rfl (Imp.trans (Imp.of_eq (show _ = AV.v (ptV (ad.mb.getD (dI s a) 0)) from by rw [dI, dL, ← hl])) (Imp.vptr 93 _ 0)) ?_
  ((repeat refine S.seq ?_); refine wG (k := ?_); try (refine L.nil ?_))
  refine wS (k := ?_)
  refine L.nil ?_
  refine freezeBlk 6 95 rfl rfl rfl ?_
  refine slotAs 6 (.pel 5 (bareC a.m)) rfl (Imp.refl _) ?_
  refine take2 93 (inM (pull1 (ms_get hmb hIl))) ?_
  have hbt := hbt' h1
  refine take3 94 (inC (pull1 (bat_get hbb hbt))) ?_
  refine blkAs 93 ((dX s a).cellsW (.ptr 94 (ad.bb.getD (dX s a).bt 0) 0)) rfl ⟨Imp.refl _, Imp.refl _, Imp.refl _, Imp.refl _, Imp.refl _, Imp.vptr 94 _ 0, Imp.refl _, Imp.refl _, Imp.refl _, trivial⟩ ?_
  repeat refine S.seq ?_
  refine S.draw [(3, [93]), (10, [93]), (13, [94]), (20, [93]), (26, [93])] mixed ?_
  refine wT [0, 1, 2, 3, 4, 5, 6, 7, 8, 9, 10, 11, 12, 13, 14, 15, 16, 17, 18, 19, 20, 21, 22, 23, 24, 25, 26, 27, 28, 29, 30, 31] (k := ?_)
  refine wD (k := ?_)
  refine slotAs 100 (.v (.bool (dNo2 s a))) rfl (Imp.of_eq ?e2) ?_
  case e2 =>
    rw [dNo2, ← eqMsg]
    rfl
  refine rowsEq ((94, .blk (ad.bb.getD (dX s a).bt 0) 456 (s.bs.getD (dX s a).bt default).cells) :: (93, .blk (ad.mb.getD (dI s a) 0) 460 ((dX s a).cellsW (.ptr 94 (ad.bb.getD (dX s a).bt 0) 0))) :: (90, rowL 458 ad.mb x l) :: crtR ad s (dyn4 (lineR 454 ad.bb s.bat ad.xb) A' ((batR s.bs ad.bb).eraseIdx (dX s a).bt) ((msR s.ms ad.mb ad.bb).eraseIdx (dI s a)))) rfl ?_
  refine put3 _ (inC (pull1 (bat_get hbb hbt))).symm ?_
  refine blkAs 93 ((dX s a).cells ad.bb) rfl ⟨Imp.refl _, Imp.refl _, Imp.refl _, Imp.refl _, Imp.refl _, Imp.ptrv 94 _ 0, Imp.refl _, Imp.refl _, Imp.refl _, trivial⟩ ?_
  refine rowsEq ((93, .blk (ad.mb.getD (dI s a) 0) 460 ((dX s a).cells ad.bb)) :: (90, rowL 458 ad.mb x l) :: crtR ad s (dyn4 (lineR 454 ad.bb s.bat ad.xb) A' (batR s.bs ad.bb) ((msR s.ms ad.mb ad.bb).eraseIdx (dI s a)))) rfl ?_
  refine put2 _ (inM (pull1 (ms_get hmb hIl))).symm ?_
  ((repeat refine S.seq ?_); refine S.cond rfl (fun h2 => ?_) (fun h2 => ?_) <;> (try first | refine S.skip ?_ | refine S.exit ?_))
  · have e1 : delivB s a = false := by rw [delivB, h1, h2]; rfl
    have e2 : delivS s a = s := by rw [delivS, e1]; rfl
    ((repeat refine S.seq ?_); refine wG (k := ?_); try (refine L.nil ?_))
    refine closeR (hopen _ _) ?_
    ((repeat refine S.seq ?_); refine S.ret ?_)
    rw [e1, e2]
    exact E.ret (T := tt) tt_ok rfl rfl (by exact sd) (Imp.refl _) (List.Sublist.refl _) ⟨rfl, rfl⟩
  ((repeat refine S.seq ?_); refine wG (k := ?_); try (refine L.nil ?_))
  repeat refine S.seq ?_
  refine S.label ?_
  exact fun a' w h => hJ ⟨0, h1, h2, by omega, fun j hj => absurd hj (Nat.not_lt_zero j)⟩ a' w (h.weakP (by (repeat' (first | exact True.intro | exact Imp.refl _ | refine ⟨?_, ?_⟩))) (Sub.self _))
end Go.Proofs.YtbogfmgfafdjiaaGreatDoor

/- The judge: what publishing makes, plain laws. -/
namespace Go.Proofs.YtbogfmgfafdjiaaGreatDoor
set_option linter.unusedVariables false
set_option linter.unusedSimpArgs false
set_option maxHeartbeats 8000000
open Go.RowKit
set_option maxRecDepth 4000

def bodyJ (a : ActD) (i : Nat) : ByteArray := if a.many > 1 then a.body ++ numT i else a.body
def pubNo (s : Crt) (a : ActD) : Bool := (decide (a.many < 1) || decide (a.many > 8)) || (a.seq != ((lkL s.all a.line).length : Int) + 1)
def newB (a : ActD) : BatD := ⟨a.seq, a.seq + a.many - 1, 0⟩
def newM (a : ActD) (bi i : Nat) : MsD := ⟨⟨a.cl, a.seq + i, a.key, bodyJ a i, false⟩, bi, false, false, false⟩
def addB (s : Crt) (a : ActD) : Crt := { s with bat := jputL s.bat a.line (lkL s.bat a.line ++ [s.bs.length]), bs := s.bs ++ [newB a] }
def addM (s : Crt) (k : LineK) (x : MsD) : Crt := { s with all := jputL s.all k (lkL s.all k ++ [s.ms.length]), ms := s.ms ++ [x] }
def pubN (s : Crt) (a : ActD) : Nat → Crt
  | 0 => addB s a
  | i + 1 => addM (pubN s a i) a.line (newM a s.bs.length i)
def pubJ (s : Crt) (a : ActD) : Crt := if pubNo s a then s else pubN s a a.many.toNat

theorem pubN_bs (s : Crt) (a : ActD) : ∀ i, (pubN s a i).bs = s.bs ++ [newB a]
  | 0 => rfl
  | i + 1 => pubN_bs s a i
theorem pubN_ml (s : Crt) (a : ActD) : ∀ i, (pubN s a i).ms.length = s.ms.length + i
  | 0 => rfl
  | i + 1 => by
    show ((pubN s a i).ms ++ [_]).length = _
    rw [List.length_append, pubN_ml s a i]
    rfl
theorem pubN_ok {s : Crt} {a : ActD} (h : CrtOk s) (hb : s.bs.length < 1000) : ∀ i, i ≤ 8 → CrtOk (pubN s a i)
  | 0, _ => by
    have hl : ∀ (k : LineK), (lkL s.bat k).length ≤ s.bs.length ∧ ∀ j ∈ lkL s.bat k, j < s.bs.length := fun k => by
      rcases lk_mem (l := s.bat) (k := k) with h1 | ⟨q, h1, h2⟩
      · rw [h1]; simp
      · rw [← h2]; exact ⟨h.len1 q h1, h.bat q h1⟩
    have e : (pubN s a 0).bs.length = s.bs.length + 1 := by simp [pubN, addB]
    refine ⟨fun p hp j hj => ?_, h.all, fun m hm => by rw [e]; exact Nat.lt_succ_of_lt (h.bt m hm), h.holds, h.acks, by omega, by rw [e]; have := h.mlen; show s.ms.length ≤ _; omega, fun p hp => ?_, h.len2⟩
    · rw [e]
      rcases mem_put hp with h1 | h1
      · exact Nat.lt_succ_of_lt (h.bat p h1 j hj)
      · rw [h1] at hj
        rcases List.mem_append.1 hj with h2 | h2
        · have := (hl _).2 j h2; omega
        · rw [List.mem_singleton] at h2; omega
    · rw [e]
      rcases mem_put hp with h1 | h1
      · have := h.len1 p h1; omega
      · rw [h1]
        have := (hl a.line).1
        show (lkL s.bat a.line ++ [s.bs.length]).length ≤ _
        rw [List.length_append]
        simp only [List.length_cons, List.length_nil]
        omega
  | i + 1, hi => by
    have ih := pubN_ok (a := a) h hb i (by omega)
    obtain ⟨t, ht⟩ : ∃ t, t = pubN s a i := ⟨_, rfl⟩
    have hbl : t.bs.length = s.bs.length + 1 := by rw [ht, pubN_bs]; simp
    have hmn : t.ms.length = s.ms.length + i := by rw [ht, pubN_ml]
    rw [← ht] at ih
    have hl : ∀ (k : LineK), (lkL t.all k).length ≤ t.ms.length ∧ ∀ j ∈ lkL t.all k, j < t.ms.length := fun k => by
      rcases lk_mem (l := t.all) (k := k) with h1 | ⟨q, h1, h2⟩
      · rw [h1]; simp
      · rw [← h2]; exact ⟨ih.len2 q h1, ih.all q h1⟩
    have hs : pubN s a (i + 1) = addM t a.line (newM a s.bs.length i) := by rw [ht]; rfl
    rw [hs]
    have e : (addM t a.line (newM a s.bs.length i)).ms.length = t.ms.length + 1 := by simp [addM]
    have hml := h.mlen
    refine ⟨ih.bat, fun p hp j hj => ?_, fun m hm => ?_, fun p hp => by rw [e]; exact Nat.lt_succ_of_lt (ih.holds p hp), fun p hp => by rw [e]; exact Nat.lt_succ_of_lt (ih.acks p hp), ih.blen, by rw [e]; show _ ≤ 8 * t.bs.length; omega, ih.len1, fun p hp => ?_⟩
    · rw [e]
      rcases mem_put hp with h1 | h1
      · exact Nat.lt_succ_of_lt (ih.all p h1 j hj)
      · rw [h1] at hj
        rcases List.mem_append.1 hj with h2 | h2
        · have := (hl _).2 j h2; omega
        · rw [List.mem_singleton] at h2; omega
    · rcases List.mem_append.1 hm with h1 | h1
      · exact ih.bt m h1
      · rw [List.mem_singleton] at h1
        rw [h1]
        show s.bs.length < t.bs.length
        omega
    · rw [e]
      rcases mem_put hp with h1 | h1
      · have := ih.len2 p h1; omega
      · rw [h1]
        have := (hl a.line).1
        show (lkL t.all a.line ++ [t.ms.length]).length ≤ _
        rw [List.length_append]
        simp only [List.length_cons, List.length_nil]
        omega

theorem getD_app {l : List Nat} {b j : Nat} (h : j < l.length) : (l ++ [b]).getD j 0 = l.getD j 0 := by
  rw [List.getD_eq_getElem?_getD, List.getElem?_append_left h, ← List.getD_eq_getElem?_getD]
theorem getD_new (l : List Nat) (b : Nat) : (l ++ [b]).getD l.length 0 = b := by
  rw [List.getD_eq_getElem?_getD, List.getElem?_append_right (Nat.le_refl _), Nat.sub_self]
  rfl
theorem line_say {E : TypeId} {pb : List Nat} {b : Nat} : ∀ {l : LineM} {xs : List Value}, (∀ p ∈ l, ∀ j ∈ p.2, j < pb.length) → Says (lineR E pb l xs) (lineR E (pb ++ [b]) l xs)
  | [], xs, h => by cases xs <;> exact .nil
  | p :: t, [], h => .nil
  | p :: t, y :: xs, h => by
    rw [lineR_cons, lineR_cons]
    refine .cons rfl (fun own w hs => ownSay rfl (fun i hi => ?_) hs) (line_say fun q hq => h q (List.mem_cons_of_mem _ hq))
    have hm : p.2.getD i default ∈ p.2 := by rw [getD_get hi]; exact List.getElem_mem _
    have e : gOf (ptC pb) p.2 i = gOf (ptC (pb ++ [b])) p.2 i := by
      show ptC pb (p.2.getD i default) = ptC (pb ++ [b]) (p.2.getD i default)
      rw [ptC, ptC, getD_app (h p (List.mem_cons_self) _ hm)]
    rw [e]
    exact Imps.refl _
theorem batR_app {bs : List BatD} {bb : List Nat} (h : bb.length = bs.length) (x : BatD) (b : Nat) : batR (bs ++ [x]) (bb ++ [b]) = batR bs bb ++ [.blk b 456 x.cells] := by
  unfold batR
  rw [List.zip_append h.symm, List.map_append]
  rfl
theorem msR_app {ms : List MsD} {mb bb : List Nat} (h : mb.length = ms.length) (x : MsD) (b : Nat) : msR (ms ++ [x]) (mb ++ [b]) bb = msR ms mb bb ++ [.blk b 460 (x.cells bb)] := by
  unfold msR
  rw [List.zip_append h.symm, List.map_append]
  rfl
theorem msR_bb {ms : List MsD} {mb bb : List Nat} {b : Nat} (h : ∀ m ∈ ms, m.bt < bb.length) : msR ms mb (bb ++ [b]) = msR ms mb bb := by
  unfold msR
  refine List.map_congr_left fun p hp => ?_
  have hm : p.1 ∈ ms := (List.of_mem_zip (a := p.1) (b := p.2) hp).1
  have e : p.1.cells (bb ++ [b]) = p.1.cells bb := by
    unfold MsD.cells
    rw [getD_app (h _ hm)]
  rw [e]
theorem tagM_app {l : List (TagK × Nat)} {mb : List Nat} {b : Nat} (h : ∀ p ∈ l, p.2 < mb.length) : tagM l (mb ++ [b]) = tagM l mb := by
  unfold tagM
  refine List.map_congr_left fun p hp => ?_
  rw [getD_app (h p hp)]

theorem AdOk.addB {ad : Adr} {s : Crt} {a : ActD} (h : AdOk ad s) (y : Value) (b : Nat) : AdOk { ad with bb := ad.bb ++ [b], xb := putX s.bat ad.xb a.line y } (addB s a) :=
  ⟨putX_len h.xb, h.xa, by show (ad.bb ++ [b]).length = (s.bs ++ [_]).length; rw [List.length_append, List.length_append, h.bb]; rfl, h.mb⟩
theorem AdOk.addM {ad : Adr} {s : Crt} {k : LineK} {x : MsD} (h : AdOk ad s) (y z : Value) (b : Nat) : AdOk { ad with mb := ad.mb ++ [b], xa := putX s.all ad.xa k y, xo := z } (addM s k x) :=
  ⟨h.xb, putX_len h.xa, h.bb, by show (ad.mb ++ [b]).length = (s.ms ++ [_]).length; rw [List.length_append, List.length_append, h.mb]; rfl⟩
end Go.Proofs.YtbogfmgfafdjiaaGreatDoor

/- The judge: a batch is published. -/
namespace Go.Proofs.YtbogfmgfafdjiaaGreatDoor
set_option linter.unusedVariables false
set_option linter.unusedSimpArgs false
set_option maxHeartbeats 8000000
open Go.RowKit
set_option maxRecDepth 4000

theorem crtSay {c : Ctx} {σ : Slots} {K : Act → World → Prop} {ad : Adr} {s : Crt} {D : List Row} (D' : List Row) (h : Says D D') (next : ∀ a w, R c σ (crtR ad s D') a w → K a w) : ∀ a w, R c σ (crtR ad s D) a w → K a w := by
  refine rowsSay (crtR ad s D') ?_ next
  unfold crtR
  simp only [List.map_cons, tl_snd]
  exact .cons rfl (fun _ _ h => h) (.cons rfl (fun _ _ h => h) (.cons rfl (fun _ _ h => h) (.cons rfl (fun _ _ h => h) (.cons rfl (fun _ _ h => h) (.cons rfl (fun _ _ h => h) (.cons rfl (fun _ _ h => h) h))))))
def lineC (k : LineK) : List AV := [.v (.int .i64 k.pub), .v (.int .i64 k.q), .v (.string k.key)]

theorem jpublish_p (ad : Adr) (s : Crt) (a : ActD) (ok : AdOk ad s) (co : CrtOk s) (ao : ActOk a) (hbs : s.bs.length < 1000) : FnC Tryz.prog 306 [.ptr 60 ad.c 0, a.av] (courtR ad s)
    (fun r F' => ∃ ad', r = .v (.bool (!pubNo s a)) ∧ F' = courtR ad' (pubJ s a) ∧ AdOk ad' (pubJ s a) ∧ ad'.c = ad.c) := by
  have hk := line_ok ao
  have hbody := ao.body
  have hml := co.mlen
  have hbl := co.blen
  obtain ⟨l, hl⟩ : ∃ l, l = lkL s.all a.line := ⟨_, rfl⟩
  have hln : l.length ≤ 8000 := by
    rcases lk_mem (l := s.all) (k := a.line) with h | ⟨p, hp, h⟩
    · rw [hl, h]; simp
    · rw [hl, ← h]; have := co.len2 p hp; omega
  have hopen := openB (E := 458) (pb := ad.mb) (k := a.line) (A := lineR 454 ad.bb s.bat ad.xb) (C := batR s.bs ad.bb) (M := msR s.ms ad.mb ad.bb) ok.xa
  obtain ⟨x, hx⟩ : ∃ x, x = slx s.all ad.xa a.line := ⟨_, rfl⟩
  simp only [← hx, ← hl] at hopen
  unfold courtR dynS
  refine FnC.intro Tryz.func306 rfl Tryz.ntmps306 rfl ?_; intro off w0
  repeat refine S.seq ?_
  refine S.region ?_
  refine wB 91 (k := fun b3 => ?_)
  (refine wL (k := ?_); try (refine L.nil ?_))
  refine freezeBlk 3 91 rfl rfl rfl ?_
  ((repeat refine S.seq ?_); refine wG (k := ?_); try (refine L.nil ?_))
  refine wA 92 (k := fun b5 => ?_)
  refine wS (k := ?_)
  refine L.nil ?_
  refine freezeBlk 5 92 rfl rfl rfl ?_
  refine slotAs 5 (.pel 3 (lineC a.line)) rfl (Imp.refl _) ?_
  refine openR 90 hopen ?_
  repeat refine S.seq ?_
  refine S.draw [(14, [60]), (16, [62])] mixed ?_
  refine wT [0, 1, 2, 3, 4, 5, 6, 7, 8, 9, 10, 11, 12, 13, 14, 15] (k := ?_)
  refine H.sG (A := .ref 90 x) 16 rfl (by kernel_rfl) (by kernel_rfl) (by kernel_rfl) (by kernel_rfl) (by kernel_rfl) (by intro ch a a' w h; obtain ⟨_, _, _, _, _, h, _⟩ := h; cases h) rfl rfl rfl (fun hb => sureRef 90 (look_sure (T := tt) (z := nilS) (kv := a.line.v) tt_ok KeyLine.kName rfl rfl (by kernel_rfl) rfl rfl rfl ⟨hb, hb⟩ rfl (fun _ _ => rfl) rfl hk (by rw [hx]; exact look_line ok.xa)) rfl) ?_
  refine wT [17, 18, 19, 20] (k := ?_)
  refine wD (k := ?_)
  refine slotAs 36 (.v (.bool (pubNo s a))) rfl (Imp.of_eq (by rw [pubNo, ← hl])) ?_
  refine closeR hopen ?_
  ((repeat refine S.seq ?_); refine S.cond rfl (fun h1 => ?_) (fun h1 => ?_) <;> (try first | refine S.skip ?_ | refine S.exit ?_))
  · have e2 : pubJ s a = s := by rw [pubJ, if_pos h1]
    ((repeat refine S.seq ?_); refine wG (k := ?_); try (refine L.nil ?_))
    ((repeat refine S.seq ?_); refine S.ret ?_)
    rw [h1, e2]
    exact E.ret (T := tt) tt_ok rfl rfl (by exact sd) (F' := courtR ad s) (Imp.refl _) (List.Sublist.refl _) ⟨ad, rfl, rfl, ok, rfl⟩
  have hr : 1 ≤ a.many ∧ a.many ≤ 8 ∧ a.seq = (l.length : Int) + 1 := by
    simp only [pubNo, Bool.or_eq_false_iff, decide_eq_false_iff_not, ← hl] at h1
    have := h1.2
    simp at this
    omega
  have e2 : pubJ s a = pubN s a a.many.toNat := by rw [pubJ, if_neg (by rw [h1]; decide)]
  repeat refine S.seq ?_
  refine S.region ?_
  (refine wL (k := ?_); try (refine L.nil ?_))
  refine wB 91 (k := fun b46 => ?_)
  (refine wL (k := ?_); try (refine L.nil ?_))
  refine slotAs 6 (.v (ptV b46)) rfl (Imp.ptrv 91 _ 0) ?_
  obtain ⟨bb', hbb'⟩ : ∃ bb', bb' = ad.bb ++ [b46] := ⟨_, rfl⟩
  have hbbn : bb'.getD s.bs.length 0 = b46 := by rw [hbb', ← ok.bb]; exact getD_new _ _
  refine rowsEq ((91, .blk b46 456 (newB a).cells) :: crtR ad s (dyn4 (lineR 454 ad.bb s.bat ad.xb) (lineR 458 ad.mb s.all ad.xa) (batR s.bs ad.bb) (msR s.ms ad.mb ad.bb))) rfl ?_
  refine put1 (dyn4 (lineR 454 ad.bb s.bat ad.xb) (lineR 458 ad.mb s.all ad.xa) (batR (s.bs ++ [newB a]) bb') (msR s.ms ad.mb ad.bb)) (by rw [hbb', batR_app ok.bb]; exact (inC last1.symm).symm) ?_
  refine crtSay (dyn4 (lineR 454 bb' s.bat ad.xb) (lineR 458 ad.mb s.all ad.xa) (batR (s.bs ++ [newB a]) bb') (msR s.ms ad.mb bb')) (by
    rw [hbb', msR_bb (fun m hm => by rw [ok.bb]; exact co.bt m hm)]
    exact (line_say (fun p hp j hj => by rw [ok.bb]; exact co.bat p hp j hj)).app ((Says.refl _).app ((Says.refl _).app (Says.refl _)))) ?_
  obtain ⟨lb, hlb⟩ : ∃ lb, lb = lkL s.bat a.line := ⟨_, rfl⟩
  have hlbn : lb.length ≤ 1000 := by
    rcases lk_mem (l := s.bat) (k := a.line) with h | ⟨p, hp, h⟩
    · rw [hlb, h]; simp
    · rw [hlb, ← h]; have := co.len1 p hp; omega
  obtain ⟨xb, hxb⟩ : ∃ xb, xb = slx s.bat ad.xb a.line := ⟨_, rfl⟩
  have hopenA := openA (E := 454) (pb := bb') (k := a.line) (B := lineR 458 ad.mb s.all ad.xa) (C := batR (s.bs ++ [newB a]) bb') (M := msR s.ms ad.mb bb') ok.xb
  simp only [← hxb, ← hlb] at hopenA
  refine openR 90 hopenA ?_
  repeat refine S.seq ?_
  refine S.draw [(3, [60])] mixed ?_
  refine wT [0, 1, 2, 3, 4, 5] (k := ?_)
  refine wHF 6 94 (k := fun x54 => ?_)
  refine H.o1 7 rfl (by kernel_rfl) (by kernel_rfl) (O.mapEntry (T := tt) (z := nilS) (kv := a.line.v) tt_ok KeyLine.kName rfl rfl rfl (by kernel_rfl) rfl (by kernel_rfl) rfl rfl rfl rfl (by exact ⟨by exact sd, by exact sd, rfl, hk⟩)) (.inl (by kernel_rfl)) (by kernel_rfl) fun st => ?_
  refine wN ?_
  refine wT [8, 10] (k := ?_)
  refine H.tell 52 (.v xb) rfl (Imp.of_eq (by rw [hxb]; exact look_line ok.xb)) ?_
  refine H.tellW 52 (.ref 90 xb) rfl (ownRef 90 rfl) ?_
  refine wHY 9 (k := fun y => ?_)
  refine H.tell 56 (.v y) rfl (Imp.refv 90 y) ?_
  refine H.o1 11 rfl (by kernel_rfl) (by kernel_rfl) (O.entryStore rfl rfl rfl rfl rfl rfl rfl (by exact ⟨by exact sd, by exact sd, by exact sd, rfl, rfl⟩)) (.inl (by kernel_rfl)) (by kernel_rfl) fun _ => ?_
  refine wD (k := ?_)
  refine mapSay 61 (lineM (jputL s.bat a.line (lb ++ [s.bs.length])) (putX s.bat ad.xb a.line y)) rfl (fun key => (mget_twice _ _ _ _ key).trans (put_line y _ key ok.xb)) ?_
  refine ownAs 90 (gOf (ptC bb') (lb ++ [s.bs.length])) rfl (show lb.length + 1 = (lb ++ [s.bs.length]).length by simp) (fun i hi => app1_h (ptC bb') lb s.bs.length _ rfl (by rw [ptC, hbbn]; rfl) hi) ?_
  refine rowsTo ((90, rowL 454 bb' y (lb ++ [s.bs.length])) :: crtR { ad with bb := bb', xb := putX s.bat ad.xb a.line y } (addB s a) (dyn4 (rmR 454 bb' s.bat ad.xb a.line) (lineR 458 ad.mb s.all ad.xa) (batR (s.bs ++ [newB a]) bb') (msR s.ms ad.mb bb'))) (by rw [crtR, addB, ← hlb]; exact Sub.drop (Sub.self _)) ?_
  refine put1 (dynS { ad with bb := bb', xb := putX s.bat ad.xb a.line y } (pubN s a 0)) (by rw [hlb]; exact (inA (open_put y _ ok.xb).symm).symm) ?_
  ((repeat refine S.seq ?_); refine wG (k := ?_); try (refine L.nil ?_))
  have ok1 : AdOk { ad with bb := bb', xb := putX s.bat ad.xb a.line y } (pubN s a 0) := by rw [hbb']; exact ok.addB y b46
  repeat refine S.seq ?_
  refine S.block (S.loop (ι := { p : Nat × Adr // p.1 ≤ a.many.toNat ∧ AdOk p.2 (pubN s a p.1) ∧ p.2.c = ad.c ∧ p.2.bb = bb' }) (fun p => [(0, .ptr 60 p.1.2.c 0), (3, .pel 14 a.cells), (5, .pel 3 (lineC a.line)), (6, .v (ptV b46)), (59, .v (.int .i64 a.many)), (60, .v (.int .i64 p.1.1))])
    (fun p => courtR p.1.2 (pubN s a p.1.1)) (fun p => a.many.toNat - p.1.1) ?_ ?_)
  · exact fun a' w h => ⟨⟨(0, { ad with bb := bb', xb := putX s.bat ad.xb a.line y }), Nat.zero_le _, ok1, rfl, rfl⟩, h.weakP (by (repeat' (first | exact True.intro | exact Imp.refl _ | refine ⟨?_, ?_⟩))) (Sub.self _)⟩
  rintro ⟨⟨i, ad2⟩, hi, ok2, hc2, hb2⟩
  dsimp only at hi ok2 hc2 hb2 ⊢
  have co2 := pubN_ok (a := a) co hbs i (by omega)
  obtain ⟨t, ht⟩ : ∃ t, t = pubN s a i := ⟨_, rfl⟩
  have hti : pubN s a (i + 1) = addM t a.line (newM a s.bs.length i) := by rw [ht]; rfl
  rw [← ht] at ok2 co2
  rw [← ht]
  have hnt := numT_size (i := (i : Int)) (by omega)
  ((repeat refine S.seq ?_); refine wG (k := ?_); try (refine L.nil ?_))
  ((repeat refine S.seq ?_); refine S.cond rfl (fun hc => ?_) (fun hc => ?_) <;> (try first | refine S.skip ?_ | refine S.exit ?_))
  · have hin : i < a.many.toNat := by have := of_dec hc; omega
    have hnt := hnt (by omega)
    repeat refine S.seq ?_
    refine S.block ?_
    ((repeat refine S.seq ?_); refine wG (k := ?_); try (refine L.nil ?_))
    repeat refine S.seq ?_
    refine S.region ?_
    (refine wL (k := ?_); try (refine L.nil ?_))
    refine wB 93 (k := fun b76 => ?_)
    (refine wL (k := ?_); try (refine L.nil ?_))
    ((repeat refine S.seq ?_); refine wG (k := ?_); try (refine L.nil ?_))
    repeat refine S.seq ?_
    refine S.cut (ι := Unit) (fun _ => [(0, .ptr 60 ad2.c 0), (3, .pel 14 a.cells), (5, .pel 3 (lineC a.line)), (6, .v (ptV b46)), (8, .v (ptV b76)), (59, .v (.int .i64 a.many)), (60, .v (.int .i64 i))])
      (fun _ => (93, .blk b76 460 ((newM a s.bs.length i).cells ad2.bb)) :: courtR ad2 t) ?_ ?_
    · ((repeat refine S.seq ?_); refine S.cond rfl (fun h3 => ?_) (fun h3 => ?_) <;> (try first | refine S.skip ?_ | refine S.exit ?_))
      · have h3n : a.many > 1 := of_dec h3
        have e : (newM a s.bs.length i).cells ad2.bb = [.v (.int .i64 a.cl), .v (.int .i64 (a.seq + i)), .v (.string a.key), .v (.string (a.body ++ numT i)), .v (.bool false), .v (ptV b46), .v (.bool false), .v (.bool false), .v (.bool false)] := by
          rw [MsD.cells, newM, bodyJ, if_pos h3n, hb2, hbbn]
        repeat refine S.seq ?_
        refine S.draw [] mixed ?_
        refine wT [0, 1, 2, 3] (k := ?_)
        refine wHP 4 ((itoa_p (i : Int) (by omega) (by omega))) (k := ?_)
        refine wN ?_
        refine wT [5, 6, 7, 8] (k := ?_)
        refine wHS 9 (k := ?_)
        refine wD (k := ?_)
        refine slotAs 8 (.v (ptV b76)) rfl (Imp.ptrv 93 _ 0) ?_
        refine blkAs 93 ((newM a s.bs.length i).cells ad2.bb) rfl (by rw [e]; exact Imps.refl _) ?_
        exact fun a' w h => ⟨(), h.weak (by (repeat' (first | exact True.intro | exact Imp.refl _ | refine ⟨?_, ?_⟩))) (List.Sublist.refl _)⟩
      · have h3n : ¬ a.many > 1 := of_dec' h3
        have e : (newM a s.bs.length i).cells ad2.bb = [.v (.int .i64 a.cl), .v (.int .i64 (a.seq + i)), .v (.string a.key), .v (.string a.body), .v (.bool false), .v (ptV b46), .v (.bool false), .v (.bool false), .v (.bool false)] := by
          rw [MsD.cells, newM, bodyJ, if_neg h3n, hb2, hbbn]
        refine slotAs 8 (.v (ptV b76)) rfl (Imp.ptrv 93 _ 0) ?_
        refine blkAs 93 ((newM a s.bs.length i).cells ad2.bb) rfl (by rw [e]; exact Imps.refl _) ?_
        exact fun a' w h => ⟨(), h.weak (by (repeat' (first | exact True.intro | exact Imp.refl _ | refine ⟨?_, ?_⟩))) (List.Sublist.refl _)⟩
    rintro ⟨⟩
    obtain ⟨mb', hmb'⟩ : ∃ mb', mb' = ad2.mb ++ [b76] := ⟨_, rfl⟩
    have hmbl := ok2.mb
    have hmbn : mb'.getD t.ms.length 0 = b76 := by rw [hmb', ← hmbl]; exact getD_new _ _
    have htg1 : tagM t.holds mb' = tagM t.holds ad2.mb := by rw [hmb']; exact tagM_app (fun p hp => by rw [hmbl]; exact co2.holds p hp)
    have htg2 : tagM t.acks mb' = tagM t.acks ad2.mb := by rw [hmb']; exact tagM_app (fun p hp => by rw [hmbl]; exact co2.acks p hp)
    have hmlen : t.ms.length ≤ 8000 := by have := co2.mlen; have := co2.blen; omega
    have hmbl2 : ad2.mb.length ≤ 8000 := by omega
    unfold courtR dynS
    refine put1 (dyn4 (lineR 454 ad2.bb t.bat ad2.xb) (lineR 458 ad2.mb t.all ad2.xa) (batR t.bs ad2.bb) (msR (t.ms ++ [newM a s.bs.length i]) mb' ad2.bb)) (by rw [hmb', msR_app hmbl]; exact (inM last1.symm).symm) ?_
    refine crtSay (dyn4 (lineR 454 ad2.bb t.bat ad2.xb) (lineR 458 mb' t.all ad2.xa) (batR t.bs ad2.bb) (msR (t.ms ++ [newM a s.bs.length i]) mb' ad2.bb)) (by
      rw [hmb']
      exact (Says.refl _).app ((line_say (fun p hp j hj => by rw [hmbl]; exact co2.all p hp j hj)).app (Says.refl _))) ?_
    obtain ⟨lv, hlv⟩ : ∃ lv, lv = lkL t.all a.line := ⟨_, rfl⟩
    have hlvn : lv.length ≤ 8000 := by
      rcases lk_mem (l := t.all) (k := a.line) with h | ⟨p, hp, h⟩
      · rw [hlv, h]; simp
      · rw [hlv, ← h]; have := co2.len2 p hp; omega
    obtain ⟨xa, hxa⟩ : ∃ xa, xa = slx t.all ad2.xa a.line := ⟨_, rfl⟩
    have hopenB := openB (E := 458) (pb := mb') (k := a.line) (A := lineR 454 ad2.bb t.bat ad2.xb) (C := batR t.bs ad2.bb) (M := msR (t.ms ++ [newM a s.bs.length i]) mb' ad2.bb) ok2.xa
    simp only [← hxa, ← hlv] at hopenB
    refine openR 90 hopenB ?_
    repeat refine S.seq ?_
    refine S.cut (ι := Value × Value) (fun _ => [(0, .ptr 60 ad2.c 0), (3, .pel 14 a.cells), (5, .pel 3 (lineC a.line)), (6, .v (ptV b46)), (59, .v (.int .i64 a.many)), (60, .v (.int .i64 i))])
      (fun y => (90, rowL 458 mb' y.1 (lv ++ [t.ms.length])) :: crtR { ad2 with mb := mb', xa := putX t.all ad2.xa a.line y.1, xo := y.2 } { t with all := jputL t.all a.line (lv ++ [t.ms.length]), ms := t.ms ++ [newM a s.bs.length i] } (dyn4 (lineR 454 ad2.bb t.bat ad2.xb) (rmR 458 mb' t.all ad2.xa a.line) (batR t.bs ad2.bb) (msR (t.ms ++ [newM a s.bs.length i]) mb' ad2.bb))) ?_ ?_
    · refine S.draw [(3, [60]), (9, [60]), (11, [62]), (18, [60])] mixed ?_
      refine wT [0, 1, 2, 3, 4, 5, 6, 7, 8, 9, 10] (k := ?_)
      refine H.s1 11 (A := .ref 90 xa) rfl (by kernel_rfl) (by kernel_rfl) (by kernel_rfl) (by kernel_rfl) (by kernel_rfl) (by intro ch a a' w h; obtain ⟨_, _, _, _, _, h, _⟩ := h; cases h) rfl rfl (by kernel_rfl) (sureRef 90 (look_sure (T := tt) (z := nilS) (kv := a.line.v) tt_ok KeyLine.kName rfl rfl (by kernel_rfl) rfl rfl rfl (by exact sd) rfl (fun _ _ => rfl) rfl hk (by rw [hxa]; exact look_line ok2.xa)) rfl) ?_
      refine wT [12, 15, 16, 17, 18, 19] (k := ?_)
      refine H.o2 13 20 rfl rfl (by kernel_rfl) (by kernel_rfl) (O.buildSlice (T := tt) 94 tt_ok rfl rfl rfl rfl rfl rfl (by decide) (by decide) rfl rfl (by exact sd)) (O.buildSlice (T := tt) 95 tt_ok rfl rfl rfl rfl rfl rfl (by decide) (by decide) rfl rfl (by exact sd)) (.inr rfl) (.inr rfl) rfl rfl (fun x102 => ?_) (fun x109 => ?_)
      · refine H.o2 14 20 rfl rfl (by kernel_rfl) (by kernel_rfl) (O.append (T := tt) tt_ok rfl rfl rfl rfl rfl rfl rfl rfl rfl rfl (by exact sd) ⟨rfl, by decide, by decide⟩ (by simp; omega)) (O.buildSlice (T := tt) 95 tt_ok rfl rfl rfl rfl rfl rfl (by decide) (by decide) rfl rfl (by exact sd)) (.inl (by kernel_rfl)) (.inr rfl) (by kernel_rfl) rfl (fun ya => ?_) (fun x109 => ?_)
        · refine wHF 20 95 (k := fun x109 => ?_)
          refine wHY 21 (k := fun yo => ?_)
          refine H.tell 103 (.v ya) rfl (Imp.refv 90 ya) ?_
          refine H.o1 22 rfl (by kernel_rfl) (by kernel_rfl) (O.mapEntry (T := tt) (z := nilS) (kv := a.line.v) tt_ok KeyLine.kName rfl rfl rfl (by kernel_rfl) rfl (by kernel_rfl) rfl rfl rfl rfl (by exact ⟨by exact sd, by exact sd, rfl, hk⟩)) (.inl (by kernel_rfl)) (by kernel_rfl) fun st => ?_
          refine wN ?_
          refine wT [23] (k := ?_)
          refine H.o1 24 rfl (by kernel_rfl) (by kernel_rfl) (O.entryStore rfl rfl rfl rfl rfl rfl rfl (by exact ⟨by exact sd, by exact sd, by exact sd, rfl, rfl⟩)) (.inl (by kernel_rfl)) (by kernel_rfl) fun _ => ?_
          refine wT [25, 26] (k := ?_)
          refine wHS 27 (k := ?_)
          refine wD (k := ?_)
          refine mapSay 62 (lineM (jputL t.all a.line (lv ++ [t.ms.length])) (putX t.all ad2.xa a.line ya)) rfl (fun key => (mget_twice _ _ _ _ key).trans (put_line ya _ key ok2.xa)) ?_
          refine ownAs 90 (gOf (ptC mb') (lv ++ [t.ms.length])) rfl (show lv.length + 1 = (lv ++ [t.ms.length]).length by simp) (fun i hi => app1_h (ptC mb') lv t.ms.length _ rfl (by rw [ptC, hmbn]; rfl) hi) ?_
          refine ownAs 63 (gOf (fun b => [.v (ptV b)]) mb') rfl (show ad2.mb.length + 1 = mb'.length by rw [hmb']; simp) (fun i hi => by rw [hmb']; exact app1_h (fun b => [.v (ptV b)]) ad2.mb b76 _ rfl rfl hi) ?_
          refine rowsTo _ (Sub.drop (Sub.drop (Sub.self _))) ?_
          exact fun a' w h => ⟨(ya, yo), h.weak (by (repeat' (first | exact True.intro | exact Imp.refl _ | refine ⟨?_, ?_⟩))) (by unfold crtR; dsimp only; rw [htg1, htg2]; exact List.Sublist.refl _)⟩
        · refine wHY 14 (k := fun ya => ?_)
          refine wHY 21 (k := fun yo => ?_)
          refine H.tell 103 (.v ya) rfl (Imp.refv 90 ya) ?_
          refine H.o1 22 rfl (by kernel_rfl) (by kernel_rfl) (O.mapEntry (T := tt) (z := nilS) (kv := a.line.v) tt_ok KeyLine.kName rfl rfl rfl (by kernel_rfl) rfl (by kernel_rfl) rfl rfl rfl rfl (by exact ⟨by exact sd, by exact sd, rfl, hk⟩)) (.inl (by kernel_rfl)) (by kernel_rfl) fun st => ?_
          refine wN ?_
          refine wT [23] (k := ?_)
          refine H.o1 24 rfl (by kernel_rfl) (by kernel_rfl) (O.entryStore rfl rfl rfl rfl rfl rfl rfl (by exact ⟨by exact sd, by exact sd, by exact sd, rfl, rfl⟩)) (.inl (by kernel_rfl)) (by kernel_rfl) fun _ => ?_
          refine wT [25, 26] (k := ?_)
          refine wHS 27 (k := ?_)
          refine wD (k := ?_)
          refine mapSay 62 (lineM (jputL t.all a.line (lv ++ [t.ms.length])) (putX t.all ad2.xa a.line ya)) rfl (fun key => (mget_twice _ _ _ _ key).trans (put_line ya _ key ok2.xa)) ?_
          refine ownAs 90 (gOf (ptC mb') (lv ++ [t.ms.length])) rfl (show lv.length + 1 = (lv ++ [t.ms.length]).length by simp) (fun i hi => app1_h (ptC mb') lv t.ms.length _ rfl (by rw [ptC, hmbn]; rfl) hi) ?_
          refine ownAs 63 (gOf (fun b => [.v (ptV b)]) mb') rfl (show ad2.mb.length + 1 = mb'.length by rw [hmb']; simp) (fun i hi => by rw [hmb']; exact app1_h (fun b => [.v (ptV b)]) ad2.mb b76 _ rfl rfl hi) ?_
          refine rowsTo _ (Sub.drop (Sub.drop (Sub.self _))) ?_
          exact fun a' w h => ⟨(ya, yo), h.weak (by (repeat' (first | exact True.intro | exact Imp.refl _ | refine ⟨?_, ?_⟩))) (by unfold crtR; dsimp only; rw [htg1, htg2]; exact List.Sublist.refl _)⟩
      · refine wHF 13 94 (k := fun x102 => ?_)
        refine wHY 14 (k := fun ya => ?_)
        refine wHY 21 (k := fun yo => ?_)
        refine H.tell 103 (.v ya) rfl (Imp.refv 90 ya) ?_
        refine H.o1 22 rfl (by kernel_rfl) (by kernel_rfl) (O.mapEntry (T := tt) (z := nilS) (kv := a.line.v) tt_ok KeyLine.kName rfl rfl rfl (by kernel_rfl) rfl (by kernel_rfl) rfl rfl rfl rfl (by exact ⟨by exact sd, by exact sd, rfl, hk⟩)) (.inl (by kernel_rfl)) (by kernel_rfl) fun st => ?_
        refine wN ?_
        refine wT [23] (k := ?_)
        refine H.o1 24 rfl (by kernel_rfl) (by kernel_rfl) (O.entryStore rfl rfl rfl rfl rfl rfl rfl (by exact ⟨by exact sd, by exact sd, by exact sd, rfl, rfl⟩)) (.inl (by kernel_rfl)) (by kernel_rfl) fun _ => ?_
        refine wT [25, 26] (k := ?_)
        refine wHS 27 (k := ?_)
        refine wD (k := ?_)
        refine mapSay 62 (lineM (jputL t.all a.line (lv ++ [t.ms.length])) (putX t.all ad2.xa a.line ya)) rfl (fun key => (mget_twice _ _ _ _ key).trans (put_line ya _ key ok2.xa)) ?_
        refine ownAs 90 (gOf (ptC mb') (lv ++ [t.ms.length])) rfl (show lv.length + 1 = (lv ++ [t.ms.length]).length by simp) (fun i hi => app1_h (ptC mb') lv t.ms.length _ rfl (by rw [ptC, hmbn]; rfl) hi) ?_
        refine ownAs 63 (gOf (fun b => [.v (ptV b)]) mb') rfl (show ad2.mb.length + 1 = mb'.length by rw [hmb']; simp) (fun i hi => by rw [hmb']; exact app1_h (fun b => [.v (ptV b)]) ad2.mb b76 _ rfl rfl hi) ?_
        refine rowsTo _ (Sub.drop (Sub.drop (Sub.self _))) ?_
        exact fun a' w h => ⟨(ya, yo), h.weak (by (repeat' (first | exact True.intro | exact Imp.refl _ | refine ⟨?_, ?_⟩))) (by unfold crtR; dsimp only; rw [htg1, htg2]; exact List.Sublist.refl _)⟩
    rintro ⟨ya, yo⟩
    dsimp only
    rw [hlv]
    refine put1 _ (inB (open_put ya _ ok2.xa).symm).symm ?_
    ((repeat refine S.seq ?_); refine wG (k := ?_); try (refine L.nil ?_))
    refine rowsEq (courtR { ad2 with mb := mb', xa := putX t.all ad2.xa a.line ya, xo := yo } (pubN s a (i + 1))) (by rw [hti]; rfl) ?_
    exact fun a' w h => ⟨⟨(i + 1, { ad2 with mb := mb', xa := putX t.all ad2.xa a.line ya, xo := yo }), by show i + 1 ≤ _; omega, by rw [hti, hmb']; exact ok2.addM ya yo b76, hc2, hb2⟩, by show a.many.toNat - (i + 1) < a.many.toNat - i; omega, h.weakP (by (repeat' (first | exact True.intro | exact Imp.refl _ | refine ⟨?_, ?_⟩))) (Sub.self _)⟩
  have hin : i = a.many.toNat := by have := of_dec' hc; omega
  ((repeat refine S.seq ?_); refine wG (k := ?_); try (refine L.nil ?_))
  ((repeat refine S.seq ?_); refine S.ret ?_)
  rw [h1, e2, ← hin, ← ht]
  exact E.ret (T := tt) tt_ok rfl rfl (by exact sd) (F' := courtR ad2 t) (Imp.refl _) (List.Sublist.refl _) ⟨ad2, rfl, rfl, ok2, hc2⟩
end Go.Proofs.YtbogfmgfafdjiaaGreatDoor

/- The judge: an act. -/
namespace Go.Proofs.YtbogfmgfafdjiaaGreatDoor
set_option linter.unusedVariables false
set_option linter.unusedSimpArgs false
set_option maxHeartbeats 8000000
open Go.RowKit
set_option maxRecDepth 4000

structure JInv (s : Crt) (n : Nat) : Prop where
  ok : CrtOk s
  keys : ∀ m ∈ s.ms, m.m.key.size ≤ 1000
  bl : s.bs.length ≤ n

theorem set_mem {α : Type} {l : List α} {i : Nat} {x y : α} (h : y ∈ l.set i x) : y ∈ l ∨ y = x := List.mem_or_eq_of_mem_set h
theorem ms_upd {s : Crt} {n i : Nat} {x : MsD} (h : JInv s n) (hi : i < s.ms.length) (hb : x.bt = (s.ms.getD i default).bt) (hm : x.m = (s.ms.getD i default).m) {t : Crt} (h1 : t.bat = s.bat) (h2 : t.all = s.all) (h3 : t.bs = s.bs) (h4 : t.ms = s.ms.set i x) (h5 : ∀ p ∈ t.holds, p ∈ s.holds ∨ p.2 < s.ms.length) (h6 : ∀ p ∈ t.acks, p ∈ s.acks ∨ p.2 < s.ms.length) : JInv t n := by
  have e : t.ms.length = s.ms.length := by rw [h4, List.length_set]
  have hx : s.ms.getD i default ∈ s.ms := by rw [getD_get hi]; exact List.getElem_mem _
  have hmem : ∀ m ∈ t.ms, m ∈ s.ms ∨ m = x := fun m hm => by rw [h4] at hm; exact set_mem hm
  obtain ⟨o1, o2, o3, o4, o5, o6, o7, o8, o9⟩ := h.ok
  refine ⟨⟨by rw [h1, h3]; exact o1, by rw [h2, e]; exact o2, fun m hm' => ?_, fun p hp => ?_, fun p hp => ?_, by rw [h3]; exact o6, by rw [e, h3]; exact o7, by rw [h1, h3]; exact o8, by rw [h2, e]; exact o9⟩, fun m hm' => ?_, by rw [h3]; exact h.bl⟩
  · rw [h3]
    rcases hmem m hm' with h | h
    · exact o3 m h
    · rw [h, hb]; exact o3 _ hx
  · rw [e]
    rcases h5 p hp with h | h
    · exact o4 p h
    · exact h
  · rw [e]
    rcases h6 p hp with h | h
    · exact o5 p h
    · exact h
  · rcases hmem m hm' with h' | h'
    · exact h.keys m h'
    · rw [h', hm]; exact h.keys _ hx
theorem told_inv {s : Crt} {n : Nat} (h : JInv s n) (a : ActD) (st : Int) : JInv (toldJS s a st) n := by
  unfold toldJS
  split
  · obtain ⟨o1, o2, o3, o4, o5, o6, o7, o8, o9⟩ := h.ok
    have e : ∀ x : BatD, ∀ j, (s.bs.set j x).length = s.bs.length := fun x j => List.length_set
    exact ⟨⟨by simpa only [e] using o1, o2, by simpa only [e] using o3, o4, o5, by simpa only [e] using o6, by simpa only [e] using o7, by simpa only [e] using o8, o9⟩, h.keys, by simpa only [e] using h.bl⟩
  · exact h
theorem settled_inv {s : Crt} {n : Nat} (h : JInv s n) (a : ActD) : JInv (settledJ s a) n := by
  unfold settledJ
  split
  · rename_i i hi
    exact ms_upd (x := { s.ms.getD i default with fin := true }) h (h.ok.acks _ (lkT_mem hi)) rfl rfl rfl rfl rfl rfl (fun p hp => .inl hp) (fun p hp => .inl (List.mem_filter.1 hp).1)
  · exact h
theorem leaves0_inv {s : Crt} {n : Nat} (h : JInv s n) (a : ActD) (i : Nat) : JInv (leaves0 s a i) n := by
  obtain ⟨o1, o2, o3, o4, o5, o6, o7, o8, o9⟩ := h.ok
  exact ⟨⟨o1, o2, o3, fun p hp => o4 p (List.mem_filter.1 hp).1, o5, o6, o7, o8, o9⟩, h.keys, h.bl⟩
theorem leaves_inv {s : Crt} {n : Nat} (h : JInv s n) (a : ActD) : JInv (leavesJ s a) n := by
  unfold leavesJ
  split
  · rename_i i hi
    have hil : i < s.ms.length := h.ok.holds _ (lkT_mem hi)
    split
    · exact ms_upd (x := { s.ms.getD i default with ack := true }) (s := leaves0 s a i) (leaves0_inv h a i) hil rfl rfl rfl rfl rfl rfl (fun p hp => .inl hp) (fun p hp => by
        rcases List.mem_cons.1 hp with rfl | hp
        · exact .inr hil
        · exact .inl hp)
    · exact leaves0_inv h a i
  · exact h
theorem dI_lt {s : Crt} {a : ActD} {n : Nat} (h : JInv s n) (hd : delivB s a = true) : dI s a < s.ms.length := by
  have h1 : dNo1 s a = false := by
    unfold delivB at hd
    simp only [Bool.and_eq_true, Bool.not_eq_true'] at hd
    exact hd.1.1
  simp only [dNo1, Bool.or_eq_false_iff, decide_eq_false_iff_not] at h1
  have hlt : (a.m.seq - 1).toNat < (dL s a).length := by omega
  have hm : dI s a ∈ dL s a := by rw [dI, getD_get hlt]; exact List.getElem_mem _
  rcases lk_mem (l := s.all) (k := a.mline) with h' | ⟨p, hp, h'⟩
  · rw [dL, h'] at hm; cases hm
  · rw [dL, ← h'] at hm; exact h.ok.all p hp _ hm
theorem deliv_inv {s : Crt} {n : Nat} (h : JInv s n) (a : ActD) : JInv (delivS s a) n := by
  unfold delivS
  split
  · rename_i hd
    exact ms_upd (x := { dX s a with del := true, ack := false }) h (dI_lt h hd) rfl rfl rfl rfl rfl rfl (fun p hp => by
      rcases List.mem_cons.1 hp with rfl | hp
      · exact .inr (dI_lt h hd)
      · exact .inl hp) (fun p hp => .inl hp)
  · exact h
theorem pubN_keys {s : Crt} {a : ActD} (hk : a.key.size ≤ 1000) (h : ∀ m ∈ s.ms, m.m.key.size ≤ 1000) : ∀ i, ∀ m ∈ (pubN s a i).ms, m.m.key.size ≤ 1000
  | 0 => h
  | i + 1 => fun m hm => by
    rcases List.mem_append.1 hm with h1 | h1
    · exact pubN_keys hk h i m h1
    · rw [List.mem_singleton] at h1
      rw [h1]
      exact hk
theorem pub_inv {s : Crt} {n : Nat} (h : JInv s n) (hn : n < 1000) (a : ActD) (hk : a.key.size ≤ 1000) : JInv (pubJ s a) (n + 1) := by
  have hb := h.bl
  unfold pubJ
  split
  · exact ⟨h.ok, h.keys, by omega⟩
  · rename_i hp
    have hr : a.many ≤ 8 := by
      simp only [pubNo, Bool.not_eq_true, Bool.or_eq_false_iff, decide_eq_false_iff_not] at hp
      omega
    exact ⟨pubN_ok h.ok (by omega) _ (by omega), pubN_keys hk h.keys _, by rw [pubN_bs, List.length_append]; simp; omega⟩

/-- One act. -/
def argNoJ (a : ActD) : Bool := ((decide (a.cl < 0) || decide (a.cl ≥ 4)) || decide (a.q < 0)) || decide (a.q ≥ 4)
def isLeave (a : ActD) : Bool := a.kind == 5 || (a.kind == 7 || a.kind == 8)
def rightJ (s : Crt) (a : ActD) : Bool × Crt :=
  if argNoJ a then (false, s) else if a.kind = 1 then (!pubNo s a, pubJ s a) else if a.kind = 2 then (toldJB s a, toldJS s a 1) else if a.kind = 3 then (toldJB s a, toldJS s a 2)
  else if a.kind = 4 then (delivB s a, delivS s a) else if isLeave a then ((lkT s.holds a.tagk).isSome, leavesJ s a) else if a.kind = 6 then ((lkT s.acks a.tagk).isSome, settledJ s a) else (a.kind == 9, s)
theorem right_inv {s : Crt} {n : Nat} (h : JInv s n) (hn : n < 1000) (a : ActD) (hk : a.key.size ≤ 1000) : JInv (rightJ s a).2 (n + 1) := by
  have up : ∀ {t : Crt}, JInv t n → JInv t (n + 1) := fun h => ⟨h.ok, h.keys, Nat.le_succ_of_le h.bl⟩
  unfold rightJ
  split
  · exact up h
  split
  · exact pub_inv h hn a hk
  split
  · exact up (told_inv h a 1)
  split
  · exact up (told_inv h a 2)
  split
  · exact up (deliv_inv h a)
  split
  · exact up (leaves_inv h a)
  split
  · exact up (settled_inv h a)
  · exact up h
theorem AdOk.same {ad : Adr} {s t : Crt} (h : AdOk ad s) (h1 : t.bat.length = s.bat.length) (h2 : t.all.length = s.all.length) (h3 : t.bs.length = s.bs.length) (h4 : t.ms.length = s.ms.length) : AdOk ad t :=
  ⟨h.xb.trans h1.symm, h.xa.trans h2.symm, h.bb.trans h3.symm, h.mb.trans h4.symm⟩
theorem told_ad {ad : Adr} {s : Crt} (h : AdOk ad s) (a : ActD) (st : Int) : AdOk ad (toldJS s a st) := by
  unfold toldJS
  split
  · exact h.same rfl rfl List.length_set rfl
  · exact h
theorem settled_ad {ad : Adr} {s : Crt} (h : AdOk ad s) (a : ActD) : AdOk ad (settledJ s a) := by
  unfold settledJ
  split
  · exact h.same rfl rfl rfl List.length_set
  · exact h
theorem leaves_ad {ad : Adr} {s : Crt} (h : AdOk ad s) (a : ActD) : AdOk ad (leavesJ s a) := by
  unfold leavesJ
  split
  · split
    · exact h.same rfl rfl rfl List.length_set
    · exact h.same rfl rfl rfl rfl
  · exact h
theorem deliv_ad {ad : Adr} {s : Crt} (h : AdOk ad s) (a : ActD) : AdOk ad (delivS s a) := by
  unfold delivS
  split
  · exact h.same rfl rfl rfl List.length_set
  · exact h

theorem jright_p (ad : Adr) (s : Crt) (a : ActD) (n : Nat) (ok : AdOk ad s) (ji : JInv s n) (hn : n < 1000) (ao : ActOk a) : FnC Tryz.prog 246 [.ptr 60 ad.c 0, a.av] (courtR ad s)
    (fun r F' => ∃ ad', r = .v (.bool (rightJ s a).1) ∧ F' = courtR ad' (rightJ s a).2 ∧ AdOk ad' (rightJ s a).2 ∧ ad'.c = ad.c) := by
  have co := ji.ok
  have hbl := ji.bl
  refine FnC.intro Tryz.func246 rfl Tryz.ntmps246 rfl ?_; intro off w0
  repeat refine S.seq ?_
  refine S.region ?_
  refine wB 91 (k := fun b3 => ?_)
  (refine wL (k := ?_); try (refine L.nil ?_))
  refine freezeBlk 3 91 rfl rfl rfl ?_
  refine rowsEq (courtR ad s) rfl ?_
  ((repeat refine S.seq ?_); refine wG (k := ?_); try (refine L.nil ?_))
  refine slotAs 22 (.v (.bool (argNoJ a))) rfl (Imp.of_eq rfl) ?_
  ((repeat refine S.seq ?_); refine S.cond rfl (fun h0 => ?_) (fun h0 => ?_) <;> (try first | refine S.skip ?_ | refine S.exit ?_))
  · have e : rightJ s a = (false, s) := if_pos h0
    ((repeat refine S.seq ?_); refine wG (k := ?_); try (refine L.nil ?_))
    ((repeat refine S.seq ?_); refine S.ret ?_)
    rw [e]
    exact E.ret (T := tt) tt_ok rfl rfl (by exact sd) (F' := courtR ad s) (Imp.refl _) (List.Sublist.refl _) ⟨ad, rfl, rfl, ok, rfl⟩
  have hcl : a.cl = 0 ∨ a.cl = 1 ∨ a.cl = 2 ∨ a.cl = 3 := by
    simp only [argNoJ, Bool.or_eq_false_iff, decide_eq_false_iff_not] at h0
    omega
  ((repeat refine S.seq ?_); refine wG (k := ?_); try (refine L.nil ?_))
  repeat refine S.seq ?_
  refine S.block ?_
  ((repeat refine S.seq ?_); refine wG (k := ?_); try (refine L.nil ?_))
  ((repeat refine S.seq ?_); refine S.cond rfl (fun h1 => ?_) (fun h1 => ?_) <;> (try first | refine S.skip ?_ | refine S.exit ?_))
  · have k1 : a.kind = 1 := by simpa using h1
    have e : rightJ s a = (!pubNo s a, pubJ s a) := by rw [rightJ, if_neg (by rw [h0]; decide), if_pos k1]
    repeat refine S.seq ?_
    refine S.region ?_
    (refine wL (k := ?_); try (refine L.nil ?_))
    refine L.call (G := courtR ad s) (H := []) rfl rfl rfl rfl rfl rfl rfl ⟨trivial, by exact sd⟩ rfl (by exact Imps.refl [.ptr 60 ad.c 0, a.av]) (by rw [List.append_nil]) (jpublish_p ad s a ok co ao (by omega)) ?_
    rintro r F' ⟨ad', rfl, rfl, ok', hc'⟩
    refine rowsEq (courtR ad' (pubJ s a)) (List.append_nil _) ?_
    (refine wL (k := ?_); try (refine L.nil ?_))
    ((repeat refine S.seq ?_); refine S.ret ?_)
    rw [e]
    exact E.ret (T := tt) tt_ok rfl rfl (by exact sd) (F' := courtR ad' (pubJ s a)) (Imp.refl _) (List.Sublist.refl _) ⟨ad', rfl, rfl, ok', hc'⟩
  have k1 : ¬ a.kind = 1 := by simpa using h1
  ((repeat refine S.seq ?_); refine wG (k := ?_); try (refine L.nil ?_))
  ((repeat refine S.seq ?_); refine S.cond rfl (fun h2 => ?_) (fun h2 => ?_) <;> (try first | refine S.skip ?_ | refine S.exit ?_))
  · have k2 : a.kind = 2 := by simpa using h2
    have e : rightJ s a = (toldJB s a, toldJS s a 1) := by rw [rightJ, if_neg (by rw [h0]; decide), if_neg k1, if_pos k2]
    repeat refine S.seq ?_
    refine S.region ?_
    (refine wL (k := ?_); try (refine L.nil ?_))
    refine L.call (G := courtR ad s) (H := []) rfl rfl rfl rfl rfl rfl rfl ⟨trivial, by exact sd⟩ rfl (by exact Imps.refl [.ptr 60 ad.c 0, a.av, .v (.int .i64 1)]) (by rw [List.append_nil]) (jtold_p ad s a 1 ok co ao) ?_
    rintro r F' ⟨rfl, rfl⟩
    refine rowsEq (courtR ad (toldJS s a 1)) (List.append_nil _) ?_
    (refine wL (k := ?_); try (refine L.nil ?_))
    ((repeat refine S.seq ?_); refine S.ret ?_)
    rw [e]
    exact E.ret (T := tt) tt_ok rfl rfl (by exact sd) (F' := courtR ad (toldJS s a 1)) (Imp.refl _) (List.Sublist.refl _) ⟨ad, rfl, rfl, told_ad ok a 1, rfl⟩
  have k2 : ¬ a.kind = 2 := by simpa using h2
  ((repeat refine S.seq ?_); refine wG (k := ?_); try (refine L.nil ?_))
  ((repeat refine S.seq ?_); refine S.cond rfl (fun h3 => ?_) (fun h3 => ?_) <;> (try first | refine S.skip ?_ | refine S.exit ?_))
  · have k3 : a.kind = 3 := by simpa using h3
    have e : rightJ s a = (toldJB s a, toldJS s a 2) := by rw [rightJ, if_neg (by rw [h0]; decide), if_neg k1, if_neg k2, if_pos k3]
    repeat refine S.seq ?_
    refine S.region ?_
    (refine wL (k := ?_); try (refine L.nil ?_))
    refine L.call (G := courtR ad s) (H := []) rfl rfl rfl rfl rfl rfl rfl ⟨trivial, by exact sd⟩ rfl (by exact Imps.refl [.ptr 60 ad.c 0, a.av, .v (.int .i64 2)]) (by rw [List.append_nil]) (jtold_p ad s a 2 ok co ao) ?_
    rintro r F' ⟨rfl, rfl⟩
    refine rowsEq (courtR ad (toldJS s a 2)) (List.append_nil _) ?_
    (refine wL (k := ?_); try (refine L.nil ?_))
    ((repeat refine S.seq ?_); refine S.ret ?_)
    rw [e]
    exact E.ret (T := tt) tt_ok rfl rfl (by exact sd) (F' := courtR ad (toldJS s a 2)) (Imp.refl _) (List.Sublist.refl _) ⟨ad, rfl, rfl, told_ad ok a 2, rfl⟩
  have k3 : ¬ a.kind = 3 := by simpa using h3
  ((repeat refine S.seq ?_); refine wG (k := ?_); try (refine L.nil ?_))
  ((repeat refine S.seq ?_); refine S.cond rfl (fun h4 => ?_) (fun h4 => ?_) <;> (try first | refine S.skip ?_ | refine S.exit ?_))
  · have k4 : a.kind = 4 := by simpa using h4
    have e : rightJ s a = (delivB s a, delivS s a) := by rw [rightJ, if_neg (by rw [h0]; decide), if_neg k1, if_neg k2, if_neg k3, if_pos k4]
    repeat refine S.seq ?_
    refine S.region ?_
    (refine wL (k := ?_); try (refine L.nil ?_))
    refine L.call (G := courtR ad s) (H := []) rfl rfl rfl rfl rfl rfl rfl ⟨trivial, by exact sd⟩ rfl (by exact Imps.refl [.ptr 60 ad.c 0, a.av]) (by rw [List.append_nil]) (jdeliver_p ad s a ok co ao hcl) ?_
    rintro r F' ⟨rfl, rfl⟩
    refine rowsEq (courtR ad (delivS s a)) (List.append_nil _) ?_
    (refine wL (k := ?_); try (refine L.nil ?_))
    ((repeat refine S.seq ?_); refine S.ret ?_)
    rw [e]
    exact E.ret (T := tt) tt_ok rfl rfl (by exact sd) (F' := courtR ad (delivS s a)) (Imp.refl _) (List.Sublist.refl _) ⟨ad, rfl, rfl, deliv_ad ok a, rfl⟩
  have k4 : ¬ a.kind = 4 := by simpa using h4
  ((repeat refine S.seq ?_); refine wG (k := ?_); try (refine L.nil ?_))
  refine S.cut (ι := Unit) (fun _ => [(0, .ptr 60 ad.c 0), (3, .pel 14 a.cells), (24, .v (.int .i64 a.kind)), (45, .v (.bool (isLeave a)))]) (fun _ => courtR ad s) ?_ ?_
  · ((repeat refine S.seq ?_); refine S.cond rfl (fun h5 => ?_) (fun h5 => ?_) <;> (try first | refine S.skip ?_ | refine S.exit ?_))
    · refine slotAs 45 (.v (.bool (isLeave a))) rfl (Imp.of_eq (by rw [isLeave, h5]; rfl)) ?_
      exact fun a' w h => ⟨(), h.weak (by (repeat' (first | exact True.intro | exact Imp.refl _ | refine ⟨?_, ?_⟩))) (List.Sublist.refl _)⟩
    ((repeat refine S.seq ?_); refine wG (k := ?_); try (refine L.nil ?_))
    ((repeat refine S.seq ?_); refine S.cond rfl (fun h7 => ?_) (fun h7 => ?_) <;> (try first | refine S.skip ?_ | refine S.exit ?_))
    · refine slotAs 45 (.v (.bool (isLeave a))) rfl (Imp.of_eq (by rw [isLeave, h7, h5]; rfl)) ?_
      exact fun a' w h => ⟨(), h.weak (by (repeat' (first | exact True.intro | exact Imp.refl _ | refine ⟨?_, ?_⟩))) (List.Sublist.refl _)⟩
    ((repeat refine S.seq ?_); refine wG (k := ?_); try (refine L.nil ?_))
    refine slotAs 45 (.v (.bool (isLeave a))) rfl (Imp.of_eq (by rw [isLeave, h7, h5]; rfl)) ?_
    exact fun a' w h => ⟨(), h.weak (by (repeat' (first | exact True.intro | exact Imp.refl _ | refine ⟨?_, ?_⟩))) (List.Sublist.refl _)⟩
  rintro ⟨⟩
  ((repeat refine S.seq ?_); refine S.cond rfl (fun h5 => ?_) (fun h5 => ?_) <;> (try first | refine S.skip ?_ | refine S.exit ?_))
  · have e : rightJ s a = ((lkT s.holds a.tagk).isSome, leavesJ s a) := by rw [rightJ, if_neg (by rw [h0]; decide), if_neg k1, if_neg k2, if_neg k3, if_neg k4, if_pos h5]
    repeat refine S.seq ?_
    refine S.region ?_
    (refine wL (k := ?_); try (refine L.nil ?_))
    refine L.call (G := courtR ad s) (H := []) rfl rfl rfl rfl rfl rfl rfl ⟨trivial, by exact sd⟩ rfl (by exact Imps.refl [.ptr 60 ad.c 0, a.av]) (by rw [List.append_nil]) (jleaves_p ad s a ok co ao (fun m hm => by have := ji.keys m hm; unfold fitS; omega)) ?_
    rintro r F' ⟨rfl, rfl⟩
    refine rowsEq (courtR ad (leavesJ s a)) (List.append_nil _) ?_
    (refine wL (k := ?_); try (refine L.nil ?_))
    ((repeat refine S.seq ?_); refine S.ret ?_)
    rw [e]
    exact E.ret (T := tt) tt_ok rfl rfl (by exact sd) (F' := courtR ad (leavesJ s a)) (Imp.refl _) (List.Sublist.refl _) ⟨ad, rfl, rfl, leaves_ad ok a, rfl⟩
  ((repeat refine S.seq ?_); refine wG (k := ?_); try (refine L.nil ?_))
  ((repeat refine S.seq ?_); refine S.cond rfl (fun h6 => ?_) (fun h6 => ?_) <;> (try first | refine S.skip ?_ | refine S.exit ?_))
  · have k6 : a.kind = 6 := by simpa using h6
    have e : rightJ s a = ((lkT s.acks a.tagk).isSome, settledJ s a) := by rw [rightJ, if_neg (by rw [h0]; decide), if_neg k1, if_neg k2, if_neg k3, if_neg k4, if_neg (by rw [h5]; decide), if_pos k6]
    repeat refine S.seq ?_
    refine S.region ?_
    (refine wL (k := ?_); try (refine L.nil ?_))
    refine L.call (G := courtR ad s) (H := []) rfl rfl rfl rfl rfl rfl rfl ⟨trivial, by exact sd⟩ rfl (by exact Imps.refl [.ptr 60 ad.c 0, a.av]) (by rw [List.append_nil]) (jsettled_p ad s a ok co ao) ?_
    rintro r F' ⟨rfl, rfl⟩
    refine rowsEq (courtR ad (settledJ s a)) (List.append_nil _) ?_
    (refine wL (k := ?_); try (refine L.nil ?_))
    ((repeat refine S.seq ?_); refine S.ret ?_)
    rw [e]
    exact E.ret (T := tt) tt_ok rfl rfl (by exact sd) (F' := courtR ad (settledJ s a)) (Imp.refl _) (List.Sublist.refl _) ⟨ad, rfl, rfl, settled_ad ok a, rfl⟩
  have k6 : ¬ a.kind = 6 := by simpa using h6
  have e : rightJ s a = (a.kind == 9, s) := by rw [rightJ, if_neg (by rw [h0]; decide), if_neg k1, if_neg k2, if_neg k3, if_neg k4, if_neg (by rw [h5]; decide), if_neg k6]
  ((repeat refine S.seq ?_); refine wG (k := ?_); try (refine L.nil ?_))
  ((repeat refine S.seq ?_); refine S.ret ?_)
  rw [e]
  exact E.ret (T := tt) tt_ok rfl rfl (by exact sd) (F' := courtR ad s) (Imp.refl _) (List.Sublist.refl _) ⟨ad, rfl, rfl, ok, rfl⟩
end Go.Proofs.YtbogfmgfafdjiaaGreatDoor

/- The judge: acts, one by one. -/
namespace Go.Proofs.YtbogfmgfafdjiaaGreatDoor
set_option linter.unusedVariables false
set_option linter.unusedSimpArgs false
set_option maxHeartbeats 8000000
open Go.RowKit
set_option maxRecDepth 4000

def actsA (l : List ActD) : AV := .lst 14 l.length (gOf ActD.cells l)
def hearJ (s : Crt) : List ActD → Int → Int × Crt
  | [], _ => (0, s)
  | a :: t, n => if (rightJ s a).1 then hearJ (rightJ s a).2 t (n + 1) else (n + 1, (rightJ s a).2)
def checkJ (l : List ActD) : Int := (hearJ crt0 l 0).1
def isOpenJ (s : Crt) (x : MsD) : Bool := (stOf s x == 1 && !x.ack) && !x.fin
def openJ (l : List ActD) : List Msg := if (hearJ crt0 l 0).1 = 0 then (((hearJ crt0 l 0).2.ms.filter (isOpenJ (hearJ crt0 l 0).2)).map (·.m)) else []

theorem crt0_inv : JInv crt0 0 := by
  refine ⟨⟨?_, ?_, ?_, ?_, ?_, ?_, ?_, ?_, ?_⟩, ?_, ?_⟩ <;> simp [crt0]
theorem drop_at {α : Type} [Inhabited α] {l : List α} {k : Nat} (h : k < l.length) : l.drop k = l.getD k default :: l.drop (k + 1) := by
  rw [getD_get h, ← List.drop_eq_getElem_cons h]

theorem jhear_p (ad : Adr) (l : List ActD) (ok : AdOk ad crt0) (hl : l.length ≤ 900) (ao : ∀ a ∈ l, ActOk a) : FnC Tryz.prog 168 [.ptr 60 ad.c 0, actsA l] (courtR ad crt0)
    (fun r F' => ∃ ad', r = .v (.int .i64 (hearJ crt0 l 0).1) ∧ F' = courtR ad' (hearJ crt0 l 0).2 ∧ AdOk ad' (hearJ crt0 l 0).2 ∧ ad'.c = ad.c ∧ JInv (hearJ crt0 l 0).2 900) := by
  refine FnC.intro Tryz.func168 rfl Tryz.ntmps168 rfl ?_; intro off w0
  ((repeat refine S.seq ?_); refine wG (k := ?_); try (refine L.nil ?_))
  repeat refine S.seq ?_
  refine S.scopeE 0 (ι := { p : Nat × Crt × Adr // p.1 ≤ l.length ∧ AdOk p.2.2 p.2.1 ∧ p.2.2.c = ad.c ∧ JInv p.2.1 p.1 ∧ hearJ crt0 l 0 = hearJ p.2.1 (l.drop p.1) p.1 }) (fun p => [(0, .ptr 60 p.1.2.2.c 0), (1, actsA l), (5, .v (.int .i64 p.1.1))])
    (fun p => courtR p.1.2.2 p.1.2.1) (fun p => l.length - p.1.1) rfl ?_ ?_
  · rintro ⟨⟨k, s, ad2⟩, hk, ok2, hc2, ji, hh⟩ J hJ
    dsimp only at hk ok2 hc2 ji hh hJ ⊢
    ((repeat refine S.seq ?_); refine wG (k := ?_); try (refine L.nil ?_))
    ((repeat refine S.seq ?_); refine S.cond rfl (fun hc => ?_) (fun hc => ?_) <;> (try first | refine S.skip ?_ | refine S.exit ?_))
    · have hkl : k < l.length := by have := of_dec hc; omega
      obtain ⟨a, ha⟩ : ∃ a, a = l.getD k default := ⟨_, rfl⟩
      have aok : ActOk a := ao a (by rw [ha, getD_get hkl]; exact List.getElem_mem _)
      rw [drop_at hkl, ← ha] at hh
      have hstep : hearJ crt0 l 0 = if (rightJ s a).1 then hearJ (rightJ s a).2 (l.drop (k + 1)) (k + 1) else ((k : Int) + 1, (rightJ s a).2) := hh
      repeat refine S.seq ?_
      refine S.region ?_
      (refine wL (k := ?_); try (refine L.nil ?_))
      refine L.call (G := courtR ad2 s) (H := []) rfl rfl rfl rfl rfl rfl rfl ⟨trivial, by exact sd⟩ rfl (by rw [ha]; exact Imps.refl [.ptr 60 ad2.c 0, (l.getD k default).av]) (by rw [List.append_nil]) (jright_p ad2 s a k ok2 ji (by omega) aok) ?_
      rintro r F' ⟨ad3, rfl, rfl, ok3, hc3⟩
      refine rowsEq (courtR ad3 (rightJ s a).2) (List.append_nil _) ?_
      have ji3 := right_inv ji (by omega) a aok.key
      (refine wL (k := ?_); try (refine L.nil ?_))
      ((repeat refine S.seq ?_); refine S.cond rfl (fun hr => ?_) (fun hr => ?_) <;> (try first | refine S.skip ?_ | refine S.exit ?_))
      · have hrf : (rightJ s a).1 = false := by simpa using hr
        rw [if_neg (by rw [hrf]; decide)] at hstep
        ((repeat refine S.seq ?_); refine wG (k := ?_); try (refine L.nil ?_))
        ((repeat refine S.seq ?_); refine S.ret ?_)
        rw [hstep]
        exact E.ret (T := tt) tt_ok rfl rfl (by exact sd) (F' := courtR ad3 (rightJ s a).2) (Imp.refl _) (List.Sublist.refl _) ⟨ad3, rfl, rfl, ok3, hc3.trans hc2, ⟨ji3.ok, ji3.keys, by have := ji3.bl; show (rightJ s a).2.bs.length ≤ 900; omega⟩⟩
      have hrt : (rightJ s a).1 = true := by simpa using hr
      rw [if_pos hrt] at hstep
      ((repeat refine S.seq ?_); refine wG (k := ?_); try (refine L.nil ?_))
      repeat refine S.seq ?_
      refine S.goto ?_
      exact fun a' w hR => ⟨rfl, hJ a' w ⟨(k + 1, (rightJ s a).2, ad3), by show k + 1 ≤ _; omega, ok3, hc3.trans hc2, ji3, hstep⟩ (by show l.length - (k + 1) < l.length - k; omega) (hR.weakP (by
        refine ⟨?_, ?_, ?_, trivial⟩
        · exact Imp.of_eq (by rw [hc3])
        · exact Imp.refl _
        · exact Imp.refl _) (Sub.self _))⟩
    have hkl : k = l.length := by have := of_dec' hc; omega
    subst hkl
    rw [List.drop_length] at hh
    have hstep : hearJ crt0 l 0 = (0, s) := hh
    ((repeat refine S.seq ?_); refine wG (k := ?_); try (refine L.nil ?_))
    ((repeat refine S.seq ?_); refine S.ret ?_)
    rw [hstep]
    exact E.ret (T := tt) tt_ok rfl rfl (by exact sd) (F' := courtR ad2 s) (Imp.refl _) (List.Sublist.refl _) ⟨ad2, rfl, rfl, ok2, hc2, ⟨ji.ok, ji.keys, by have := ji.bl; show s.bs.length ≤ 900; omega⟩⟩
  · intro hJ
    ((repeat refine S.seq ?_); refine wG (k := ?_); try (refine L.nil ?_))
    repeat refine S.seq ?_
    refine S.label ?_
    exact fun a' w hR => hJ ⟨(0, crt0, ad), Nat.zero_le _, ok, rfl, crt0_inv, rfl⟩ a' w (hR.weakP (by (repeat' (first | exact True.intro | exact Imp.refl _ | refine ⟨?_, ?_⟩))) (Sub.self _))

theorem jcheck_p (l : List ActD) (hl : l.length ≤ 900) (ao : ∀ a ∈ l, ActOk a) : PFn Tryz.prog 102 [actsA l] (.v (.int .i64 (checkJ l))) := by
  refine FnC.intro Tryz.func102 rfl Tryz.ntmps102 rfl ?_; intro off w0
  ((repeat refine S.seq ?_); refine wG (k := ?_); try (refine L.nil ?_))
  repeat refine S.seq ?_
  refine S.region ?_
  refine L.call (G := []) (H := []) rfl rfl rfl rfl rfl rfl rfl ⟨trivial, by exact sd⟩ rfl (by exact Imps.refl []) (List.Perm.refl _) newCourt_p ?_
  rintro r F' ⟨ad, rfl, rfl, ok⟩
  refine rowsEq (courtR ad crt0) (List.append_nil _) ?_
  (refine wL (k := ?_); try (refine L.nil ?_))
  refine L.call (G := courtR ad crt0) (H := []) rfl rfl rfl rfl rfl rfl rfl ⟨trivial, by exact sd⟩ rfl (by exact Imps.refl [.ptr 60 ad.c 0, actsA l]) (by rw [List.append_nil]) (jhear_p ad l ok hl ao) ?_
  rintro r F' ⟨ad2, rfl, rfl, ok2, -, -⟩
  refine rowsEq (courtR ad2 (hearJ crt0 l 0).2) (List.append_nil _) ?_
  (refine wL (k := ?_); try (refine L.nil ?_))
  ((repeat refine S.seq ?_); refine S.ret ?_)
  exact E.ret (T := tt) tt_ok rfl rfl (by exact sd) (F' := []) (Imp.refl _) (List.nil_sublist _) ⟨rfl, rfl⟩

end Go.Proofs.YtbogfmgfafdjiaaGreatDoor

/- The desk: steps, questions, lines, over whatever a cluster does. -/
namespace Go.Proofs.YtbogfmgfafdjiaaGreatDoor
set_option linter.unusedVariables false
set_option linter.unusedSimpArgs false
set_option maxHeartbeats 8000000
open Go.RowKit
set_option maxRecDepth 8000

theorem apart_of {ops : Array Oper} {rdf : List (Nat × List Nat)} {j : Nat} {ids : List Nat} (h : (rdf.all fun p => ((clos ops).getD j []).contains p.1) = true) : apartOk ops rdf j ids = true := by
  unfold apartOk
  rw [Bool.or_eq_true]
  right
  rw [List.all_eq_true] at h ⊢
  intro p hp
  rw [h p hp, Bool.true_or]
theorem swapR {c : Ctx} {σ : Slots} {A B : Rows} {K : Act → World → Prop} (next : ∀ a w, R c σ (B ++ A) a w → K a w) : ∀ a w, R c σ (A ++ B) a w → K a w := fun a w h => next a w (h.perm List.perm_append_comm)
def confL (n k : Int) (qs : List (List Int)) : List AV := [.v (.int .i64 n), .v (.int .i64 k), .lst 1 qs.length (gOf (fun l => [intW l]) qs)]
/-- What a desk asks of a cluster. -/
structure DkS where
  St : Type
  rows : St → Rows
  wb : Nat
  nodes : Int
  clients : Int
  qs : List (List Int)
  acts : St → List ActD
  tabs : St → List Tab
  fnd : Tab → ByteArray → Int × Int
  canS : St → StpD → Prop
  stp : St → StpD → St → Bool → Prop
  canM : St → Int → Prop
  many : St → Int → St → Prop
  hqs : qs.length ≤ 100
  hstep : ∀ st s, canS st s → FnC Tryz.prog 10 [.ptr 60 wb 0, s.av] (rows st) (fun r F' => ∃ st' b, stp st s st' b ∧ r = .v (.bool b) ∧ F' = rows st')
  hacts : ∀ st, FnC Tryz.prog 11 [.ptr 60 wb 0] (rows st) (fun r F' => ∃ y, r = .ref 50 y ∧ F' = (50, .own y 72 14 (acts st).length (gOf ActD.cells (acts st))) :: rows st)
  htabs : ∀ st, FnC Tryz.prog 12 [.ptr 60 wb 0] (rows st) (fun r F' => ∃ y, r = .ref 50 y ∧ F' = (50, .own y 82 3 (tabs st).length (gOf Tab.cells (tabs st))) :: rows st)
  hmany : ∀ st n, canM st n → FnC Tryz.prog 103 [.ptr 60 wb 0, .agg (confL nodes clients qs), .v (.int .i64 n)] (rows st) (fun r F' => ∃ st', many st n st' ∧ F' = rows st')
  hal : ∀ st, (acts st).length < 100
  hao : ∀ st, ∀ a ∈ acts st, ActOk a
  htl : ∀ st, (tabs st).length = qs.length
  hte : ∀ st, ∀ t ∈ tabs st, 0 ≤ t.ep ∧ t.ep < 100
  hfind : ∀ st, ∀ t ∈ tabs st, ∀ key, fitS key → PFn Tryz.prog 62 [t.av, .v (.string key)] (.tup [.v (.int .i64 (fnd t key).1), .v (.int .i64 (fnd t key).2)]) ∧ 0 ≤ (fnd t key).1 ∧ (fnd t key).1 < 100 ∧ 0 ≤ (fnd t key).2 ∧ (fnd t key).2 < 100
def dskC (D : DkS) : List AV := confL D.nodes D.clients D.qs ++ [.ptr 60 D.wb 0]
def dskR (D : DkS) (db : Nat) : Rows := [(51, .blk db 52 (dskC D))]
def kOk : ByteArray := ⟨#[111, 107]⟩
def kNo : ByteArray := ⟨#[110, 111]⟩
def kBad : ByteArray := ⟨#[101, 114, 114, 111, 114]⟩
def yesB (b : Bool) : ByteArray := if b then kOk else kNo
theorem dstep_p (D : DkS) (db : Nat) (st : D.St) (s : StpD) (h : D.canS st s) : FnC Tryz.prog 60 [.ptr 51 db 0, s.av] (dskR D db ++ D.rows st)
    (fun r F' => ∃ st' b, D.stp st s st' b ∧ r = .v (.string (yesB b)) ∧ F' = dskR D db ++ D.rows st') := by
  have q := D.hstep st s h
  unfold StpD.av at q ⊢
  unfold dskR dskC confL
  refine FnC.intro Tryz.func60 rfl Tryz.ntmps60 rfl ?_; intro off w0
  repeat refine S.seq ?_
  refine S.region ?_
  refine wB 3 (k := fun b3 => ?_)
  (refine wL (k := ?_); try (refine L.nil ?_))
  refine freezeBlk 3 3 rfl rfl rfl ?_
  repeat refine S.seq ?_
  refine S.draw [(3, [51])] mixed ?_
  refine wT [0, 1, 2, 3, 4] (k := ?_)
  refine H.call 5 (D.rows st) _ rfl (by kernel_rfl) (by kernel_rfl) rfl rfl rfl rfl rfl rfl rfl ⟨trivial, by exact sd⟩ rfl (by exact Imps.refl [.ptr 60 D.wb 0, .agg s.cells]) (List.perm_append_comm (l₁ := [_])) q (by kernel_rfl) (apart_of (by kernel_rfl)) ?_
  rintro r F' ⟨st', b, hs, rfl, rfl⟩
  refine wD (k := ?_)
  refine swapR ?_
  cases b
  · ((repeat refine S.seq ?_); refine S.cond rfl (fun hc => ?_) (fun hc => ?_) <;> (try first | refine S.skip ?_ | refine S.exit ?_))
    · cases hc
    ((repeat refine S.seq ?_); refine wG (k := ?_); try (refine L.nil ?_))
    ((repeat refine S.seq ?_); refine S.ret ?_)
    exact E.ret (T := tt) tt_ok rfl rfl (by exact sd) (F' := dskR D db ++ D.rows st') (Imp.refl _) (List.Sublist.refl _) ⟨st', false, hs, rfl, rfl⟩
  · ((repeat refine S.seq ?_); refine S.cond rfl (fun hc => ?_) (fun hc => ?_) <;> (try first | refine S.skip ?_ | refine S.exit ?_))
    · ((repeat refine S.seq ?_); refine wG (k := ?_); try (refine L.nil ?_))
      ((repeat refine S.seq ?_); refine S.ret ?_)
      exact E.ret (T := tt) tt_ok rfl rfl (by exact sd) (F' := dskR D db ++ D.rows st') (Imp.refl _) (List.Sublist.refl _) ⟨st', true, hs, rfl, rfl⟩
    cases hc
def kActs : ByteArray := ⟨#[97, 99, 116, 115]⟩
def kJudge : ByteArray := ⟨#[106, 117, 100, 103, 101]⟩
def kRounds : ByteArray := ⟨#[114, 111, 117, 110, 100, 115]⟩
def kEpoch : ByteArray := ⟨#[101, 112, 111, 99, 104]⟩
def kPublish : ByteArray := ⟨#[112, 117, 98, 108, 105, 115, 104]⟩
def kWhere : ByteArray := ⟨#[119, 104, 101, 114, 101]⟩
/-- What a line is. -/
inductive Cmd where
  | bad
  | step (s : StpD)
  | acts
  | judge
  | rounds (n : Int)
  | epoch (q : Int)
  | place (q : Int) (key : ByteArray)
  deriving DecidableEq
def isActs (w : ByteArray) (n : List Int) : Bool := w == kActs && decide ((n.length : Int) = 0)
def isJudge (w : ByteArray) (n : List Int) : Bool := w == kJudge && decide ((n.length : Int) = 0)
def isRounds (w : ByteArray) (n : List Int) : Bool := (w == kRounds && decide ((n.length : Int) = 1)) && decide (at_ n 0 ≤ 1000)
def isEpoch (nq : Int) (w : ByteArray) (n : List Int) : Bool := (w == kEpoch && decide ((n.length : Int) = 1)) && decide (at_ n 0 < nq)
def toldC (nq : Int) (w : ByteArray) (n : List Int) : Cmd :=
  if isActs w n then .acts else if isJudge w n then .judge else if isRounds w n then .rounds (at_ n 0) else if isEpoch nq w n then .epoch (at_ n 0) else .bad
def canC (D : DkS) (st : D.St) : Cmd → Prop
  | .step s => D.canS st s
  | .rounds n => D.canM st n
  | .judge => 0 ≤ checkJ (D.acts st) ∧ checkJ (D.acts st) < 100
  | .epoch q => 0 ≤ q
  | .place q key => 0 ≤ q ∧ q < D.qs.length ∧ fitS key
  | _ => True
def tabAt (D : DkS) (st : D.St) (q : Int) : Tab := (D.tabs st).getD q.toNat default
/-- What comes of a line. -/
def does (D : DkS) (st : D.St) : Cmd → ByteArray → D.St → Prop
  | .bad, o, st' => o = kBad ∧ st' = st
  | .step s, o, st' => ∃ b, D.stp st s st' b ∧ o = yesB b
  | .acts, o, st' => o = numT (D.acts st).length ∧ st' = st
  | .judge, o, st' => o = numT (checkJ (D.acts st)) ∧ st' = st
  | .rounds n, o, st' => D.many st n st' ∧ o = kOk
  | .epoch q, o, st' => o = numT (tabAt D st q).ep ∧ st' = st
  | .place q key, o, st' => o = (numT (D.fnd (tabAt D st q) key).1 ++ ⟨#[32]⟩) ++ numT (D.fnd (tabAt D st q) key).2 ∧ st' = st
theorem dtold_p (D : DkS) (db : Nat) (st : D.St) (w : ByteArray) (n : List Int) (hp : ∀ z ∈ n, 0 ≤ z) (h : canC D st (toldC D.qs.length w n)) : FnC Tryz.prog 65 [.ptr 51 db 0, .v (.string w), intW n] (dskR D db ++ D.rows st)
    (fun r F' => ∃ o st', does D st (toldC D.qs.length w n) o st' ∧ r = .v (.string o) ∧ F' = dskR D db ++ D.rows st') := by
  have hal := D.hal st
  have hqs := D.hqs
  unfold dskR dskC confL intW
  refine FnC.intro Tryz.func65 rfl Tryz.ntmps65 rfl ?_; intro off w0
  refine lenAt (sz := 1) (n := n.length) (g := fun i => [.v (.int .i64 (n.getD i 0))]) 2 rfl fun hn => ?_
  ((repeat refine S.seq ?_); refine wG (k := ?_); try (refine L.nil ?_))
  repeat refine S.seq ?_
  refine S.block ?_
  ((repeat refine S.seq ?_); refine wG (k := ?_); try (refine L.nil ?_))
  ((repeat refine S.seq ?_); refine S.cond rfl (fun h1 => ?_) (fun h1 => ?_) <;> (try first | refine S.skip ?_ | refine S.exit ?_))
  · have e : toldC D.qs.length w n = .acts := if_pos h1
    repeat refine S.seq ?_
    refine S.region ?_
    (refine wL (k := ?_); try (refine L.nil ?_))
    refine L.call (G := D.rows st) rfl rfl rfl rfl rfl rfl rfl ⟨trivial, by exact sd⟩ rfl (by exact Imps.refl [.ptr 60 D.wb 0]) (List.perm_append_comm (l₁ := [_])) (D.hacts st) ?_
    rintro r F' ⟨y, rfl, rfl⟩
    (refine wL (k := ?_); try (refine L.nil ?_))
    refine wP ((itoa_p ((D.acts st).length : Int) (by omega) (by omega))) (k := ?_)
    (refine wL (k := ?_); try (refine L.nil ?_))
    ((repeat refine S.seq ?_); refine S.ret ?_)
    refine rowsTo ([(51, .blk db 52 ([.v (.int .i64 D.nodes), .v (.int .i64 D.clients), .lst 1 D.qs.length (gOf (fun l => [intW l]) D.qs)] ++ [.ptr 60 D.wb 0]))] ++ D.rows st) ?_ ?_
    · exact Sub.drop (Sub.of _ (by rw [List.append_nil]; exact List.perm_append_comm))
    exact E.ret (T := tt) tt_ok rfl rfl (by exact sd) (F' := dskR D db ++ D.rows st) (Imp.refl _) (List.Sublist.refl _) ⟨_, st, by rw [e]; exact ⟨rfl, rfl⟩, rfl, rfl⟩
  have n1 : ¬ isActs w n = true := by rw [show isActs w n = false from h1]; decide
  ((repeat refine S.seq ?_); refine wG (k := ?_); try (refine L.nil ?_))
  ((repeat refine S.seq ?_); refine S.cond rfl (fun h2 => ?_) (fun h2 => ?_) <;> (try first | refine S.skip ?_ | refine S.exit ?_))
  · have e : toldC D.qs.length w n = .judge := by rw [toldC, if_neg n1]; exact if_pos h2
    rw [e] at h
    obtain ⟨c0, c1⟩ : 0 ≤ checkJ (D.acts st) ∧ checkJ (D.acts st) < 100 := h
    repeat refine S.seq ?_
    refine S.region ?_
    (refine wL (k := ?_); try (refine L.nil ?_))
    refine L.call (G := D.rows st) rfl rfl rfl rfl rfl rfl rfl ⟨trivial, by exact sd⟩ rfl (by exact Imps.refl [.ptr 60 D.wb 0]) (List.perm_append_comm (l₁ := [_])) (D.hacts st) ?_
    rintro r F' ⟨y, rfl, rfl⟩
    refine freezeSlot 34 50 rfl rfl rfl ?_
    (refine wL (k := ?_); try (refine L.nil ?_))
    refine wP ((jcheck_p (D.acts st) (by omega) (D.hao st))) (k := ?_)
    (refine wL (k := ?_); try (refine L.nil ?_))
    refine wP ((itoa_p (checkJ (D.acts st)) c0 c1)) (k := ?_)
    (refine wL (k := ?_); try (refine L.nil ?_))
    ((repeat refine S.seq ?_); refine S.ret ?_)
    refine swapR (A := D.rows st) ?_
    exact E.ret (T := tt) tt_ok rfl rfl (by exact sd) (F' := dskR D db ++ D.rows st) (Imp.refl _) (List.Sublist.refl _) ⟨_, st, by rw [e]; exact ⟨rfl, rfl⟩, rfl, rfl⟩
  have n2 : ¬ isJudge w n = true := by rw [show isJudge w n = false from h2]; decide
  ((repeat refine S.seq ?_); refine wG (k := ?_); try (refine L.nil ?_))
  ((repeat refine S.seq ?_); refine S.cond rfl (fun h3 => ?_) (fun h3 => ?_) <;> (try first | refine S.skip ?_ | refine S.exit ?_))
  · have e : toldC D.qs.length w n = .rounds (at_ n 0) := by rw [toldC, if_neg n1, if_neg n2]; exact if_pos h3
    have hl : n.length = 1 := by
      have h3' : isRounds w n = true := h3
      rw [isRounds, Bool.and_eq_true, Bool.and_eq_true, decide_eq_true_eq] at h3'
      omega
    rw [e] at h
    have hM := D.hmany st (at_ n 0) h
    unfold confL at hM
    repeat refine S.seq ?_
    refine S.draw [(3, [51]), (7, [51])] mixed ?_
    refine wT [0, 1, 2, 3, 4, 5, 6, 7, 8, 9, 10] (k := ?_)
    refine H.call 11 (D.rows st) _ rfl (by kernel_rfl) (by kernel_rfl) rfl rfl rfl rfl rfl rfl rfl ⟨trivial, by exact sd⟩ rfl (by exact Imps.refl [.ptr 60 D.wb 0, .agg [.v (.int .i64 D.nodes), .v (.int .i64 D.clients), .lst 1 D.qs.length (gOf (fun l => [intW l]) D.qs)], .v (.int .i64 (at_ n 0))]) (List.perm_append_comm (l₁ := [_])) hM (by kernel_rfl) (apart_of (by kernel_rfl)) ?_
    rintro r F' ⟨st', hm, rfl⟩
    refine wD (k := ?_)
    refine swapR ?_
    ((repeat refine S.seq ?_); refine wG (k := ?_); try (refine L.nil ?_))
    ((repeat refine S.seq ?_); refine S.ret ?_)
    exact E.ret (T := tt) tt_ok rfl rfl (by exact sd) (F' := dskR D db ++ D.rows st') (Imp.refl _) (List.Sublist.refl _) ⟨kOk, st', by rw [e]; exact ⟨hm, rfl⟩, rfl, rfl⟩
  have n3 : ¬ isRounds w n = true := by rw [show isRounds w n = false from h3]; decide
  repeat refine S.seq ?_
  refine S.draw [(15, [51])] mixed ?_
  refine wT [0, 1, 2, 3, 4, 5, 6, 7, 8, 9, 10, 11, 12, 13, 14, 15, 16, 17, 18, 19] (k := ?_)
  refine wD (k := ?_)
  ((repeat refine S.seq ?_); refine S.cond rfl (fun h4 => ?_) (fun h4 => ?_) <;> (try first | refine S.skip ?_ | refine S.exit ?_))
  · have e : toldC D.qs.length w n = .epoch (at_ n 0) := by rw [toldC, if_neg n1, if_neg n2, if_neg n3]; exact if_pos h4
    have h4' : isEpoch D.qs.length w n = true := h4
    rw [isEpoch, Bool.and_eq_true, Bool.and_eq_true, decide_eq_true_eq, decide_eq_true_eq] at h4'
    have hl : n.length = 1 := by omega
    rw [e] at h
    have hq0 : 0 ≤ at_ n 0 := h
    have htl := D.htl st
    have hk : (at_ n 0).toNat < (D.tabs st).length := by omega
    have hte := D.hte st (tabAt D st (at_ n 0)) (by rw [tabAt, getD_get hk]; exact List.getElem_mem _)
    obtain ⟨z, hz⟩ : ∃ z, z = at_ n 0 := ⟨_, rfl⟩
    repeat refine S.seq ?_
    refine S.draw [(3, [51])] mixed ?_
    refine wT [0, 1, 2, 3, 5, 6, 7] (k := ?_)
    refine H.call 4 (D.rows st) _ rfl (by kernel_rfl) (by kernel_rfl) rfl rfl rfl rfl rfl rfl rfl ⟨trivial, by exact sd⟩ rfl (by exact Imps.refl [.ptr 60 D.wb 0]) (List.perm_append_comm (l₁ := [_])) (D.htabs st) (by kernel_rfl) (apart_of (by kernel_rfl)) ?_
    rintro r F' ⟨y, rfl, rfl⟩
    refine H.freeze 87 50 rfl rfl rfl (by kernel_rfl) ?_
    refine H.tell 90 (.v (.int .i64 z)) rfl (Imp.of_eq (by rw [hz]; rfl)) ?_
    refine wN ?_
    rw [← hz] at hk
    refine wT [8, 9, 10] (k := ?_)
    have et : (D.tabs st).getD z.toNat default = tabAt D st (at_ n 0) := by rw [hz]; rfl
    refine H.tell 93 (.v (.int .i64 (tabAt D st (at_ n 0)).ep)) rfl (Imp.of_eq (by rw [← et])) ?_
    refine wN ?_
    refine wHP 11 (itoa_p (tabAt D st (at_ n 0)).ep hte.1 hte.2) (k := ?_)
    refine wN ?_
    refine wT [12] (k := ?_)
    refine wD (k := ?_)
    ((repeat refine S.seq ?_); refine S.ret ?_)
    refine swapR (A := D.rows st) ?_
    exact E.ret (T := tt) tt_ok rfl rfl (by exact sd) (F' := dskR D db ++ D.rows st) (Imp.refl _) (List.Sublist.refl _) ⟨_, st, by rw [e]; exact ⟨rfl, rfl⟩, rfl, rfl⟩
  have n4 : ¬ isEpoch D.qs.length w n = true := by rw [show isEpoch D.qs.length w n = false from h4]; decide
  have e : toldC D.qs.length w n = .bad := by rw [toldC, if_neg n1, if_neg n2, if_neg n3, if_neg n4]
  ((repeat refine S.seq ?_); refine wG (k := ?_); try (refine L.nil ?_))
  ((repeat refine S.seq ?_); refine S.ret ?_)
  exact E.ret (T := tt) tt_ok rfl rfl (by exact sd) (F' := dskR D db ++ D.rows st) (Imp.refl _) (List.Sublist.refl _) ⟨kBad, st, by rw [e]; exact ⟨rfl, rfl⟩, rfl, rfl⟩
/-- What a line's words are. -/
def wordsOf (s : ByteArray) : List ByteArray := splS 32 s
def parse (nq : Int) (l : List ByteArray) : Cmd :=
  if (l.getD 0 default == kPublish && decide ((l.length : Int) = 6)) = true then
    (if (numsF ((l.drop 1).take 3)).2 then .step { stp0 with kind := 1, cl := at_ (numsF ((l.drop 1).take 3)).1 0, q := at_ (numsF ((l.drop 1).take 3)).1 1, many := at_ (numsF ((l.drop 1).take 3)).1 2, key := l.getD 4 default, body := l.getD 5 default } else .bad)
  else if (l.getD 0 default == kWhere && decide ((l.length : Int) = 3)) = true then
    (if (decide (numF (l.getD 1 default) < 0) || decide (numF (l.getD 1 default) ≥ nq)) = true then .bad else .place (numF (l.getD 1 default)) (l.getD 2 default))
  else if (numsF (l.drop 1)).2 then (if (stepsF (l.getD 0 default) (numsF (l.drop 1)).1).2 then .step (stepsF (l.getD 0 default) (numsF (l.drop 1)).1).1 else toldC nq (l.getD 0 default) (numsF (l.drop 1)).1) else .bad
theorem spl_mem (c : UInt8) : ∀ (l : List UInt8), (spl c l).length ≤ l.length + 1 ∧ ∀ x ∈ spl c l, x.length ≤ l.length
  | [] => by simp [spl]
  | a :: t => by
    obtain ⟨h1, h2⟩ := spl_mem c t
    rw [spl]
    split
    · refine ⟨by simp; omega, fun x hx => ?_⟩
      rcases List.mem_cons.1 hx with rfl | hx
      · simp
      · have := h2 x hx; simp; omega
    · split
      · simp
      · rename_i h r e
        rw [e] at h1 h2
        refine ⟨by simp at h1 ⊢; omega, fun x hx => ?_⟩
        rcases List.mem_cons.1 hx with rfl | hx
        · have := h2 h (by simp); simp; omega
        · have := h2 x (by simp [hx]); simp; omega
theorem words_len (s : ByteArray) : (wordsOf s).length ≤ s.size + 1 := by
  rw [wordsOf, splS, List.length_map, Lib.size_eq]
  exact (spl_mem 32 _).1
theorem words_mem (s : ByteArray) : ∀ x ∈ wordsOf s, x.size ≤ s.size := fun x hx => by
  rw [wordsOf, splS, List.mem_map] at hx
  obtain ⟨y, hy, rfl⟩ := hx
  have := (spl_mem 32 _).2 y hy
  rw [Lib.size_eq s]
  exact this
theorem numsF_mem (l : List ByteArray) : ∀ z ∈ (numsF l).1, 0 ≤ z := fun z hz => by
  unfold numsF at hz
  split at hz
  · rename_i h
    rw [List.mem_map] at hz
    obtain ⟨x, hx, rfl⟩ := hz
    obtain ⟨i, hi, rfl⟩ := List.mem_iff_getElem.1 hx
    unfold numsOk at h
    rw [List.all_eq_true] at h
    have := of_decide_eq_true (h i (List.mem_range.2 hi))
    rwa [getD_get hi] at this
  · cases hz
theorem numT_sz (i : Int) : (numT i).size ≤ 300 := by
  unfold numT
  split
  · rw [ByteArray.size_extract]; have : d36.size = 36 := by decide +kernel
    omega
  · rw [ByteArray.size_extract]; have : d100.size = 200 := by decide +kernel
    omega
theorem cut_g {α : Type} [Inhabited α] (f : α → List AV) (l : List α) {k i : Nat} (h : i < k) : gOf f l (i + 1) = gOf f ((l.drop 1).take k) i := by
  unfold gOf
  rw [List.getD_eq_getElem?_getD, List.getD_eq_getElem?_getD, List.getElem?_take, if_pos h, List.getElem?_drop, Nat.add_comm]
theorem dline_p (D : DkS) (db : Nat) (st : D.St) (s : ByteArray) (hs : s.size ≤ 100000) (h : canC D st (parse D.qs.length (wordsOf s))) : FnC Tryz.prog 24 [.ptr 51 db 0, .v (.string s)] (dskR D db ++ D.rows st)
    (fun r F' => ∃ o st', does D st (parse D.qs.length (wordsOf s)) o st' ∧ r = .v (.string o) ∧ F' = dskR D db ++ D.rows st') := by
  have hqs := D.hqs
  have hwl := words_len s
  have hwm := words_mem s
  have pS := split_p s 32 (by omega)
  rw [show splS 32 s = wordsOf s from rfl] at pS
  have hne : 1 ≤ (wordsOf s).length := by
    have := spl_ne 32 s.data.toList
    rw [wordsOf, splS, List.length_map]
    cases hx : spl 32 s.data.toList with
    | nil => exact absurd hx this
    | cons a t => simp
  obtain ⟨l, hl⟩ : ∃ l, l = wordsOf s := ⟨_, rfl⟩
  rw [← hl] at hwl hwm pS hne h ⊢
  unfold strsA at pS
  unfold dskR dskC confL
  refine FnC.intro Tryz.func24 rfl Tryz.ntmps24 rfl ?_; intro off w0
  ((repeat refine S.seq ?_); refine wG (k := ?_); try (refine L.nil ?_))
  repeat refine S.seq ?_
  refine S.region ?_
  (refine wL (k := ?_); try (refine L.nil ?_))
  refine wP (pS) (k := ?_)
  (refine wL (k := ?_); try (refine L.nil ?_))
  ((repeat refine S.seq ?_); refine wG (k := ?_); try (refine L.nil ?_))
  ((repeat refine S.seq ?_); refine S.cond rfl (fun h1 => ?_) (fun h1 => ?_) <;> (try first | refine S.skip ?_ | refine S.exit ?_))
  · have h1' : (l.getD 0 default == kPublish && decide ((l.length : Int) = 6)) = true := h1
    have h6 : l.length = 6 := by
      rw [Bool.and_eq_true, decide_eq_true_eq] at h1'
      omega
    have hm3 : ∀ x ∈ (l.drop 1).take 3, x.size ≤ 1000000 := fun x hx => by
      have := hwm x (List.mem_of_mem_drop (List.mem_of_mem_take hx))
      omega
    have e3 : ((l.drop 1).take 3).length = 3 := by rw [List.length_take, List.length_drop]; omega
    obtain ⟨N, hN⟩ : ∃ N, N = numsF ((l.drop 1).take 3) := ⟨_, rfl⟩
    have pN := numbers_p ((l.drop 1).take 3) (by omega) hm3
    rw [← hN] at pN
    repeat refine S.seq ?_
    refine S.region ?_
    (refine wL (k := ?_); try (refine L.nil ?_))
    refine slotAs 28 (strsA ((l.drop 1).take 3)) rfl (Imp.lst (by rw [e3]; rfl) (fun i hi => cut_g strC l (show i < 3 from hi))) ?_
    refine wP (pN) (k := ?_)
    (refine wL (k := ?_); try (refine L.nil ?_))
    ((repeat refine S.seq ?_); refine wG (k := ?_); try (refine L.nil ?_))
    ((repeat refine S.seq ?_); refine S.cond rfl (fun h2 => ?_) (fun h2 => ?_) <;> (try first | refine S.skip ?_ | refine S.exit ?_))
    · have e : parse D.qs.length l = .bad := by
        have h2' : N.2 = false := by simpa using h2
        rw [parse, if_pos h1', if_neg (by rw [← hN, h2']; decide)]
      ((repeat refine S.seq ?_); refine wG (k := ?_); try (refine L.nil ?_))
      ((repeat refine S.seq ?_); refine S.ret ?_)
      exact E.ret (T := tt) tt_ok rfl rfl (by exact sd) (F' := dskR D db ++ D.rows st) (Imp.refl _) (List.Sublist.refl _) ⟨kBad, st, by rw [e]; exact ⟨rfl, rfl⟩, rfl, rfl⟩
    have h2' : N.2 = true := by simpa using h2
    have e : parse D.qs.length l = .step { stp0 with kind := 1, cl := at_ N.1 0, q := at_ N.1 1, many := at_ N.1 2, key := l.getD 4 default, body := l.getD 5 default } := by
      rw [parse, if_pos h1', if_pos (by rw [← hN, h2']), ← hN]
    have hn3 : N.1.length = 3 := by
      rw [hN] at h2' ⊢
      unfold numsF at h2' ⊢
      split at h2'
      · rename_i hok
        rw [if_pos hok, List.length_map, e3]
      · cases h2'
    rw [e] at h
    have qS := dstep_p D db st _ h
    unfold dskR dskC confL at qS
    unfold intW
    repeat refine S.seq ?_
    refine S.draw [] mixed ?_
    refine wT [0, 1, 2, 3, 4, 5, 6, 7, 8, 9, 10, 11, 12, 13, 14, 15, 16] (k := ?_)
    refine H.call 17 (([(51, .blk db 52 ([.v (.int .i64 D.nodes), .v (.int .i64 D.clients), .lst 1 D.qs.length (gOf (fun l => [intW l]) D.qs)] ++ [.ptr 60 D.wb 0]))] : Rows) ++ D.rows st) [] rfl (by kernel_rfl) (by kernel_rfl) rfl rfl rfl rfl rfl rfl rfl ⟨trivial, by exact sd⟩ rfl ?_ (by rw [List.append_nil]; exact List.Perm.refl _) qS (by kernel_rfl) (apart_of (by kernel_rfl)) ?_
    · exact Imps.refl _
    rintro r F' ⟨st', b, hs', rfl, rfl⟩
    refine wN ?_
    refine wT [18] (k := ?_)
    refine wD (k := ?_)
    ((repeat refine S.seq ?_); refine S.ret ?_)
    exact E.ret (T := tt) tt_ok rfl rfl (by exact sd) (F' := dskR D db ++ D.rows st') (Imp.refl _) (by rw [List.append_nil]; exact List.Sublist.refl _) ⟨yesB b, st', by rw [e]; exact ⟨b, hs', rfl⟩, rfl, rfl⟩
  have n1 : ¬ (l.getD 0 default == kPublish && decide ((l.length : Int) = 6)) = true := by rw [show (l.getD 0 default == kPublish && decide ((l.length : Int) = 6)) = false from h1]; decide
  ((repeat refine S.seq ?_); refine wG (k := ?_); try (refine L.nil ?_))
  ((repeat refine S.seq ?_); refine S.cond rfl (fun h3 => ?_) (fun h3 => ?_) <;> (try first | refine S.skip ?_ | refine S.exit ?_))
  · have h3' : (l.getD 0 default == kWhere && decide ((l.length : Int) = 3)) = true := h3
    have h33 : l.length = 3 := by
      rw [Bool.and_eq_true, decide_eq_true_eq] at h3'
      omega
    have hm1 : (l.getD 1 default).size ≤ 1000000 := by
      have h : 1 < l.length := by omega
      have := hwm (l.getD 1 default) (by rw [getD_get h]; exact List.getElem_mem _)
      omega
    have hm2 : fitS (l.getD 2 default) := by
      have h : 2 < l.length := by omega
      have := hwm (l.getD 2 default) (by rw [getD_get h]; exact List.getElem_mem _)
      unfold fitS
      omega
    obtain ⟨q, hq⟩ : ∃ q, q = numF (l.getD 1 default) := ⟨_, rfl⟩
    have pN := number_p (l.getD 1 default) hm1
    rw [← hq] at pN
    repeat refine S.seq ?_
    refine S.region ?_
    (refine wL (k := ?_); try (refine L.nil ?_))
    refine wP (pN) (k := ?_)
    (refine wL (k := ?_); try (refine L.nil ?_))
    ((repeat refine S.seq ?_); refine wG (k := ?_); try (refine L.nil ?_))
    ((repeat refine S.seq ?_); refine S.cond rfl (fun h4 => ?_) (fun h4 => ?_) <;> (try first | refine S.skip ?_ | refine S.exit ?_))
    · have e : parse D.qs.length l = .bad := by
        rw [parse, if_neg n1, if_pos h3', ← hq, if_pos (show (decide (q < 0) || decide (q ≥ (D.qs.length : Int))) = true from h4)]
      ((repeat refine S.seq ?_); refine wG (k := ?_); try (refine L.nil ?_))
      ((repeat refine S.seq ?_); refine S.ret ?_)
      exact E.ret (T := tt) tt_ok rfl rfl (by exact sd) (F' := dskR D db ++ D.rows st) (Imp.refl _) (List.Sublist.refl _) ⟨kBad, st, by rw [e]; exact ⟨rfl, rfl⟩, rfl, rfl⟩
    have h4' : (decide (q < 0) || decide (q ≥ (D.qs.length : Int))) = false := h4
    have e : parse D.qs.length l = .place q (l.getD 2 default) := by
      rw [parse, if_neg n1, if_pos h3', ← hq, if_neg (by rw [h4']; decide)]
    rw [Bool.or_eq_false_iff, decide_eq_false_iff_not, decide_eq_false_iff_not] at h4'
    have htl := D.htl st
    have hk : q.toNat < (D.tabs st).length := by omega
    obtain ⟨hF, f0, f1, f2, f3⟩ := D.hfind st (tabAt D st q) (by rw [tabAt, getD_get hk]; exact List.getElem_mem _) (l.getD 2 default) hm2
    have et : (D.tabs st).getD q.toNat default = tabAt D st q := rfl
    have z1 := numT_sz (D.fnd (tabAt D st q) (l.getD 2 default)).1
    have z2 := numT_sz (D.fnd (tabAt D st q) (l.getD 2 default)).2
    have z3 : (⟨#[32]⟩ : ByteArray).size = 1 := rfl
    have z4 := ByteArray.size_append (a := numT (D.fnd (tabAt D st q) (l.getD 2 default)).1) (b := ⟨#[32]⟩)
    repeat refine S.seq ?_
    refine S.draw [(3, [51])] mixed ?_
    refine wT [0, 1, 2, 3, 5, 8, 9, 10] (k := ?_)
    refine H.call 4 (D.rows st) _ rfl (by kernel_rfl) (by kernel_rfl) rfl rfl rfl rfl rfl rfl rfl ⟨trivial, by exact sd⟩ rfl (by exact Imps.refl [.ptr 60 D.wb 0]) (List.perm_append_comm (l₁ := [_])) (D.htabs st) (by kernel_rfl) (apart_of (by kernel_rfl)) ?_
    rintro r F' ⟨y, rfl, rfl⟩
    refine H.freeze 82 50 rfl rfl rfl (by kernel_rfl) ?_
    refine wN ?_
    refine wT [6, 7] (k := ?_)
    refine H.tell 85 (tabAt D st q).av rfl (Imp.of_eq (by rw [← et]; rfl)) ?_
    refine wN ?_
    refine wHP 11 (hF) (k := ?_)
    refine wN ?_
    refine wT [12, 13, 14, 15, 16] (k := ?_)
    refine wD (k := ?_)
    repeat refine S.seq ?_
    refine S.region ?_
    (refine wL (k := ?_); try (refine L.nil ?_))
    refine wP ((itoa_p _ f0 f1)) (k := ?_)
    (refine wL (k := ?_); try (refine L.nil ?_))
    refine wP ((itoa_p _ f2 f3)) (k := ?_)
    (refine wL (k := ?_); try (refine L.nil ?_))
    ((repeat refine S.seq ?_); refine S.ret ?_)
    refine swapR (A := D.rows st) ?_
    exact E.ret (T := tt) tt_ok rfl rfl (by exact sd) (F' := dskR D db ++ D.rows st) (Imp.refl _) (List.Sublist.refl _) ⟨_, st, by rw [e]; exact ⟨rfl, rfl⟩, rfl, rfl⟩
  have n2 : ¬ (l.getD 0 default == kWhere && decide ((l.length : Int) = 3)) = true := by rw [show (l.getD 0 default == kWhere && decide ((l.length : Int) = 3)) = false from h3]; decide
  obtain ⟨N, hN⟩ : ∃ N, N = numsF (l.drop 1) := ⟨_, rfl⟩
  have pN := numbers_p (l.drop 1) (by rw [List.length_drop]; omega) (fun x hx => by
    have := hwm x (List.mem_of_mem_drop hx)
    omega)
  have hNm := numsF_mem (l.drop 1)
  rw [← hN] at pN hNm
  repeat refine S.seq ?_
  refine S.region ?_
  (refine wL (k := ?_); try (refine L.nil ?_))
  refine slotAs 100 (strsA (l.drop 1)) rfl (Imp.lst (by rw [List.length_drop]; rfl) (fun i hi => drop_g strC l 1 i)) ?_
  refine wP (pN) (k := ?_)
  (refine wL (k := ?_); try (refine L.nil ?_))
  ((repeat refine S.seq ?_); refine wG (k := ?_); try (refine L.nil ?_))
  ((repeat refine S.seq ?_); refine S.cond rfl (fun h5 => ?_) (fun h5 => ?_) <;> (try first | refine S.skip ?_ | refine S.exit ?_))
  · have e : parse D.qs.length l = .bad := by
      have h5' : N.2 = false := by simpa using h5
      rw [parse, if_neg n1, if_neg n2, if_neg (by rw [← hN, h5']; decide)]
    ((repeat refine S.seq ?_); refine wG (k := ?_); try (refine L.nil ?_))
    ((repeat refine S.seq ?_); refine S.ret ?_)
    exact E.ret (T := tt) tt_ok rfl rfl (by exact sd) (F' := dskR D db ++ D.rows st) (Imp.refl _) (List.Sublist.refl _) ⟨kBad, st, by rw [e]; exact ⟨rfl, rfl⟩, rfl, rfl⟩
  have h5' : N.2 = true := by simpa using h5
  have hw0 : fitS (l.getD 0 default) := by
    have h : 0 < l.length := by omega
    have := hwm (l.getD 0 default) (by rw [getD_get h]; exact List.getElem_mem _)
    unfold fitS
    omega
  have e : parse D.qs.length l = if (stepsF (l.getD 0 default) N.1).2 then .step (stepsF (l.getD 0 default) N.1).1 else toldC D.qs.length (l.getD 0 default) N.1 := by
    rw [parse, if_neg n1, if_neg n2, if_pos (by rw [← hN, h5']), ← hN]
  obtain ⟨X, hX⟩ : ∃ X, X = stepsF (l.getD 0 default) N.1 := ⟨_, rfl⟩
  have pX := steps_p (l.getD 0 default) N.1 hw0
  rw [← hX] at pX e
  unfold StpD.av at pX
  repeat refine S.seq ?_
  refine S.region ?_
  (refine wL (k := ?_); try (refine L.nil ?_))
  refine wP (pX) (k := ?_)
  (refine wL (k := ?_); try (refine L.nil ?_))
  refine wA 52 (k := fun b52 => ?_)
  refine wS (k := ?_)
  (refine wL (k := ?_); try (refine L.nil ?_))
  ((repeat refine S.seq ?_); refine wG (k := ?_); try (refine L.nil ?_))
  ((repeat refine S.seq ?_); refine S.cond rfl (fun h6 => ?_) (fun h6 => ?_) <;> (try first | refine S.skip ?_ | refine S.exit ?_))
  · rw [if_pos h6] at e
    rw [e] at h
    have qS := dstep_p D db st _ h
    unfold dskR dskC confL StpD.av at qS
    refine blkAs 52 X.1.cells rfl (Imps.refl X.1.cells) ?_
    repeat refine S.seq ?_
    refine S.region ?_
    (refine wL (k := ?_); try (refine L.nil ?_))
    refine L.call (G := (([(51, .blk db 52 ([.v (.int .i64 D.nodes), .v (.int .i64 D.clients), .lst 1 D.qs.length (gOf (fun l => [intW l]) D.qs)] ++ [.ptr 60 D.wb 0]))] : Rows) ++ D.rows st)) (H := [(52, .blk b52 33 X.1.cells)]) rfl rfl rfl rfl rfl rfl rfl ⟨trivial, by exact sd⟩ rfl ?_ (List.perm_append_comm (l₁ := [_])) qS ?_
    · exact Imps.refl _
    rintro r F' ⟨st', b, hs', rfl, rfl⟩
    (refine wL (k := ?_); try (refine L.nil ?_))
    ((repeat refine S.seq ?_); refine S.ret ?_)
    exact E.ret (T := tt) tt_ok rfl rfl (by exact sd) (F' := dskR D db ++ D.rows st') (Imp.refl _) (List.sublist_append_left _ _) ⟨yesB b, st', by rw [e]; exact ⟨b, hs', rfl⟩, rfl, rfl⟩
  rw [if_neg (by rw [show X.2 = false from h6]; decide)] at e
  rw [e] at h
  have qT := dtold_p D db st (l.getD 0 default) N.1 hNm h
  unfold dskR dskC confL at qT
  repeat refine S.seq ?_
  refine S.region ?_
  (refine wL (k := ?_); try (refine L.nil ?_))
  refine L.call (G := (([(51, .blk db 52 ([.v (.int .i64 D.nodes), .v (.int .i64 D.clients), .lst 1 D.qs.length (gOf (fun l => [intW l]) D.qs)] ++ [.ptr 60 D.wb 0]))] : Rows) ++ D.rows st)) (H := [(52, _)]) rfl rfl rfl rfl rfl rfl rfl ⟨trivial, by exact sd⟩ rfl ?_ (List.perm_append_comm (l₁ := [_])) qT ?_
  · exact Imps.refl _
  rintro r F' ⟨o, st', hd, rfl, rfl⟩
  (refine wL (k := ?_); try (refine L.nil ?_))
  ((repeat refine S.seq ?_); refine S.ret ?_)
  exact E.ret (T := tt) tt_ok rfl rfl (by exact sd) (F' := dskR D db ++ D.rows st') (Imp.refl _) (List.sublist_append_left _ _) ⟨o, st', by rw [e]; exact hd, rfl, rfl⟩
end Go.Proofs.YtbogfmgfafdjiaaGreatDoor

/- The desk: a script is run, over whatever a cluster does. -/
namespace Go.Proofs.YtbogfmgfafdjiaaGreatDoor
set_option linter.unusedVariables false
set_option linter.unusedSimpArgs false
set_option maxHeartbeats 8000000
open Go.RowKit
set_option maxRecDepth 8000

def kNl : ByteArray := ⟨#[10]⟩
def kEmpty : ByteArray := ⟨#[]⟩
theorem permR {c : Ctx} {σ : Slots} {F G : Rows} {K : Act → World → Prop} (h : F.Perm G) (next : ∀ a w, R c σ G a w → K a w) : ∀ a w, R c σ F a w → K a w := fun a w hR => next a w (hR.perm h)
/-- Lines of which each may be done, whatever comes of those ahead. -/
def goodL (D : DkS) : List ByteArray → D.St → Prop
  | [], _ => True
  | s :: t, st => (s = kEmpty → goodL D t st) ∧ (s ≠ kEmpty → canC D st (parse D.qs.length (wordsOf s)) ∧ ∀ o st', does D st (parse D.qs.length (wordsOf s)) o st' → goodL D t st')
/-- What lines tell. -/
def outL (D : DkS) : List ByteArray → D.St → ByteArray → Prop
  | [], _, O => O = kEmpty
  | s :: t, st, O => (s = kEmpty → outL D t st O) ∧ (s ≠ kEmpty → ∃ o st' O', does D st (parse D.qs.length (wordsOf s)) o st' ∧ outL D t st' O' ∧ O = (o ++ kNl) ++ O')
theorem yesB_sz (b : Bool) : (yesB b).size = 2 := by cases b <;> rfl
theorem does_sz {D : DkS} {st st' : D.St} {o : ByteArray} : ∀ {c : Cmd}, does D st c o st' → o.size ≤ 700
  | .bad, h => by rw [h.1]; decide
  | .step _, ⟨b, _, h⟩ => by rw [h, yesB_sz]; decide
  | .acts, h => by rw [h.1]; have := numT_sz ((D.acts st).length : Int); omega
  | .judge, h => by rw [h.1]; have := numT_sz (checkJ (D.acts st)); omega
  | .rounds _, h => by rw [h.2]; decide
  | .epoch q, h => by rw [h.1]; have := numT_sz (tabAt D st q).ep; omega
  | .place q key, h => by
    rw [h.1, ByteArray.size_append, ByteArray.size_append]
    have h1 := numT_sz (D.fnd (tabAt D st q) key).1
    have h2 := numT_sz (D.fnd (tabAt D st q) key).2
    have z3 : (⟨#[32]⟩ : ByteArray).size = 1 := rfl
    omega
def lastS (l : List ByteArray) : ByteArray := l.getD ((l.length : Int) - 1).toNat default
def lnsOf (s : ByteArray) : List ByteArray := if lastS (splS 10 s) == kEmpty then (splS 10 s).take ((splS 10 s).length - 1) else splS 10 s
theorem lns_len (s : ByteArray) : (lnsOf s).length ≤ s.size + 1 := by
  have h : (splS 10 s).length ≤ s.size + 1 := by
    rw [splS, List.length_map, Lib.size_eq]
    exact (spl_mem 10 _).1
  unfold lnsOf
  split
  · rw [List.length_take]; omega
  · exact h
theorem lns_mem (s : ByteArray) : ∀ x ∈ lnsOf s, x.size ≤ s.size := fun x hx => by
  have h : ∀ x ∈ splS 10 s, x.size ≤ s.size := fun x hx => by
    rw [splS, List.mem_map] at hx
    obtain ⟨y, hy, rfl⟩ := hx
    have := (spl_mem 10 _).2 y hy
    rw [Lib.size_eq s]
    exact this
  unfold lnsOf at hx
  split at hx
  · exact h x (List.mem_of_mem_take hx)
  · exact h x hx
theorem runbad_p (x y z : AV) (s : ByteArray) (hm : PFn Tryz.prog 20 [.agg [x, y, z]] (.v (.bool false))) : PFn Tryz.prog 7 [.agg [x, y, z], .v (.string s)] (.v (.string ⟨#[101, 114, 114, 111, 114, 32, 49, 10]⟩)) := by
  refine FnC.intro Tryz.func7 rfl Tryz.ntmps7 rfl ?_; intro off w0
  repeat refine S.seq ?_
  refine S.region ?_
  refine wB 2 (k := fun b2 => ?_)
  (refine wL (k := ?_); try (refine L.nil ?_))
  repeat refine S.seq ?_
  refine S.region ?_
  (refine wL (k := ?_); try (refine L.nil ?_))
  refine wP (hm) (k := ?_)
  (refine wL (k := ?_); try (refine L.nil ?_))
  ((repeat refine S.seq ?_); refine S.cond rfl (fun hc => ?_) (fun hc => ?_) <;> (try first | refine S.skip ?_ | refine S.exit ?_))
  · ((repeat refine S.seq ?_); refine wG (k := ?_); try (refine L.nil ?_))
    (((repeat refine S.seq ?_); refine S.ret ?_); refine wRt (k := ?_))
    exact Imp.refl _
  cases hc
theorem run_p (n k : Int) (qs : List (List Int)) (s : ByteArray) (hs : s.size ≤ 100000) (hm : PFn Tryz.prog 20 [.agg (confL n k qs)] (.v (.bool true)))
    (G : (D : DkS) → D.St → Prop) (hnew : FnC Tryz.prog 21 [.agg (confL n k qs)] [] (fun r F' => ∃ (D : DkS) (st : D.St), D.nodes = n ∧ D.clients = k ∧ D.qs = qs ∧ G D st ∧ r = .tup [.ptr 60 D.wb 0, .v (.int .i64 0)] ∧ F' = D.rows st))
    (hgood : (lnsOf s).length ≤ 300 → ∀ D st, G D st → goodL D (lnsOf s) st) : FnC Tryz.prog 7 [.agg (confL n k qs), .v (.string s)] []
    (fun r F' => (∃ O, r = .v (.string O) ∧ if (lnsOf s).length ≤ 300 then ∃ D st, G D st ∧ outL D (lnsOf s) st O else O = kBad ++ kNl) ∧ F' = []) := by
  have hll := lns_len s
  have hlm := lns_mem s
  have pS := split_p s 10 (by omega)
  have hne : 1 ≤ (splS 10 s).length := by
    have := spl_ne 10 s.data.toList
    rw [splS, List.length_map]
    cases hx : spl 10 s.data.toList with
    | nil => exact absurd hx this
    | cons a t => simp
  have hsl : (splS 10 s).length ≤ 100001 := by
    rw [splS, List.length_map]
    have := (spl_mem 10 s.data.toList).1
    rw [← Lib.size_eq] at this
    omega
  obtain ⟨l, hl⟩ : ∃ l, l = splS 10 s := ⟨_, rfl⟩
  obtain ⟨M, hM⟩ : ∃ M, M = lnsOf s := ⟨_, rfl⟩
  have hM2 : M = if lastS l == kEmpty then l.take (l.length - 1) else l := by rw [hM, hl]; rfl
  rw [← hl] at pS hne hsl
  rw [← hM] at hll hlm hgood ⊢
  unfold strsA at pS
  unfold confL at hm hnew ⊢
  refine FnC.intro Tryz.func7 rfl Tryz.ntmps7 rfl ?_; intro off w0
  repeat refine S.seq ?_
  refine S.region ?_
  refine wB 2 (k := fun b2 => ?_)
  (refine wL (k := ?_); try (refine L.nil ?_))
  refine freezeBlk 2 2 rfl rfl rfl ?_
  repeat refine S.seq ?_
  refine S.region ?_
  (refine wL (k := ?_); try (refine L.nil ?_))
  refine wP (hm) (k := ?_)
  (refine wL (k := ?_); try (refine L.nil ?_))
  ((repeat refine S.seq ?_); refine S.cond rfl (fun hc => ?_) (fun hc => ?_) <;> (try first | refine S.skip ?_ | refine S.exit ?_))
  · cases hc
  repeat refine S.seq ?_
  refine S.region ?_
  (refine wL (k := ?_); try (refine L.nil ?_))
  refine wC [] hnew (k := ?_)
  rintro r F' ⟨D, st0, e1, e2, e3, hG, rfl, rfl⟩
  (refine wL (k := ?_); try (refine L.nil ?_))
  repeat refine S.seq ?_
  refine S.region ?_
  (refine wL (k := ?_); try (refine L.nil ?_))
  refine wP (pS) (k := ?_)
  (refine wL (k := ?_); try (refine L.nil ?_))
  ((repeat refine S.seq ?_); refine wG (k := ?_); try (refine L.nil ?_))
  repeat refine S.seq ?_
  refine S.cut (ι := Unit) (fun _ => [(2, .pel 3 [.v (.int .i64 n), .v (.int .i64 k), .lst 1 qs.length (gOf (fun l => [intW l]) qs)]), (4, .v (.string ⟨#[]⟩)), (5, .ptr 60 D.wb 0), (7, strsA M)]) (fun _ => D.rows st0) ?_ ?_
  · ((repeat refine S.seq ?_); refine S.cond rfl (fun h1 => ?_) (fun h1 => ?_) <;> (try first | refine S.skip ?_ | refine S.exit ?_))
    · have h1' : (lastS l == kEmpty) = true := h1
      have eM : M = l.take (l.length - 1) := by rw [hM2, if_pos h1']
      ((repeat refine S.seq ?_); refine wG (k := ?_); try (refine L.nil ?_))
      refine slotAs 7 (strsA M) rfl ?_ ?_
      · rw [eM]
        refine Imp.lst ?_ fun i hi => ?_
        · rw [List.length_take]; omega
        · have hi' : i < l.length - 1 := by omega
          unfold gOf
          rw [List.getD_eq_getElem?_getD, List.getD_eq_getElem?_getD, List.getElem?_take, if_pos hi']
          try rfl
      exact fun a w hR => ⟨(), hR.weakP (by (repeat' (first | exact True.intro | exact Imp.refl _ | refine ⟨?_, ?_⟩))) (Sub.of (H := []) _ (List.Perm.refl _))⟩
    · have h1' : (lastS l == kEmpty) = false := h1
      have eM : M = l := by rw [hM2, if_neg (by rw [h1']; decide)]
      refine slotAs 7 (strsA M) rfl (by rw [eM]; exact Imp.refl _) ?_
      exact fun a w hR => ⟨(), hR.weakP (by (repeat' (first | exact True.intro | exact Imp.refl _ | refine ⟨?_, ?_⟩))) (Sub.of (H := []) _ (List.Perm.refl _))⟩
  intro _
  unfold strsA
  have hML : M.length ≤ 200000 := by omega
  ((repeat refine S.seq ?_); refine wG (k := ?_); try (refine L.nil ?_))
  ((repeat refine S.seq ?_); refine S.cond rfl (fun h2 => ?_) (fun h2 => ?_) <;> (try first | refine S.skip ?_ | refine S.exit ?_))
  · have h2' : ¬ M.length ≤ 300 := by have := of_dec h2; omega
    ((repeat refine S.seq ?_); refine wG (k := ?_); try (refine L.nil ?_))
    ((repeat refine S.seq ?_); refine S.ret ?_)
    exact E.ret (T := tt) tt_ok rfl rfl (by exact sd) (F' := []) (Imp.refl _) (List.nil_sublist _) ⟨⟨_, rfl, by rw [if_neg h2']; rfl⟩, rfl⟩
  have h2' : M.length ≤ 300 := by have := of_dec' h2; omega
  have hgd := hgood h2' D st0 hG
  subst e1 e2 e3
  repeat refine S.seq ?_
  refine S.region ?_
  (refine wL (k := ?_); try (refine L.nil ?_))
  refine wB 51 (k := fun db => ?_)
  (refine wL (k := ?_); try (refine L.nil ?_))
  repeat refine S.seq ?_
  refine S.region ?_
  refine wA 95 (k := fun bb => ?_)
  refine L.nil ?_
  refine nilRow 96 5 1 (byteG kEmpty) ?_
  refine blkAs 95 [.v (bldP false bb), .ref 96 (.slice none 0 0)] rfl ⟨Imp.refl _, Imp.vref rfl, trivial⟩ ?_
  ((repeat refine S.seq ?_); refine wG (k := ?_); try (refine L.nil ?_))
  refine permR (G := bldR false bb (.slice none 0 0) kEmpty ++ (dskR D db ++ D.rows st0)) (by unfold bldR dskR dskC confL; exact List.Perm.swap _ _ _) ?_
  repeat refine S.seq ?_
  refine S.cut (ι := { q : Bool × Value × ByteArray × D.St // (q.1 = false ∧ q.2.1 = .slice none 0 0 ∧ q.2.2.1 = ByteArray.empty ∨ q.1 = true ∧ 0 < q.2.2.1.size) ∧ outL D M st0 q.2.2.1 }) (fun q => [(9, .ptr 95 bb 0)]) (fun q => bldR q.1.1 bb q.1.2.1 q.1.2.2.1 ++ (dskR D db ++ D.rows q.1.2.2.2)) ?_ ?_
  · refine S.block (S.loop (ι := { q : Nat × Bool × Value × ByteArray × D.St // q.1 ≤ M.length ∧ (q.2.1 = false ∧ q.2.2.1 = .slice none 0 0 ∧ q.2.2.2.1 = ByteArray.empty ∨ q.2.1 = true ∧ 0 < q.2.2.2.1.size) ∧ q.2.2.2.1.size ≤ 701 * q.1 ∧ goodL D (M.drop q.1) q.2.2.2.2 ∧ ∀ O', outL D (M.drop q.1) q.2.2.2.2 O' → outL D M st0 (q.2.2.2.1 ++ O') })
      (fun q => [(8, .ptr 51 db 0), (9, .ptr 95 bb 0), (41, .lst 1 M.length (gOf strC M)), (42, .v (.int .i64 M.length)), (43, .v (.int .i64 q.1.1))]) (fun q => bldR q.1.2.1 bb q.1.2.2.1 q.1.2.2.2.1 ++ (dskR D db ++ D.rows q.1.2.2.2.2)) (fun q => M.length - q.1.1) ?_ ?_)
    · exact fun a w h => ⟨⟨(0, false, .slice none 0 0, ByteArray.empty, st0), Nat.zero_le _, .inl ⟨rfl, rfl, rfl⟩, Nat.zero_le _, hgd, fun O' hO => by rw [ByteArray.empty_append]; exact hO⟩, h.weakP (by (repeat' (first | exact True.intro | exact Imp.refl _ | refine ⟨?_, ?_⟩))) (Sub.of _ (by rw [List.append_nil]; exact List.Perm.refl _))⟩
    rintro ⟨⟨i, u, y, O, st⟩, hi, hu, hO, hg, hout⟩
    dsimp only at hi hu hO hg hout ⊢
    ((repeat refine S.seq ?_); refine wG (k := ?_); try (refine L.nil ?_))
    ((repeat refine S.seq ?_); refine S.cond rfl (fun h3 => ?_) (fun h3 => ?_) <;> (try first | refine S.skip ?_ | refine S.exit ?_))
    · have h3 : i < M.length := by have := of_dec h3; omega
      have eD : M.drop i = M.getD i default :: M.drop (i + 1) := by rw [List.drop_eq_getElem_cons h3, getD_get h3]
      rw [eD] at hg hout
      have hxs := hlm (M.getD i default) (by rw [getD_get h3]; exact List.getElem_mem _)
      obtain ⟨x, hx⟩ : ∃ x, x = M.getD i default := ⟨_, rfl⟩
      rw [← hx] at hg hout hxs
      repeat refine S.seq ?_
      refine S.block ?_
      ((repeat refine S.seq ?_); refine wG (k := ?_); try (refine L.nil ?_))
      refine slotAs 11 (.v (.string x)) rfl (Imp.of_eq (by rw [hx]; rfl)) ?_
      ((repeat refine S.seq ?_); refine wG (k := ?_); try (refine L.nil ?_))
      ((repeat refine S.seq ?_); refine S.cond rfl (fun h4 => ?_) (fun h4 => ?_) <;> (try first | refine S.skip ?_ | refine S.exit ?_))
      · have hx0 : x ≠ kEmpty := by
          rintro rfl
          exact absurd h4 (by decide)
        obtain ⟨hc1, hnx⟩ := hg.2 hx0
        have pL := dline_p D db st x (by omega) hc1
        unfold dskR dskC at pL
        repeat refine S.seq ?_
        refine S.region ?_
        (refine wL (k := ?_); try (refine L.nil ?_))
        refine L.call (G := dskR D db ++ D.rows st) (H := bldR u bb y O) rfl rfl rfl rfl rfl rfl rfl ⟨trivial, by exact sd⟩ rfl (by exact Imps.refl [.ptr 51 db 0, .v (.string x)]) (List.perm_append_comm (l₁ := bldR u bb y O)) pL ?_
        rintro r F' ⟨o, st', hd, rfl, rfl⟩
        have z1 := does_sz hd
        have z2 : (⟨#[10]⟩ : ByteArray).size = 1 := rfl
        have z3 := ByteArray.size_append (a := o) (b := kNl)
        have z4 : kNl.size = 1 := rfl
        have z5 := ByteArray.size_append (a := O) (b := o ++ kNl)
        refine permR (G := bldR u bb y O ++ (dskR D db ++ D.rows st')) (List.perm_append_comm (l₂ := bldR u bb y O)) ?_
        (refine wL (k := ?_); try (refine L.nil ?_))
        refine L.call (G := bldR u bb y O) (H := dskR D db ++ D.rows st') rfl rfl rfl rfl rfl rfl rfl ⟨trivial, by exact sd⟩ rfl (by exact Imps.refl [.ptr 95 bb 0, .v (.string (o ++ kNl))]) (List.Perm.refl _) (write_p u bb y O (o ++ kNl) (by omega)) ?_
        rintro r F' ⟨y', rfl, rfl⟩
        refine L.nil ?_
        ((repeat refine S.seq ?_); refine wG (k := ?_); try (refine L.nil ?_))
        refine fun a w hR => ⟨⟨(i + 1, true, y', O ++ (o ++ kNl), st'), h3, .inr ⟨rfl, ?_⟩, ?_, hnx o st' hd, fun O' hO' => ?_⟩, by show M.length - (i + 1) < M.length - i; omega, hR.weakP (by (repeat' (first | exact True.intro | exact Imp.refl _ | refine ⟨?_, ?_⟩))) (Sub.of (H := []) _ (by rw [List.append_nil]))⟩
        · show 0 < (O ++ (o ++ kNl)).size
          omega
        · show (O ++ (o ++ kNl)).size ≤ 701 * (i + 1)
          omega
        · show outL D M st0 ((O ++ (o ++ kNl)) ++ O')
          rw [ByteArray.append_assoc]
          exact hout _ ⟨fun h => absurd h hx0, fun _ => ⟨o, st', O', hd, hO', rfl⟩⟩
      · have hx0 : x = kEmpty := by
          have h5 : x = ⟨#[]⟩ := by simpa using h4
          exact h5
        ((repeat refine S.seq ?_); refine wG (k := ?_); try (refine L.nil ?_))
        exact fun a w hR => ⟨⟨(i + 1, u, y, O, st), h3, hu, by show O.size ≤ 701 * (i + 1); omega, hg.1 hx0, fun O' hO' => hout O' ⟨fun _ => hO', fun h => absurd hx0 h⟩⟩, by show M.length - (i + 1) < M.length - i; omega, hR.weakP (by (repeat' (first | exact True.intro | exact Imp.refl _ | refine ⟨?_, ?_⟩))) (Sub.of (H := []) _ (by rw [List.append_nil]))⟩
    have h3 : i = M.length := by have := of_dec' h3; omega
    subst h3
    rw [List.drop_length] at hout
    have hfin := hout kEmpty rfl
    rw [show O ++ kEmpty = O from ByteArray.append_empty] at hfin
    exact fun a w hR => ⟨⟨(u, y, O, st), hu, hfin⟩, hR.weakP (by (repeat' (first | exact True.intro | exact Imp.refl _ | refine ⟨?_, ?_⟩))) (Sub.of (H := []) _ (by rw [List.append_nil]))⟩
  rintro ⟨⟨u, y, O, st⟩, hu, hfin⟩
  dsimp only at hu hfin ⊢
  rcases hu with ⟨rfl, rfl, rfl⟩ | ⟨rfl, hpos⟩
  · repeat refine S.seq ?_
    refine S.region ?_
    (refine wL (k := ?_); try (refine L.nil ?_))
    refine L.call (G := bldR false bb (.slice none 0 0) ByteArray.empty) (H := dskR D db ++ D.rows st) rfl rfl rfl rfl rfl rfl rfl ⟨trivial, by exact sd⟩ rfl (by exact Imps.refl [.ptr 95 bb 0]) (List.Perm.refl _) (string0_p bb) ?_
    rintro r F' ⟨rfl, rfl⟩
    (refine wL (k := ?_); try (refine L.nil ?_))
    ((repeat refine S.seq ?_); refine S.ret ?_)
    exact E.ret (T := tt) tt_ok rfl rfl (by exact sd) (F' := []) (Imp.refl _) (List.nil_sublist _) ⟨⟨_, rfl, by rw [if_pos h2']; exact ⟨D, st0, hG, hfin⟩⟩, rfl⟩
  · repeat refine S.seq ?_
    refine S.region ?_
    (refine wL (k := ?_); try (refine L.nil ?_))
    refine L.call (G := bldR true bb y O) (H := dskR D db ++ D.rows st) rfl rfl rfl rfl rfl rfl rfl ⟨trivial, by exact sd⟩ rfl (by exact Imps.refl [.ptr 95 bb 0]) (List.Perm.refl _) (string1_p true bb y O hpos) ?_
    rintro r F' ⟨rfl, rfl⟩
    (refine wL (k := ?_); try (refine L.nil ?_))
    ((repeat refine S.seq ?_); refine S.ret ?_)
    exact E.ret (T := tt) tt_ok rfl rfl (by exact sd) (F' := []) (Imp.refl _) (List.nil_sublist _) ⟨⟨_, rfl, by rw [if_pos h2']; exact ⟨D, st0, hG, hfin⟩⟩, rfl⟩
end Go.Proofs.YtbogfmgfafdjiaaGreatDoor

/- slices.Clone, on abstract values. -/
namespace Go.Proofs.YtbogfmgfafdjiaaGreatDoor
set_option linter.unusedVariables false
set_option linter.unusedSimpArgs false
set_option maxHeartbeats 8000000
open Go.RowKit
set_option maxRecDepth 4000

theorem ClnB {n : Nat} {g : Nat → List AV} (hb : n * 1 ≤ 140737488355328) (id : Nat) :
    FnC Tryz.prog 141 [.lst 1 n g] [] (fun r F' => ∃ x, r = .ref id x ∧ F' = [(id, .own x 5 1 n g)]) := by
  refine FnC.intro Tryz.func141 rfl Tryz.ntmps141 rfl ?_; intro off w0
  ((repeat refine S.seq ?_); refine wG (k := ?_); try (refine L.nil ?_))
  repeat refine S.seq ?_
  refine S.region (L.run (T := tt) 1 tt_ok rfl rfl (by exact sd) ?_)
  refine L.isNil (T := tt) tt_ok rfl rfl rfl rfl rfl rfl trivial fun b h0 => L.nil ?_
  ((repeat refine S.seq ?_); refine S.cond rfl (fun h => ?_) (fun h => ?_) <;> (try first | refine S.skip ?_ | refine S.exit ?_))
  · ((repeat refine S.seq ?_); refine wG (k := ?_); try (refine L.nil ?_))
    have hn := h0 h
    subst hn
    exact S.ret (nilRow id 5 1 g (E.ret (T := tt) tt_ok rfl rfl (by exact sd) (Imp.vref rfl) (List.Sublist.refl _) ⟨_, rfl, rfl⟩))
  · repeat refine S.seq ?_
    refine S.region (L.buildSlice (T := tt) 0 tt_ok rfl rfl rfl rfl rfl rfl (by decide) (by decide) rfl rfl (by exact sd) fun x => ?_)
    refine L.run (T := tt) 1 tt_ok rfl rfl (by exact sd) ?_
    refine L.append (T := tt) tt_ok rfl rfl rfl rfl rfl rfl rfl rfl rfl rfl (by exact sd) ⟨rfl, by decide, by decide⟩ (by simpa using hb) fun x1 => ?_
    (refine wL (k := ?_); try (refine L.nil ?_))
    refine S.ret (rowsEq [(0, .own x1 5 1 n g)] (by simp [setF, joinG_zero]) (renum [(id, .own x1 5 1 n g)] 2 (.ref id x1) rfl rfl Imp.ref ?_))
    exact E.ret (T := tt) tt_ok rfl rfl (by exact sd) (Imp.refl _) (List.Sublist.refl _) ⟨_, rfl, rfl⟩

end Go.Proofs.YtbogfmgfafdjiaaGreatDoor

/- A log: records, what waits, what is synced (seg). -/
namespace Go.Proofs.YtbogfmgfafdjiaaGreatDoor
set_option linter.unusedVariables false
set_option linter.unusedSimpArgs false
set_option maxHeartbeats 8000000
open Go.RowKit
set_option maxRecDepth 4000

theorem app_g {α : Type} [Inhabited α] (f : α → List AV) (l m : List α) {n : Nat} (h : Nat → List AV) (hn : n = l.length) (hh : ∀ j, j < m.length → h j = gOf f m j) {i : Nat} (hi : i < n + m.length) : joinG n (gOf f l) h i = gOf f (l ++ m) i := by
  subst hn
  unfold joinG gOf
  by_cases hlt : i < l.length
  · rw [if_pos hlt, List.getD_eq_getElem?_getD, List.getD_eq_getElem?_getD, List.getElem?_append_left hlt]
  · rw [if_neg hlt, hh _ (by omega), gOf, List.getD_eq_getElem?_getD, List.getD_eq_getElem?_getD, List.getElem?_append_right (by omega)]
/-- Whether bytes are whole, so far. -/
def sumTo (b : List UInt8) : Nat → Int × Int
  | 0 => (1, 0)
  | k + 1 => ((31 * (sumTo b k).1 + ((b.getD k default).toNat : Nat) + 1) % 65521, ((sumTo b k).2 + (31 * (sumTo b k).1 + ((b.getD k default).toNat : Nat) + 1) % 65521) % 65521)
theorem sumTo_in (b : List UInt8) : ∀ k, 0 ≤ (sumTo b k).1 ∧ (sumTo b k).1 < 65521 ∧ 0 ≤ (sumTo b k).2 ∧ (sumTo b k).2 < 65521
  | 0 => by simp [sumTo]
  | k + 1 => by
    have ih := sumTo_in b k
    rw [sumTo]
    dsimp only
    omega
def sumS (b : List UInt8) : Int := (sumTo b b.length).2 * 65536 + (sumTo b b.length).1
theorem sum_p (b : List UInt8) : PFn Tryz.prog 228 [bytesL b] (.v (.int .u32 (sumS b))) := by
  refine FnC.intro Tryz.func228 rfl Tryz.ntmps228 rfl ?_; intro off w0
  refine lenAt (sz := 1) (n := b.length) (g := gOf u8C b) 0 rfl fun hn => ?_
  ((repeat refine S.seq ?_); refine wG (k := ?_); try (refine L.nil ?_))
  ((repeat refine S.seq ?_); refine wG (k := ?_); try (refine L.nil ?_))
  ((repeat refine S.seq ?_); refine wG (k := ?_); try (refine L.nil ?_))
  repeat refine S.seq ?_
  refine S.cut (ι := Unit) (fun _ => [(3, .v (.int .u32 (sumTo b b.length).1)), (4, .v (.int .u32 (sumTo b b.length).2))]) (fun _ => []) ?_ ?_
  · refine S.block (S.loop (ι := { k : Nat // k ≤ b.length }) (fun k => [(3, .v (.int .u32 (sumTo b k.1).1)), (4, .v (.int .u32 (sumTo b k.1).2)), (7, bytesL b), (8, .v (.int .i64 b.length)), (9, .v (.int .i64 k.1))]) (fun _ => []) (fun k => b.length - k.1) ?_ ?_)
    · exact fun a w h => ⟨⟨0, Nat.zero_le _⟩, h.weakP (by (repeat' (first | exact True.intro | exact Imp.refl _ | refine ⟨?_, ?_⟩))) (by (repeat (first | exact Sub.refl _ | refine Sub.pick (by first | exact p0 | exact pS p0 | exact pS (pS p0) | exact pS (pS (pS p0)) | exact pS (pS (pS (pS p0))) | exact pS (pS (pS (pS (pS p0))))) ?_)))⟩
    rintro ⟨k, hk⟩
    dsimp only
    have hin := sumTo_in b k
    have hin2 := sumTo_in b (k + 1)
    have hc := (b.getD k default).toNat_lt
    obtain ⟨x, hx⟩ : ∃ x, x = (sumTo b k).1 := ⟨_, rfl⟩
    obtain ⟨y, hy⟩ : ∃ y, y = (sumTo b k).2 := ⟨_, rfl⟩
    have e1 : (sumTo b (k + 1)).1 = (31 * x + ((b.getD k default).toNat : Nat) + 1) % 65521 := by rw [sumTo, ← hx]
    have e2 : (sumTo b (k + 1)).2 = (y + (sumTo b (k + 1)).1) % 65521 := by rw [e1, sumTo, ← hx, ← hy]
    rw [← hx, ← hy] at hin ⊢
    obtain ⟨c, hcc⟩ : ∃ c : Int, c = ((b.getD k default).toNat : Nat) := ⟨_, rfl⟩
    ((repeat refine S.seq ?_); refine wG (k := ?_); try (refine L.nil ?_))
    ((repeat refine S.seq ?_); refine S.cond rfl (fun h1 => ?_) (fun h1 => ?_) <;> (try first | refine S.skip ?_ | refine S.exit ?_))
    · have h1 : k < b.length := by have := of_dec h1; omega
      repeat refine S.seq ?_
      refine S.block ?_
      ((repeat refine S.seq ?_); refine wG (k := ?_); try (refine L.nil ?_))
      ((repeat refine S.seq ?_); refine wG (k := ?_); try (refine L.nil ?_))
      refine slotAs 3 (.v (.int .u32 (sumTo b (k + 1)).1)) rfl (Imp.of_eq ?_) ?_
      · have e3 : ∀ z, IntKind.u32.wrap z = z % 4294967296 := fun _ => rfl
        have : (IntKind.u32.wrap (IntKind.u32.wrap (IntKind.u32.wrap (31 * x) + IntKind.u32.wrap (((b.getD (k : Int).toNat default).toNat : Nat) : Int)) + 1)).tmod 65521 = (sumTo b (k + 1)).1 := by
          have hc2 : 0 ≤ c ∧ c < 256 := by omega
          have q1 : 31 * x % 4294967296 = 31 * x := Int.emod_eq_of_lt (by omega) (by omega)
          have q2 : c % 4294967296 = c := Int.emod_eq_of_lt (by omega) (by omega)
          have q3 : (31 * x + c) % 4294967296 = 31 * x + c := Int.emod_eq_of_lt (by omega) (by omega)
          have q4 : (31 * x + c + 1) % 4294967296 = 31 * x + c + 1 := Int.emod_eq_of_lt (by omega) (by omega)
          rw [Int.toNat_natCast, ← hcc, e1, ← hcc, e3, e3, e3, e3, q1, q2, q3, q4, Int.tmod_eq_emod_of_nonneg (by omega)]
        rw [← this]
      ((repeat refine S.seq ?_); refine wG (k := ?_); try (refine L.nil ?_))
      refine slotAs 4 (.v (.int .u32 (sumTo b (k + 1)).2)) rfl (Imp.of_eq ?_) ?_
      · have e3 : ∀ z, IntKind.u32.wrap z = z % 4294967296 := fun _ => rfl
        have : (IntKind.u32.wrap (y + (sumTo b (k + 1)).1)).tmod 65521 = (sumTo b (k + 1)).2 := by
          rw [e2, e3, Int.tmod_eq_emod_of_nonneg (by omega)]
          omega
        rw [← this]
      ((repeat refine S.seq ?_); refine wG (k := ?_); try (refine L.nil ?_))
      exact fun a w hR => ⟨⟨k + 1, h1⟩, by show b.length - (k + 1) < b.length - k; omega, hR.weakP (by (repeat' (first | exact True.intro | exact Imp.refl _ | refine ⟨?_, ?_⟩))) (by (repeat (first | exact Sub.refl _ | refine Sub.pick (by first | exact p0 | exact pS p0 | exact pS (pS p0) | exact pS (pS (pS p0)) | exact pS (pS (pS (pS p0))) | exact pS (pS (pS (pS (pS p0))))) ?_)))⟩
    have h1 : k = b.length := by have := of_dec' h1; omega
    subst h1
    rw [hx, hy]
    exact fun a w hR => ⟨(), hR.weakP (by (repeat' (first | exact True.intro | exact Imp.refl _ | refine ⟨?_, ?_⟩))) (by (repeat (first | exact Sub.refl _ | refine Sub.pick (by first | exact p0 | exact pS p0 | exact pS (pS p0) | exact pS (pS (pS p0)) | exact pS (pS (pS (pS p0))) | exact pS (pS (pS (pS (pS p0))))) ?_)))⟩
  intro _
  have hin := sumTo_in b b.length
  ((repeat refine S.seq ?_); refine wG (k := ?_); try (refine L.nil ?_))
  (((repeat refine S.seq ?_); refine S.ret ?_); refine wRt (k := Imp.of_eq ?_))
  have e3 : ∀ z, IntKind.u32.wrap z = z % 4294967296 := fun _ => rfl
  have e4 : ∀ z : Int, z * 2 ^ min 16 32 = z * 65536 := fun _ => rfl
  have : IntKind.u32.wrap (IntKind.u32.wrap ((sumTo b b.length).2 * 2 ^ min 16 32) + (sumTo b b.length).1) = sumS b := by
    rw [e4, sumS, e3, e3]
    omega
  rw [← this]
  rfl
/-- A record of bytes. -/
def headL (b : List UInt8) : List UInt8 := [by8 ((b.length : Int).fdiv 256), by8 b.length, by8 ((sumS b).fdiv 16777216), by8 ((sumS b).fdiv 65536), by8 ((sumS b).fdiv 256), by8 (sumS b)]
def recB (b : List UInt8) : List UInt8 := headL b ++ b
theorem recB_len (b : List UInt8) : (recB b).length = b.length + 6 := by rw [recB, List.length_append]; simp [headL]; omega
theorem record_p (b : List UInt8) (h0 : 1 ≤ b.length) (h1 : b.length ≤ 20000) : PFn Tryz.prog 147 [bytesL b] (.tup [bytesL (recB b), .v (.int .i64 0)]) := by
  refine FnC.intro Tryz.func147 rfl Tryz.ntmps147 rfl ?_; intro off w0
  ((repeat refine S.seq ?_); refine wG (k := ?_); try (refine L.nil ?_))
  ((repeat refine S.seq ?_); refine wG (k := ?_); try (refine L.nil ?_))
  ((repeat refine S.seq ?_); refine wG (k := ?_); try (refine L.nil ?_))
  ((repeat refine S.seq ?_); refine S.cond rfl (fun hc => ?_) (fun hc => ?_) <;> (try first | refine S.skip ?_ | refine S.exit ?_))
  · rw [Bool.or_eq_true, decide_eq_true_eq, decide_eq_true_eq] at hc
    omega
  repeat refine S.seq ?_
  refine S.region ?_
  (refine wL (k := ?_); try (refine L.nil ?_))
  refine wP ((sum_p b)) (k := ?_)
  (refine wL (k := ?_); try (refine L.nil ?_))
  obtain ⟨s, hs⟩ : ∃ s, s = sumS b := ⟨_, rfl⟩
  rw [← hs]
  repeat refine S.seq ?_
  refine S.region ?_
  (refine wL (k := ?_); try (refine L.nil ?_))
  refine slotAs 18 (.v (.int .u8 ((by8 ((b.length : Int).fdiv 256)).toNat : Int))) rfl (Imp.of_eq (by rw [by8_nat]; rfl)) ?_
  refine slotAs 20 (.v (.int .u8 ((by8 (b.length : Int)).toNat : Int))) rfl (Imp.of_eq (by rw [by8_nat]; rfl)) ?_
  refine slotAs 23 (.v (.int .u8 ((by8 (s.fdiv 16777216)).toNat : Int))) rfl (Imp.of_eq (by rw [by8_nat]; rfl)) ?_
  refine slotAs 26 (.v (.int .u8 ((by8 (s.fdiv 65536)).toNat : Int))) rfl (Imp.of_eq (by rw [by8_nat]; rfl)) ?_
  refine slotAs 29 (.v (.int .u8 ((by8 (s.fdiv 256)).toNat : Int))) rfl (Imp.of_eq (by rw [by8_nat]; rfl)) ?_
  refine slotAs 31 (.v (.int .u8 ((by8 s).toNat : Int))) rfl (Imp.of_eq (by rw [by8_nat]; rfl)) ?_
  refine wF 60 (k := fun x32 => ?_)
  refine ownAs 60 (n' := 6) (gOf u8C (headL b)) rfl rfl (fun i hi => ?_) ?_
  · have hi : i < 6 := hi
    have : i = 0 ∨ i = 1 ∨ i = 2 ∨ i = 3 ∨ i = 4 ∨ i = 5 := by omega
    rcases this with rfl | rfl | rfl | rfl | rfl | rfl
    all_goals (rw [hs]; rfl)
  (refine wL (k := ?_); try (refine L.nil ?_))
  refine wY (k := fun y34 => ?_)
  refine ownAs 60 (n' := (recB b).length) (gOf u8C (recB b)) rfl (show 6 + b.length = (recB b).length by rw [recB_len]; omega) (fun i hi => by rw [recB]; exact app_g u8C (headL b) b _ rfl (fun j hj => rfl) hi) ?_
  (refine wL (k := ?_); try (refine L.nil ?_))
  refine freezeSlot 2 60 rfl rfl rfl ?_
  (((repeat refine S.seq ?_); refine S.ret ?_); refine wRt (k := ?_))
  exact Imp.refl _

/-- A log of one's own: what is synced, what waits. -/
noncomputable def logR (b : Nat) (y z : Value) (s w : List UInt8) : Rows := [(70, .blk b 246 [.ref 71 y, .ref 72 z, .v (.bool false)]), (71, .own y 5 1 s.length (gOf u8C s)), (72, .own z 5 1 w.length (gOf u8C w))]
theorem logput_p (lb : Nat) (y z : Value) (s w b : List UInt8) (h0 : 1 ≤ b.length) (h1 : b.length ≤ 20000) (hw : w.length ≤ 1000000) : FnC Tryz.prog 87 [.ptr 70 lb 0, bytesL b] (logR lb y z s w)
    (fun r F' => ∃ z', r = .v (.int .i64 0) ∧ F' = logR lb y z' s (w ++ recB b)) := by
  have hrl := recB_len b
  unfold logR
  refine FnC.intro Tryz.func87 rfl Tryz.ntmps87 rfl ?_; intro off w0
  ((repeat refine S.seq ?_); refine wG (k := ?_); try (refine L.nil ?_))
  ((repeat refine S.seq ?_); refine wG (k := ?_); try (refine L.nil ?_))
  ((repeat refine S.seq ?_); refine S.cond rfl (fun hc => ?_) (fun hc => ?_) <;> (try first | refine S.skip ?_ | refine S.exit ?_))
  · cases hc
  repeat refine S.seq ?_
  refine S.region ?_
  (refine wL (k := ?_); try (refine L.nil ?_))
  refine wP ((record_p b h0 h1)) (k := ?_)
  (refine wL (k := ?_); try (refine L.nil ?_))
  repeat refine S.seq ?_
  refine S.region ?_
  (refine wL (k := ?_); try (refine L.nil ?_))
  refine wY (k := fun z2 => ?_)
  refine ownAs 72 (n' := (w ++ recB b).length) (gOf u8C (w ++ recB b)) rfl (show w.length + (recB b).length = (w ++ recB b).length by simp) (fun i hi => app_g u8C w (recB b) _ rfl (fun j hj => rfl) hi) ?_
  (refine wL (k := ?_); try (refine L.nil ?_))
  refine wS (k := ?_)
  refine L.nil ?_
  ((repeat refine S.seq ?_); refine wG (k := ?_); try (refine L.nil ?_))
  ((repeat refine S.seq ?_); refine S.ret ?_)
  exact E.ret (T := tt) tt_ok rfl rfl (by exact sd) (F' := logR lb y z2 s (w ++ recB b)) (Imp.refl _) (by unfold logR; (repeat (first | exact List.nil_sublist _ | refine List.Sublist.cons_cons _ ?_ | refine List.Sublist.cons _ ?_))) ⟨z2, rfl, rfl⟩
theorem logsync_p (lb : Nat) (y z : Value) (s w : List UInt8) (hs : s.length ≤ 1000000) (hw : w.length ≤ 1000000) : FnC Tryz.prog 88 [.ptr 70 lb 0] (logR lb y z s w)
    (fun r F' => ∃ y' z', r = .tup [] ∧ F' = logR lb y' z' (s ++ w) []) := by
  unfold logR
  refine FnC.intro Tryz.func88 rfl Tryz.ntmps88 rfl ?_; intro off w0
  ((repeat refine S.seq ?_); refine wG (k := ?_); try (refine L.nil ?_))
  ((repeat refine S.seq ?_); refine S.cond rfl (fun hc => ?_) (fun hc => ?_) <;> (try first | refine S.skip ?_ | refine S.exit ?_))
  · cases hc
  ((repeat refine S.seq ?_); refine wG (k := ?_); try (refine L.nil ?_))
  ((repeat refine S.seq ?_); refine S.cond rfl (fun hc2 => ?_) (fun hc2 => ?_) <;> (try first | refine S.skip ?_ | refine S.exit ?_))
  · cases hc2
  repeat refine S.seq ?_
  refine S.draw [(4, [70]), (8, [70])] mixed ?_
  refine wT [0, 1, 2, 3, 4, 5, 6, 7, 8] (k := ?_)
  refine wHY 9 (k := fun y9 => ?_)
  refine wT [10, 11] (k := ?_)
  refine wHS 12 (k := ?_)
  refine wD (k := ?_)
  refine ownAs 71 (n' := (s ++ w).length) (gOf u8C (s ++ w)) rfl (show s.length + w.length = (s ++ w).length by simp) (fun i hi => app_g u8C s w _ rfl (fun j hj => rfl) hi) ?_
  repeat refine S.seq ?_
  refine S.region ?_
  (refine wL (k := ?_); try (refine L.nil ?_))
  refine wS (k := ?_)
  (refine wL (k := ?_); try (refine L.nil ?_))
  refine wS (k := ?_)
  refine L.nil ?_
  refine rowsTo [(70, .blk lb 246 [.ref 71 y9, .v (.slice none 0 0), .v (.bool false)]), (71, .own y9 5 1 (s ++ w).length (gOf u8C (s ++ w)))] (by (repeat (first | exact Sub.refl _ | refine Sub.pick (by first | exact p0 | exact pS p0 | exact pS (pS p0) | exact pS (pS (pS p0)) | exact pS (pS (pS (pS p0))) | exact pS (pS (pS (pS (pS p0))))) ?_))) ?_
  refine nilRow 72 5 1 (gOf u8C []) ?_
  refine blkAs 70 [.ref 71 y9, .ref 72 (.slice none 0 0), .v (.bool false)] rfl ⟨Imp.refl _, Imp.vref rfl, Imp.refl _, trivial⟩ ?_
  refine rowsTo (logR lb y9 (.slice none 0 0) (s ++ w) []) (by unfold logR; (repeat (first | exact Sub.refl _ | refine Sub.pick (by first | exact p0 | exact pS p0 | exact pS (pS p0) | exact pS (pS (pS p0)) | exact pS (pS (pS (pS p0))) | exact pS (pS (pS (pS (pS p0))))) ?_))) ?_
  exact E.fall (T := tt) tt_ok rfl rfl (by exact sd) (F' := logR lb y9 (.slice none 0 0) (s ++ w) []) (Imp.refl _) (List.Sublist.refl _) ⟨y9, _, rfl, rfl⟩
theorem read0_p : PFn Tryz.prog 140 [bytesL []] (.tup [.v (.slice none 0 0), .v (.int .i64 0)]) := by
  refine FnC.intro Tryz.func140 rfl Tryz.ntmps140 rfl ?_; intro off w0
  ((repeat refine S.seq ?_); refine wG (k := ?_); try (refine L.nil ?_))
  repeat refine S.seq ?_
  refine S.scopeE 0 (ι := Unit) (fun _ => [(0, .lst 1 0 (gOf u8C [])), (4, .v (.slice none 0 0)), (5, .v (.int .i64 0))]) (fun _ => []) (fun _ => 0) rfl ?_ ?_
  · intro _ J hJ
    ((repeat refine S.seq ?_); refine wG (k := ?_); try (refine L.nil ?_))
    ((repeat refine S.seq ?_); refine S.cond rfl (fun h1 => ?_) (fun h1 => ?_) <;> (try first | refine S.skip ?_ | refine S.exit ?_))
    · ((repeat refine S.seq ?_); refine wG (k := ?_); try (refine L.nil ?_))
      (((repeat refine S.seq ?_); refine S.ret ?_); refine wRt (k := ?_))
      exact Imp.refl _
    cases h1
  · intro hp
    ((repeat refine S.seq ?_); refine wG (k := ?_); try (refine L.nil ?_))
    ((repeat refine S.seq ?_); refine wG (k := ?_); try (refine L.nil ?_))
    repeat refine S.seq ?_
    refine S.label ?_
    exact fun a w hR => hp () a w (hR.weakP (by (repeat' (first | exact True.intro | exact Imp.refl _ | refine ⟨?_, ?_⟩))) (by (repeat (first | exact Sub.refl _ | refine Sub.pick (by first | exact p0 | exact pS p0 | exact pS (pS p0) | exact pS (pS (pS p0)) | exact pS (pS (pS (pS p0))) | exact pS (pS (pS (pS (pS p0))))) ?_))))
theorem open0_p : FnC Tryz.prog 85 [.v (.slice none 0 0)] [] (fun r F' => ∃ lb y z, r = .tup [.ptr 70 lb 0, .v (.slice none 0 0)] ∧ F' = logR lb y z [] []) := by
  refine FnC.intro Tryz.func85 rfl Tryz.ntmps85 rfl ?_; intro off w0
  ((repeat refine S.seq ?_); refine wG (k := ?_); try (refine L.nil ?_))
  refine slotAs 0 (bytesL []) rfl (Imp.nil _ _) ?_
  repeat refine S.seq ?_
  refine S.region ?_
  (refine wL (k := ?_); try (refine L.nil ?_))
  refine wP (read0_p) (k := ?_)
  (refine wL (k := ?_); try (refine L.nil ?_))
  repeat refine S.seq ?_
  refine S.region ?_
  (refine wL (k := ?_); try (refine L.nil ?_))
  refine L.call (G := []) (H := []) rfl rfl rfl rfl rfl rfl rfl ⟨trivial, by exact sd⟩ rfl (by exact (⟨Imp.lst rfl (fun i hi => rfl), trivial⟩ : Imps [_] [.lst 1 0 (gOf u8C [])])) (List.Perm.refl _) (ClnB (n := 0) (g := gOf u8C []) (by decide) 71) ?_
  rintro r F' ⟨x, rfl, rfl⟩
  (refine wL (k := ?_); try (refine L.nil ?_))
  refine wB 70 (k := fun b16 => ?_)
  (refine wL (k := ?_); try (refine L.nil ?_))
  refine nilRow 72 5 1 (gOf u8C []) ?_
  refine blkAs 70 [.ref 71 x, .ref 72 (.slice none 0 0), .v (.bool false)] rfl ⟨Imp.refl _, Imp.vref rfl, Imp.refl _, trivial⟩ ?_
  refine rowsTo (logR b16 x (.slice none 0 0) [] []) (by unfold logR; (repeat (first | exact Sub.refl _ | refine Sub.pick (by first | exact p0 | exact pS p0 | exact pS (pS p0) | exact pS (pS (pS p0)) | exact pS (pS (pS (pS p0))) | exact pS (pS (pS (pS (pS p0))))) ?_))) ?_
  ((repeat refine S.seq ?_); refine S.ret ?_)
  exact E.ret (T := tt) tt_ok rfl rfl (by exact sd) (F' := logR b16 x (.slice none 0 0) [] []) (Imp.refl _) (List.Sublist.refl _) ⟨b16, x, _, rfl, rfl⟩
end Go.Proofs.YtbogfmgfafdjiaaGreatDoor

/- Tables as bytes: the walk of Put. -/
namespace Go.Proofs.YtbogfmgfafdjiaaGreatDoor
set_option linter.unusedVariables false
set_option linter.unusedSimpArgs false
set_option maxHeartbeats 8000000
open Go.RowKit
set_option maxRecDepth 4000

theorem num_p (y : Value) (l : List UInt8) (n : Int) (k : Nat) (hk : k ≤ 8) (hl : l.length ≤ 100000) : FnC Tryz.prog 148 [.ref 31 y, .v (.int .u64 n), .v (.int .i64 k)] [(31, .own y 5 1 l.length (gOf u8C l))]
    (fun r F' => ∃ z, r = .ref 31 z ∧ F' = [(31, .own z 5 1 (l ++ numL n k).length (gOf u8C (l ++ numL n k)))]) := by
  refine FnC.intro Tryz.func148 rfl Tryz.ntmps148 rfl ?_; intro off w0
  ((repeat refine S.seq ?_); refine wG (k := ?_); try (refine L.nil ?_))
  ((repeat refine S.seq ?_); refine wG (k := ?_); try (refine L.nil ?_))
  repeat refine S.seq ?_
  refine S.cut (ι := Value) (fun z => [(0, .ref 31 z)]) (fun z => [(31, .own z 5 1 (l ++ numL n k).length (gOf u8C (l ++ numL n k)))]) ?_ ?_
  · repeat refine S.seq ?_
    refine S.block (S.loop (ι := { q : Nat × Value × List UInt8 // q.1 ≤ k ∧ q.2.2 ++ numL n q.1 = l ++ numL n k }) (fun q => [(0, .ref 31 q.1.2.1), (1, .v (.int .u64 n)), (2, .v (.int .i64 ((q.1.1 : Int) - 1)))]) (fun q => [(31, .own q.1.2.1 5 1 q.1.2.2.length (gOf u8C q.1.2.2))]) (fun q => q.1.1) ?_ ?_)
    · exact fun a' w h => ⟨⟨(k, y, l), Nat.le_refl _, rfl⟩, h.weakP (by (repeat' (first | exact True.intro | exact Imp.refl _ | refine ⟨?_, ?_⟩))) (Sub.self _)⟩
    rintro ⟨⟨j, y, m⟩, hj, hm⟩
    dsimp only at hj hm ⊢
    have hlen := congrArg List.length hm
    rw [List.length_append, List.length_append, numL_len, numL_len] at hlen
    ((repeat refine S.seq ?_); refine wG (k := ?_); try (refine L.nil ?_))
    ((repeat refine S.seq ?_); refine S.cond rfl (fun hc => ?_) (fun hc => ?_) <;> (try first | refine S.skip ?_ | refine S.exit ?_))
    · have hj1 : 1 ≤ j := by have := of_dec hc; omega
      obtain ⟨i, rfl⟩ : ∃ i, j = i + 1 := ⟨j - 1, by omega⟩
      have he : ((i + 1 : Nat) : Int) - 1 = i := by omega
      repeat refine S.seq ?_
      refine S.block ?_
      refine slotAs 2 (.v (.int .i64 i)) rfl (Imp.of_eq (by rw [he])) ?_
      repeat refine S.seq ?_
      refine S.region ?_
      have hw : IntKind.u64.wrap (8 * (i : Int)) = 8 * i := by
        show _ % (18446744073709551616 : Int) = _
        omega
      (refine wL (k := ?_); try (refine L.nil ?_))
      refine slotAs 19 (.v (.int .u8 ((byteOf n i).toNat : Int))) rfl (Imp.of_eq ?_) ?_
      · rw [show IntKind.u64.wrap (8 * (i : Int)) = 8 * i from hw]
        have hm2 : min (8 * (i : Int)).toNat IntKind.u64.bits = 8 * i := by
          show min _ 64 = _
          omega
        rw [hm2, wrap_u8, byteOf]
      refine wF 32 (k := fun x20 => ?_)
      refine wY (k := fun y21 => ?_)
      refine ownAs 31 (gOf u8C (m ++ [byteOf n i])) rfl (show m.length + 1 = (m ++ [byteOf n i]).length by simp) (fun q hq => app1_h u8C m (byteOf n i) _ rfl rfl hq) ?_
      (refine wL (k := ?_); try (refine L.nil ?_))
      ((repeat refine S.seq ?_); refine wG (k := ?_); try (refine L.nil ?_))
      exact fun a' w h => ⟨⟨(i, y21, m ++ [byteOf n i]), by show i ≤ k; omega, by show m ++ [byteOf n i] ++ numL n i = _; rw [List.append_assoc]; exact hm⟩, by show i < i + 1; omega, h.weakP (by (repeat' (first | exact True.intro | exact Imp.refl _ | refine ⟨?_, ?_⟩))) (by (repeat (first | exact Sub.refl _ | refine Sub.pick (by first | exact p0 | exact pS p0 | exact pS (pS p0) | exact pS (pS (pS p0)) | exact pS (pS (pS (pS p0))) | exact pS (pS (pS (pS (pS p0))))) ?_)))⟩
    have hj0 : j = 0 := by have := of_dec' hc; omega
    subst hj0
    have hm' : m = l ++ numL n k := by rw [← hm]; exact (List.append_nil m).symm
    rw [← hm']
    exact fun a' w h => ⟨y, h.weakP (by (repeat' (first | exact True.intro | exact Imp.refl _ | refine ⟨?_, ?_⟩))) (Sub.self _)⟩
  intro z
  ((repeat refine S.seq ?_); refine wG (k := ?_); try (refine L.nil ?_))
  ((repeat refine S.seq ?_); refine S.ret ?_)
  exact E.ret (T := tt) tt_ok rfl rfl (by exact sd) (F' := [(31, .own z 5 1 (l ++ numL n k).length (gOf u8C (l ++ numL n k)))]) (Imp.refl _) (List.Sublist.refl _) ⟨z, rfl, rfl⟩

theorem byteseq_p (a b : List UInt8) : PFn Tryz.prog 215 [bytesL a, bytesL b] (.v (.bool (strL a == strL b))) := by
  refine FnC.intro Tryz.func215 rfl Tryz.ntmps215 rfl ?_; intro off w0
  ((repeat refine S.seq ?_); refine wG (k := ?_); try (refine L.nil ?_))
  ((repeat refine S.seq ?_); refine wG (k := ?_); try (refine L.nil ?_))
  refine L.toStr (T := tt) (m := a.length) (g2 := gOf u8C a) tt_ok rfl rfl rfl rfl rfl rfl rfl rfl rfl (by exact sd) (strL_size a).symm (fun i hi => strL_g a hi) ?_
  (refine wL (k := ?_); try (refine L.nil ?_))
  refine L.toStr (T := tt) (m := b.length) (g2 := gOf u8C b) tt_ok rfl rfl rfl rfl rfl rfl rfl rfl rfl (by exact sd) (strL_size b).symm (fun i hi => strL_g b hi) ?_
  (refine wL (k := ?_); try (refine L.nil ?_))
  ((repeat refine S.seq ?_); refine S.ret ?_)
  exact E.retP (T := tt) tt_ok rfl rfl (by exact sd) (Imp.refl _)

/-- A number of so many bytes, and what is behind. -/
def takeV (b : List UInt8) (k : Nat) : Int := if b.length < k then 0 else (b.take k).foldl accS 0
def takeR (b : List UInt8) (k : Nat) : List UInt8 := if b.length < k then [] else b.drop k
theorem take_p (b : List UInt8) (k : Nat) (hk : k ≤ 8) : PFn Tryz.prog 227 [bytesL b, .v (.int .i64 k)] (.tup [.v (.int .i64 (takeV b k)), bytesL (takeR b k)]) := by
  refine FnC.intro Tryz.func227 rfl Tryz.ntmps227 rfl ?_; intro off w0
  refine lenAt (sz := 1) (n := b.length) (g := gOf u8C b) 0 rfl fun hn => ?_
  ((repeat refine S.seq ?_); refine wG (k := ?_); try (refine L.nil ?_))
  ((repeat refine S.seq ?_); refine wG (k := ?_); try (refine L.nil ?_))
  ((repeat refine S.seq ?_); refine wG (k := ?_); try (refine L.nil ?_))
  ((repeat refine S.seq ?_); refine S.cond rfl (fun h1 => ?_) (fun h1 => ?_) <;> (try first | refine S.skip ?_ | refine S.exit ?_))
  · have h1 : b.length < k := by have := of_dec h1; omega
    ((repeat refine S.seq ?_); refine wG (k := ?_); try (refine L.nil ?_))
    (((repeat refine S.seq ?_); refine S.ret ?_); refine wRt (k := ?_))
    rw [takeV, takeR, if_pos h1, if_pos h1]
    exact Imp.tup ⟨Imp.refl _, Imp.nil _ _, trivial⟩
  have h1 : ¬ b.length < k := by have := of_dec' h1; omega
  obtain ⟨l, hl⟩ : ∃ l, l = b.take k := ⟨_, rfl⟩
  have hll : l.length = k := by rw [hl, List.length_take]; omega
  ((repeat refine S.seq ?_); refine wG (k := ?_); try (refine L.nil ?_))
  refine slotAs 15 (bytesL l) rfl (Imp.lst (by rw [hll]; omega) (fun i hi => by rw [hl]; exact take_gg u8C b (by omega))) ?_
  refine slotAs 16 (.v (.int .i64 l.length)) rfl (Imp.of_eq (by rw [hll]; rfl)) ?_
  repeat refine S.seq ?_
  refine S.cut (ι := Unit) (fun _ => [(0, bytesL b), (1, .v (.int .i64 k)), (6, .v (.int .i64 (l.foldl accS 0)))]) (fun _ => []) ?_ ?_
  · refine S.block (S.loop (ι := { q : Nat // q ≤ l.length }) (fun q => [(0, bytesL b), (1, .v (.int .i64 k)), (6, .v (.int .i64 ((l.take q.1).foldl accS 0))), (15, bytesL l), (16, .v (.int .i64 l.length)), (17, .v (.int .i64 q.1))]) (fun q => []) (fun q => l.length - q.1) ?_ ?_)
    · exact fun a' w h => ⟨⟨0, Nat.zero_le _⟩, h.weakP (by (repeat' (first | exact True.intro | exact Imp.refl _ | refine ⟨?_, ?_⟩))) (Sub.self _)⟩
    rintro ⟨q, hq⟩
    dsimp only
    ((repeat refine S.seq ?_); refine wG (k := ?_); try (refine L.nil ?_))
    ((repeat refine S.seq ?_); refine S.cond rfl (fun hc => ?_) (fun hc => ?_) <;> (try first | refine S.skip ?_ | refine S.exit ?_))
    · have hql : q < l.length := by have := of_dec hc; omega
      have hts : (l.take (q + 1)).foldl accS 0 = accS ((l.take q).foldl accS 0) (l.getD q default) := by
        rw [List.take_add_one, List.getElem?_eq_getElem hql, List.foldl_append, getD_get hql]
        rfl
      repeat refine S.seq ?_
      refine S.block ?_
      ((repeat refine S.seq ?_); refine wG (k := ?_); try (refine L.nil ?_))
      ((repeat refine S.seq ?_); refine wG (k := ?_); try (refine L.nil ?_))
      refine slotAs 6 (.v (.int .i64 ((l.take (q + 1)).foldl accS 0))) rfl (Imp.of_eq (by rw [hts]; rfl)) ?_
      ((repeat refine S.seq ?_); refine wG (k := ?_); try (refine L.nil ?_))
      exact fun a' w h => ⟨⟨q + 1, hql⟩, by show l.length - (q + 1) < l.length - q; omega, h.weakP (by (repeat' (first | exact True.intro | exact Imp.refl _ | refine ⟨?_, ?_⟩))) (Sub.self _)⟩
    have hq' : q = l.length := by have := of_dec' hc; omega
    subst hq'
    exact fun a' w h => ⟨(), (slotAs (K := R _ _ _) 6 (.v (.int .i64 (l.foldl accS 0))) rfl (Imp.of_eq (by rw [List.take_length])) (fun _ _ h => h) a' w h).weakP (by (repeat' (first | exact True.intro | exact Imp.refl _ | refine ⟨?_, ?_⟩))) (Sub.self _)⟩
  intro _
  repeat refine S.seq ?_
  refine S.draw [] mixed ?_
  refine wT [0, 1, 2, 3, 4, 5] (k := ?_)
  refine wD (k := ?_)
  (((repeat refine S.seq ?_); refine S.ret ?_); refine wRt (k := ?_))
  rw [takeV, takeR, if_neg h1, if_neg h1, ← hl]
  exact Imp.tup ⟨Imp.refl _, Imp.lst (by rw [List.length_drop]; omega) (fun i hi => drop_g u8C b k i), trivial⟩
end Go.Proofs.YtbogfmgfafdjiaaGreatDoor
