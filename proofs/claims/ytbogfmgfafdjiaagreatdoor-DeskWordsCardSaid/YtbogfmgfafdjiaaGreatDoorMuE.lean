/- Texts of this proof, laid together: TbH, SymLab, TbI, TbJ, DkN, KeyPlc, DkO, DkP, KeyAut, AuA, TbB, ClnTab, KeySnd, DkQ, SymBor, SymArg, JdK, DkR, AuB, DelOut, DlOut, AuC, DkT, SymIdx, DkU. -/
import Derived.Test.YtbogfmgfafdjiaaGreatDoorMuD
import Derived.Test.YtbogfmgfafdjiaaGreatDoorMuB
import Derived.ScopeJumps
import Derived.Test.YtbogfmgfafdjiaaGreatDoorMuC
import Derived.Test.YtbogfmgfafdjiaaGreatDoorMuA
import Derived.Test.YtbogfmgfafdjiaaGreatDoorRows
/- Tables as bytes: the walk of Put. -/
namespace Go.Proofs.YtbogfmgfafdjiaaGreatDoor
set_option linter.unusedVariables false
set_option linter.unusedSimpArgs false
set_option maxHeartbeats 8000000
open Go.RowKit
set_option maxRecDepth 4000

def noTo (l : List Int) : Nat → List UInt8
  | 0 => []
  | k + 1 => noTo l k ++ [by8 (l.getD k 0 + 1)]
def arTo (l : List Arc) : Nat → List UInt8
  | 0 => []
  | k + 1 => arTo l k ++ arB (l.getD k default)
theorem noTo_eq (l : List Int) : ∀ k, k ≤ l.length → noTo l k = noL (l.take k)
  | 0, _ => by rw [List.take_zero]; rfl
  | k + 1, hk => by
    rw [noTo, noTo_eq l k (by omega), List.take_succ_eq_append_getElem (show k < l.length by omega), List.getD_eq_getElem?_getD, List.getElem?_eq_getElem (show k < l.length by omega)]
    unfold noL
    rw [List.map_append]
    rfl
theorem arTo_eq (l : List Arc) : ∀ k, k ≤ l.length → arTo l k = arL (l.take k)
  | 0, _ => by rw [List.take_zero]; rfl
  | k + 1, hk => by
    rw [arTo, arTo_eq l k (by omega), List.take_succ_eq_append_getElem (show k < l.length by omega), getD_get (show k < l.length by omega)]
    unfold arL
    rw [List.flatMap_append, List.flatMap_cons, List.flatMap_nil, List.append_nil]
def putO (t : Tab) : List UInt8 := if mayT t = true then putL t else []
def putE (t : Tab) : Int := if mayT t = true then 0 else 1

theorem tabput_p (t : Tab) (hr : in32 t) : PFn Tryz.prog 89 [t.av] (.tup [bytesL (putO t), .v (.int .i64 (putE t))]) := by
  unfold Tab.av
  refine FnC.intro Tryz.func89 rfl Tryz.ntmps89 rfl ?_; intro off w0
  repeat refine S.seq ?_
  refine S.region ?_
  refine wB 1 (k := fun b1 => ?_)
  (refine wL (k := ?_); try (refine L.nil ?_))
  repeat refine S.seq ?_
  refine S.region ?_
  (refine wL (k := ?_); try (refine L.nil ?_))
  refine wP ((tabmay_p t)) (k := ?_)
  (refine wL (k := ?_); try (refine L.nil ?_))
  ((repeat refine S.seq ?_); refine S.cond rfl (fun h1 => ?_) (fun h1 => ?_) <;> (try first | refine S.skip ?_ | refine S.exit ?_))
  · have h1 : mayT t = false := by simpa using h1
    ((repeat refine S.seq ?_); refine wG (k := ?_); try (refine L.nil ?_))
    (((repeat refine S.seq ?_); refine S.ret ?_); refine wRt (k := ?_))
    rw [putO, putE, if_neg (by rw [h1]; decide), if_neg (by rw [h1]; decide)]
    exact Imp.tup ⟨Imp.nil _ _, Imp.refl _, trivial⟩
  have h1 : mayT t = true := by simpa using h1
  have hm := mayT_of h1
  have hep := hm.ep
  have hno := hm.no
  have har := hm.ar.most
  have hnl := numL_len t.ep 4
  have hnl2 := numL_len (t.no.length : Int) 1
  unfold Tab.cells
  refine nilRow 31 5 1 (gOf u8C []) ?_
  repeat refine S.seq ?_
  refine S.draw [(1, [1]), (5, [1])] mixed ?_
  refine wT [0, 1, 2, 4, 5, 6, 7] (k := ?_)
  refine H.call 3 [(31, .own (.slice none 0 0) 5 1 0 (gOf u8C []))] _ rfl (by kernel_rfl) (by kernel_rfl) rfl rfl rfl rfl rfl rfl rfl ⟨trivial, by exact sd⟩ rfl (by exact (⟨Imp.vref rfl, Imp.refl _, Imp.refl _, trivial⟩ : Imps [.v (.slice none 0 0), .v (.int .u64 (IntKind.u64.wrap t.ep)), .v (.int .i64 4)] [.ref 31 (.slice none 0 0), .v (.int .u64 (IntKind.u64.wrap t.ep)), .v (.int .i64 4)])) (List.Perm.refl _) (num_p (.slice none 0 0) [] (IntKind.u64.wrap t.ep) 4 (by omega) (by simp)) (by kernel_rfl) (by kernel_rfl) ?_
  rintro r F' ⟨y, rfl, rfl⟩
  have w1 : IntKind.u64.wrap t.ep = t.ep := u64_id (by omega) (by omega)
  have w2 : IntKind.u64.wrap (t.no.length : Int) = (t.no.length : Int) := u64_id (by omega) (by omega)
  obtain ⟨l1, hl1⟩ : ∃ l1, l1 = [] ++ numL t.ep 4 := ⟨_, rfl⟩
  have hll1 : l1.length = 4 := by rw [hl1]; exact hnl
  rw [w1, ← hl1]
  refine H.call 8 [(31, .own y 5 1 l1.length (gOf u8C l1))] _ rfl (by kernel_rfl) (by kernel_rfl) rfl rfl rfl rfl rfl rfl rfl ⟨trivial, by exact sd⟩ rfl (by exact Imps.refl [.ref 31 y, .v (.int .u64 (IntKind.u64.wrap (t.no.length : Int))), .v (.int .i64 1)]) (List.Perm.refl _) (num_p y l1 (IntKind.u64.wrap (t.no.length : Int)) 1 (by omega) (by omega)) (by kernel_rfl) (by kernel_rfl) ?_
  rintro r F' ⟨y2, rfl, rfl⟩
  obtain ⟨l2, hl2⟩ : ∃ l2, l2 = l1 ++ numL (t.no.length : Int) 1 := ⟨_, rfl⟩
  have hll2 : l2.length = 5 := by rw [hl2, List.length_append, hll1, hnl2]
  rw [w2, ← hl2]
  refine wT [9] (k := ?_)
  refine wD (k := ?_)
  ((repeat refine S.seq ?_); refine wG (k := ?_); try (refine L.nil ?_))
  repeat refine S.seq ?_
  refine S.cut (ι := Value) (fun x => [(1, .ptr 1 b1 0), (4, .ref 31 x)]) (fun x => [(31, .own x 5 1 (l2 ++ noTo t.no t.no.length).length (gOf u8C (l2 ++ noTo t.no t.no.length))), (1, .blk b1 82 [.v (.int .i64 t.ep), arcs t.ar, intW t.no])]) ?_ ?_
  · refine S.block (S.loop (ι := { q : Nat × Value // q.1 ≤ t.no.length }) (fun q => [(1, .ptr 1 b1 0), (4, .ref 31 q.1.2), (22, intW t.no), (23, .v (.int .i64 t.no.length)), (24, .v (.int .i64 q.1.1))])
      (fun q => [(31, .own q.1.2 5 1 (l2 ++ noTo t.no q.1.1).length (gOf u8C (l2 ++ noTo t.no q.1.1))), (1, .blk b1 82 [.v (.int .i64 t.ep), arcs t.ar, intW t.no])]) (fun q => t.no.length - q.1.1) ?_ ?_)
    · exact fun a w h => ⟨⟨(0, y2), Nat.zero_le _⟩, h.weakP (by (repeat' (first | exact True.intro | exact Imp.refl _ | refine ⟨?_, ?_⟩))) (by rw [noTo, List.append_nil]; (repeat (first | exact Sub.refl _ | refine Sub.pick (by first | exact p0 | exact pS p0 | exact pS (pS p0) | exact pS (pS (pS p0)) | exact pS (pS (pS (pS p0))) | exact pS (pS (pS (pS (pS p0))))) ?_)))⟩
    rintro ⟨⟨k, x⟩, hk⟩
    dsimp only at hk ⊢
    obtain ⟨M, hM⟩ : ∃ M, M = l2 ++ noTo t.no k := ⟨_, rfl⟩
    have hml : M.length ≤ 100 := by
      rw [hM, noTo_eq _ _ hk, List.length_append, noL_len, List.length_take]; omega
    rw [← hM]
    ((repeat refine S.seq ?_); refine wG (k := ?_); try (refine L.nil ?_))
    ((repeat refine S.seq ?_); refine S.cond rfl (fun hc => ?_) (fun hc => ?_) <;> (try first | refine S.skip ?_ | refine S.exit ?_))
    · have hk' : k < t.no.length := by have := of_dec hc; omega
      have hnk : -1 ≤ t.no.getD k 0 ∧ t.no.getD k 0 < 4 := hm.nod _ (by rw [List.getD_eq_getElem?_getD, List.getElem?_eq_getElem hk']; exact List.getElem_mem _)
      repeat refine S.seq ?_
      refine S.block ?_
      ((repeat refine S.seq ?_); refine wG (k := ?_); try (refine L.nil ?_))
      repeat refine S.seq ?_
      refine S.region ?_
      (refine wL (k := ?_); try (refine L.nil ?_))
      refine slotAs 31 (.v (.int .u8 ((by8 (t.no.getD k 0 + 1)).toNat : Int))) rfl (Imp.of_eq ?_) ?_
      · rw [by8_nat]; rfl
      refine wF 33 (k := fun x32 => ?_)
      refine wY (k := fun y33 => ?_)
      refine ownAs 31 (gOf u8C (M ++ [by8 (t.no.getD k 0 + 1)])) rfl (show M.length + 1 = (M ++ [by8 (t.no.getD k 0 + 1)]).length by simp) (fun q hq => app1_h u8C M (by8 (t.no.getD k 0 + 1)) _ rfl rfl hq) ?_
      (refine wL (k := ?_); try (refine L.nil ?_))
      ((repeat refine S.seq ?_); refine wG (k := ?_); try (refine L.nil ?_))
      exact fun a w hR => ⟨⟨(k + 1, y33), hk'⟩, by show t.no.length - (k + 1) < t.no.length - k; omega, hR.weakP (by (repeat' (first | exact True.intro | exact Imp.refl _ | refine ⟨?_, ?_⟩))) (by rw [noTo, ← List.append_assoc, ← hM]; (repeat (first | exact Sub.refl _ | refine Sub.pick (by first | exact p0 | exact pS p0 | exact pS (pS p0) | exact pS (pS (pS p0)) | exact pS (pS (pS (pS p0))) | exact pS (pS (pS (pS (pS p0))))) ?_)))⟩
    have hk' : k = t.no.length := by have := of_dec' hc; omega
    subst hk'
    exact fun a w hR => ⟨x, hR.weakP (by (repeat' (first | exact True.intro | exact Imp.refl _ | refine ⟨?_, ?_⟩))) (by rw [hM]; (repeat (first | exact Sub.refl _ | refine Sub.pick (by first | exact p0 | exact pS p0 | exact pS (pS p0) | exact pS (pS (pS p0)) | exact pS (pS (pS (pS p0))) | exact pS (pS (pS (pS (pS p0))))) ?_)))⟩
  intro x
  have hnl3 := numL_len (t.ar.length : Int) 2
  have w3 : IntKind.u64.wrap (t.ar.length : Int) = (t.ar.length : Int) := u64_id (by omega) (by omega)
  obtain ⟨l3, hl3⟩ : ∃ l3, l3 = l2 ++ noTo t.no t.no.length := ⟨_, rfl⟩
  have hll3 : l3.length ≤ 100 := by rw [hl3, noTo_eq _ _ (Nat.le_refl _), List.length_append, noL_len, List.length_take]; omega
  rw [← hl3]
  repeat refine S.seq ?_
  refine S.region ?_
  (refine wL (k := ?_); try (refine L.nil ?_))
  refine L.call (G := [(31, .own x 5 1 l3.length (gOf u8C l3))]) (H := [(1, .blk b1 82 [.v (.int .i64 t.ep), arcs t.ar, intW t.no])]) rfl rfl rfl rfl rfl rfl rfl ⟨trivial, by exact sd⟩ rfl (by exact Imps.refl [.ref 31 x, .v (.int .u64 (IntKind.u64.wrap (t.ar.length : Int))), .v (.int .i64 2)]) (List.Perm.refl _) (num_p x l3 (IntKind.u64.wrap (t.ar.length : Int)) 2 (by omega) (by omega)) ?_
  rintro r F' ⟨y3, rfl, rfl⟩
  obtain ⟨l4, hl4⟩ : ∃ l4, l4 = l3 ++ numL (t.ar.length : Int) 2 := ⟨_, rfl⟩
  have hll4 : l4.length ≤ 102 := by rw [hl4, List.length_append, hnl3]; omega
  rw [w3, ← hl4]
  (refine wL (k := ?_); try (refine L.nil ?_))
  refine rowsEq [(31, .own y3 5 1 l4.length (gOf u8C l4)), (1, .blk b1 82 [.v (.int .i64 t.ep), arcs t.ar, intW t.no])] rfl ?_
  ((repeat refine S.seq ?_); refine wG (k := ?_); try (refine L.nil ?_))
  repeat refine S.seq ?_
  refine S.cut (ι := Value) (fun x => [(4, .ref 31 x)]) (fun x => [(31, .own x 5 1 (l4 ++ arTo t.ar t.ar.length).length (gOf u8C (l4 ++ arTo t.ar t.ar.length)))]) ?_ ?_
  · refine S.block (S.loop (ι := { q : Nat × Value // q.1 ≤ t.ar.length }) (fun q => [(1, .ptr 1 b1 0), (4, .ref 31 q.1.2), (42, arcs t.ar), (43, .v (.int .i64 t.ar.length)), (44, .v (.int .i64 q.1.1))])
      (fun q => [(31, .own q.1.2 5 1 (l4 ++ arTo t.ar q.1.1).length (gOf u8C (l4 ++ arTo t.ar q.1.1)))]) (fun q => t.ar.length - q.1.1) ?_ ?_)
    · exact fun a w h => ⟨⟨(0, y3), Nat.zero_le _⟩, h.weakP (by (repeat' (first | exact True.intro | exact Imp.refl _ | refine ⟨?_, ?_⟩))) (by rw [arTo, List.append_nil]; (repeat (first | exact Sub.refl _ | refine Sub.pick (by first | exact p0 | exact pS p0 | exact pS (pS p0) | exact pS (pS (pS p0)) | exact pS (pS (pS (pS p0))) | exact pS (pS (pS (pS (pS p0))))) ?_)))⟩
    rintro ⟨⟨k, x⟩, hk⟩
    dsimp only at hk ⊢
    obtain ⟨M, hM⟩ : ∃ M, M = l4 ++ arTo t.ar k := ⟨_, rfl⟩
    have hml : M.length ≤ 6000 := by
      rw [hM, arTo_eq _ _ hk, List.length_append, arL_len, List.length_take]; omega
    rw [← hM]
    ((repeat refine S.seq ?_); refine wG (k := ?_); try (refine L.nil ?_))
    ((repeat refine S.seq ?_); refine S.cond rfl (fun hc => ?_) (fun hc => ?_) <;> (try first | refine S.skip ?_ | refine S.exit ?_))
    · have hk' : k < t.ar.length := by have := of_dec hc; omega
      have hin : t.ar.getD k default ∈ t.ar := by rw [getD_get hk']; exact List.getElem_mem _
      obtain ⟨a, ha⟩ : ∃ a, a = t.ar.getD k default := ⟨_, rfl⟩
      have hsh := mayT_fits hm hin
      have hat := hr _ hin
      rw [← ha] at hsh hat
      have hnl5 := numL_len a.at0 4
      have w5 : IntKind.u64.wrap a.at0 = a.at0 := u64_id (by omega) (by omega)
      obtain ⟨M2, hM2⟩ : ∃ M2, M2 = M ++ numL a.at0 4 := ⟨_, rfl⟩
      have hml2 : M2.length ≤ 6004 := by rw [hM2, List.length_append, hnl5]; omega
      repeat refine S.seq ?_
      refine S.block ?_
      repeat refine S.seq ?_
      refine S.region ?_
      (refine wL (k := ?_); try (refine L.nil ?_))
      refine wA 8 (k := fun b8 => ?_)
      refine wS (k := ?_)
      refine L.nil ?_
      refine rowsEq [(8, .blk b8 103 a.cells), (31, .own x 5 1 M.length (gOf u8C M))] (by rw [ha]; rfl) ?_
      unfold Arc.cells
      repeat refine S.seq ?_
      refine S.draw [(2, [8]), (6, [8])] mixed ?_
      refine wT [0, 1, 2, 3, 5, 6, 7] (k := ?_)
      refine H.tell 55 (.v (.int .u8 ((by8 a.shard).toNat : Int))) rfl (Imp.of_eq (by rw [by8_nat]; rfl)) ?_
      refine H.o2 4 8 rfl rfl (by kernel_rfl) (by kernel_rfl) (O.call (G := [(31, .own x 5 1 M.length (gOf u8C M))]) (H := [(8, .blk b8 103 [.v (.int .u32 a.at0), .v (.int .i64 a.shard)])]) rfl rfl rfl rfl rfl rfl rfl ⟨trivial, by exact sd⟩ rfl (by exact Imps.refl [.ref 31 x, .v (.int .u64 (IntKind.u64.wrap a.at0)), .v (.int .i64 4)]) (List.Perm.swap _ _ _) (num_p x M (IntKind.u64.wrap a.at0) 4 (by omega) (by omega))) (O.buildSlice (T := tt) 33 tt_ok rfl rfl rfl rfl rfl rfl (by decide) (by decide) rfl rfl (by exact sd)) (.inl (by kernel_rfl)) (.inr rfl) (by kernel_rfl) rfl ?_ (fun x56 => ?_)
      · rintro ⟨⟨r, F'⟩, hk1⟩
        dsimp only
        obtain ⟨z, hr1, hF1⟩ := hk1
        have hr1 : r = .ref 31 z := hr1
        have hF1 : F' = [(31, .own z 5 1 (M ++ numL (IntKind.u64.wrap a.at0) 4).length (gOf u8C (M ++ numL (IntKind.u64.wrap a.at0) 4)))] := hF1
        subst hr1
        subst hF1
        rw [w5, ← hM2]
        refine wHF 8 33 (k := fun x56 => ?_)
        refine wHY 9 (k := fun y57 => ?_)
        refine wT [10] (k := ?_)
        refine wD (k := ?_)
        refine ownAs 31 (gOf u8C (M2 ++ [by8 a.shard])) rfl (show M2.length + 1 = (M2 ++ [by8 a.shard]).length by simp) (fun q hq => app1_h u8C M2 (by8 a.shard) _ rfl rfl hq) ?_
        ((repeat refine S.seq ?_); refine wG (k := ?_); try (refine L.nil ?_))
        exact fun a1 w hR => ⟨⟨(k + 1, y57), hk'⟩, by show t.ar.length - (k + 1) < t.ar.length - k; omega, (hR.weakP (by (repeat' (first | exact True.intro | exact Imp.refl _ | refine ⟨?_, ?_⟩))) (by rw [arTo, ← ha, arB, ← List.append_assoc, ← List.append_assoc, ← hM, ← hM2]; (repeat (first | exact Sub.refl _ | refine Sub.pick (by first | exact p0 | exact pS p0 | exact pS (pS p0) | exact pS (pS (pS p0)) | exact pS (pS (pS (pS p0))) | exact pS (pS (pS (pS (pS p0))))) ?_))))⟩
      · refine H.call 4 [(31, .own x 5 1 M.length (gOf u8C M))] [(33, _), (8, .blk b8 103 [.v (.int .u32 a.at0), .v (.int .i64 a.shard)])] rfl (by kernel_rfl) (by kernel_rfl) rfl rfl rfl rfl rfl rfl rfl ⟨trivial, by exact sd⟩ rfl (by exact Imps.refl [.ref 31 x, .v (.int .u64 (IntKind.u64.wrap a.at0)), .v (.int .i64 4)]) ((List.Perm.cons _ (List.Perm.swap _ _ _)).trans (List.Perm.swap _ _ _)) (num_p x M (IntKind.u64.wrap a.at0) 4 (by omega) (by omega)) (by kernel_rfl) (by kernel_rfl) ?_
        rintro r F' ⟨z, rfl, rfl⟩
        rw [w5, ← hM2]
        refine wHY 9 (k := fun y57 => ?_)
        refine wT [10] (k := ?_)
        refine wD (k := ?_)
        refine ownAs 31 (gOf u8C (M2 ++ [by8 a.shard])) rfl (show M2.length + 1 = (M2 ++ [by8 a.shard]).length by simp) (fun q hq => app1_h u8C M2 (by8 a.shard) _ rfl rfl hq) ?_
        ((repeat refine S.seq ?_); refine wG (k := ?_); try (refine L.nil ?_))
        exact fun a1 w hR => ⟨⟨(k + 1, y57), hk'⟩, by show t.ar.length - (k + 1) < t.ar.length - k; omega, (hR.weakP (by (repeat' (first | exact True.intro | exact Imp.refl _ | refine ⟨?_, ?_⟩))) (by rw [arTo, ← ha, arB, ← List.append_assoc, ← List.append_assoc, ← hM, ← hM2]; (repeat (first | exact Sub.refl _ | refine Sub.pick (by first | exact p0 | exact pS p0 | exact pS (pS p0) | exact pS (pS (pS p0)) | exact pS (pS (pS (pS p0))) | exact pS (pS (pS (pS (pS p0))))) ?_))))⟩
    have hk' : k = t.ar.length := by have := of_dec' hc; omega
    subst hk'
    exact fun a w hR => ⟨x, hR.weakP (by (repeat' (first | exact True.intro | exact Imp.refl _ | refine ⟨?_, ?_⟩))) (by rw [hM]; (repeat (first | exact Sub.refl _ | refine Sub.pick (by first | exact p0 | exact pS p0 | exact pS (pS p0) | exact pS (pS (pS p0)) | exact pS (pS (pS (pS p0))) | exact pS (pS (pS (pS (pS p0))))) ?_)))⟩
  intro x
  have hfin : l4 ++ arTo t.ar t.ar.length = putO t := by
    rw [putO, if_pos h1, hl4, hl3, hl2, hl1, noTo_eq _ _ (Nat.le_refl _), arTo_eq _ _ (Nat.le_refl _), List.take_length, List.take_length, putL]
    simp only [List.nil_append, List.append_assoc]
  rw [hfin]
  refine freezeSlot 4 31 rfl rfl rfl ?_
  ((repeat refine S.seq ?_); refine wG (k := ?_); try (refine L.nil ?_))
  (((repeat refine S.seq ?_); refine S.ret ?_); refine wRt (k := ?_))
  rw [putE, if_pos h1]
  exact Imp.refl _
end Go.Proofs.YtbogfmgfafdjiaaGreatDoor

/- A scope with several labels that are jumped back to. -/
namespace Go.Proofs.YtbogfmgfafdjiaaGreatDoor
set_option linter.unusedVariables false
set_option linter.unusedSimpArgs false
set_option maxHeartbeats 8000000
open Go.RowKit
set_option maxRecDepth 4000

/-- As Q; by a goto: J of its label. -/
def jumpM (J : Nat → Act → World → Prop) (Q : Exit → Act → World → Prop) : Exit → Act → World → Prop
  | .goto l, a, w => J l a w
  | e, a, w => Q e a w

theorem wp_scope_many {P : Program} {a : Act} {w : World} {Q : Exit → Act → World → Prop} {c : Code} (J : Nat → Act → World → Prop) (μ : Nat → Act → World → Nat) (rest : Nat → Code) (hf : ∀ l a w, J l a w → findLabel c l = some (rest l))
    (first : c.wp P (jumpM J Q) a w)
    (pass : ∀ l a w, J l a w → (rest l).wp P (jumpM (fun l' a' w' => J l' a' w' ∧ μ l' a' w' < μ l a w) Q) a w) : (Code.scope c).wp P Q a w := by
  intro b k cs
  have hg : ∀ l a w, J l a w → gotoIn l (.inScope c :: k) = some (.code (rest l) :: .inScope c :: k) := fun l a w h => by simp [gotoIn, hf l a w h]
  have key : ∀ n l a w, μ l a w = n → J l a w → ∃ e a' w', Q e a' w' ∧ Arrives P (lone (b.at a (.code (rest l) :: .inScope c :: k)) cs w) b k cs e a' w' := by
    intro n
    induction n using Nat.strongRecOn with
    | _ n ih =>
      intro l a w hn hJ
      obtain ⟨e, a₁, w₁, hq, harr⟩ := pass l a w hJ b (.inScope c :: k) cs
      cases e with
      | normal => exact ⟨.normal, a₁, w₁, hq, Steps.trans harr (.one step_inScope)⟩
      | exit id => exact ⟨.exit id, a₁, w₁, hq, fun k' hk => harr k' (by simp [exitTo, hk])⟩
      | goto l' =>
        obtain ⟨hJ', hlt⟩ := hq
        obtain ⟨e₂, a₂, w₂, hq₂, harr₂⟩ := ih _ (by omega) l' a₁ w₁ rfl hJ'
        exact ⟨e₂, a₂, w₂, hq₂, .of_steps (harr _ (hg l' a₁ w₁ hJ')) harr₂⟩
      | ret => exact ⟨_, a₁, w₁, hq, harr⟩
      | panic ch => exact ⟨_, a₁, w₁, hq, harr⟩
      | outgrown => exact ⟨_, a₁, w₁, hq, harr⟩
  obtain ⟨e, a₁, w₁, hq, harr⟩ := first b (.inScope c :: k) cs
  cases e with
  | normal => exact ⟨.normal, a₁, w₁, hq, .head step_scope (Steps.trans harr (.one step_inScope))⟩
  | exit id => exact ⟨.exit id, a₁, w₁, hq, fun k' hk => .head step_scope (harr k' (by simp [exitTo, hk]))⟩
  | goto l' =>
    obtain ⟨e₂, a₂, w₂, hq₂, harr₂⟩ := key _ l' a₁ w₁ rfl hq
    exact ⟨e₂, a₂, w₂, hq₂, .of_steps (.head step_scope (harr _ (hg l' a₁ w₁ hq))) harr₂⟩
  | ret => exact ⟨_, a₁, w₁, hq, .of_steps (.one step_scope) harr⟩
  | panic ch => exact ⟨_, a₁, w₁, hq, .of_steps (.one step_scope) harr⟩
  | outgrown => exact ⟨_, a₁, w₁, hq, .of_steps (.one step_scope) harr⟩

/-- A scope with two labels: the states behind each, and what each pass makes smaller. -/
theorem S.scope2 {P : Program} {c : Ctx} {σ : Slots} {F : Rows} {Q : Exit → Act → World → Prop} {ι κ : Type} {x B C : Code} (l m : Nat) (hlm : l ≠ m) (sl : ι → Slots) (ro : ι → Rows) (μ : ι → Nat) (sm : κ → Slots) (rm : κ → Rows) (ν : κ → Nat) (hν : ∀ i k, ν k < μ i)
    (hf : findLabel x l = some (.seq .skip B)) (hg : findLabel x m = some (.seq .skip C))
    (passC : ∀ k (J : Nat → Act → World → Prop), (∀ a w j, ν j < ν k → R c (sm j) (rm j) a w → J m a w) → S P c C (sm k) (rm k) (jumpM J Q))
    (passB : ∀ i (J : Nat → Act → World → Prop), (∀ a w j, μ j < μ i → R c (sl j) (ro j) a w → J l a w) → (∀ k, S P c C (sm k) (rm k) (jumpM J Q)) → S P c B (sl i) (ro i) (jumpM J Q))
    (first : ∀ J : Nat → Act → World → Prop, (∀ i, S P c B (sl i) (ro i) (jumpM J Q)) → S P c x σ F (jumpM J Q)) : S P c (.scope x) σ F Q := by
  intro a w hR
  obtain ⟨I, hI⟩ : ∃ I : Nat → (ι ⊕ κ) → Act → World → Prop, I = fun n s a w => match s with | .inl i => n = l ∧ R c (sl i) (ro i) a w | .inr k => n = m ∧ R c (sm k) (rm k) a w := ⟨_, rfl⟩
  have ml : (ι ⊕ κ) → Nat := fun s => match s with | .inl i => μ i | .inr k => ν k
  obtain ⟨ms, hms⟩ : ∃ ms : (ι ⊕ κ) → Nat, ms = fun s => match s with | .inl i => μ i | .inr k => ν k := ⟨_, rfl⟩
  have hl : ∀ i a w, R c (sl i) (ro i) a w → I l (.inl i) a w := fun i a w h => by rw [hI]; exact ⟨rfl, h⟩
  have hm : ∀ k a w, R c (sm k) (rm k) a w → I m (.inr k) a w := fun k a w h => by rw [hI]; exact ⟨rfl, h⟩
  refine wp_scope_many (fun n a w => ∃ s, I n s a w) (fun n => least (I n) ms) (fun n => if n = l then .seq .skip B else .seq .skip C) ?_ ?_ ?_
  · rintro n a w ⟨s, hs⟩
    rw [hI] at hs
    cases s with
    | inl i => obtain ⟨rfl, -⟩ := hs; simpa using hf
    | inr k => obtain ⟨rfl, -⟩ := hs; rw [if_neg hlm.symm]; exact hg
  · exact first _ (fun i => passB i _ (fun a w j _ h => ⟨.inl j, hl j a w h⟩) fun k => passC k _ fun a w j _ h => ⟨.inr j, hm j a w h⟩) a w hR
  · rintro n a w ⟨s0, hs0⟩
    obtain ⟨s, hs, he⟩ := least_at (I := I n) (μ := ms) hs0
    have small : ∀ n' s' a' w', ms s' < ms s → I n' s' a' w' → (∃ s, I n' s a' w') ∧ least (I n') ms a' w' < least (I n) ms a w := fun n' s' a' w' hlt h => ⟨⟨s', h⟩, by have := least_le (I := I n') (μ := ms) h; omega⟩
    have hs' := hs
    rw [hI] at hs'
    cases s with
    | inl i =>
      obtain ⟨rfl, hR'⟩ := hs'
      show Code.wp P (if n = n then _ else _) _ a w
      rw [if_pos rfl]
      refine S.seq (S.skip (passB i _ (fun a w j hj h => small n (.inl j) a w (by rw [hms]; exact hj) (hl j a w h)) fun k => passC k _ fun a w j hj h => small m (.inr j) a w (by rw [hms]; exact Nat.lt_trans hj (hν i k)) (hm j a w h))) a w hR'
    | inr k =>
      obtain ⟨rfl, hR'⟩ := hs'
      show Code.wp P (if n = l then _ else _) _ a w
      rw [if_neg hlm.symm]
      exact S.seq (S.skip (passC k _ fun a w j hj h => small n (.inr j) a w (by rw [hms]; exact hj) (hm j a w h))) a w hR'
end Go.Proofs.YtbogfmgfafdjiaaGreatDoor

/- Tables as bytes: the walk of Get. -/
namespace Go.Proofs.YtbogfmgfafdjiaaGreatDoor
set_option linter.unusedVariables false
set_option linter.unusedSimpArgs false
set_option maxHeartbeats 8000000
open Go.RowKit
set_option maxRecDepth 4000

structure StN (b : List UInt8) (ep n : Int) (M : List Int) (r : List UInt8) : Prop where
  len : M.length + r.length ≤ b.length
  told : ∀ t : Tab, mayT t = true → in32 t → putL t = b → ep = t.ep ∧ n = t.no.length ∧ ∃ u, t.no = M ++ u ∧ r = noL u ++ (numL t.ar.length 2 ++ arL t.ar)
structure StR (b : List UInt8) (ep : Int) (M : List Int) (n : Int) (A : List Arc) (r : List UInt8) : Prop where
  len : A.length + r.length ≤ b.length
  rng : ∀ a ∈ A, 0 ≤ a.at0 ∧ a.at0 < 4294967296
  told : ∀ t : Tab, mayT t = true → in32 t → putL t = b → ep = t.ep ∧ M = t.no ∧ n = t.ar.length ∧ ∃ u, t.ar = A ++ u ∧ r = arL u
theorem take_app (x y : List UInt8) : takeV (x ++ y) x.length = x.foldl accS 0 ∧ takeR (x ++ y) x.length = y := by
  have h : ¬ (x ++ y).length < x.length := by rw [List.length_append]; omega
  rw [takeV, takeR, if_neg h, if_neg h, List.take_left, List.drop_left]
  exact ⟨rfl, rfl⟩
theorem take_num {n : Int} {k : Nat} (y : List UInt8) (h : (numL n k).foldl accS 0 = n) : takeV (numL n k ++ y) k = n ∧ takeR (numL n k ++ y) k = y := by
  have := take_app (numL n k) y
  rw [numL_len, h] at this
  exact this
theorem takeR_len (b : List UInt8) (k : Nat) : (takeR b k).length ≤ b.length - k := by
  rw [takeR]
  split
  · simp
  · rw [List.length_drop]; exact Nat.le_refl _
theorem take_one (c : UInt8) (t : List UInt8) : takeV (c :: t) 1 = (c.toNat : Int) ∧ takeR (c :: t) 1 = t := by
  have h : ¬ (c :: t).length < 1 := by simp
  rw [takeV, takeR, if_neg h, if_neg h]
  exact ⟨acc0 c, rfl⟩
theorem StN.start (b : List UInt8) : StN b (takeV b 4) (takeV (takeR b 4) 1) [] (takeR (takeR b 4) 1) := by
  refine ⟨by have h1 := takeR_len b 4; have h2 := takeR_len (takeR b 4) 1; simp only [List.length_nil]; omega, fun t hm hr hb => ?_⟩
  have m := mayT_of hm
  have h1 := m.ep
  have h2 := m.no
  obtain ⟨e1, e2⟩ := take_num (numL t.no.length 1 ++ (noL t.no ++ (numL t.ar.length 2 ++ arL t.ar))) (acc4 (n := t.ep) (by omega) (by omega))
  obtain ⟨e3, e4⟩ := take_num (noL t.no ++ (numL t.ar.length 2 ++ arL t.ar)) (acc1 (n := (t.no.length : Int)) (by omega) (by omega))
  rw [← hb]
  unfold putL
  rw [e1, e2, e3, e4]
  exact ⟨rfl, rfl, t.no, rfl, rfl⟩
theorem StN.step {b : List UInt8} {ep n : Int} {M : List Int} {c : UInt8} {r : List UInt8} (s : StN b ep n M (c :: r)) (hc : (M.length : Int) < n) : StN b ep n (M ++ [(c.toNat : Int) - 1]) r := by
  have hl := s.len
  refine ⟨by rw [List.length_append]; simp only [List.length_cons, List.length_nil] at hl ⊢; omega, fun t hm hr hb => ?_⟩
  obtain ⟨h1, h2, u, h3, h4⟩ := s.told t hm hr hb
  have m := mayT_of hm
  refine ⟨h1, h2, ?_⟩
  cases u with
  | nil =>
    rw [List.append_nil] at h3
    rw [h2, h3] at hc
    omega
  | cons z u =>
    have hz := m.nod z (by rw [h3]; simp)
    have h5 : c :: r = by8 (z + 1) :: (noL u ++ (numL t.ar.length 2 ++ arL t.ar)) := h4
    obtain ⟨h6, h7⟩ := List.cons.inj h5
    have h8 := by8_nat (z + 1)
    rw [← h6] at h8
    refine ⟨u, ?_, h7⟩
    rw [h3, List.append_assoc]
    have : (c.toNat : Int) - 1 = z := by omega
    rw [this]
    rfl
theorem StN.stop {b : List UInt8} {ep n : Int} {M : List Int} {r : List UInt8} (s : StN b ep n M r) (hc : ¬ ((M.length : Int) < n ∧ 0 < r.length)) : StR b ep M (takeV r 2) [] (takeR r 2) := by
  have hl := s.len
  refine ⟨by have h2 := takeR_len r 2; simp only [List.length_nil]; omega, (by intro a ha; cases ha), fun t hm hr hb => ?_⟩
  obtain ⟨h1, h2, u, h3, h4⟩ := s.told t hm hr hb
  have m := mayT_of hm
  have hu : u = [] := by
    cases u with
    | nil => rfl
    | cons z u =>
      exfalso
      refine hc ⟨by rw [h2, h3, List.length_append, List.length_cons]; omega, ?_⟩
      rw [h4]
      unfold noL
      rw [List.map_cons, List.cons_append, List.length_cons]
      omega
  subst hu
  rw [List.append_nil] at h3
  have har := m.ar.most
  obtain ⟨e1, e2⟩ := take_num (arL t.ar) (acc2 (n := (t.ar.length : Int)) (by omega) (by omega))
  have h4 : r = numL t.ar.length 2 ++ arL t.ar := h4
  rw [h4, e1, e2]
  exact ⟨h1, h3.symm, rfl, t.ar, rfl, rfl⟩
def arG (r : List UInt8) : Arc := ⟨IntKind.u32.wrap (takeV r 4), takeV (takeR r 4) 1⟩
theorem StR.step {b : List UInt8} {ep n : Int} {M : List Int} {A : List Arc} {r : List UInt8} (s : StR b ep M n A r) (hc : (A.length : Int) < n) (h0 : 0 < r.length) : StR b ep M n (A ++ [arG r]) (takeR (takeR r 4) 1) := by
  have hl := s.len
  refine ⟨by have h1 := takeR_len r 4; have h2 := takeR_len (takeR r 4) 1; rw [List.length_append]; simp only [List.length_cons, List.length_nil]; omega, fun a ha => ?_, fun t hm hr hb => ?_⟩
  · rcases List.mem_append.1 ha with ha | ha
    · exact s.rng a ha
    · rw [List.mem_singleton.1 ha]
      show 0 ≤ IntKind.u32.wrap (takeV r 4) ∧ IntKind.u32.wrap (takeV r 4) < 4294967296
      have e : IntKind.u32.wrap (takeV r 4) = takeV r 4 % 4294967296 := rfl
      omega
  · obtain ⟨h1, h2, h3, u, h4, h5⟩ := s.told t hm hr hb
    have m := mayT_of hm
    refine ⟨h1, h2, h3, ?_⟩
    cases u with
    | nil =>
      rw [List.append_nil] at h4
      rw [h3, h4] at hc
      omega
    | cons z u =>
      have hz : z ∈ t.ar := by rw [h4]; simp
      have hz1 := hr z hz
      have hz2 := mayT_fits m hz
      have h6 : r = numL z.at0 4 ++ (by8 z.shard :: arL u) := by
        rw [h5, arL, List.flatMap_cons, arB, List.append_assoc]; rfl
      obtain ⟨e1, e2⟩ := take_num (by8 z.shard :: arL u) (acc4 hz1.1 hz1.2)
      obtain ⟨e3, e4⟩ := take_one (by8 z.shard) (arL u)
      have e5 : arG r = z := by
        rw [arG, h6, e1, e2, e3, by8_nat, u32_id hz1.1 hz1.2]
        exact Arc.ext' rfl (by show z.shard % 256 = z.shard; omega)
      refine ⟨u, ?_, ?_⟩
      · rw [h4, e5, List.append_assoc]; rfl
      · rw [h6, e2, e4]
theorem StR.stop {b : List UInt8} {ep n : Int} {M : List Int} {A : List Arc} {r : List UInt8} (s : StR b ep M n A r) (hc : ¬ ((A.length : Int) < n ∧ 0 < r.length)) : in32 ⟨ep, A, M⟩ ∧ ∀ t : Tab, mayT t = true → in32 t → putL t = b → (⟨ep, A, M⟩ : Tab) = t := by
  refine ⟨s.rng, fun t hm hr hb => ?_⟩
  obtain ⟨h1, h2, h3, u, h4, h5⟩ := s.told t hm hr hb
  have hu : u = [] := by
    cases u with
    | nil => rfl
    | cons z u =>
      exfalso
      refine hc ⟨by rw [h3, h4, List.length_append, List.length_cons]; omega, ?_⟩
      rw [h5, arL_len, List.length_cons]
      omega
  subst hu
  rw [List.append_nil] at h4
  cases t
  cases h1; cases h2; cases h4
  rfl
end Go.Proofs.YtbogfmgfafdjiaaGreatDoor

/- Tables as bytes: the walk of Get. -/
namespace Go.Proofs.YtbogfmgfafdjiaaGreatDoor
set_option linter.unusedVariables false
set_option linter.unusedSimpArgs false
set_option maxHeartbeats 8000000
open Go.RowKit
set_option maxRecDepth 4000

theorem beq_bytes (a b : ByteArray) : (a == b) = decide (a = b) := by
  obtain ⟨x⟩ := a
  obtain ⟨y⟩ := b
  have e : ((⟨x⟩ : ByteArray) == ⟨y⟩) = (x == y) := rfl
  rw [e, Bool.eq_iff_iff, beq_iff_eq, decide_eq_true_eq]
  exact ⟨fun h => by rw [h], fun h => by cases h; rfl⟩
theorem takeV_fit (b : List UInt8) (k : Nat) (h : k ≤ 4) : 0 ≤ takeV b k ∧ takeV b k < 1099511627776 := by
  rw [takeV]
  split
  · exact ⟨Int.le_refl _, by decide⟩
  · have key : ∀ l : List UInt8, ∃ m : Nat, l.length ≤ 4 → l.foldl accS 0 = (m : Int) ∧ m < 256 ^ l.length := fun l => by
      match l with
      | [] => exact ⟨0, fun _ => ⟨rfl, by simp⟩⟩
      | [x] => exact ⟨x.toNat, fun _ => ⟨acc0 x, by simpa using x.toNat_lt⟩⟩
      | [x, y] =>
        have hx := x.toNat_lt
        have hy := y.toNat_lt
        exact ⟨x.toNat * 256 + y.toNat, fun _ => ⟨by show accS (accS 0 x) y = _; rw [acc0, accS_eq _ (by omega)], by simp; omega⟩⟩
      | [x, y, z] =>
        have hx := x.toNat_lt
        have hy := y.toNat_lt
        have hz := z.toNat_lt
        exact ⟨(x.toNat * 256 + y.toNat) * 256 + z.toNat, fun _ => ⟨by show accS (accS (accS 0 x) y) z = _; rw [acc0, accS_eq _ (by omega), accS_eq _ (by omega)], by simp; omega⟩⟩
      | [x, y, z, u] =>
        have hx := x.toNat_lt
        have hy := y.toNat_lt
        have hz := z.toNat_lt
        have hu := u.toNat_lt
        exact ⟨((x.toNat * 256 + y.toNat) * 256 + z.toNat) * 256 + u.toNat, fun _ => ⟨by show accS (accS (accS (accS 0 x) y) z) u = _; rw [acc0, accS_eq _ (by omega), accS_eq _ (by omega), accS_eq _ (by omega)], by simp; omega⟩⟩
      | x :: y :: z :: u :: v :: t => exact ⟨0, fun h => by simp only [List.length_cons] at h; omega⟩
    obtain ⟨m, hm⟩ := key (b.take k)
    have hl : (b.take k).length ≤ 4 := by rw [List.length_take]; omega
    obtain ⟨e, hlt⟩ := hm hl
    rw [e]
    have : 256 ^ (b.take k).length ≤ 256 ^ 4 := Nat.pow_le_pow_right (by decide) hl
    have e4 : 256 ^ 4 = 4294967296 := rfl
    omega

theorem tabget_p (b : List UInt8) (hb : b.length ≤ 100000) : PFn Tryz.prog 146 [bytesL b] (.tup [(getF b).1.av, .v (.int .i64 (getF b).2)]) := by
  obtain ⟨ep, hep⟩ : ∃ ep, ep = takeV b 4 := ⟨_, rfl⟩
  obtain ⟨n0, hn0⟩ : ∃ n0, n0 = takeV (takeR b 4) 1 := ⟨_, rfl⟩
  have st := StN.start b
  have fep := takeV_fit b 4 (by decide)
  have fn0 := takeV_fit (takeR b 4) 1 (by decide)
  rw [← hep, ← hn0] at st
  rw [← hep] at fep
  rw [← hn0] at fn0
  refine FnC.intro Tryz.func146 rfl Tryz.ntmps146 rfl ?_; intro off w0
  repeat refine S.seq ?_
  refine S.region ?_
  refine wA 2 (k := fun b2 => ?_)
  (refine wL (k := ?_); try (refine L.nil ?_))
  repeat refine S.seq ?_
  refine S.scope2 0 1 (by decide)
    (ι := { p : Nat × List Int × Value × List UInt8 // StN b ep n0 p.2.1 p.2.2.2 }) (κ := { p : Nat × (List Int × Value) × Int × List Arc × Value × List UInt8 // StR b ep p.2.1.1 p.2.2.1 p.2.2.2.1 p.2.2.2.2.2 })
    (fun p => [(0, bytesL b), (2, .ptr 2 b2 0), (3, .v (.int .i64 0)), (4, .ptr 4 p.1.1 0), (5, .v (.int .i64 n0)), (8, bytesL p.1.2.2.2)])
    (fun p => [(61, .own p.1.2.2.1 3 1 p.1.2.1.length (gOf intC p.1.2.1)), (4, .blk p.1.1 82 [.v (.int .i64 ep), .v (.slice none 0 0), .ref 61 p.1.2.2.1]), (2, .blk b2 82 [.v (.int .i64 0), .v (.slice none 0 0), .v (.slice none 0 0)])])
    (fun p => b.length + 1 + p.1.2.2.2.length)
    (fun p => [(0, bytesL b), (2, .ptr 2 b2 0), (3, .v (.int .i64 0)), (4, .ptr 4 p.1.1 0), (5, .v (.int .i64 p.1.2.2.1)), (8, bytesL p.1.2.2.2.2.2)])
    (fun p => [(62, .own p.1.2.2.2.2.1 103 2 p.1.2.2.2.1.length (gOf Arc.cells p.1.2.2.2.1)), (61, .own p.1.2.1.2 3 1 p.1.2.1.1.length (gOf intC p.1.2.1.1)), (4, .blk p.1.1 82 [.v (.int .i64 ep), .ref 62 p.1.2.2.2.2.1, .ref 61 p.1.2.1.2]), (2, .blk b2 82 [.v (.int .i64 0), .v (.slice none 0 0), .v (.slice none 0 0)])])
    (fun p => p.1.2.2.2.2.2.length) (fun i k => by have := k.2.len; omega) rfl rfl ?_ ?_ ?_
  · rintro ⟨⟨b4, ⟨M, x⟩, n, A, y, r⟩, s⟩ J hJ
    dsimp only at s hJ ⊢
    have slen := s.len
    ((repeat refine S.seq ?_); refine wG (k := ?_); try (refine L.nil ?_))
    ((repeat refine S.seq ?_); refine S.cond rfl (fun h1 => ?_) (fun h1 => ?_) <;> (try first | refine S.skip ?_ | refine S.exit ?_))
    · have h1' : (A.length : Int) < n ∧ 0 < r.length := by
        rw [Bool.and_eq_true, decide_eq_true_eq, decide_eq_true_eq] at h1
        exact ⟨h1.1, by omega⟩
      have hal : A.length ≤ 100000 := by omega
      obtain ⟨e, he⟩ : ∃ e, e = arG r := ⟨_, rfl⟩
      have f1 := takeV_fit r 4 (by decide)
      repeat refine S.seq ?_
      refine S.region ?_
      (refine wL (k := ?_); try (refine L.nil ?_))
      refine wP ((take_p r 4 (by omega))) (k := ?_)
      (refine wL (k := ?_); try (refine L.nil ?_))
      repeat refine S.seq ?_
      refine S.region ?_
      (refine wL (k := ?_); try (refine L.nil ?_))
      refine wP ((take_p (takeR r 4) 1 (by omega))) (k := ?_)
      (refine wL (k := ?_); try (refine L.nil ?_))
      repeat refine S.seq ?_
      refine S.region ?_
      (refine wL (k := ?_); try (refine L.nil ?_))
      refine slotAs 75 e.av rfl (Imp.of_eq (by rw [he]; rfl)) ?_
      refine wF 63 (k := fun x76 => ?_)
      refine wY (k := fun y77 => ?_)
      refine ownAs 62 (gOf Arc.cells (A ++ [e])) rfl (show A.length + 1 = (A ++ [e]).length by simp) (fun i hi => app1_h Arc.cells A e _ rfl rfl hi) ?_
      (refine wL (k := ?_); try (refine L.nil ?_))
      refine wS (k := ?_)
      refine L.nil ?_
      have hlen2 : (takeR (takeR r 4) 1).length < r.length := by
        have g1 := takeR_len r 4
        have g2 := takeR_len (takeR r 4) 1
        omega
      repeat refine S.seq ?_
      refine S.goto ?_
      exact fun a w hR => hJ a w ⟨(b4, (M, x), n, A ++ [e], y77, takeR (takeR r 4) 1), by rw [he]; exact s.step h1'.1 h1'.2⟩ hlen2 (hR.weakP (by (repeat' (first | exact True.intro | exact Imp.refl _ | refine ⟨?_, ?_⟩))) (by (repeat (first | exact Sub.refl _ | refine Sub.pick (by first | exact p0 | exact pS p0 | exact pS (pS p0) | exact pS (pS (pS p0)) | exact pS (pS (pS (pS p0))) | exact pS (pS (pS (pS (pS p0))))) ?_))))
    have h1' : ¬ ((A.length : Int) < n ∧ 0 < r.length) := fun h => by
      rw [Bool.and_eq_false_iff, decide_eq_false_iff_not, decide_eq_false_iff_not] at h1
      omega
    obtain ⟨v1, v2⟩ := s.stop h1'
    obtain ⟨v, hv⟩ : ∃ v : Tab, v = ⟨ep, A, M⟩ := ⟨_, rfl⟩
    rw [← hv] at v1 v2
    refine freezeCell 4 1 62 rfl rfl rfl rfl ?_
    refine freezeCell 4 2 61 rfl rfl rfl rfl ?_
    refine blkAs 4 [.v (.int .i64 v.ep), arcs v.ar, intW v.no] rfl ⟨Imp.of_eq (by rw [hv]), Imp.of_eq (by rw [hv]; rfl), Imp.of_eq (by rw [hv]; rfl), trivial⟩ ?_
    repeat refine S.seq ?_
    refine S.region ?_
    (refine wL (k := ?_); try (refine L.nil ?_))
    refine wP ((tabput_p v v1)) (k := ?_)
    (refine wL (k := ?_); try (refine L.nil ?_))
    repeat refine S.seq ?_
    refine S.region ?_
    (refine wL (k := ?_); try (refine L.nil ?_))
    refine wQ (fun _ => byteseq_p (putO v) b) (k := ?_)
    (refine wL (k := ?_); try (refine L.nil ?_))
    ((repeat refine S.seq ?_); refine S.cond rfl (fun h2 => ?_) (fun h2 => ?_) <;> (try first | refine S.skip ?_ | refine S.exit ?_))
    · have herr : getF b = (⟨0, [], []⟩, 2) := getF_err fun t hm hr hb => by
        have e := v2 t hm hr hb
        rw [← e] at hm hb
        rw [putE, if_pos hm, putO, if_pos hm, hb, beq_bytes, decide_eq_true rfl] at h2
        exact absurd h2 (by decide)
      repeat refine S.seq ?_
      refine S.region ?_
      (refine wL (k := ?_); try (refine L.nil ?_))
      refine wS (k := ?_)
      (refine wL (k := ?_); try (refine L.nil ?_))
      (((repeat refine S.seq ?_); refine S.ret ?_); refine wRt (k := ?_))
      rw [herr]
      exact Imp.tup ⟨Imp.agg ⟨Imp.refl _, Imp.nil _ _, Imp.nil _ _, trivial⟩, Imp.refl _, trivial⟩
    rw [Bool.or_eq_false_iff] at h2
    have hmv : mayT v = true := by
      cases h : mayT v
      · have h3 := h2.1
        rw [putE, if_neg (by rw [h]; decide)] at h3
        exact absurd h3 (by decide)
      · rfl
    have hpv : putL v = b := by
      have h3 := h2.2
      rw [putO, if_pos hmv] at h3
      rw [beq_bytes, Bool.not_eq_false', decide_eq_true_eq] at h3
      exact strL_inj h3
    have hok := getF_ok hmv v1 hpv
    repeat refine S.seq ?_
    refine S.region ?_
    (refine wL (k := ?_); try (refine L.nil ?_))
    refine wS (k := ?_)
    (refine wL (k := ?_); try (refine L.nil ?_))
    (((repeat refine S.seq ?_); refine S.ret ?_); refine wRt (k := ?_))
    rw [hok]
    exact Imp.refl _
  · rintro ⟨⟨b4, M, x, r⟩, s⟩ J hJ hC
    dsimp only at s hJ ⊢
    have slen := s.len
    ((repeat refine S.seq ?_); refine wG (k := ?_); try (refine L.nil ?_))
    ((repeat refine S.seq ?_); refine S.cond rfl (fun h1 => ?_) (fun h1 => ?_) <;> (try first | refine S.skip ?_ | refine S.exit ?_))
    · have h1' : (M.length : Int) < n0 ∧ 0 < r.length := by
        rw [Bool.and_eq_true, decide_eq_true_eq, decide_eq_true_eq] at h1
        exact ⟨h1.1, by omega⟩
      cases r with
      | nil => exact absurd h1'.2 (by simp)
      | cons c r =>
        have hcl := c.toNat_lt
        obtain ⟨e1, e2⟩ := take_one c r
        have hml : M.length ≤ 100000 := by omega
        obtain ⟨z, hz⟩ : ∃ z, z = (c.toNat : Int) - 1 := ⟨_, rfl⟩
        repeat refine S.seq ?_
        refine S.region ?_
        (refine wL (k := ?_); try (refine L.nil ?_))
        refine wP ((take_p (c :: r) 1 (by omega))) (k := ?_)
        rw [e1, e2]
        (refine wL (k := ?_); try (refine L.nil ?_))
        repeat refine S.seq ?_
        refine S.region ?_
        (refine wL (k := ?_); try (refine L.nil ?_))
        refine slotAs 41 (.v (.int .i64 z)) rfl (Imp.of_eq (by rw [hz])) ?_
        refine wF 63 (k := fun x42 => ?_)
        refine wY (k := fun y43 => ?_)
        refine ownAs 61 (gOf intC (M ++ [z])) rfl (show M.length + 1 = (M ++ [z]).length by simp) (fun i hi => app1_h intC M z _ rfl rfl hi) ?_
        (refine wL (k := ?_); try (refine L.nil ?_))
        refine wS (k := ?_)
        refine L.nil ?_
        repeat refine S.seq ?_
        refine S.goto ?_
        exact fun a w hR => hJ a w ⟨(b4, M ++ [z], y43, r), by rw [hz]; exact s.step h1'.1⟩ (by show b.length + 1 + r.length < b.length + 1 + (c :: r).length; simp) (hR.weakP (by (repeat' (first | exact True.intro | exact Imp.refl _ | refine ⟨?_, ?_⟩))) (by (repeat (first | exact Sub.refl _ | refine Sub.pick (by first | exact p0 | exact pS p0 | exact pS (pS p0) | exact pS (pS (pS p0)) | exact pS (pS (pS (pS p0))) | exact pS (pS (pS (pS (pS p0))))) ?_))))
    have h1' : ¬ ((M.length : Int) < n0 ∧ 0 < r.length) := fun h => by
      rw [Bool.and_eq_false_iff, decide_eq_false_iff_not, decide_eq_false_iff_not] at h1
      omega
    repeat refine S.seq ?_
    refine S.region ?_
    (refine wL (k := ?_); try (refine L.nil ?_))
    refine wP ((take_p r 2 (by omega))) (k := ?_)
    (refine wL (k := ?_); try (refine L.nil ?_))
    refine nilRow 62 103 2 (gOf Arc.cells []) ?_
    refine blkAs 4 [.v (.int .i64 ep), .ref 62 (.slice none 0 0), .ref 61 x] rfl ⟨Imp.refl _, Imp.vref rfl, Imp.refl _, trivial⟩ ?_
    repeat refine S.seq ?_
    refine S.label ?_
    exact fun a w hR => hC ⟨(b4, (M, x), takeV r 2, [], .slice none 0 0, takeR r 2), s.stop h1'⟩ a w (hR.weakP (by (repeat' (first | exact True.intro | exact Imp.refl _ | refine ⟨?_, ?_⟩))) (by (repeat (first | exact Sub.refl _ | refine Sub.pick (by first | exact p0 | exact pS p0 | exact pS (pS p0) | exact pS (pS (pS p0)) | exact pS (pS (pS (pS p0))) | exact pS (pS (pS (pS (pS p0))))) ?_))))
  · intro J hB
    repeat refine S.seq ?_
    refine S.region ?_
    refine wA 4 (k := fun b4 => ?_)
    refine L.nil ?_
    ((repeat refine S.seq ?_); refine wG (k := ?_); try (refine L.nil ?_))
    ((repeat refine S.seq ?_); refine wG (k := ?_); try (refine L.nil ?_))
    repeat refine S.seq ?_
    refine S.region ?_
    (refine wL (k := ?_); try (refine L.nil ?_))
    refine wP ((take_p b 4 (by omega))) (k := ?_)
    rw [← hep]
    (refine wL (k := ?_); try (refine L.nil ?_))
    refine wS (k := ?_)
    (refine wL (k := ?_); try (refine L.nil ?_))
    repeat refine S.seq ?_
    refine S.region ?_
    (refine wL (k := ?_); try (refine L.nil ?_))
    refine wP ((take_p (takeR b 4) 1 (by omega))) (k := ?_)
    rw [← hn0]
    (refine wL (k := ?_); try (refine L.nil ?_))
    refine nilRow 61 3 1 (gOf intC []) ?_
    refine blkAs 4 [.v (.int .i64 ep), .v (.slice none 0 0), .ref 61 (.slice none 0 0)] rfl ⟨Imp.refl _, Imp.refl _, Imp.vref rfl, trivial⟩ ?_
    repeat refine S.seq ?_
    refine S.label ?_
    exact fun a w hR => hB ⟨(b4, [], .slice none 0 0, takeR (takeR b 4) 1), st⟩ a w (hR.weakP (by (repeat' (first | exact True.intro | exact Imp.refl _ | refine ⟨?_, ?_⟩))) (by (repeat (first | exact Sub.refl _ | refine Sub.pick (by first | exact p0 | exact pS p0 | exact pS (pS p0) | exact pS (pS (pS p0)) | exact pS (pS (pS (pS p0))) | exact pS (pS (pS (pS (pS p0))))) ?_))))
end Go.Proofs.YtbogfmgfafdjiaaGreatDoor

/- Records of a node, as bytes (world). -/
namespace Go.Proofs.YtbogfmgfafdjiaaGreatDoor
set_option linter.unusedVariables false
set_option linter.unusedSimpArgs false
set_option maxHeartbeats 8000000
open Go.RowKit
set_option maxRecDepth 4000

def numB (l : List Int) : List UInt8 := l.flatMap fun n => numL n 4
def numBTo (l : List Int) : Nat → List UInt8
  | 0 => []
  | k + 1 => numBTo l k ++ numL (l.getD k 0) 4
theorem numBTo_eq (l : List Int) : ∀ k, k ≤ l.length → numBTo l k = numB (l.take k)
  | 0, _ => by rw [List.take_zero]; rfl
  | k + 1, hk => by
    rw [numBTo, numBTo_eq l k (by omega), List.take_succ_eq_append_getElem (show k < l.length by omega), List.getD_eq_getElem?_getD, List.getElem?_eq_getElem (show k < l.length by omega), Option.getD_some]
    unfold numB
    rw [List.flatMap_append, List.flatMap_cons, List.flatMap_nil, List.append_nil]
theorem numB_len : ∀ l : List Int, (numB l).length = 4 * l.length
  | [] => rfl
  | a :: t => by
    have ih := numB_len t
    unfold numB at ih ⊢
    rw [List.flatMap_cons, List.length_append, ih, numL_len, List.length_cons]; omega
theorem byte_shr (n : Int) (k : Nat) (hk : 8 * k < 64) : IntKind.u8.wrap (n.fdiv (2 ^ min ((8 * k : Nat) : Int).toNat IntKind.i64.bits)) = ((byteOf n k).toNat : Int) := by
  have hm : min ((8 * k : Nat) : Int).toNat IntKind.i64.bits = 8 * k := by
    show min _ 64 = _
    omega
  rw [hm, wrap_u8, byteOf]

theorem wnum_p (y : Value) (l : List UInt8) (ns : List Int) (hl : l.length ≤ 100000) (hn : ns.length ≤ 100) : FnC Tryz.prog 90 [.ref 31 y, intW ns] [(31, .own y 5 1 l.length (gOf u8C l))]
    (fun r F' => ∃ z, r = .ref 31 z ∧ F' = [(31, .own z 5 1 (l ++ numB ns).length (gOf u8C (l ++ numB ns)))]) := by
  refine FnC.intro Tryz.func90 rfl Tryz.ntmps90 rfl ?_; intro off w0
  ((repeat refine S.seq ?_); refine wG (k := ?_); try (refine L.nil ?_))
  ((repeat refine S.seq ?_); refine wG (k := ?_); try (refine L.nil ?_))
  repeat refine S.seq ?_
  refine S.cut (ι := Value) (fun z => [(0, .ref 31 z)]) (fun z => [(31, .own z 5 1 (l ++ numB ns).length (gOf u8C (l ++ numB ns)))]) ?_ ?_
  · refine S.block (S.loop (ι := { q : Nat × Value // q.1 ≤ ns.length }) (fun q => [(0, .ref 31 q.1.2), (7, intW ns), (8, .v (.int .i64 ns.length)), (9, .v (.int .i64 q.1.1))]) (fun q => [(31, .own q.1.2 5 1 (l ++ numBTo ns q.1.1).length (gOf u8C (l ++ numBTo ns q.1.1)))]) (fun q => ns.length - q.1.1) ?_ ?_)
    · exact fun a w h => ⟨⟨(0, y), Nat.zero_le _⟩, h.weakP (by (repeat' (first | exact True.intro | exact Imp.refl _ | refine ⟨?_, ?_⟩))) (by rw [numBTo, List.append_nil]; (repeat (first | exact Sub.refl _ | refine Sub.pick (by first | exact p0 | exact pS p0 | exact pS (pS p0) | exact pS (pS (pS p0)) | exact pS (pS (pS (pS p0))) | exact pS (pS (pS (pS (pS p0))))) ?_)))⟩
    rintro ⟨⟨k, x⟩, hk⟩
    dsimp only at hk ⊢
    obtain ⟨M, hM⟩ : ∃ M, M = l ++ numBTo ns k := ⟨_, rfl⟩
    have hml : M.length ≤ 101000 := by rw [hM, numBTo_eq _ _ hk, List.length_append, numB_len, List.length_take]; omega
    rw [← hM]
    ((repeat refine S.seq ?_); refine wG (k := ?_); try (refine L.nil ?_))
    ((repeat refine S.seq ?_); refine S.cond rfl (fun hc => ?_) (fun hc => ?_) <;> (try first | refine S.skip ?_ | refine S.exit ?_))
    · have hk' : k < ns.length := by have := of_dec hc; omega
      obtain ⟨n, hnn⟩ : ∃ n, n = ns.getD k 0 := ⟨_, rfl⟩
      repeat refine S.seq ?_
      refine S.block ?_
      ((repeat refine S.seq ?_); refine wG (k := ?_); try (refine L.nil ?_))
      refine slotAs 6 (.v (.int .i64 n)) rfl (Imp.of_eq (by rw [hnn]; rfl)) ?_
      repeat refine S.seq ?_
      refine S.region ?_
      (refine wL (k := ?_); try (refine L.nil ?_))
      refine slotAs 16 (.v (.int .u8 ((byteOf n 3).toNat : Int))) rfl (Imp.of_eq (by rw [← byte_shr n 3 (by decide)]; rfl)) ?_
      refine slotAs 19 (.v (.int .u8 ((byteOf n 2).toNat : Int))) rfl (Imp.of_eq (by rw [← byte_shr n 2 (by decide)]; rfl)) ?_
      refine slotAs 22 (.v (.int .u8 ((byteOf n 1).toNat : Int))) rfl (Imp.of_eq (by rw [← byte_shr n 1 (by decide)]; rfl)) ?_
      refine slotAs 24 (.v (.int .u8 ((byteOf n 0).toNat : Int))) rfl (Imp.of_eq ?_) ?_
      · have e : (2 : Int) ^ (8 * 0) = 1 := rfl
        rw [byteOf, e, Int.fdiv_one, ← wrap_u8]
      refine wF 32 (k := fun x25 => ?_)
      refine wY (k := fun y26 => ?_)
      refine ownAs 31 (n' := (M ++ numL n 4).length) (gOf u8C (M ++ numL n 4)) rfl (show M.length + 4 = (M ++ numL n 4).length by rw [List.length_append, numL_len]) (fun i hi => app_g u8C M (numL n 4) _ rfl (fun j hj => ?_) (by rw [numL_len]; exact hi)) ?_
      · have hj : j < 4 := by rw [numL_len] at hj; exact hj
        have : j = 0 ∨ j = 1 ∨ j = 2 ∨ j = 3 := by omega
        rcases this with rfl | rfl | rfl | rfl <;> rfl
      (refine wL (k := ?_); try (refine L.nil ?_))
      ((repeat refine S.seq ?_); refine wG (k := ?_); try (refine L.nil ?_))
      exact fun a w hR => ⟨⟨(k + 1, y26), hk'⟩, by show ns.length - (k + 1) < ns.length - k; omega, hR.weakP (by (repeat' (first | exact True.intro | exact Imp.refl _ | refine ⟨?_, ?_⟩))) (by rw [numBTo, ← hnn, ← List.append_assoc, ← hM]; (repeat (first | exact Sub.refl _ | refine Sub.pick (by first | exact p0 | exact pS p0 | exact pS (pS p0) | exact pS (pS (pS p0)) | exact pS (pS (pS (pS p0))) | exact pS (pS (pS (pS (pS p0))))) ?_)))⟩
    have hk' : k = ns.length := by have := of_dec' hc; omega
    subst hk'
    exact fun a w hR => ⟨x, hR.weakP (by (repeat' (first | exact True.intro | exact Imp.refl _ | refine ⟨?_, ?_⟩))) (by rw [hM, numBTo_eq _ _ (Nat.le_refl _), List.take_length]; (repeat (first | exact Sub.refl _ | refine Sub.pick (by first | exact p0 | exact pS p0 | exact pS (pS p0) | exact pS (pS (pS p0)) | exact pS (pS (pS (pS p0))) | exact pS (pS (pS (pS (pS p0))))) ?_)))⟩
  intro z
  ((repeat refine S.seq ?_); refine wG (k := ?_); try (refine L.nil ?_))
  ((repeat refine S.seq ?_); refine S.ret ?_)
  exact E.ret (T := tt) tt_ok rfl rfl (by exact sd) (F' := [(31, .own z 5 1 (l ++ numB ns).length (gOf u8C (l ++ numB ns)))]) (Imp.refl _) (List.Sublist.refl _) ⟨z, rfl, rfl⟩

/-- Four bytes as a number. -/
def or64 (a b : Int) : Int := IntKind.i64.wrap ((BitVec.ofInt IntKind.i64.bits a ||| BitVec.ofInt IntKind.i64.bits b).toNat : Int)
def shl64 (c : UInt8) (k : Nat) : Int := IntKind.i64.wrap (IntKind.i64.wrap ((c.toNat : Nat) : Int) * 2 ^ k)
def tk4 (b : List UInt8) : Int := or64 (or64 (or64 (shl64 (b.getD 0 default) 24) (shl64 (b.getD 1 default) 16)) (shl64 (b.getD 2 default) 8)) (IntKind.i64.wrap (((b.getD 3 default).toNat : Nat) : Int))
theorem or64_add {a : Nat} {k c : Nat} (hc : c < 2 ^ k) (h : a * 2 ^ k + c < 9223372036854775808) : or64 ((a * 2 ^ k : Nat) : Int) ((c : Nat) : Int) = ((a * 2 ^ k + c : Nat) : Int) := by
  rw [or64]
  show IntKind.i64.wrap (((BitVec.ofInt 64 ((a * 2 ^ k : Nat) : Int)) ||| (BitVec.ofInt 64 ((c : Nat) : Int))).toNat : Int) = _
  rw [BitVec.toNat_or, bv_nat (by omega), bv_nat (by omega)]
  have e3 : a * 2 ^ k ||| c = a * 2 ^ k + c := by
    have := Nat.shiftLeft_add_eq_or_of_lt (i := k) (b := c) hc a
    rw [Nat.shiftLeft_eq] at this
    exact this.symm
  rw [e3, IntWalk.i64_in _ (by omega)]
theorem shl64_eq (c : UInt8) {k : Nat} (hk : 2 ^ k ≤ 16777216) : shl64 c k = ((c.toNat * 2 ^ k : Nat) : Int) := by
  have hc := c.toNat_lt
  have h1 : c.toNat * 2 ^ k ≤ 256 * 16777216 := Nat.mul_le_mul (by omega) hk
  obtain ⟨m, hm⟩ : ∃ m, m = c.toNat * 2 ^ k := ⟨_, rfl⟩
  have e1 : IntKind.i64.wrap ((c.toNat : Nat) : Int) = ((c.toNat : Nat) : Int) := IntWalk.i64_in _ (by omega)
  have e2 : ((c.toNat : Nat) : Int) * 2 ^ k = ((c.toNat * 2 ^ k : Nat) : Int) := by push_cast; rfl
  rw [shl64, e1, e2, ← hm]
  rw [← hm] at h1
  exact IntWalk.i64_in _ (by omega)
theorem tk4_eq (a b c d : UInt8) (r : List UInt8) : tk4 (a :: b :: c :: d :: r) = (((a.toNat * 256 + b.toNat) * 256 + c.toNat) * 256 + d.toNat : Nat) := by
  have ha := a.toNat_lt
  have hb := b.toNat_lt
  have hc := c.toNat_lt
  have hd := d.toNat_lt
  show or64 (or64 (or64 (shl64 a 24) (shl64 b 16)) (shl64 c 8)) (IntKind.i64.wrap ((d.toNat : Nat) : Int)) = _
  rw [shl64_eq a (by decide), shl64_eq b (by decide), shl64_eq c (by decide), IntWalk.i64_in _ (by omega)]
  rw [show a.toNat * 2 ^ 24 = a.toNat * 2 ^ 24 from rfl, or64_add (a := a.toNat) (k := 24) (by omega) (by omega)]
  rw [show a.toNat * 2 ^ 24 + b.toNat * 2 ^ 16 = (a.toNat * 256 + b.toNat) * 2 ^ 16 by omega, or64_add (k := 16) (by omega) (by omega)]
  rw [show (a.toNat * 256 + b.toNat) * 2 ^ 16 + c.toNat * 2 ^ 8 = ((a.toNat * 256 + b.toNat) * 256 + c.toNat) * 2 ^ 8 by omega, or64_add (k := 8) (by omega) (by omega)]
theorem tk4_num {n : Int} (h : 0 ≤ n) (h1 : n < 4294967296) (r : List UInt8) : tk4 (numL n 4 ++ r) = n := by
  have e := acc4 h h1
  show tk4 (byteOf n 3 :: byteOf n 2 :: byteOf n 1 :: byteOf n 0 :: r) = n
  rw [tk4_eq]
  refine Eq.trans ?_ e
  show _ = accS (accS (accS (accS 0 (byteOf n 3)) (byteOf n 2)) (byteOf n 1)) (byteOf n 0)
  have c1 := (byteOf n 1).toNat_lt
  have c2 := (byteOf n 2).toNat_lt
  have c3 := (byteOf n 3).toNat_lt
  rw [acc0, accS_eq _ (by omega), accS_eq _ (by omega), accS_eq _ (by omega)]
theorem wtake_p (b : List UInt8) (hb : 4 ≤ b.length) : PFn Tryz.prog 216 [bytesL b] (.tup [.v (.int .i64 (tk4 b)), bytesL (b.drop 4)]) := by
  refine FnC.intro Tryz.func216 rfl Tryz.ntmps216 rfl ?_; intro off w0
  ((repeat refine S.seq ?_); refine wG (k := ?_); try (refine L.nil ?_))
  repeat refine S.seq ?_
  refine S.draw [] mixed ?_
  refine wT [0, 1, 2, 3, 4, 5, 6, 7, 8, 9, 10, 11, 12, 13, 14, 15, 16, 17, 18, 19, 20, 21, 22, 23, 24, 25] (k := ?_)
  refine wD (k := ?_)
  (((repeat refine S.seq ?_); refine S.ret ?_); refine wRt (k := ?_))
  exact Imp.tup ⟨Imp.of_eq (by unfold tk4 or64 shl64; rfl), Imp.lst (by rw [List.length_drop]; rfl) (fun i hi => drop_g u8C b 4 i), trivial⟩
def nms (b : List UInt8) : Nat → List Int
  | 0 => []
  | k + 1 => nms b k ++ [tk4 (b.drop (4 * k))]
theorem nms_len (b : List UInt8) : ∀ k, (nms b k).length = k
  | 0 => rfl
  | k + 1 => by rw [nms, List.length_append, nms_len b k]; rfl
theorem nms_num (ns : List Int) (r : List UInt8) (h : ∀ n ∈ ns, 0 ≤ n ∧ n < 4294967296) : ∀ k, k ≤ ns.length → nms (numB ns ++ r) k = ns.take k
  | 0, _ => by rw [List.take_zero]; rfl
  | k + 1, hk => by
    have hin : ns[k] ∈ ns := List.getElem_mem _
    rw [nms, nms_num ns r h k (by omega), List.take_succ_eq_append_getElem (show k < ns.length by omega)]
    congr 1
    have e : (numB ns ++ r).drop (4 * k) = numL ns[k] 4 ++ (numB (ns.drop (k + 1)) ++ r) := by
      have e1 : ns = ns.take k ++ (ns[k] :: ns.drop (k + 1)) := by rw [← List.drop_eq_getElem_cons, List.take_append_drop]
      have e2 : numB ns = numB (ns.take k) ++ (numL ns[k] 4 ++ numB (ns.drop (k + 1))) := by
        conv => lhs; rw [e1]
        unfold numB
        rw [List.flatMap_append, List.flatMap_cons]
      have e3 : (numB (ns.take k)).length = 4 * k := by rw [numB_len, List.length_take]; omega
      rw [e2, List.append_assoc, List.append_assoc, ← e3, List.drop_left]
    rw [e, tk4_num (h _ hin).1 (h _ hin).2]
theorem wnumbers_p (b : List UInt8) (k : Nat) (hk : 4 * k ≤ b.length) (hk2 : k ≤ 100) : PFn Tryz.prog 142 [bytesL b, .v (.int .i64 k)] (.tup [intW (nms b k), bytesL (b.drop (4 * k))]) := by
  refine FnC.intro Tryz.func142 rfl Tryz.ntmps142 rfl ?_; intro off w0
  ((repeat refine S.seq ?_); refine wG (k := ?_); try (refine L.nil ?_))
  repeat refine S.seq ?_
  refine S.scopeE 0 (ι := { q : Nat × Value // q.1 ≤ k }) (fun q => [(0, bytesL (b.drop (4 * q.1.1))), (1, .v (.int .i64 k)), (6, .ref 60 q.1.2)])
    (fun q => [(60, .own q.1.2 3 1 (nms b q.1.1).length (gOf intC (nms b q.1.1)))]) (fun q => k - q.1.1) rfl ?_ ?_
  · rintro ⟨⟨j, x⟩, hj⟩ J hJ
    dsimp only at hj hJ ⊢
    have hml := nms_len b j
    obtain ⟨M, hM⟩ : ∃ M, M = nms b j := ⟨_, rfl⟩
    rw [← hM] at hml ⊢
    ((repeat refine S.seq ?_); refine wG (k := ?_); try (refine L.nil ?_))
    ((repeat refine S.seq ?_); refine S.cond rfl (fun h1 => ?_) (fun h1 => ?_) <;> (try first | refine S.skip ?_ | refine S.exit ?_))
    · have h1 : j < k := by have := of_dec h1; omega
      repeat refine S.seq ?_
      refine S.region ?_
      (refine wL (k := ?_); try (refine L.nil ?_))
      refine wP ((wtake_p (b.drop (4 * j)) (by rw [List.length_drop]; omega))) (k := ?_)
      (refine wL (k := ?_); try (refine L.nil ?_))
      repeat refine S.seq ?_
      refine S.region ?_
      (refine wL (k := ?_); try (refine L.nil ?_))
      obtain ⟨z, hz⟩ : ∃ z, z = tk4 (b.drop (4 * j)) := ⟨_, rfl⟩
      rw [← hz]
      refine wF 61 (k := fun x19 => ?_)
      refine wY (k := fun y20 => ?_)
      refine ownAs 60 (gOf intC (M ++ [z])) rfl (show M.length + 1 = (M ++ [z]).length by simp) (fun i hi => app1_h intC M z _ rfl rfl hi) ?_
      (refine wL (k := ?_); try (refine L.nil ?_))
      refine slotAs 0 (bytesL (b.drop (4 * (j + 1)))) rfl (Imp.of_eq (by rw [List.drop_drop]; rfl)) ?_
      repeat refine S.seq ?_
      refine S.goto ?_
      exact fun a w hR => ⟨rfl, hJ a w ⟨(j + 1, y20), h1⟩ (by show k - (j + 1) < k - j; omega) (hR.weakP (by (repeat' (first | exact True.intro | exact Imp.refl _ | refine ⟨?_, ?_⟩))) (by rw [nms, ← hM, ← hz]; (repeat (first | exact Sub.refl _ | refine Sub.pick (by first | exact p0 | exact pS p0 | exact pS (pS p0) | exact pS (pS (pS p0)) | exact pS (pS (pS (pS p0))) | exact pS (pS (pS (pS (pS p0))))) ?_))))⟩
    have h1 : j = k := by have := of_dec' h1; omega
    subst h1
    refine freezeSlot 6 60 rfl rfl rfl ?_
    ((repeat refine S.seq ?_); refine wG (k := ?_); try (refine L.nil ?_))
    (((repeat refine S.seq ?_); refine S.ret ?_); refine wRt (k := ?_))
    rw [← hM]
    exact Imp.refl _
  · intro hp
    ((repeat refine S.seq ?_); refine wG (k := ?_); try (refine L.nil ?_))
    ((repeat refine S.seq ?_); refine wG (k := ?_); try (refine L.nil ?_))
    refine nilRow 60 3 1 (gOf intC []) (slotAs 6 (.ref 60 (.slice none 0 0)) rfl (Imp.vref rfl) ?_)
    repeat refine S.seq ?_
    refine S.label ?_
    exact fun a w hR => hp ⟨(0, .slice none 0 0), Nat.zero_le _⟩ a w (hR.weakP (by (repeat' (first | exact True.intro | exact Imp.refl _ | refine ⟨?_, ?_⟩))) (by (repeat (first | exact Sub.refl _ | refine Sub.pick (by first | exact p0 | exact pS p0 | exact pS (pS p0) | exact pS (pS (pS p0)) | exact pS (pS (pS (pS p0))) | exact pS (pS (pS (pS (pS p0))))) ?_))))
end Go.Proofs.YtbogfmgfafdjiaaGreatDoor

/- Keys of a map whose keys are two numbers. -/
namespace Go.Proofs.YtbogfmgfafdjiaaGreatDoor.KeyPlc
set_option linter.unusedVariables false
set_option linter.unusedSimpArgs false
set_option maxHeartbeats 8000000
open Go.RowKit
open Go.Maps (Keyed)
set_option maxRecDepth 20000

theorem rowName : Nat.blt 108 Tryz.prog.types.size = true := by kernel_rfl
theorem sizeT : ∃ m, Tryz.prog.types.size = m + 1 := by
  have h := of_blt rowName
  generalize Tryz.prog.types.size = n at h ⊢
  exact ⟨n - 1, by omega⟩
theorem kName : Keyed Tryz.prog 108 := Keyed.of_law (deep_law_laid laid (m := 2) (by omega) (of_blt rowName) (by kernel_rfl) (by kernel_rfl))

theorem keyT : Tryz.prog.keyType 108 = true := by kernel_rfl
theorem cellsT : Tryz.prog.cellsOf 108 = 2 := by kernel_rfl
theorem cellsI : Tryz.prog.cellsOf 3 = 1 := by kernel_rfl
theorem cellsS : Tryz.prog.cellsOf 9 = 1 := by kernel_rfl

theorem kName_ok {p q : Int} (hp : fitI p) (hq : fitI q) : kOf Tryz.prog 108 (.agg #[.int .i64 p, .int .i64 q]) = true := by
  have hs : Tryz.prog.underlying 9 = some .string := by kernel_rfl
  have hi : Tryz.prog.underlying 3 = some (.int .i64) := by kernel_rfl
  obtain ⟨l, hu, hfs⟩ := (TOk.told (P := Tryz.prog) (T := tt) tt_ok (t := 108) rfl).struct rfl
  obtain ⟨m, hm⟩ := sizeT
  obtain ⟨fl⟩ := l
  match fl, hfs with
  | [f1, f2], hfs =>
    simp only [fsOk, Bool.and_eq_true, beq_iff_eq, bne_iff_ne, ne_eq] at hfs
    obtain ⟨⟨⟨⟨⟨o1, t1⟩, -⟩, -⟩, n1⟩, ⟨⟨⟨⟨o2, t2⟩, -⟩, -⟩, n2⟩, -⟩ := hfs
    have wf : ∀ {z : Int}, fitI z → (Lit.int .i64 z).wf = true := fun {z} h => by
      have := h.1; have := h.2
      simp [Lit.wf, IntKind.min, IntKind.max, IntKind.signed, IntKind.bits]
      omega
    have w1 := wf hp
    have w2 := wf hq
    have hform : (Value.agg #[.int .i64 p, .int .i64 q]).formed Tryz.prog 108 = true := by
      simp [Value.formed, hu, cellsT]
    simp only [kOf, keyOf, hu, keyT, hform, Bool.and_self, if_true, hm]
    simp [Program.keyLits, hu, Value.cells, cellsT, n1, n2, o1, t1, o2, t2, cellsI, cellsS, hs, hi, w1, w2]

end Go.Proofs.YtbogfmgfafdjiaaGreatDoor.KeyPlc

/- A node: its records, and what it does with them (world). -/
namespace Go.Proofs.YtbogfmgfafdjiaaGreatDoor
set_option linter.unusedVariables false
set_option linter.unusedSimpArgs false
set_option maxHeartbeats 8000000
open Go.RowKit
set_option maxRecDepth 8000

def plc (q s : Int) : AV := .agg [.v (.int .i64 q), .v (.int .i64 s)]
def b3 : List UInt8 := [3]
def b1s : List UInt8 := [1]
def recT (t : Tab) : List UInt8 := (b3 ++ numB [0]) ++ putL t
def recS : List UInt8 := b1s ++ numB [0, 0, 1]
theorem recT_len (t : Tab) : (recT t).length = 5 + (putL t).length := by rw [recT, List.length_append]; rfl
theorem rtab_p (t : Tab) (hm : mayT t = true) (hr : in32 t) (hl : (putL t).length ≤ 10000) : PFn Tryz.prog 53 [.v (.int .i64 0), t.av] (bytesL (recT t)) := by
  have pP := tabput_p t hr
  rw [putO, putE, if_pos hm, if_pos hm] at pP
  unfold Tab.av at pP ⊢
  refine FnC.intro Tryz.func53 rfl Tryz.ntmps53 rfl ?_; intro off w0
  repeat refine S.seq ?_
  refine S.region ?_
  refine wB 1 (k := fun b1 => ?_)
  (refine wL (k := ?_); try (refine L.nil ?_))
  repeat refine S.seq ?_
  refine S.region ?_
  (refine wL (k := ?_); try (refine L.nil ?_))
  refine wP (pP) (k := ?_)
  (refine wL (k := ?_); try (refine L.nil ?_))
  repeat refine S.seq ?_
  refine S.region ?_
  refine wF 31 (k := fun x12 => ?_)
  (refine wL (k := ?_); try (refine L.nil ?_))
  refine wF 32 (k := fun x14 => ?_)
  refine freezeSlot 14 32 rfl rfl rfl ?_
  refine ownAs 31 (n' := 1) (gOf u8C b3) rfl rfl (fun i hi => ?_) ?_
  · have hi : i < 1 := hi
    have : i = 0 := by omega
    subst this; rfl
  refine slotAs 14 (intW [0]) rfl (Imp.lst rfl (fun i hi => ?_)) ?_
  · have hi : i < 1 := hi
    have : i = 0 := by omega
    subst this; rfl
  refine wC [(31, .own x12 5 1 b3.length (gOf u8C b3))] ((wnum_p x12 b3 [0] (by decide) (by decide))) (k := ?_)
  rintro r F' ⟨z, rfl, rfl⟩
  (refine wL (k := ?_); try (refine L.nil ?_))
  have e5 : (b3 ++ numB [0]).length = 5 := rfl
  have e1 : b3.length = 1 := rfl
  have e4 : (numB [0]).length = 4 := rfl
  refine wY (k := fun y17 => ?_)
  refine ownAs 31 (n' := (recT t).length) (gOf u8C (recT t)) rfl (show (b3 ++ numB [0]).length + (putL t).length = (recT t).length by rw [recT_len, e5]) (fun i hi => app_g u8C (b3 ++ numB [0]) (putL t) _ rfl (fun j hj => rfl) hi) ?_
  (refine wL (k := ?_); try (refine L.nil ?_))
  refine freezeSlot 4 31 rfl rfl rfl ?_
  (((repeat refine S.seq ?_); refine S.ret ?_); refine wRt (k := ?_))
  exact Imp.refl _
theorem rsta_p : PFn Tryz.prog 54 [plc 0 0, .v (.int .i64 1)] (bytesL recS) := by
  unfold plc
  refine FnC.intro Tryz.func54 rfl Tryz.ntmps54 rfl ?_; intro off w0
  repeat refine S.seq ?_
  refine S.region ?_
  refine wB 1 (k := fun b1 => ?_)
  (refine wL (k := ?_); try (refine L.nil ?_))
  repeat refine S.seq ?_
  refine S.region ?_
  refine wF 31 (k := fun x5 => ?_)
  (refine wL (k := ?_); try (refine L.nil ?_))
  refine wF 32 (k := fun x11 => ?_)
  refine freezeSlot 11 32 rfl rfl rfl ?_
  refine ownAs 31 (n' := 1) (gOf u8C b1s) rfl rfl (fun i hi => ?_) ?_
  · have hi : i < 1 := hi
    have : i = 0 := by omega
    subst this; rfl
  refine slotAs 11 (intW [0, 0, 1]) rfl (Imp.lst rfl (fun i hi => ?_)) ?_
  · have hi : i < 3 := hi
    have : i = 0 ∨ i = 1 ∨ i = 2 := by omega
    rcases this with rfl | rfl | rfl <;> rfl
  refine wC [(31, .own x5 5 1 b1s.length (gOf u8C b1s))] ((wnum_p x5 b1s [0, 0, 1] (by decide) (by decide))) (k := ?_)
  rintro r F' ⟨z, rfl, rfl⟩
  (refine wL (k := ?_); try (refine L.nil ?_))
  refine freezeSlot 4 31 rfl rfl rfl ?_
  (((repeat refine S.seq ?_); refine S.ret ?_); refine wRt (k := ?_))
  exact Imp.refl _
/-- The cells of a node. -/
def nodeC (me : Int) (lb pb : Nat) (tb : List AV) : List AV := [.v (.int .i64 me), .v (.bool true), .v (.int .i64 0), .ptr 70 lb 0, .ref 81 (.map (some pb))] ++ (tb ++ List.replicate 97 .any)
def tb0 : List AV := [.v (.int .i64 0), .v (.slice none 0 0), .v (.slice none 0 0), .v (.int .i64 0), .v (.slice none 0 0), .v (.slice none 0 0), .v (.int .i64 0), .v (.slice none 0 0), .v (.slice none 0 0), .v (.int .i64 0), .v (.slice none 0 0), .v (.slice none 0 0)]
def tb1 (t : Tab) : List AV := t.cells ++ tb0.drop 3
def nodR (me : Int) (nb lb pb : Nat) (tb : List AV) : Rows := [(80, .blk nb 98 (nodeC me lb pb tb))]
noncomputable def plcR (pb : Nat) (m : List (Value × AV)) : Rows := [(81, .map pb (kOf Tryz.prog 108) m)]
theorem app3_p (me : Int) (nb lb pb : Nat) (t : Tab) (hm : mayT t = true) (hr : in32 t) (hl : (putL t).length ≤ 10000) : FnC Tryz.prog 86 [.ptr 80 nb 0, bytesL (recT t)] (nodR me nb lb pb tb0)
    (fun r F' => r = .tup [] ∧ F' = nodR me nb lb pb (tb1 t)) := by
  have pG := tabget_p (putL t) (by omega)
  rw [getF_ok hm hr rfl] at pG
  dsimp only at pG
  have hlen : (recT t).length = 5 + (putL t).length := by rw [recT, List.length_append]; rfl
  obtain ⟨n, hn⟩ : ∃ n, n = (recT t).length := ⟨_, rfl⟩
  rw [← hn] at hlen
  unfold nodR
  refine FnC.intro Tryz.func86 rfl Tryz.ntmps86 rfl ?_; intro off w0
  refine slotAs 1 (.lst 1 n (gOf u8C (recT t))) rfl (Imp.lst hn.symm (fun i hi => rfl)) ?_
  repeat refine S.seq ?_
  refine S.draw [] mixed ?_
  refine wT [0, 1, 2, 3, 4, 5, 6] (k := ?_)
  refine wD (k := ?_)
  refine slotAs 4 (.v (.int .u8 3)) rfl (Imp.refl _) ?_
  refine slotAs 5 (bytesL (numB [0] ++ putL t)) rfl (Imp.lst (show n - 1 = (numB [0] ++ putL t).length by rw [List.length_append]; show n - 1 = 4 + (putL t).length; omega) (fun i hi => drop_g u8C (recT t) 1 i)) ?_
  ((repeat refine S.seq ?_); refine wG (k := ?_); try (refine L.nil ?_))
  ((repeat refine S.seq ?_); refine wG (k := ?_); try (refine L.nil ?_))
  repeat refine S.seq ?_
  refine S.block ?_
  ((repeat refine S.seq ?_); refine wG (k := ?_); try (refine L.nil ?_))
  ((repeat refine S.seq ?_); refine S.cond rfl (fun hc => ?_) (fun hc => ?_) <;> (try first | refine S.skip ?_ | refine S.exit ?_))
  · exact absurd hc (by decide)
  ((repeat refine S.seq ?_); refine wG (k := ?_); try (refine L.nil ?_))
  ((repeat refine S.seq ?_); refine S.cond rfl (fun hc1 => ?_) (fun hc1 => ?_) <;> (try first | refine S.skip ?_ | refine S.exit ?_))
  · exact absurd hc1 (by decide)
  ((repeat refine S.seq ?_); refine wG (k := ?_); try (refine L.nil ?_))
  ((repeat refine S.seq ?_); refine S.cond rfl (fun hc2 => ?_) (fun hc2 => ?_) <;> (try first | refine S.skip ?_ | refine S.exit ?_))
  · exact absurd hc2 (by decide)
  ((repeat refine S.seq ?_); refine wG (k := ?_); try (refine L.nil ?_))
  ((repeat refine S.seq ?_); refine S.cond rfl (fun hc3 => ?_) (fun hc3 => ?_) <;> (try first | refine S.skip ?_ | refine S.exit ?_))
  · repeat refine S.seq ?_
    refine S.region ?_
    (refine wL (k := ?_); try (refine L.nil ?_))
    refine wP ((wnumbers_p (numB [0] ++ putL t) 1 (by rw [List.length_append]; show 4 ≤ 4 + (putL t).length; omega) (by decide))) (k := ?_)
    (refine wL (k := ?_); try (refine L.nil ?_))
    refine slotAs 6 (intW [0]) rfl (Imp.of_eq (by rw [nms_num [0] (putL t) (by decide) 1 (by decide)]; rfl)) ?_
    refine slotAs 5 (bytesL (putL t)) rfl (Imp.of_eq rfl) ?_
    repeat refine S.seq ?_
    refine S.draw [] mixed ?_
    refine wT [0, 1, 2, 3, 4, 9, 10] (k := ?_)
    refine wHP 5 (pG) (k := ?_)
    refine wN ?_
    refine wT [6, 7, 8, 11] (k := ?_)
    refine wHS 12 (k := ?_)
    refine wD (k := ?_)
    refine rowsTo (nodR me nb lb pb (tb1 t)) (by unfold nodR; (repeat (first | exact Sub.refl _ | refine Sub.pick (by first | exact p0 | exact pS p0 | exact pS (pS p0) | exact pS (pS (pS p0)) | exact pS (pS (pS (pS p0))) | exact pS (pS (pS (pS (pS p0))))) ?_))) ?_
    exact E.fall (T := tt) tt_ok rfl rfl (by exact sd) (F' := nodR me nb lb pb (tb1 t)) (Imp.refl _) (List.Sublist.refl _) ⟨rfl, rfl⟩
  exact absurd hc3 (by decide)
def entC : List AV := [.v (.int .i64 1), .v (.bool false), .v (.int .i64 1), msgs [], helds [], marksA []]
theorem at0_p (me : Int) (nb lb pb : Nat) (tb : List AV) : FnC Tryz.prog 144 [.ptr 80 nb 0, plc 0 0] (nodR me nb lb pb tb ++ plcR pb [])
    (fun r F' => ∃ eb, r = .ptr 82 eb 0 ∧ F' = (82, .blk eb 115 (.v (.int .i64 0) :: entC.drop 1)) :: (nodR me nb lb pb tb ++ plcR pb [(.agg #[.int .i64 0, .int .i64 0], .ptr 82 eb 0)])) := by
  have hk : kOf Tryz.prog 108 (.agg #[.int .i64 0, .int .i64 0]) = true := KeyPlc.kName_ok (by unfold fitI; omega) (by unfold fitI; omega)
  unfold plc nodR plcR
  refine FnC.intro Tryz.func144 rfl Tryz.ntmps144 rfl ?_; intro off w0
  repeat refine S.seq ?_
  refine S.region ?_
  refine wB 1 (k := fun b1 => ?_)
  (refine wL (k := ?_); try (refine L.nil ?_))
  repeat refine S.seq ?_
  refine S.draw [(3, [80]), (4, [1]), (5, [81])] mixed ?_
  refine wT [0, 1, 2, 3, 4] (k := ?_)
  refine H.s1 5 (A := .v (.pointer none)) rfl (by kernel_rfl) (by kernel_rfl) (by kernel_rfl) (by kernel_rfl) (by kernel_rfl) (by intro ch a a' w h; obtain ⟨_, _, _, _, _, h, _⟩ := h; cases h) rfl rfl (by kernel_rfl) (look_sure (T := tt) (z := .pointer none) (kv := .agg #[.int .i64 0, .int .i64 0]) tt_ok KeyPlc.kName rfl rfl (by kernel_rfl) rfl rfl rfl (by exact sd) rfl (fun _ _ => rfl) rfl hk rfl) ?_
  refine wT [6] (k := ?_)
  refine wD (k := ?_)
  ((repeat refine S.seq ?_); refine wG (k := ?_); try (refine L.nil ?_))
  ((repeat refine S.seq ?_); refine S.cond rfl (fun hc => ?_) (fun hc => ?_) <;> (try first | refine S.skip ?_ | refine S.exit ?_))
  · repeat refine S.seq ?_
    refine S.region ?_
    refine wP (new_p) (k := ?_)
    (refine wL (k := ?_); try (refine L.nil ?_))
    refine wB 82 (k := fun eb => ?_)
    (refine wL (k := ?_); try (refine L.nil ?_))
    repeat refine S.seq ?_
    refine S.draw [(3, [80]), (4, [1])] mixed ?_
    refine wT [0, 1, 2, 3, 4, 5] (k := ?_)
    refine H.o1 6 rfl (by kernel_rfl) (by kernel_rfl) (O.mapSet (T := tt) tt_ok KeyPlc.kName rfl rfl rfl rfl rfl rfl rfl rfl (by exact sd) rfl rfl hk) (.inl (by kernel_rfl)) (by kernel_rfl) fun _ => ?_
    refine wD (k := ?_)
    ((repeat refine S.seq ?_); refine wG (k := ?_); try (refine L.nil ?_))
    ((repeat refine S.seq ?_); refine S.ret ?_)
    refine E.ret (T := tt) tt_ok rfl rfl (by exact sd) (F' := (82, .blk eb 115 (.v (.int .i64 0) :: entC.drop 1)) :: (nodR me nb lb pb tb ++ plcR pb [(.agg #[.int .i64 0, .int .i64 0], .ptr 82 eb 0)])) (Imp.refl _) ?_ ⟨eb, rfl, rfl⟩
    unfold nodR plcR
    (repeat (first | exact List.nil_sublist _ | refine List.Sublist.cons_cons _ ?_ | refine List.Sublist.cons _ ?_))
  cases hc
def entR (eb : Nat) (st : Int) : Rows := [(82, .blk eb 115 (.v (.int .i64 st) :: entC.drop 1))]
theorem app1s_p (me : Int) (nb lb pb : Nat) (tb : List AV) : FnC Tryz.prog 86 [.ptr 80 nb 0, bytesL recS] (nodR me nb lb pb tb ++ plcR pb [])
    (fun r F' => ∃ eb, r = .tup [] ∧ F' = entR eb 1 ++ (nodR me nb lb pb tb ++ plcR pb [(.agg #[.int .i64 0, .int .i64 0], .ptr 82 eb 0)])) := by
  have pN := wnumbers_p (numB [0, 0, 1]) 3 (by decide) (by decide)
  have e1 : nms (numB [0, 0, 1]) 3 = [0, 0, 1] := by
    have := nms_num [0, 0, 1] [] (by decide) 3 (by decide)
    rw [List.append_nil] at this
    rw [this]; rfl
  rw [e1] at pN
  unfold nodR plcR entR
  refine FnC.intro Tryz.func86 rfl Tryz.ntmps86 rfl ?_; intro off w0
  refine slotAs 1 (.lst 1 13 (gOf u8C recS)) rfl (Imp.lst rfl (fun i hi => rfl)) ?_
  repeat refine S.seq ?_
  refine S.draw [] mixed ?_
  refine wT [0, 1, 2, 3, 4, 5, 6] (k := ?_)
  refine wD (k := ?_)
  refine slotAs 4 (.v (.int .u8 1)) rfl (Imp.refl _) ?_
  refine slotAs 5 (bytesL (numB [0, 0, 1])) rfl (Imp.lst rfl (fun i hi => drop_g u8C recS 1 i)) ?_
  ((repeat refine S.seq ?_); refine wG (k := ?_); try (refine L.nil ?_))
  ((repeat refine S.seq ?_); refine wG (k := ?_); try (refine L.nil ?_))
  repeat refine S.seq ?_
  refine S.block ?_
  ((repeat refine S.seq ?_); refine wG (k := ?_); try (refine L.nil ?_))
  ((repeat refine S.seq ?_); refine S.cond rfl (fun hc => ?_) (fun hc => ?_) <;> (try first | refine S.skip ?_ | refine S.exit ?_))
  · exact absurd hc (by decide)
  ((repeat refine S.seq ?_); refine wG (k := ?_); try (refine L.nil ?_))
  ((repeat refine S.seq ?_); refine S.cond rfl (fun hc1 => ?_) (fun hc1 => ?_) <;> (try first | refine S.skip ?_ | refine S.exit ?_))
  · repeat refine S.seq ?_
    refine S.region ?_
    (refine wL (k := ?_); try (refine L.nil ?_))
    refine wP (pN) (k := ?_)
    (refine wL (k := ?_); try (refine L.nil ?_))
    repeat refine S.seq ?_
    refine S.draw [] mixed ?_
    refine wT [0, 1, 2, 3, 4, 5, 6] (k := ?_)
    refine wHA 7 83 (k := fun b10 => ?_)
    refine wHS 8 (k := ?_)
    refine wD (k := ?_)
    repeat refine S.seq ?_
    refine S.draw [(1, [83])] mixed ?_
    refine wT [0, 1, 3, 4, 5] (k := ?_)
    refine H.call 2 (nodR me nb lb pb tb ++ plcR pb []) [(83, .blk b10 108 [.v (.int .i64 0), .v (.int .i64 0)])] rfl (by kernel_rfl) (by kernel_rfl) rfl rfl rfl rfl rfl rfl rfl ⟨trivial, by exact sd⟩ rfl (by exact Imps.refl [.ptr 80 nb 0, plc 0 0]) (by unfold nodR plcR; (repeat (first | exact pick0 | refine pickS (by first | exact p0 | exact pS p0 | exact pS (pS p0) | exact pS (pS (pS p0)) | exact pS (pS (pS (pS p0))) | exact pS (pS (pS (pS (pS p0)))) | exact pS (pS (pS (pS (pS (pS p0)))))) ?_))) (at0_p me nb lb pb tb) (by kernel_rfl) (by kernel_rfl) ?_
    rintro r F' ⟨eb, rfl, rfl⟩
    unfold nodR plcR
    refine wN ?_
    refine wT [6, 7] (k := ?_)
    refine wHS 8 (k := ?_)
    refine wD (k := ?_)
    ((repeat refine S.seq ?_); refine wG (k := ?_); try (refine L.nil ?_))
    ((repeat refine S.seq ?_); refine S.cond rfl (fun hc2 => ?_) (fun hc2 => ?_) <;> (try first | refine S.skip ?_ | refine S.exit ?_))
    · exact absurd hc2 (by decide)
    refine rowsTo (entR eb 1 ++ (nodR me nb lb pb tb ++ plcR pb [(.agg #[.int .i64 0, .int .i64 0], .ptr 82 eb 0)])) (by unfold entR nodR plcR; (repeat (first | exact Sub.refl _ | refine Sub.pick (by first | exact p0 | exact pS p0 | exact pS (pS p0) | exact pS (pS (pS p0)) | exact pS (pS (pS (pS p0))) | exact pS (pS (pS (pS (pS p0))))) ?_))) ?_
    exact E.fall (T := tt) tt_ok rfl rfl (by exact sd) (F' := entR eb 1 ++ (nodR me nb lb pb tb ++ plcR pb [(.agg #[.int .i64 0, .int .i64 0], .ptr 82 eb 0)])) (Imp.refl _) (List.Sublist.refl _) ⟨eb, rfl, rfl⟩
  exact absurd hc1 (by decide)
end Go.Proofs.YtbogfmgfafdjiaaGreatDoor

/- A node: what is written durably; a new node (world). -/
namespace Go.Proofs.YtbogfmgfafdjiaaGreatDoor
set_option linter.unusedVariables false
set_option linter.unusedSimpArgs false
set_option maxHeartbeats 8000000
open Go.RowKit
set_option maxRecDepth 8000

def recsA (l : List (List UInt8)) : AV := .lst 1 l.length (gOf (fun b => [bytesL b]) l)
noncomputable def wrTR (t : Tab) (me : Int) (nb lb pb : Nat) (s : List UInt8) : Bool × Value × Value → Rows
  | (false, y, z) => logR lb y z s [] ++ nodR me nb lb pb tb0
  | (true, y, z) => logR lb y z s (recB (recT t)) ++ nodR me nb lb pb (tb1 t)
def bitZ : Bool → Int
  | false => 0
  | true => 1
theorem wrT_p (me : Int) (nb lb pb : Nat) (t : Tab) (y z : Value) (s : List UInt8) (hm : mayT t = true) (hr : in32 t) (hl : (putL t).length ≤ 10000) (hs : s.length ≤ 100000) :
    FnC Tryz.prog 52 [.ptr 80 nb 0, recsA [recT t]] (logR lb y z s [] ++ nodR me nb lb pb tb0)
    (fun r F' => ∃ y' z', r = .tup [] ∧ F' = logR lb y' z' (s ++ recB (recT t)) [] ++ nodR me nb lb pb (tb1 t)) := by
  have hrl := recT_len t
  have hbl := recB_len (recT t)
  obtain ⟨b, hb⟩ : ∃ b, b = recT t := ⟨_, rfl⟩
  have qA := app3_p me nb lb pb t hm hr hl
  rw [← hb] at qA hrl hbl ⊢
  have qP := fun y z => logput_p lb y z s [] b (by omega) (by omega) (by decide)
  have qS := fun y z => logsync_p lb y z s (recB b) (by omega) (by omega)
  refine FnC.intro Tryz.func52 rfl Tryz.ntmps52 rfl ?_; intro off w0
  ((repeat refine S.seq ?_); refine wG (k := ?_); try (refine L.nil ?_))
  repeat refine S.seq ?_
  refine S.cut (ι := Value × Value) (fun q => [(0, .ptr 80 nb 0)]) (fun q => logR lb q.1 q.2 s (recB b) ++ nodR me nb lb pb (tb1 t)) ?_ ?_
  · refine S.block (S.loop (ι := Bool × Value × Value) (fun q => [(0, .ptr 80 nb 0), (6, recsA [b]), (7, .v (.int .i64 1)), (8, .v (.int .i64 (bitZ q.1)))]) (wrTR t me nb lb pb s) (fun q => (1 - bitZ q.1).toNat) ?_ ?_)
    · exact fun a w h => ⟨(false, y, z), h.weakP (by (repeat' (first | exact True.intro | exact Imp.refl _ | refine ⟨?_, ?_⟩))) (by unfold wrTR; (repeat (first | exact Sub.refl _ | refine Sub.pick (by first | exact p0 | exact pS p0 | exact pS (pS p0) | exact pS (pS (pS p0)) | exact pS (pS (pS (pS p0))) | exact pS (pS (pS (pS (pS p0))))) ?_)))⟩
    rintro ⟨k, y, z⟩
    cases k
    · dsimp only
      unfold wrTR logR nodR bitZ
      dsimp only
      ((repeat refine S.seq ?_); refine wG (k := ?_); try (refine L.nil ?_))
      ((repeat refine S.seq ?_); refine S.cond rfl (fun hc => ?_) (fun hc => ?_) <;> (try first | refine S.skip ?_ | refine S.exit ?_))
      · repeat refine S.seq ?_
        refine S.block ?_
        ((repeat refine S.seq ?_); refine wG (k := ?_); try (refine L.nil ?_))
        refine slotAs 5 (bytesL b) rfl (Imp.refl _) ?_
        repeat refine S.seq ?_
        refine S.region ?_
        (refine wL (k := ?_); try (refine L.nil ?_))
        refine L.call (G := logR lb y z s []) (H := nodR me nb lb pb tb0) rfl rfl rfl rfl rfl rfl rfl ⟨trivial, by exact sd⟩ rfl (by exact Imps.refl [.ptr 70 lb 0, bytesL b]) (by unfold logR nodR; (repeat (first | exact pick0 | refine pickS (by first | exact p0 | exact pS p0 | exact pS (pS p0) | exact pS (pS (pS p0)) | exact pS (pS (pS (pS p0))) | exact pS (pS (pS (pS (pS p0)))) | exact pS (pS (pS (pS (pS (pS p0)))))) ?_))) (qP y z) ?_
        rintro r F' ⟨z', rfl, rfl⟩
        (refine wL (k := ?_); try (refine L.nil ?_))
        repeat refine S.seq ?_
        refine S.region ?_
        (refine wL (k := ?_); try (refine L.nil ?_))
        refine L.call (G := nodR me nb lb pb tb0) (H := logR lb y z' s ([] ++ recB b)) rfl rfl rfl rfl rfl rfl rfl ⟨trivial, by exact sd⟩ rfl (by exact Imps.refl [.ptr 80 nb 0, bytesL b]) (by exact List.perm_append_comm) qA ?_
        rintro r F' ⟨rfl, rfl⟩
        refine L.nil ?_
        ((repeat refine S.seq ?_); refine wG (k := ?_); try (refine L.nil ?_))
        exact fun a w hR => ⟨(true, y, z'), by show (1 - (1 : Int)).toNat < (1 - (0 : Int)).toNat; decide, hR.weakP (by (repeat' (first | exact True.intro | exact Imp.refl _ | refine ⟨?_, ?_⟩))) (by show Sub _ (logR lb y z' s (recB (recT t)) ++ nodR me nb lb pb (tb1 t)); rw [← hb]; unfold logR nodR; simp only [List.nil_append, List.cons_append]; (repeat (first | exact Sub.refl _ | refine Sub.pick (by first | exact p0 | exact pS p0 | exact pS (pS p0) | exact pS (pS (pS p0)) | exact pS (pS (pS (pS p0))) | exact pS (pS (pS (pS (pS p0))))) ?_)))⟩
      exact absurd hc (by decide)
    · dsimp only
      unfold wrTR logR nodR bitZ
      dsimp only
      ((repeat refine S.seq ?_); refine wG (k := ?_); try (refine L.nil ?_))
      ((repeat refine S.seq ?_); refine S.cond rfl (fun hc => ?_) (fun hc => ?_) <;> (try first | refine S.skip ?_ | refine S.exit ?_))
      · exact absurd hc (by decide)
      exact fun a w hR => ⟨(y, z), hR.weakP (by (repeat' (first | exact True.intro | exact Imp.refl _ | refine ⟨?_, ?_⟩))) (by show Sub _ (logR lb y z s (recB b) ++ nodR me nb lb pb (tb1 t)); rw [← hb]; unfold logR nodR; simp only [List.nil_append, List.cons_append]; (repeat (first | exact Sub.refl _ | refine Sub.pick (by first | exact p0 | exact pS p0 | exact pS (pS p0) | exact pS (pS (pS p0)) | exact pS (pS (pS (pS p0))) | exact pS (pS (pS (pS (pS p0))))) ?_)))⟩
  rintro ⟨y, z⟩
  unfold logR nodR
  repeat refine S.seq ?_
  refine S.region ?_
  (refine wL (k := ?_); try (refine L.nil ?_))
  refine L.call (G := logR lb y z s (recB b)) (H := nodR me nb lb pb (tb1 t)) rfl rfl rfl rfl rfl rfl rfl ⟨trivial, by exact sd⟩ rfl (by exact Imps.refl [.ptr 70 lb 0]) (by unfold logR nodR; (repeat (first | exact pick0 | refine pickS (by first | exact p0 | exact pS p0 | exact pS (pS p0) | exact pS (pS (pS p0)) | exact pS (pS (pS (pS p0))) | exact pS (pS (pS (pS (pS p0)))) | exact pS (pS (pS (pS (pS (pS p0)))))) ?_))) (qS y z) ?_
  rintro r F' ⟨y', z', rfl, rfl⟩
  refine L.nil ?_
  exact E.fall (T := tt) tt_ok rfl rfl (by exact sd) (F' := logR lb y' z' (s ++ recB b) [] ++ nodR me nb lb pb (tb1 t)) (Imp.refl _) (List.Sublist.refl _) ⟨y', z', rfl, rfl⟩
noncomputable def nodP (me : Int) (nb lb pb : Nat) (tb : List AV) : Rows := nodR me nb lb pb tb ++ plcR pb []
noncomputable def nodQ (me : Int) (nb lb pb eb : Nat) (tb : List AV) : Rows := entR eb 1 ++ (nodR me nb lb pb tb ++ plcR pb [(.agg #[.int .i64 0, .int .i64 0], .ptr 82 eb 0)])
noncomputable def wrSR (me : Int) (nb lb pb : Nat) (tb : List AV) (s : List UInt8) : Bool × Value × Value × Nat → Rows
  | (false, y, z, _) => logR lb y z s [] ++ nodP me nb lb pb tb
  | (true, y, z, eb) => logR lb y z s (recB recS) ++ nodQ me nb lb pb eb tb
theorem wrS_p (me : Int) (nb lb pb : Nat) (tb : List AV) (y z : Value) (s : List UInt8) (hs : s.length ≤ 200000) :
    FnC Tryz.prog 52 [.ptr 80 nb 0, recsA [recS]] (logR lb y z s [] ++ nodP me nb lb pb tb)
    (fun r F' => ∃ y' z' eb, r = .tup [] ∧ F' = logR lb y' z' (s ++ recB recS) [] ++ nodQ me nb lb pb eb tb) := by
  have hrl : recS.length = 13 := rfl
  have hbl := recB_len recS
  obtain ⟨b, hb⟩ : ∃ b, b = recS := ⟨_, rfl⟩
  have qA := app1s_p me nb lb pb tb
  rw [← hb] at qA hrl hbl ⊢
  have qP := fun y z => logput_p lb y z s [] b (by omega) (by omega) (by decide)
  have qS := fun y z => logsync_p lb y z s (recB b) (by omega) (by omega)
  refine FnC.intro Tryz.func52 rfl Tryz.ntmps52 rfl ?_; intro off w0
  ((repeat refine S.seq ?_); refine wG (k := ?_); try (refine L.nil ?_))
  repeat refine S.seq ?_
  refine S.cut (ι := Value × Value × Nat) (fun q => [(0, .ptr 80 nb 0)]) (fun q => logR lb q.1 q.2.1 s (recB b) ++ nodQ me nb lb pb q.2.2 tb) ?_ ?_
  · refine S.block (S.loop (ι := Bool × Value × Value × Nat) (fun q => [(0, .ptr 80 nb 0), (6, recsA [b]), (7, .v (.int .i64 1)), (8, .v (.int .i64 (bitZ q.1)))]) (wrSR me nb lb pb tb s) (fun q => (1 - bitZ q.1).toNat) ?_ ?_)
    · exact fun a w h => ⟨(false, y, z, 0), h.weakP (by (repeat' (first | exact True.intro | exact Imp.refl _ | refine ⟨?_, ?_⟩))) (by unfold wrSR; (repeat (first | exact Sub.refl _ | refine Sub.pick (by first | exact p0 | exact pS p0 | exact pS (pS p0) | exact pS (pS (pS p0)) | exact pS (pS (pS (pS p0))) | exact pS (pS (pS (pS (pS p0))))) ?_)))⟩
    rintro ⟨k, y, z, eb⟩
    cases k
    · dsimp only
      unfold wrSR logR nodP nodQ entR nodR plcR bitZ
      dsimp only
      ((repeat refine S.seq ?_); refine wG (k := ?_); try (refine L.nil ?_))
      ((repeat refine S.seq ?_); refine S.cond rfl (fun hc => ?_) (fun hc => ?_) <;> (try first | refine S.skip ?_ | refine S.exit ?_))
      · repeat refine S.seq ?_
        refine S.block ?_
        ((repeat refine S.seq ?_); refine wG (k := ?_); try (refine L.nil ?_))
        refine slotAs 5 (bytesL b) rfl (Imp.refl _) ?_
        repeat refine S.seq ?_
        refine S.region ?_
        (refine wL (k := ?_); try (refine L.nil ?_))
        refine L.call (G := logR lb y z s []) (H := nodP me nb lb pb tb) rfl rfl rfl rfl rfl rfl rfl ⟨trivial, by exact sd⟩ rfl (by exact Imps.refl [.ptr 70 lb 0, bytesL b]) (by exact List.Perm.refl _) (qP y z) ?_
        rintro r F' ⟨z', rfl, rfl⟩
        (refine wL (k := ?_); try (refine L.nil ?_))
        repeat refine S.seq ?_
        refine S.region ?_
        (refine wL (k := ?_); try (refine L.nil ?_))
        refine L.call (G := nodP me nb lb pb tb) (H := logR lb y z' s ([] ++ recB b)) rfl rfl rfl rfl rfl rfl rfl ⟨trivial, by exact sd⟩ rfl (by exact Imps.refl [.ptr 80 nb 0, bytesL b]) (by exact List.perm_append_comm) qA ?_
        rintro r F' ⟨eb, rfl, rfl⟩
        refine L.nil ?_
        ((repeat refine S.seq ?_); refine wG (k := ?_); try (refine L.nil ?_))
        exact fun a w hR => ⟨(true, y, z', eb), by show (1 - (1 : Int)).toNat < (1 - (0 : Int)).toNat; decide, hR.weakP (by (repeat' (first | exact True.intro | exact Imp.refl _ | refine ⟨?_, ?_⟩))) (by show Sub _ (logR lb y z' s (recB recS) ++ nodQ me nb lb pb eb tb); rw [← hb]; unfold logR nodQ entR nodR plcR; simp only [List.nil_append, List.cons_append]; (repeat (first | exact Sub.refl _ | refine Sub.pick (by first | exact p0 | exact pS p0 | exact pS (pS p0) | exact pS (pS (pS p0)) | exact pS (pS (pS (pS p0))) | exact pS (pS (pS (pS (pS p0))))) ?_)))⟩
      exact absurd hc (by decide)
    · dsimp only
      unfold wrSR logR nodP nodQ entR nodR plcR bitZ
      dsimp only
      ((repeat refine S.seq ?_); refine wG (k := ?_); try (refine L.nil ?_))
      ((repeat refine S.seq ?_); refine S.cond rfl (fun hc => ?_) (fun hc => ?_) <;> (try first | refine S.skip ?_ | refine S.exit ?_))
      · exact absurd hc (by decide)
      exact fun a w hR => ⟨(y, z, eb), hR.weakP (by (repeat' (first | exact True.intro | exact Imp.refl _ | refine ⟨?_, ?_⟩))) (by show Sub _ (logR lb y z s (recB b) ++ nodQ me nb lb pb eb tb); rw [← hb]; unfold logR nodQ entR nodR plcR; simp only [List.nil_append, List.cons_append]; (repeat (first | exact Sub.refl _ | refine Sub.pick (by first | exact p0 | exact pS p0 | exact pS (pS p0) | exact pS (pS (pS p0)) | exact pS (pS (pS (pS p0))) | exact pS (pS (pS (pS (pS p0))))) ?_)))⟩
  rintro ⟨y, z, eb⟩
  unfold logR nodQ entR nodR plcR
  repeat refine S.seq ?_
  refine S.region ?_
  (refine wL (k := ?_); try (refine L.nil ?_))
  refine L.call (G := logR lb y z s (recB b)) (H := nodQ me nb lb pb eb tb) rfl rfl rfl rfl rfl rfl rfl ⟨trivial, by exact sd⟩ rfl (by exact Imps.refl [.ptr 70 lb 0]) (by exact List.Perm.refl _) (qS y z) ?_
  rintro r F' ⟨y', z', rfl, rfl⟩
  refine L.nil ?_
  exact E.fall (T := tt) tt_ok rfl rfl (by exact sd) (F' := logR lb y' z' (s ++ recB b) [] ++ nodQ me nb lb pb eb tb) (Imp.refl _) (List.Sublist.refl _) ⟨y', z', eb, rfl, rfl⟩
theorem anysI : ∀ (n : Nat) (l : List AV), l.length = n → Imps l (List.replicate n .any)
  | 0, [], _ => trivial
  | n + 1, a :: l, h => ⟨Imp.any a, anysI n l (by simpa using h)⟩
theorem newnode_p : FnC Tryz.prog 51 [.v (.slice none 0 0), .v (.int .i64 0)] []
    (fun r F' => ∃ nb lb pb y z, r = .ptr 80 nb 0 ∧ F' = logR lb y z [] [] ++ nodP 0 nb lb pb tb0) := by
  refine FnC.intro Tryz.func51 rfl Tryz.ntmps51 rfl ?_; intro off w0
  ((repeat refine S.seq ?_); refine wG (k := ?_); try (refine L.nil ?_))
  repeat refine S.seq ?_
  refine S.region ?_
  (refine wL (k := ?_); try (refine L.nil ?_))
  refine L.makeMap 81 108 rfl rfl rfl rfl fun pb => ?_
  refine L.makeMap 84 274 rfl rfl rfl rfl fun mb => ?_
  (refine wL (k := ?_); try (refine L.nil ?_))
  refine wB 80 (k := fun nb => ?_)
  (refine wL (k := ?_); try (refine L.nil ?_))
  ((repeat refine S.seq ?_); refine wG (k := ?_); try (refine L.nil ?_))
  repeat refine S.seq ?_
  refine S.region ?_
  (refine wL (k := ?_); try (refine L.nil ?_))
  refine wC [] (open0_p) (k := ?_)
  rintro r F' ⟨lb, y, z, rfl, rfl⟩
  unfold logR
  (refine wL (k := ?_); try (refine L.nil ?_))
  refine wS (k := ?_)
  (refine wL (k := ?_); try (refine L.nil ?_))
  refine slotAs 6 (.lst 1 0 (gOf (fun b => [bytesL b]) [])) rfl (Imp.nil _ _) ?_
  ((repeat refine S.seq ?_); refine wG (k := ?_); try (refine L.nil ?_))
  repeat refine S.seq ?_
  refine S.cut (ι := Unit) (fun _ => [(5, .ptr 80 nb 0)]) (fun _ => logR lb y z [] [] ++ nodP 0 nb lb pb tb0) ?_ ?_
  · refine S.block (S.loop (ι := Unit) (fun _ => [(5, .ptr 80 nb 0), (23, .v (.int .i64 0)), (24, .v (.int .i64 0))]) (fun _ => logR lb y z [] [] ++ nodP 0 nb lb pb tb0) (fun _ => 0) ?_ ?_)
    · refine blkAs 80 (nodeC 0 lb pb tb0) rfl ?_ ?_
      · exact ⟨Imp.refl _, Imp.refl _, Imp.refl _, Imp.refl _, Imp.refl _, Imp.refl _, Imp.refl _, Imp.refl _, Imp.refl _, Imp.refl _, Imp.refl _, Imp.refl _, Imp.refl _, Imp.refl _, Imp.refl _, Imp.refl _, Imp.refl _, anysI 97 _ rfl⟩
      exact fun a w h => ⟨(), h.weakP (by (repeat' (first | exact True.intro | exact Imp.refl _ | refine ⟨?_, ?_⟩))) (by unfold logR nodP nodR plcR; simp only [List.nil_append, List.cons_append]; (repeat (first | exact Sub.refl _ | refine Sub.pick (by first | exact p0 | exact pS p0 | exact pS (pS p0) | exact pS (pS (pS p0)) | exact pS (pS (pS (pS p0))) | exact pS (pS (pS (pS (pS p0))))) ?_)))⟩
    rintro _
    ((repeat refine S.seq ?_); refine wG (k := ?_); try (refine L.nil ?_))
    ((repeat refine S.seq ?_); refine S.cond rfl (fun hc => ?_) (fun hc => ?_) <;> (try first | refine S.skip ?_ | refine S.exit ?_))
    · exact absurd hc (by decide)
    exact fun a w hR => ⟨(), hR.weakP (by (repeat' (first | exact True.intro | exact Imp.refl _ | refine ⟨?_, ?_⟩))) (by unfold logR nodP nodR plcR; simp only [List.nil_append, List.cons_append]; (repeat (first | exact Sub.refl _ | refine Sub.pick (by first | exact p0 | exact pS p0 | exact pS (pS p0) | exact pS (pS (pS p0)) | exact pS (pS (pS (pS p0))) | exact pS (pS (pS (pS (pS p0))))) ?_)))⟩
  intro _
  ((repeat refine S.seq ?_); refine wG (k := ?_); try (refine L.nil ?_))
  ((repeat refine S.seq ?_); refine S.ret ?_)
  exact E.ret (T := tt) tt_ok rfl rfl (by exact sd) (F' := logR lb y z [] [] ++ nodP 0 nb lb pb tb0) (Imp.refl _) (List.Sublist.refl _) ⟨nb, lb, pb, y, z, rfl, rfl⟩
end Go.Proofs.YtbogfmgfafdjiaaGreatDoor

/- Keys of a map whose keys are a number and a text. -/
namespace Go.Proofs.YtbogfmgfafdjiaaGreatDoor.KeyAut
set_option linter.unusedVariables false
set_option linter.unusedSimpArgs false
set_option maxHeartbeats 8000000
open Go.RowKit
open Go.Maps (Keyed)
set_option maxRecDepth 20000

theorem rowName : Nat.blt 220 Tryz.prog.types.size = true := by kernel_rfl
theorem sizeT : ∃ m, Tryz.prog.types.size = m + 1 := by
  have h := of_blt rowName
  generalize Tryz.prog.types.size = n at h ⊢
  exact ⟨n - 1, by omega⟩
theorem kName : Keyed Tryz.prog 220 := Keyed.of_law (deep_law_laid laid (m := 2) (by omega) (of_blt rowName) (by kernel_rfl) (by kernel_rfl))

theorem keyT : Tryz.prog.keyType 220 = true := by kernel_rfl
theorem cellsT : Tryz.prog.cellsOf 220 = 2 := by kernel_rfl
theorem cellsI : Tryz.prog.cellsOf 3 = 1 := by kernel_rfl
theorem cellsS : Tryz.prog.cellsOf 9 = 1 := by kernel_rfl

theorem kName_ok {p : Int} {b : ByteArray} (hp : fitI p) (h : fitS b) : kOf Tryz.prog 220 (nameV p b) = true := by
  have hs : Tryz.prog.underlying 9 = some .string := by kernel_rfl
  have hi : Tryz.prog.underlying 3 = some (.int .i64) := by kernel_rfl
  obtain ⟨l, hu, hfs⟩ := (TOk.told (P := Tryz.prog) (T := tt) tt_ok (t := 220) rfl).struct rfl
  obtain ⟨m, hm⟩ := sizeT
  obtain ⟨fl⟩ := l
  match fl, hfs with
  | [f1, f2], hfs =>
    simp only [fsOk, Bool.and_eq_true, beq_iff_eq, bne_iff_ne, ne_eq] at hfs
    obtain ⟨⟨⟨⟨⟨o1, t1⟩, -⟩, -⟩, n1⟩, ⟨⟨⟨⟨o2, t2⟩, -⟩, -⟩, n2⟩, -⟩ := hfs
    have hwf : (Lit.int .i64 p).wf = true := by
      have := hp.1; have := hp.2
      simp [Lit.wf, IntKind.min, IntKind.max, IntKind.signed, IntKind.bits]
      omega
    have hsz : b.size ≤ maxLen := by unfold fitS at h; simp only [maxLen]; omega
    have hform : (nameV p b).formed Tryz.prog 220 = true := by
      simp [Value.formed, nameV, hu, cellsT]
    simp only [kOf, keyOf, hu, keyT, hform, Bool.and_self, if_true, hm]
    simp [Program.keyLits, hu, nameV, Value.cells, cellsT, n1, n2, o1, t1, o2, t2, cellsI, cellsS, hs, hi, hwf, hsz]

end Go.Proofs.YtbogfmgfafdjiaaGreatDoor.KeyAut

/- An author: beginning, publishing. -/
namespace Go.Proofs.YtbogfmgfafdjiaaGreatDoor
set_option linter.unusedVariables false
set_option linter.unusedSimpArgs false
set_option maxHeartbeats 8000000
open Go.RowKit
set_option maxRecDepth 4000

structure OutD where
  queue : Int
  l : List Msg
  deriving DecidableEq
instance : Inhabited OutD := ⟨⟨0, []⟩⟩
def OutD.cells (o : OutD) : List AV := [.v (.int .i64 o.queue), msgs o.l]
structure AuD where
  pub : Int
  seqs : List Mark
  l : List OutD
  deriving DecidableEq
noncomputable def auR (b mb : Nat) (x : Value) (A : AuD) : Rows := [(40, .blk b 185 [.v (.int .i64 A.pub), .ref 41 (.map (some mb)), .ref 42 x]), (41, .map mb (kOf Tryz.prog 220) (marksM A.seqs)), (42, .own x 223 2 A.l.length (gOf OutD.cells A.l))]

theorem anew_p (pub : Int) (h0 : 0 ≤ pub) (h1 : pub < 4) : FnC Tryz.prog 91 [.v (.int .i64 pub)] [] (fun r F' => ∃ b mb, r = .ptr 40 b 0 ∧ F' = auR b mb (.slice none 0 0) ⟨pub, [], []⟩) := by
  refine FnC.intro Tryz.func91 rfl Tryz.ntmps91 rfl ?_; intro off w0
  ((repeat refine S.seq ?_); refine wG (k := ?_); try (refine L.nil ?_))
  ((repeat refine S.seq ?_); refine wG (k := ?_); try (refine L.nil ?_))
  ((repeat refine S.seq ?_); refine S.cond rfl (fun hc => ?_) (fun hc => ?_) <;> (try first | refine S.skip ?_ | refine S.exit ?_))
  · exfalso
    simp only [Bool.or_eq_true, decide_eq_true_eq] at hc
    omega
  repeat refine S.seq ?_
  refine S.region ?_
  (refine wL (k := ?_); try (refine L.nil ?_))
  refine L.makeMap 41 220 rfl rfl rfl rfl fun mb => ?_
  (refine wL (k := ?_); try (refine L.nil ?_))
  refine wB 40 (k := fun b12 => ?_)
  (refine wL (k := ?_); try (refine L.nil ?_))
  refine nilRow 42 223 2 (gOf OutD.cells []) ?_
  refine blkAs 40 [.v (.int .i64 pub), .ref 41 (.map (some mb)), .ref 42 (.slice none 0 0)] rfl ⟨Imp.refl _, Imp.refl _, Imp.vref rfl, trivial⟩ ?_
  refine rowsTo (auR b12 mb (.slice none 0 0) ⟨pub, [], []⟩) (by first | (unfold auR; (repeat (first | exact Sub.refl _ | refine Sub.pick (by first | exact p0 | exact pS p0 | exact pS (pS p0) | exact pS (pS (pS p0)) | exact pS (pS (pS (pS p0))) | exact pS (pS (pS (pS (pS p0))))) ?_))) | (repeat (first | exact Sub.refl _ | refine Sub.pick (by first | exact p0 | exact pS p0 | exact pS (pS p0) | exact pS (pS (pS p0)) | exact pS (pS (pS (pS p0))) | exact pS (pS (pS (pS (pS p0))))) ?_))) ?_
  ((repeat refine S.seq ?_); refine S.ret ?_)
  exact E.ret (T := tt) tt_ok rfl rfl (by exact sd) (Imp.refl _) (List.Sublist.refl _) ⟨b12, mb, rfl, rfl⟩
theorem anew0_p (pub : Int) (h : pub < 0 ∨ pub ≥ 4) : PFn Tryz.prog 91 [.v (.int .i64 pub)] (.v (.pointer none)) := by
  refine FnC.intro Tryz.func91 rfl Tryz.ntmps91 rfl ?_; intro off w0
  ((repeat refine S.seq ?_); refine wG (k := ?_); try (refine L.nil ?_))
  ((repeat refine S.seq ?_); refine wG (k := ?_); try (refine L.nil ?_))
  ((repeat refine S.seq ?_); refine S.cond rfl (fun hc => ?_) (fun hc => ?_) <;> (try first | refine S.skip ?_ | refine S.exit ?_))
  · ((repeat refine S.seq ?_); refine wG (k := ?_); try (refine L.nil ?_))
    (((repeat refine S.seq ?_); refine S.ret ?_); refine wRt (k := Imp.of_eq ?_))
    rfl
  exfalso
  simp only [Bool.or_eq_false_iff, decide_eq_false_iff_not] at hc
  omega

def bodyA (body : ByteArray) (many : Int) (i : Nat) : ByteArray := if many > 1 then body ++ numT i else body
def msgA (A : AuD) (q : Int) (key body : ByteArray) (many : Int) (i : Nat) : Msg := ⟨A.pub, lastSeq A.seqs q key + 1 + i, key, bodyA body many i, false⟩
def msgsA (A : AuD) (q : Int) (key body : ByteArray) (many : Int) (k : Nat) : List Msg := (List.range k).map (msgA A q key body many)
def argA (q many : Int) : Bool := ((decide (q < 0) || decide (q ≥ 4)) || decide (many < 1)) || decide (many > 8)
def pubE (A : AuD) (q : Int) (key body : ByteArray) (many : Int) : Int :=
  if argA q many then 1 else if (List.range many.toNat).all (fun i => mayMsg (msgA A q key body many i)) = false then 1 else if (A.l.length : Int) ≥ 16 then 4 else 0
def pubS (A : AuD) (q : Int) (key body : ByteArray) (many : Int) : AuD :=
  if pubE A q key body many = 0 then ⟨A.pub, A.seqs ++ [⟨q, key, lastSeq A.seqs q key + many⟩], A.l ++ [⟨q, msgsA A q key body many many.toNat⟩]⟩ else A
theorem msgsA_succ (A : AuD) (q : Int) (key body : ByteArray) (many : Int) (k : Nat) : msgsA A q key body many (k + 1) = msgsA A q key body many k ++ [msgA A q key body many k] := by
  simp [msgsA, List.range_succ]
theorem msgsA_len (A : AuD) (q : Int) (key body : ByteArray) (many : Int) (k : Nat) : (msgsA A q key body many k).length = k := by simp [msgsA]
theorem marksM_app (l : List Mark) (m : Mark) : marksM (l ++ [m]) = markM m :: marksM l := by simp [marksM]

structure AuOk (A : AuD) : Prop where
  len : A.l.length ≤ 16
  seq : ∀ q k, 0 ≤ lastSeq A.seqs q k ∧ lastSeq A.seqs q k ≤ 100000
  some1 : ∀ o ∈ A.l, 0 < o.l.length ∧ o.l.length ≤ 8 ∧ fitI o.queue ∧ ∀ m ∈ o.l, fitS m.key

theorem publish_p (b mb : Nat) (x : Value) (A : AuD) (q : Int) (key body : ByteArray) (many : Int) (ok : AuOk A) (hk : fitS key) (hb : body.size ≤ 1000) : FnC Tryz.prog 70 [.ptr 40 b 0, .v (.int .i64 q), .v (.string key), .v (.string body), .v (.int .i64 many)] (auR b mb x A)
    (fun r F' => ∃ x', r = .tup [.v (.int .i64 (if pubE A q key body many = 0 then lastSeq A.seqs q key + 1 else 0)), .v (.int .i64 (pubE A q key body many))] ∧ F' = auR b mb x' (pubS A q key body many)) := by
  have hseq := ok.seq q key
  have hlen := ok.len
  unfold auR
  refine FnC.intro Tryz.func70 rfl Tryz.ntmps70 rfl ?_; intro off w0
  ((repeat refine S.seq ?_); refine wG (k := ?_); try (refine L.nil ?_))
  ((repeat refine S.seq ?_); refine wG (k := ?_); try (refine L.nil ?_))
  ((repeat refine S.seq ?_); refine S.cond rfl (fun h0 => ?_) (fun h0 => ?_) <;> (try first | refine S.skip ?_ | refine S.exit ?_))
  · cases h0
  ((repeat refine S.seq ?_); refine wG (k := ?_); try (refine L.nil ?_))
  ((repeat refine S.seq ?_); refine S.cond rfl (fun h1 => ?_) (fun h1 => ?_) <;> (try first | refine S.skip ?_ | refine S.exit ?_))
  · have e : pubE A q key body many = 1 := by
      have : argA q many = true := h1
      rw [pubE, if_pos this]
    have e2 : pubS A q key body many = A := by rw [pubS, if_neg (by omega)]
    ((repeat refine S.seq ?_); refine wG (k := ?_); try (refine L.nil ?_))
    ((repeat refine S.seq ?_); refine S.ret ?_)
    rw [e, e2]
    exact E.ret (T := tt) tt_ok rfl rfl (by exact sd) (F' := auR b mb x A) (Imp.refl _) (by unfold auR; (repeat (first | exact List.nil_sublist _ | refine List.Sublist.cons_cons _ ?_ | refine List.Sublist.cons _ ?_))) ⟨x, rfl, rfl⟩
  have ha : argA q many = false := h1
  have hr : 0 ≤ q ∧ q < 4 ∧ 1 ≤ many ∧ many ≤ 8 := by
    simp only [Bool.or_eq_false_iff, decide_eq_false_iff_not] at h1
    omega
  have hkey : kOf Tryz.prog 220 (nameV q key) = true := KeyAut.kName_ok (by unfold fitI; omega) hk
  obtain ⟨s0, hs0⟩ : ∃ s0, s0 = lastSeq A.seqs q key := ⟨_, rfl⟩
  rw [← hs0] at hseq
  repeat refine S.seq ?_
  refine S.region ?_
  (refine wL (k := ?_); try (refine L.nil ?_))
  refine L.sure (rd := [41]) (A := .v (.int .i64 (lastSeq A.seqs q key))) (look_sure (T := tt) tt_ok KeyAut.kName rfl rfl (by kernel_rfl) rfl rfl rfl (by exact sd) rfl (fun _ _ => rfl) rfl hkey (look_marks A.seqs q key)) rfl rfl rfl ?_
  rw [← hs0]
  (refine wL (k := ?_); try (refine L.nil ?_))
  ((repeat refine S.seq ?_); refine wG (k := ?_); try (refine L.nil ?_))
  ((repeat refine S.seq ?_); refine wG (k := ?_); try (refine L.nil ?_))
  refine nilRow 44 70 5 (gOf Msg.cells (msgsA A q key body many 0)) ?_
  refine slotAs 13 (.ref 44 (.slice none 0 0)) rfl (Imp.vref rfl) ?_
  repeat refine S.seq ?_
  refine S.block (S.loop (ι := { k : Nat × Value // k.1 ≤ many.toNat ∧ ∀ j, j < k.1 → mayMsg (msgA A q key body many j) = true }) (fun k => [(0, .ptr 40 b 0), (1, .v (.int .i64 q)), (2, .v (.string key)), (3, .v (.string body)), (4, .v (.int .i64 many)), (12, .v (.int .i64 (s0 + 1))), (13, .ref 44 k.1.2), (41, .v (.int .i64 many)), (42, .v (.int .i64 k.1.1))])
    (fun k => (44, .own k.1.2 70 5 (msgsA A q key body many k.1.1).length (gOf Msg.cells (msgsA A q key body many k.1.1))) :: auR b mb x A) (fun k => many.toNat - k.1.1) ?_ ?_)
  · exact fun a w h => ⟨⟨(0, .slice none 0 0), Nat.zero_le _, fun j hj => absurd hj (by omega)⟩, h.weakP (by (repeat' (first | exact True.intro | exact Imp.refl _ | refine ⟨?_, ?_⟩))) (by first | (unfold auR; (repeat (first | exact Sub.refl _ | refine Sub.pick (by first | exact p0 | exact pS p0 | exact pS (pS p0) | exact pS (pS (pS p0)) | exact pS (pS (pS (pS p0))) | exact pS (pS (pS (pS (pS p0))))) ?_))) | (repeat (first | exact Sub.refl _ | refine Sub.pick (by first | exact p0 | exact pS p0 | exact pS (pS p0) | exact pS (pS (pS p0)) | exact pS (pS (pS (pS p0))) | exact pS (pS (pS (pS (pS p0))))) ?_)))⟩
  rintro ⟨⟨k, y⟩, hk1, ik⟩
  dsimp only at hk1 ik ⊢
  have hml := msgsA_len A q key body many k
  unfold auR
  ((repeat refine S.seq ?_); refine wG (k := ?_); try (refine L.nil ?_))
  ((repeat refine S.seq ?_); refine S.cond rfl (fun h2 => ?_) (fun h2 => ?_) <;> (try first | refine S.skip ?_ | refine S.exit ?_))
  · have h2n : k < many.toNat := by have := of_dec h2; omega
    have hnt := numT_size (i := (k : Int)) (by omega) (by omega)
    repeat refine S.seq ?_
    refine S.block ?_
    ((repeat refine S.seq ?_); refine wG (k := ?_); try (refine L.nil ?_))
    ((repeat refine S.seq ?_); refine wG (k := ?_); try (refine L.nil ?_))
    refine wA 47 (k := fun b15 => ?_)
    refine wS (k := ?_)
    refine L.nil ?_
    ((repeat refine S.seq ?_); refine wG (k := ?_); try (refine L.nil ?_))
    refine S.cut (ι := Unit) (fun _ => [(0, .ptr 40 b 0), (1, .v (.int .i64 q)), (2, .v (.string key)), (3, .v (.string body)), (4, .v (.int .i64 many)), (12, .v (.int .i64 (s0 + 1))), (13, .ref 44 y), (15, .ptr 47 b15 0), (41, .v (.int .i64 many)), (42, .v (.int .i64 k))])
      (fun _ => (47, .blk b15 70 (msgA A q key body many k).cells) :: (44, .own y 70 5 (msgsA A q key body many k).length (gOf Msg.cells (msgsA A q key body many k))) :: auR b mb x A) ?_ ?_
    · ((repeat refine S.seq ?_); refine S.cond rfl (fun h3 => ?_) (fun h3 => ?_) <;> (try first | refine S.skip ?_ | refine S.exit ?_))
      · have h3n : many > 1 := of_dec h3
        repeat refine S.seq ?_
        refine S.region ?_
        (refine wL (k := ?_); try (refine L.nil ?_))
        refine wP ((itoa_p (k : Int) (by omega) (by omega))) (k := ?_)
        (refine wL (k := ?_); try (refine L.nil ?_))
        refine wS (k := ?_)
        refine L.nil ?_
        have e : (msgA A q key body many k).cells = [.v (.int .i64 A.pub), .v (.int .i64 (s0 + 1 + k)), .v (.string key), .v (.string (body ++ numT k)), .v (.bool false)] := by rw [msgA, bodyA, if_pos h3n, ← hs0]; rfl
        refine blkAs 47 (msgA A q key body many k).cells rfl (by rw [e]; exact Imps.refl _) ?_
        exact fun a w h => ⟨(), h.weakP (by (repeat' (first | exact True.intro | exact Imp.refl _ | refine ⟨?_, ?_⟩))) (by first | (unfold auR; (repeat (first | exact Sub.refl _ | refine Sub.pick (by first | exact p0 | exact pS p0 | exact pS (pS p0) | exact pS (pS (pS p0)) | exact pS (pS (pS (pS p0))) | exact pS (pS (pS (pS (pS p0))))) ?_))) | (repeat (first | exact Sub.refl _ | refine Sub.pick (by first | exact p0 | exact pS p0 | exact pS (pS p0) | exact pS (pS (pS p0)) | exact pS (pS (pS (pS p0))) | exact pS (pS (pS (pS (pS p0))))) ?_)))⟩
      · have h3n : ¬ many > 1 := of_dec' h3
        have e : (msgA A q key body many k).cells = [.v (.int .i64 A.pub), .v (.int .i64 (s0 + 1 + k)), .v (.string key), .v (.string body), .v (.bool false)] := by rw [msgA, bodyA, if_neg h3n, ← hs0]; rfl
        refine blkAs 47 (msgA A q key body many k).cells rfl (by rw [e]; exact Imps.refl _) ?_
        exact fun a w h => ⟨(), h.weakP (by (repeat' (first | exact True.intro | exact Imp.refl _ | refine ⟨?_, ?_⟩))) (by first | (unfold auR; (repeat (first | exact Sub.refl _ | refine Sub.pick (by first | exact p0 | exact pS p0 | exact pS (pS p0) | exact pS (pS (pS p0)) | exact pS (pS (pS (pS p0))) | exact pS (pS (pS (pS (pS p0))))) ?_))) | (repeat (first | exact Sub.refl _ | refine Sub.pick (by first | exact p0 | exact pS p0 | exact pS (pS p0) | exact pS (pS (pS p0)) | exact pS (pS (pS (pS p0))) | exact pS (pS (pS (pS (pS p0))))) ?_)))⟩
    rintro ⟨⟩
    try dsimp only
    unfold auR
    ((repeat refine S.seq ?_); refine wG (k := ?_); try (refine L.nil ?_))
    refine wF 64 (k := fun x64 => ?_)
    refine wY (k := fun y65 => ?_)
    (refine wL (k := ?_); try (refine L.nil ?_))
    refine ownAs 44 (gOf Msg.cells (msgsA A q key body many (k + 1))) rfl (show (msgsA A q key body many k).length + 1 = (msgsA A q key body many (k + 1)).length by rw [msgsA_succ]; simp) (fun i hi => ?_) ?_
    · rw [msgsA_succ]
      exact app1_h Msg.cells (msgsA A q key body many k) _ _ rfl rfl hi
    ((repeat refine S.seq ?_); refine wG (k := ?_); try (refine L.nil ?_))
    refine wP ((mayMsg_p (msgA A q key body many k))) (k := ?_)
    (refine wL (k := ?_); try (refine L.nil ?_))
    ((repeat refine S.seq ?_); refine S.cond rfl (fun h4 => ?_) (fun h4 => ?_) <;> (try first | refine S.skip ?_ | refine S.exit ?_))
    · have e : pubE A q key body many = 1 := by
        have h4n : mayMsg (msgA A q key body many k) = false := by simpa using h4
        rw [pubE, ha, if_neg (by decide), if_pos]
        rw [List.all_eq_false]
        exact ⟨k, List.mem_range.2 h2n, by simp [h4n]⟩
      have e2 : pubS A q key body many = A := by rw [pubS, if_neg (by omega)]
      ((repeat refine S.seq ?_); refine wG (k := ?_); try (refine L.nil ?_))
      ((repeat refine S.seq ?_); refine S.ret ?_)
      rw [e, e2]
      exact E.ret (T := tt) tt_ok rfl rfl (by exact sd) (F' := auR b mb x A) (Imp.refl _) (by unfold auR; (repeat (first | exact List.nil_sublist _ | refine List.Sublist.cons_cons _ ?_ | refine List.Sublist.cons _ ?_))) ⟨x, rfl, rfl⟩
    have h4n : mayMsg (msgA A q key body many k) = true := by simpa using h4
    ((repeat refine S.seq ?_); refine wG (k := ?_); try (refine L.nil ?_))
    exact fun a w h => ⟨⟨(k + 1, y65), by show k + 1 ≤ _; omega, upto_succ ik h4n⟩, by show many.toNat - (k + 1) < many.toNat - k; omega, h.weakP (by (repeat' (first | exact True.intro | exact Imp.refl _ | refine ⟨?_, ?_⟩))) (by first | (unfold auR; (repeat (first | exact Sub.refl _ | refine Sub.pick (by first | exact p0 | exact pS p0 | exact pS (pS p0) | exact pS (pS (pS p0)) | exact pS (pS (pS (pS p0))) | exact pS (pS (pS (pS (pS p0))))) ?_))) | (repeat (first | exact Sub.refl _ | refine Sub.pick (by first | exact p0 | exact pS p0 | exact pS (pS p0) | exact pS (pS (pS p0)) | exact pS (pS (pS (pS p0))) | exact pS (pS (pS (pS (pS p0))))) ?_)))⟩
  have h2n : k = many.toNat := by have := of_dec' h2; omega
  subst h2n
  have hall : (List.range many.toNat).all (fun i => mayMsg (msgA A q key body many i)) = true := List.all_eq_true.2 fun j hj => ik j (List.mem_range.1 hj)
  ((repeat refine S.seq ?_); refine wG (k := ?_); try (refine L.nil ?_))
  ((repeat refine S.seq ?_); refine S.cond rfl (fun h5 => ?_) (fun h5 => ?_) <;> (try first | refine S.skip ?_ | refine S.exit ?_))
  · have e : pubE A q key body many = 4 := by
      rw [pubE, ha, if_neg (by decide), hall, if_neg (by decide), if_pos (of_dec h5)]
    have e2 : pubS A q key body many = A := by rw [pubS, if_neg (by omega)]
    ((repeat refine S.seq ?_); refine wG (k := ?_); try (refine L.nil ?_))
    ((repeat refine S.seq ?_); refine S.ret ?_)
    rw [e, e2]
    exact E.ret (T := tt) tt_ok rfl rfl (by exact sd) (F' := auR b mb x A) (Imp.refl _) (by unfold auR; (repeat (first | exact List.nil_sublist _ | refine List.Sublist.cons_cons _ ?_ | refine List.Sublist.cons _ ?_))) ⟨x, rfl, rfl⟩
  have e : pubE A q key body many = 0 := by
    rw [pubE, ha, if_neg (by decide), hall, if_neg (by decide), if_neg (of_dec' h5)]
  repeat refine S.seq ?_
  refine S.region ?_
  (refine wL (k := ?_); try (refine L.nil ?_))
  refine L.mapSet (T := tt) tt_ok KeyAut.kName rfl rfl rfl rfl rfl rfl rfl rfl (by exact sd) rfl rfl hkey (L.nil ?_)
  refine freezeSlot 13 44 rfl rfl rfl ?_
  ((repeat refine S.seq ?_); refine wG (k := ?_); try (refine L.nil ?_))
  refine wF 95 (k := fun x95 => ?_)
  refine wY (k := fun y96 => ?_)
  (refine wL (k := ?_); try (refine L.nil ?_))
  refine wS (k := ?_)
  refine L.nil ?_
  refine ownAs 42 (gOf OutD.cells (A.l ++ [(⟨q, msgsA A q key body many many.toNat⟩ : OutD)])) rfl (show A.l.length + 1 = (A.l ++ [(⟨q, msgsA A q key body many many.toNat⟩ : OutD)]).length by simp) (fun i hi => app1_h OutD.cells A.l _ _ rfl rfl hi) ?_
  ((repeat refine S.seq ?_); refine wG (k := ?_); try (refine L.nil ?_))
  ((repeat refine S.seq ?_); refine S.ret ?_)
  have e2 : pubS A q key body many = ⟨A.pub, A.seqs ++ [⟨q, key, lastSeq A.seqs q key + many⟩], A.l ++ [⟨q, msgsA A q key body many many.toNat⟩]⟩ := by rw [pubS, if_pos e]
  rw [e, e2, ← hs0]
  refine rowsTo (auR b mb y96 ⟨A.pub, A.seqs ++ [⟨q, key, s0 + many⟩], A.l ++ [⟨q, msgsA A q key body many many.toNat⟩]⟩) ?_ ?_
  · unfold auR
    rw [marksM_app, show markM ⟨q, key, s0 + many⟩ = (nameV q key, .v (.int .i64 (s0 + 1 + many - 1))) by rw [show s0 + 1 + many - 1 = s0 + many by omega]; rfl]
    (repeat (first | exact Sub.refl _ | refine Sub.pick (by first | exact p0 | exact pS p0 | exact pS (pS p0) | exact pS (pS (pS p0)) | exact pS (pS (pS (pS p0))) | exact pS (pS (pS (pS (pS p0))))) ?_))
  exact E.ret (T := tt) tt_ok rfl rfl (by exact sd) (Imp.refl _) (List.Sublist.refl _) ⟨y96, rfl, rfl⟩

end Go.Proofs.YtbogfmgfafdjiaaGreatDoor

/- Tables: new ones; the same ones. -/
namespace Go.Proofs.YtbogfmgfafdjiaaGreatDoor
set_option linter.unusedVariables false
set_option linter.unusedSimpArgs false
set_option maxHeartbeats 8000000
open Go.RowKit
set_option maxRecDepth 4000

def nodeTo (l : List Arc) (n : Int) : Nat → List Int
  | 0 => []
  | k + 1 => nodeTo l n k ++ [if hasA l k = true then (k : Int).tmod n else -1]
theorem nodeTo_len (l : List Arc) (n : Int) : ∀ k, (nodeTo l n k).length = k
  | 0 => rfl
  | k + 1 => by rw [nodeTo, List.length_append, nodeTo_len l n k]; rfl
def newOk (w : List Int) (n : Int) : Bool := !(decide (n < 1) || decide (n > 4)) && okW w
def newT (w : List Int) (n : Int) : Tab := if newOk w n = true then ⟨1, bldA w, nodeTo (bldA w) n w.length⟩ else ⟨0, [], []⟩
def newE (w : List Int) (n : Int) : Int := if newOk w n = true then 0 else 1
theorem newT_bad {w : List Int} {n : Int} (h : newOk w n = false) : newT w n = ⟨0, [], []⟩ ∧ newE w n = 1 := by
  rw [newT, newE, h]
  exact ⟨rfl, rfl⟩
theorem bldE_ne {w : List Int} (h : okW w = false) : bldE w = 1 := (bldA_bad h).2
theorem bldE_ok {w : List Int} (h : okW w = true) : bldE w = 0 := by rw [bldE, if_pos h]
theorem tabnew_p (w : List Int) (n : Int) (hw : ∀ z ∈ w, fitI z) : PFn Tryz.prog 50 [intW w, .v (.int .i64 n)] (.tup [(newT w n).av, .v (.int .i64 (newE w n))]) := by
  refine FnC.intro Tryz.func50 rfl Tryz.ntmps50 rfl ?_; intro off w0
  repeat refine S.seq ?_
  refine S.region ?_
  refine wA 4 (k := fun b4 => ?_)
  (refine wL (k := ?_); try (refine L.nil ?_))
  ((repeat refine S.seq ?_); refine wG (k := ?_); try (refine L.nil ?_))
  ((repeat refine S.seq ?_); refine S.cond rfl (fun h1 => ?_) (fun h1 => ?_) <;> (try first | refine S.skip ?_ | refine S.exit ?_))
  · obtain ⟨e1, e2⟩ := newT_bad (w := w) (n := n) (by rw [newOk]; have h1 : (decide (n < 1) || decide (n > 4)) = true := h1; rw [h1]; rfl)
    repeat refine S.seq ?_
    refine S.region ?_
    (refine wL (k := ?_); try (refine L.nil ?_))
    refine wS (k := ?_)
    (refine wL (k := ?_); try (refine L.nil ?_))
    (((repeat refine S.seq ?_); refine S.ret ?_); refine wRt (k := ?_))
    rw [e1, e2]
    exact Imp.tup ⟨Imp.agg ⟨Imp.refl _, Imp.nil _ _, Imp.nil _ _, trivial⟩, Imp.refl _, trivial⟩
  have h1 : (decide (n < 1) || decide (n > 4)) = false := h1
  have hn : 1 ≤ n ∧ n ≤ 4 := by
    rw [Bool.or_eq_false_iff, decide_eq_false_iff_not, decide_eq_false_iff_not] at h1
    omega
  repeat refine S.seq ?_
  refine S.region ?_
  (refine wL (k := ?_); try (refine L.nil ?_))
  refine wP ((build_p w hw)) (k := ?_)
  (refine wL (k := ?_); try (refine L.nil ?_))
  ((repeat refine S.seq ?_); refine wG (k := ?_); try (refine L.nil ?_))
  ((repeat refine S.seq ?_); refine S.cond rfl (fun h2 => ?_) (fun h2 => ?_) <;> (try first | refine S.skip ?_ | refine S.exit ?_))
  · obtain ⟨e1, e2⟩ := newT_bad (w := w) (n := n) (by
      rw [newOk]
      cases h : okW w
      · rw [Bool.and_false]
      · rw [bldE_ok h] at h2; exact absurd h2 (by decide))
    have e3 : bldE w = 1 := bldE_ne (by
      cases h : okW w
      · rfl
      · rw [bldE_ok h] at h2; exact absurd h2 (by decide))
    repeat refine S.seq ?_
    refine S.region ?_
    (refine wL (k := ?_); try (refine L.nil ?_))
    refine wS (k := ?_)
    (refine wL (k := ?_); try (refine L.nil ?_))
    (((repeat refine S.seq ?_); refine S.ret ?_); refine wRt (k := ?_))
    rw [e1, e2, e3]
    exact Imp.tup ⟨Imp.agg ⟨Imp.refl _, Imp.nil _ _, Imp.nil _ _, trivial⟩, Imp.refl _, trivial⟩
  have hok : okW w = true := by
    cases h : okW w
    · rw [bldE_ne h] at h2; exact absurd h2 (by decide)
    · rfl
  have hOk := (okW_iff w).1 hok
  have hwl := hOk.most
  have hnew : newOk w n = true := by rw [newOk, h1, hok]; rfl
  obtain ⟨l, hl⟩ : ∃ l, l = bldA w := ⟨_, rfl⟩
  rw [← hl]
  repeat refine S.seq ?_
  refine S.region ?_
  (refine wL (k := ?_); try (refine L.nil ?_))
  refine wA 8 (k := fun b8 => ?_)
  refine wS (k := ?_)
  refine L.nil ?_
  ((repeat refine S.seq ?_); refine wG (k := ?_); try (refine L.nil ?_))
  refine nilRow 61 3 1 (gOf intC []) ?_
  refine blkAs 8 [.v (.int .i64 1), arcs l, .ref 61 (.slice none 0 0)] rfl ⟨Imp.refl _, Imp.refl _, Imp.vref rfl, trivial⟩ ?_
  repeat refine S.seq ?_
  refine S.cut (ι := Value) (fun x => [(4, .ptr 4 b4 0), (8, .ptr 8 b8 0)]) (fun x => [(61, .own x 3 1 (nodeTo l n w.length).length (gOf intC (nodeTo l n w.length))), (8, .blk b8 82 [.v (.int .i64 1), arcs l, .ref 61 x]), (4, .blk b4 82 [.v (.int .i64 0), .v (.slice none 0 0), .v (.slice none 0 0)])]) ?_ ?_
  · refine S.block (S.loop (ι := { q : Nat × Value // q.1 ≤ w.length }) (fun q => [(1, .v (.int .i64 n)), (4, .ptr 4 b4 0), (6, arcs l), (8, .ptr 8 b8 0), (30, .v (.int .i64 w.length)), (31, .v (.int .i64 q.1.1))])
      (fun q => [(61, .own q.1.2 3 1 (nodeTo l n q.1.1).length (gOf intC (nodeTo l n q.1.1))), (8, .blk b8 82 [.v (.int .i64 1), arcs l, .ref 61 q.1.2]), (4, .blk b4 82 [.v (.int .i64 0), .v (.slice none 0 0), .v (.slice none 0 0)])]) (fun q => w.length - q.1.1) ?_ ?_)
    · exact fun a w1 h => ⟨⟨(0, .slice none 0 0), Nat.zero_le _⟩, h.weakP (by (repeat' (first | exact True.intro | exact Imp.refl _ | refine ⟨?_, ?_⟩))) (by (repeat (first | exact Sub.refl _ | refine Sub.pick (by first | exact p0 | exact pS p0 | exact pS (pS p0) | exact pS (pS (pS p0)) | exact pS (pS (pS (pS p0))) | exact pS (pS (pS (pS (pS p0))))) ?_)))⟩
    rintro ⟨⟨k, x⟩, hk⟩
    dsimp only at hk ⊢
    have hml := nodeTo_len l n k
    obtain ⟨M, hM⟩ : ∃ M, M = nodeTo l n k := ⟨_, rfl⟩
    rw [← hM] at hml ⊢
    ((repeat refine S.seq ?_); refine wG (k := ?_); try (refine L.nil ?_))
    ((repeat refine S.seq ?_); refine S.cond rfl (fun hc => ?_) (fun hc => ?_) <;> (try first | refine S.skip ?_ | refine S.exit ?_))
    · have hk' : k < w.length := by have := of_dec hc; omega
      repeat refine S.seq ?_
      refine S.block ?_
      ((repeat refine S.seq ?_); refine wG (k := ?_); try (refine L.nil ?_))
      ((repeat refine S.seq ?_); refine wG (k := ?_); try (refine L.nil ?_))
      repeat refine S.seq ?_
      refine S.region ?_
      (refine wL (k := ?_); try (refine L.nil ?_))
      refine wP ((has_p l k)) (k := ?_)
      refine L.nil ?_
      obtain ⟨z, hz⟩ : ∃ z, z = if hasA l k = true then (k : Int).tmod n else -1 := ⟨_, rfl⟩
      refine S.cut (ι := Unit) (fun _ => [(1, .v (.int .i64 n)), (4, .ptr 4 b4 0), (6, arcs l), (8, .ptr 8 b8 0), (10, .v (.int .i64 z)), (30, .v (.int .i64 w.length)), (31, .v (.int .i64 k))])
        (fun _ => [(61, .own x 3 1 M.length (gOf intC M)), (8, .blk b8 82 [.v (.int .i64 1), arcs l, .ref 61 x]), (4, .blk b4 82 [.v (.int .i64 0), .v (.slice none 0 0), .v (.slice none 0 0)])]) ?_ ?_
      · ((repeat refine S.seq ?_); refine S.cond rfl (fun h3 => ?_) (fun h3 => ?_) <;> (try first | refine S.skip ?_ | refine S.exit ?_))
        · ((repeat refine S.seq ?_); refine wG (k := ?_); try (refine L.nil ?_))
          refine slotAs 10 (.v (.int .i64 z)) rfl (Imp.of_eq (by rw [hz, if_pos h3])) ?_
          exact fun a w1 hR => ⟨(), hR.weakP (by (repeat' (first | exact True.intro | exact Imp.refl _ | refine ⟨?_, ?_⟩))) (by (repeat (first | exact Sub.refl _ | refine Sub.pick (by first | exact p0 | exact pS p0 | exact pS (pS p0) | exact pS (pS (pS p0)) | exact pS (pS (pS (pS p0))) | exact pS (pS (pS (pS (pS p0))))) ?_)))⟩
        · refine slotAs 10 (.v (.int .i64 z)) rfl (Imp.of_eq (by rw [hz, if_neg (by rw [h3]; decide)])) ?_
          exact fun a w1 hR => ⟨(), hR.weakP (by (repeat' (first | exact True.intro | exact Imp.refl _ | refine ⟨?_, ?_⟩))) (by (repeat (first | exact Sub.refl _ | refine Sub.pick (by first | exact p0 | exact pS p0 | exact pS (pS p0) | exact pS (pS (pS p0)) | exact pS (pS (pS (pS p0))) | exact pS (pS (pS (pS (pS p0))))) ?_)))⟩
      intro _
      repeat refine S.seq ?_
      refine S.region ?_
      (refine wL (k := ?_); try (refine L.nil ?_))
      refine wF 62 (k := fun x43 => ?_)
      refine wY (k := fun y44 => ?_)
      refine ownAs 61 (gOf intC (M ++ [z])) rfl (show M.length + 1 = (M ++ [z]).length by simp) (fun i hi => app1_h intC M z _ rfl rfl hi) ?_
      (refine wL (k := ?_); try (refine L.nil ?_))
      refine wS (k := ?_)
      refine L.nil ?_
      ((repeat refine S.seq ?_); refine wG (k := ?_); try (refine L.nil ?_))
      exact fun a w1 hR => ⟨⟨(k + 1, y44), hk'⟩, by show w.length - (k + 1) < w.length - k; omega, hR.weakP (by (repeat' (first | exact True.intro | exact Imp.refl _ | refine ⟨?_, ?_⟩))) (by rw [nodeTo, ← hM, ← hz]; (repeat (first | exact Sub.refl _ | refine Sub.pick (by first | exact p0 | exact pS p0 | exact pS (pS p0) | exact pS (pS (pS p0)) | exact pS (pS (pS (pS p0))) | exact pS (pS (pS (pS (pS p0))))) ?_)))⟩
    have hk' : k = w.length := by have := of_dec' hc; omega
    subst hk'
    exact fun a w1 hR => ⟨x, hR.weakP (by (repeat' (first | exact True.intro | exact Imp.refl _ | refine ⟨?_, ?_⟩))) (by rw [hM]; (repeat (first | exact Sub.refl _ | refine Sub.pick (by first | exact p0 | exact pS p0 | exact pS (pS p0) | exact pS (pS (pS p0)) | exact pS (pS (pS (pS p0))) | exact pS (pS (pS (pS (pS p0))))) ?_)))⟩
  intro x
  repeat refine S.seq ?_
  refine S.region ?_
  (refine wL (k := ?_); try (refine L.nil ?_))
  refine wS (k := ?_)
  (refine wL (k := ?_); try (refine L.nil ?_))
  refine freezeCell 4 2 61 rfl rfl rfl rfl ?_
  have e1 : newT w n = ⟨1, l, nodeTo l n w.length⟩ := by rw [newT, if_pos hnew, ← hl]
  have e2 : newE w n = 0 := by rw [newE, if_pos hnew]
  (((repeat refine S.seq ?_); refine S.ret ?_); refine wRt (k := ?_))
  rw [e1, e2]
  exact Imp.refl _
end Go.Proofs.YtbogfmgfafdjiaaGreatDoor

/- slices.Clone, on abstract values. -/
namespace Go.Proofs.YtbogfmgfafdjiaaGreatDoor
set_option linter.unusedVariables false
set_option linter.unusedSimpArgs false
set_option maxHeartbeats 8000000
open Go.RowKit
set_option maxRecDepth 4000

theorem ClnTab {n : Nat} {g : Nat → List AV} (hb : n * 56 ≤ 140737488355328) (id : Nat) :
    FnC Tryz.prog 56 [.lst 3 n g] [] (fun r F' => ∃ x, r = .ref id x ∧ F' = [(id, .own x 82 3 n g)]) := by
  refine FnC.intro Tryz.func56 rfl Tryz.ntmps56 rfl ?_; intro off w0
  ((repeat refine S.seq ?_); refine wG (k := ?_); try (refine L.nil ?_))
  repeat refine S.seq ?_
  refine S.region (L.run (T := tt) 1 tt_ok rfl rfl (by exact sd) ?_)
  refine L.isNil (T := tt) tt_ok rfl rfl rfl rfl rfl rfl trivial fun b h0 => L.nil ?_
  ((repeat refine S.seq ?_); refine S.cond rfl (fun h => ?_) (fun h => ?_) <;> (try first | refine S.skip ?_ | refine S.exit ?_))
  · ((repeat refine S.seq ?_); refine wG (k := ?_); try (refine L.nil ?_))
    have hn := h0 h
    subst hn
    exact S.ret (nilRow id 82 3 g (E.ret (T := tt) tt_ok rfl rfl (by exact sd) (Imp.vref rfl) (List.Sublist.refl _) ⟨_, rfl, rfl⟩))
  · repeat refine S.seq ?_
    refine S.region (L.buildSlice (T := tt) 0 tt_ok rfl rfl rfl rfl rfl rfl (by decide) (by decide) rfl rfl (by exact sd) fun x => ?_)
    refine L.run (T := tt) 1 tt_ok rfl rfl (by exact sd) ?_
    refine L.append (T := tt) tt_ok rfl rfl rfl rfl rfl rfl rfl rfl rfl rfl (by exact sd) ⟨rfl, by decide, by decide⟩ (by simpa using hb) fun x1 => ?_
    (refine wL (k := ?_); try (refine L.nil ?_))
    refine S.ret (rowsEq [(0, .own x1 82 3 n g)] (by simp [setF, joinG_zero]) (renum [(id, .own x1 82 3 n g)] 2 (.ref id x1) rfl rfl Imp.ref ?_))
    exact E.ret (T := tt) tt_ok rfl rfl (by exact sd) (Imp.refl _) (List.Sublist.refl _) ⟨_, rfl, rfl⟩

end Go.Proofs.YtbogfmgfafdjiaaGreatDoor

/- Keys of a map whose keys are a number, a text and a number. -/
namespace Go.Proofs.YtbogfmgfafdjiaaGreatDoor.KeySnd
set_option linter.unusedVariables false
set_option linter.unusedSimpArgs false
set_option maxHeartbeats 8000000
open Go.RowKit
open Go.Maps (Keyed)
set_option maxRecDepth 20000

theorem rowName : Nat.blt 226 Tryz.prog.types.size = true := by kernel_rfl
theorem sizeT : ∃ m, Tryz.prog.types.size = m + 1 := by
  have h := of_blt rowName
  generalize Tryz.prog.types.size = n at h ⊢
  exact ⟨n - 1, by omega⟩
theorem kName : Keyed Tryz.prog 226 := Keyed.of_law (deep_law_laid laid (m := 2) (by omega) (of_blt rowName) (by kernel_rfl) (by kernel_rfl))

theorem keyT : Tryz.prog.keyType 226 = true := by kernel_rfl
theorem cellsT : Tryz.prog.cellsOf 226 = 3 := by kernel_rfl
theorem cellsI : Tryz.prog.cellsOf 3 = 1 := by kernel_rfl
theorem cellsS : Tryz.prog.cellsOf 9 = 1 := by kernel_rfl

theorem kName_ok {p q : Int} {b : ByteArray} (hp : fitI p) (h : fitS b) (hq : fitI q) : kOf Tryz.prog 226 (.agg #[.int .i64 p, .string b, .int .i64 q]) = true := by
  have hs : Tryz.prog.underlying 9 = some .string := by kernel_rfl
  have hi : Tryz.prog.underlying 3 = some (.int .i64) := by kernel_rfl
  obtain ⟨l, hu, hfs⟩ := (TOk.told (P := Tryz.prog) (T := tt) tt_ok (t := 226) rfl).struct rfl
  obtain ⟨m, hm⟩ := sizeT
  obtain ⟨fl⟩ := l
  match fl, hfs with
  | [f1, f2, f3], hfs =>
    simp only [fsOk, Bool.and_eq_true, beq_iff_eq, bne_iff_ne, ne_eq] at hfs
    obtain ⟨⟨⟨⟨⟨o1, t1⟩, -⟩, -⟩, n1⟩, ⟨⟨⟨⟨o2, t2⟩, -⟩, -⟩, n2⟩, ⟨⟨⟨⟨o3, t3⟩, -⟩, -⟩, n3⟩, -⟩ := hfs
    have wf : ∀ {z : Int}, fitI z → (Lit.int .i64 z).wf = true := fun {z} h => by
      have := h.1; have := h.2
      simp [Lit.wf, IntKind.min, IntKind.max, IntKind.signed, IntKind.bits]
      omega
    have w1 := wf hp
    have w2 := wf hq
    have w3 : b.size ≤ maxLen := by unfold fitS at h; simp only [maxLen]; omega
    have hform : (Value.agg #[.int .i64 p, .string b, .int .i64 q]).formed Tryz.prog 226 = true := by
      simp [Value.formed, hu, cellsT]
    simp only [kOf, keyOf, hu, keyT, hform, Bool.and_self, if_true, hm]
    simp [Program.keyLits, hu, Value.cells, cellsT, n1, n2, n3, o1, t1, o2, t2, o3, t3, cellsI, cellsS, hs, hi, w1, w2, w3]

end Go.Proofs.YtbogfmgfafdjiaaGreatDoor.KeySnd

/- A cluster in which nothing is (world, bound). -/
namespace Go.Proofs.YtbogfmgfafdjiaaGreatDoor
set_option linter.unusedVariables false
set_option linter.unusedSimpArgs false
set_option maxHeartbeats 8000000
open Go.RowKit
set_option maxRecDepth 8000

/-- A loop that goes round once. -/
theorem S.once {P : Program} {c : Ctx} {σ : Slots} {F : Rows} {Q : Exit → Act → World → Prop} {ι : Type} {x : Code} (sl : Slots) (ro : Rows) (sl' : ι → Slots) (ro' : ι → Rows) (start : ∀ a w, R c σ F a w → R c sl ro a w)
    (one : S P c x sl ro (Exit.then (fun a w => ∃ i, R c (sl' i) (ro' i) a w) Q)) (last : ∀ i, S P c x (sl' i) (ro' i) (Exit.then (fun _ _ => False) Q)) : S P c (.loop x) σ F Q := by
  refine S.loop (ι := Option ι) (fun o => o.elim sl sl') (fun o => o.elim ro ro') (fun o => o.elim 1 fun _ => 0) (fun a w h => ⟨none, start a w h⟩) ?_
  rintro (_ | i)
  · intro a w hR
    refine wp_mono (one a w hR) fun e a' w' h => ?_
    cases e with
    | normal =>
      obtain ⟨k, h2⟩ := h
      exact ⟨some k, Nat.zero_lt_one, h2⟩
    | _ => exact h
  · intro a w hR
    refine wp_mono (last i a w hR) fun e a' w' h => ?_
    cases e with
    | normal => exact h.elim
    | _ => exact h

def qs1 : List (List Int) := [[1]]
def confC (n : Int) : List AV := [.v (.int .i64 n), .v (.int .i64 1), .lst 1 1 (gOf (fun l => [intW l]) qs1)]
def confA (n : Int) : AV := .agg (confC n)
theorem bmay1_p (z : Int) : PFn Tryz.prog 49 [.v (.int .i64 z)] (.v (.bool (decide (z < 1) || decide (z > 4)))) := by
  refine FnC.intro Tryz.func49 rfl Tryz.ntmps49 rfl ?_; intro off w0
  ((repeat refine S.seq ?_); refine wG (k := ?_); try (refine L.nil ?_))
  ((repeat refine S.seq ?_); refine wG (k := ?_); try (refine L.nil ?_))
  (((repeat refine S.seq ?_); refine S.ret ?_); refine wRt (k := Imp.of_eq ?_))
  rfl
theorem bmay_p (n : Int) (h0 : 1 ≤ n) (h1 : n ≤ 4) : PFn Tryz.prog 20 [confA n] (.v (.bool true)) := by
  unfold confA confC
  refine FnC.intro Tryz.func20 rfl Tryz.ntmps20 rfl ?_; intro off w0
  repeat refine S.seq ?_
  refine S.region ?_
  refine wB 1 (k := fun b1 => ?_)
  (refine wL (k := ?_); try (refine L.nil ?_))
  repeat refine S.seq ?_
  refine S.scopeE 0 (ι := Unit) (fun _ => [(1, .ptr 1 b1 0), (3, .v (.int .i64 1))]) (fun _ => [(1, .blk b1 27 (confC n))]) (fun _ => 0) rfl ?_ ?_
  · intro _ J hJ
    unfold confC
    ((repeat refine S.seq ?_); refine wG (k := ?_); try (refine L.nil ?_))
    ((repeat refine S.seq ?_); refine wG (k := ?_); try (refine L.nil ?_))
    refine slotAs 4 (intW [1]) rfl (Imp.refl _) ?_
    repeat refine S.seq ?_
    refine S.region ?_
    (refine wL (k := ?_); try (refine L.nil ?_))
    refine wQ (fun _ => contInt [1] (fun i => decide (([1] : List Int).getD i 0 < 1) || decide (([1] : List Int).getD i 0 > 4)) rfl (fun i hi => bmay1_p (([1] : List Int).getD i 0))) (k := ?_)
    (refine wL (k := ?_); try (refine L.nil ?_))
    ((repeat refine S.seq ?_); refine S.cond rfl (fun hc => ?_) (fun hc => ?_) <;> (try first | refine S.skip ?_ | refine S.exit ?_))
    · exact absurd hc (by decide)
    ((repeat refine S.seq ?_); refine wG (k := ?_); try (refine L.nil ?_))
    ((repeat refine S.seq ?_); refine S.cond rfl (fun hc2 => ?_) (fun hc2 => ?_) <;> (try first | refine S.skip ?_ | refine S.exit ?_))
    · exact absurd hc2 (by decide)
    ((repeat refine S.seq ?_); refine wG (k := ?_); try (refine L.nil ?_))
    (((repeat refine S.seq ?_); refine S.ret ?_); refine wRt (k := ?_))
    exact Imp.refl _
  · intro hp
    ((repeat refine S.seq ?_); refine wG (k := ?_); try (refine L.nil ?_))
    ((repeat refine S.seq ?_); refine wG (k := ?_); try (refine L.nil ?_))
    ((repeat refine S.seq ?_); refine S.cond rfl (fun hc => ?_) (fun hc => ?_) <;> (try first | refine S.skip ?_ | refine S.exit ?_))
    · exfalso
      simp only [Bool.or_eq_true, decide_eq_true_eq] at hc
      omega
    repeat refine S.seq ?_
    refine S.label ?_
    exact fun a w hR => hp () a w (hR.weakP (by (repeat' (first | exact True.intro | exact Imp.refl _ | refine ⟨?_, ?_⟩))) (by unfold confC; (repeat (first | exact Sub.refl _ | refine Sub.pick (by first | exact p0 | exact pS p0 | exact pS (pS p0) | exact pS (pS (pS p0)) | exact pS (pS (pS (pS p0))) | exact pS (pS (pS (pS (pS p0))))) ?_))))
theorem bmay0_p : PFn Tryz.prog 20 [.agg [.v (.int .i64 0), .v (.int .i64 0), .v (.slice none 0 0)]] (.v (.bool false)) := by
  refine FnC.intro Tryz.func20 rfl Tryz.ntmps20 rfl ?_; intro off w0
  repeat refine S.seq ?_
  refine S.region ?_
  refine wB 1 (k := fun b1 => ?_)
  (refine wL (k := ?_); try (refine L.nil ?_))
  refine blkAs 1 [.v (.int .i64 0), .v (.int .i64 0), .lst 1 0 (gOf (fun l => [intW l]) [])] rfl ⟨Imp.refl _, Imp.refl _, Imp.nil _ _, trivial⟩ ?_
  repeat refine S.seq ?_
  refine S.scopeE 0 (ι := Empty) (fun e => nomatch e) (fun e => nomatch e) (fun _ => 0) rfl ?_ ?_
  · intro e
    cases e
  · intro hp
    ((repeat refine S.seq ?_); refine wG (k := ?_); try (refine L.nil ?_))
    ((repeat refine S.seq ?_); refine wG (k := ?_); try (refine L.nil ?_))
    ((repeat refine S.seq ?_); refine S.cond rfl (fun hc => ?_) (fun hc => ?_) <;> (try first | refine S.skip ?_ | refine S.exit ?_))
    · ((repeat refine S.seq ?_); refine wG (k := ?_); try (refine L.nil ?_))
      (((repeat refine S.seq ?_); refine S.ret ?_); refine wRt (k := ?_))
      exact Imp.refl _
    exact absurd hc (by decide)
/-- A client, as it stands: its cells. -/
def cliC (xt : Value) (ab db : Nat) (now : Int) : List AV := [.v (.int .i64 now), .ref 67 xt, .v (.bool false), .v (.bool false), .v (.bool false), .v (.bool false), .ptr 40 ab 0, .ref 68 (.map (some db)), .v (.bool false), .any, .any, .any, .any, .any, .any, .any, .any, .v (.int .i64 0), .any, .v (.slice none 0 0), .any, .any]
def cliB (cb : Nat) (xt : Value) (ab db : Nat) (now : Int) : Rows := [(66, .blk cb 140 (cliC xt ab db now))]
def tabR (id : Nat) (xt : Value) (t : Tab) : Rows := [(id, .own xt 82 3 1 (gOf Tab.cells [t]))]
noncomputable def dueR (db : Nat) (m : List (Value × AV)) : Rows := [(68, .map db (kOf Tryz.prog 226) m)]
noncomputable def cliR (cb : Nat) (xt : Value) (ab mb db : Nat) (x : Value) (A : AuD) (m : List (Value × AV)) : Rows := cliB cb xt ab db 0 ++ (auR ab mb x A ++ dueR db m)
theorem newcli_p (xt : Value) : FnC Tryz.prog 55 [.v (.int .i64 0), .ref 67 xt] [] (fun r F' => ∃ cb ab mb db, r = .ptr 66 cb 0 ∧ F' = cliR cb xt ab mb db (.slice none 0 0) ⟨0, [], []⟩ []) := by
  refine FnC.intro Tryz.func55 rfl Tryz.ntmps55 rfl ?_; intro off w0
  ((repeat refine S.seq ?_); refine wG (k := ?_); try (refine L.nil ?_))
  repeat refine S.seq ?_
  refine S.region ?_
  (refine wL (k := ?_); try (refine L.nil ?_))
  refine wC [] ((anew_p 0 (by decide) (by decide))) (k := ?_)
  rintro r F' ⟨ab, mb, rfl, rfl⟩
  unfold auR
  refine L.makeMap 68 226 rfl rfl rfl rfl fun db => ?_
  refine L.makeMap 69 3 rfl rfl rfl rfl fun hb => ?_
  (refine wL (k := ?_); try (refine L.nil ?_))
  refine wB 66 (k := fun cb => ?_)
  (refine wL (k := ?_); try (refine L.nil ?_))
  refine blkAs 66 (cliC xt ab db 0) rfl ⟨Imp.refl _, Imp.refl _, Imp.refl _, Imp.refl _, Imp.refl _, Imp.refl _, Imp.refl _, Imp.refl _, Imp.refl _, Imp.any _, Imp.any _, Imp.any _, Imp.any _, Imp.any _, Imp.any _, Imp.any _, Imp.any _, Imp.refl _, Imp.any _, Imp.refl _, Imp.any _, Imp.any _, trivial⟩ ?_
  refine rowsTo (cliR cb xt ab mb db (.slice none 0 0) ⟨0, [], []⟩ []) (by unfold cliR cliB auR dueR; simp only [List.nil_append, List.cons_append]; (repeat (first | exact Sub.refl _ | refine Sub.pick (by first | exact p0 | exact pS p0 | exact pS (pS p0) | exact pS (pS (pS p0)) | exact pS (pS (pS (pS p0))) | exact pS (pS (pS (pS (pS p0))))) ?_))) ?_
  ((repeat refine S.seq ?_); refine S.ret ?_)
  exact E.ret (T := tt) tt_ok rfl rfl (by exact sd) (Imp.refl _) (List.Sublist.refl _) ⟨cb, ab, mb, db, rfl, rfl⟩
end Go.Proofs.YtbogfmgfafdjiaaGreatDoor

/- Looking at one's own: what makes a new list of plain data may borrow a row. -/
namespace Go.Proofs.YtbogfmgfafdjiaaGreatDoor
set_option linter.unusedVariables false
set_option linter.unusedSimpArgs false
set_option maxHeartbeats 8000000
open Go.RowKit
set_option maxRecDepth 4000

def PlainG (n : Nat) (g : Nat → List AV) : Prop := ∀ i, i < n → ∀ A ∈ g i, ∃ v, A = .v v
theorem sat_plain {own own' : Nat → Prop} {w : World} {y : Value} {E sz n : Nat} {g : Nat → List AV} (hp : PlainG n g) (h : Row.sat own w (.own y E sz n g)) : Row.sat own' w (.own y E sz n g) := by
  obtain ⟨us, h1, h2, h3, h4⟩ := h
  refine ⟨us, h1, h2, h3, fun i hi j A hA => ?_⟩
  obtain ⟨u, hu, hr⟩ := h4 i hi j A hA
  obtain ⟨v, rfl⟩ := hp i hi A (List.mem_of_getElem? hA)
  cases hr
  exact ⟨_, hu, .v _⟩

theorem borrow1 {P : Program} {f : FuncId} {id id2 : Nat} {x : Value} {E sz n E2 sz2 n2 : Nat} {g g2 : Nat → List AV} {t : List AV} (hp : PlainG n2 g2)
    (h : FnC P f (.lst sz n g :: t) [] (fun r F' => ∃ y, r = .ref id2 y ∧ F' = [(id2, .own y E2 sz2 n2 g2)])) :
    FnC P f (.ref id x :: t) [(id, .own x E sz n g)] (fun r F' => ∃ y, r = .ref id2 y ∧ F' = [(id2, .own y E2 sz2 n2 g2), (id, .own x E sz n g)]) := by
  intro off w vs hoff hS hl hr
  have hz : Ext (Own off [(id, Row.own x E sz n g)]) (Own off []) w w := Ext.less (fun b hb => by rcases hb with h | ⟨r, hr, -⟩; exact .inl h; cases hr) w
  have hf : Rep (Own off []) w (.lst sz n g) x := by
    have := freeze_rep hS (id := id) (x := x) (E := E) (sz := sz) (n := n) (g := g) (by simp [List.lookup])
    have e : delF id [(id, Row.own x E sz n g)] = [] := by simp [delF]
    rwa [e] at this
  refine (h off w vs hoff (Sat.nil off w) (by simpa using hl) fun j A u hA hu => ?_).mono fun e w' hp' => ?_
  · cases j with
    | zero =>
      simp only [List.getElem?_cons_zero, Option.some.injEq] at hA
      subst hA
      have := hr 0 _ u rfl hu
      cases this
      exact hf
    | succ j => exact (hr (j + 1) A u (by simpa using hA) hu).ext hz
  · obtain ⟨v, r', F', ⟨y, rfl, rfl⟩, rfl, hv, hS', hk, hfr⟩ := hp'
    cases hv
    rename_i h1
    have hb : ∀ b, b < w.heap.size → w'.heap[b]? = w.heap[b]? := fun b hb => hk.block b hb (by rintro ⟨s, hs, -⟩; cases hs)
    have hfresh : ∀ b, Row.block (.own v E2 sz2 n2 g2) = some b → w.heap.size ≤ b := fun b hb => by
      rcases hfr _ (List.mem_singleton.2 rfl) b hb with h | h
      · obtain ⟨s, hs, -⟩ := h; cases hs
      · exact h
    have hext : Ext (Own off [(id, Row.own x E sz n g)]) (Own off [(id2, Row.own v E2 sz2 n2 g2), (id, Row.own x E sz n g)]) w w' := ⟨hk.size, fun b hlt _ => hb b hlt, fun b hlt hn ho => by
      rcases ho with ho | ⟨s, hs, hsb⟩
      · exact hn (.inl ho)
      · rcases List.mem_cons.1 hs with rfl | hs
        · have := hfresh b hsb; omega
        · exact hn (.inr ⟨s, hs, hsb⟩)⟩
    refine ⟨_, _, _, ⟨v, rfl, rfl⟩, rfl, .ref id2 _ h1, ⟨fun s hs => ?_, ?_, fun s hs b hsb => ?_⟩, hk.mono fun k _ hk' => ?_, fun s hs b hsb => ?_⟩
    · rcases List.mem_cons.1 hs with rfl | hs
      · exact sat_plain hp (hS'.rows _ (List.mem_singleton.2 rfl))
      · rw [List.mem_singleton] at hs
        subst hs
        exact (hS.rows _ (List.mem_singleton.2 rfl)).ext hext fun b hb' => hb b (hS.lt (List.mem_singleton.2 rfl) hb')
    · refine List.pairwise_cons.2 ⟨fun s hs b hb1 hb2 => ?_, List.pairwise_singleton _ _⟩
      rw [List.mem_singleton] at hs
      subst hs
      have := hfresh b hb1
      have := hS.lt (List.mem_singleton.2 rfl) hb2
      omega
    · rcases List.mem_cons.1 hs with rfl | hs
      · exact hS'.off _ (List.mem_singleton.2 rfl) b hsb
      · exact hS.off s hs b hsb
    · obtain ⟨s, hs, -⟩ := hk'
      cases hs
    · rcases List.mem_cons.1 hs with rfl | hs
      · exact .inr (hfresh b hsb)
      · exact .inl ⟨s, hs, hsb⟩
theorem set_g {α : Type} [Inhabited α] (c : α → List AV) {l : List α} {i : Nat} {x : α} {o : Nat} {ds : List AV} (hi : i < l.length) (h : splice (c (l.getD i default)) o ds = c x) {j : Nat} (hj : j < l.length) : (if j = i then splice (gOf c l i) o ds else gOf c l j) = gOf c (l.set i x) j := by
  by_cases hji : j = i
  · subst hji
    rw [if_pos rfl, gOf, h, gOf, List.getD_eq_getElem?_getD, List.getElem?_set_self hi]
    rfl
  · rw [if_neg hji, gOf, gOf, List.getD_eq_getElem?_getD, List.getD_eq_getElem?_getD, List.getElem?_set_ne (fun e => hji e.symm)]
theorem set_g2 {α : Type} [Inhabited α] (c : α → List AV) {l : List α} {i : Nat} {x : α} {o o2 : Nat} {ds ds2 : List AV} (hi : i < l.length) (h : splice (splice (c (l.getD i default)) o ds) o2 ds2 = c x) {j : Nat} (hj : j < l.length) : (if j = i then splice (if i = i then splice (gOf c l i) o ds else gOf c l i) o2 ds2 else if j = i then splice (gOf c l i) o ds else gOf c l j) = gOf c (l.set i x) j := by
  by_cases hji : j = i
  · subst hji
    rw [if_pos rfl, if_pos rfl, gOf, h, gOf, List.getD_eq_getElem?_getD, List.getElem?_set_self hi]
    rfl
  · rw [if_neg hji, if_neg hji, gOf, gOf, List.getD_eq_getElem?_getD, List.getD_eq_getElem?_getD, List.getElem?_set_ne (fun e => hji e.symm)]
theorem set_g3 {α : Type} [Inhabited α] (c : α → List AV) {l : List α} {i : Nat} {x : α} {o o2 o3 : Nat} {ds ds2 ds3 : List AV} (hi : i < l.length) (h : splice (splice (splice (c (l.getD i default)) o ds) o2 ds2) o3 ds3 = c x) {j : Nat} (hj : j < l.length) :
    (if j = i then splice (if i = i then splice (if i = i then splice (gOf c l i) o ds else gOf c l i) o2 ds2 else if i = i then splice (gOf c l i) o ds else gOf c l i) o3 ds3 else if j = i then splice (if i = i then splice (gOf c l i) o ds else gOf c l i) o2 ds2 else if j = i then splice (gOf c l i) o ds else gOf c l j) = gOf c (l.set i x) j := by
  by_cases hji : j = i
  · subst hji
    rw [if_pos rfl, if_pos rfl, if_pos rfl, gOf, h, gOf, List.getD_eq_getElem?_getD, List.getElem?_set_self hi]
    rfl
  · rw [if_neg hji, if_neg hji, if_neg hji, gOf, gOf, List.getD_eq_getElem?_getD, List.getD_eq_getElem?_getD, List.getElem?_set_ne (fun e => hji e.symm)]
end Go.Proofs.YtbogfmgfafdjiaaGreatDoor

/- Structs that come in. -/
namespace Go.Proofs.YtbogfmgfafdjiaaGreatDoor
set_option linter.unusedVariables false
set_option linter.unusedSimpArgs false
set_option maxHeartbeats 8000000
open Go.RowKit
theorem reads_agg {w : World} {cs : List AV} {v : Value} {us : Array Value} (hv : v = .agg us) (h : Rds w cs v.cells.toList) : Rep (fun _ => False) w (.agg cs) v := by
  subst hv
  have h' : Rds w cs us.toList := h
  have := Rep.agg (own := fun _ => False) (w := w) (us := us.toList) h'.1 h'.2.1 h'.2.2
  simpa using this
end Go.Proofs.YtbogfmgfafdjiaaGreatDoor

/- Law 21's told. -/
namespace Go.Proofs.YtbogfmgfafdjiaaGreatDoor
set_option linter.unusedVariables false
set_option linter.unusedSimpArgs false
set_option maxHeartbeats 8000000
open Go.RowKit
set_option maxRecDepth 8000

section
variable {P : Program} {c : Ctx} {σ : Slots} {F : Rows} {Q : Exit → Act → World → Prop} {ops : Array Oper} {rest : List Oper} {o : Oper}
/-- A guarded step that is made. -/
theorem O.met {ids : List Nat} {ι : Type} {sl : ι → Slots} {ro : ι → Rows} {bb tt' : Bool} (hg : guardA ops σ o = some (some (bb, tt'))) (hb : bb = tt') (h : O P ops c { o with guard := none } σ F Q ids ι sl ro) : O P ops c o σ F Q ids ι sl ro := by
  intro a w hR K hK
  have h1 := h a w hR K hK
  unfold Op1 at h1 ⊢
  rw [if_pos ((guard_iff hR hg).2 hb)]
  rw [if_pos (by simp [Region.wanted])] at h1
  exact h1
end

theorem actCells_len (a : ActD) : a.cells.length = 14 := rfl
theorem rowsOf_flat : ∀ (l : List ActD) (i : Nat), i < l.length → rowsOf 14 (l.flatMap ActD.cells) i = gOf ActD.cells l i
  | [], i, h => absurd h (Nat.not_lt_zero i)
  | a :: t, 0, h => by
    show ((a.cells ++ t.flatMap ActD.cells).drop (0 * 14)).take 14 = a.cells
    rw [Nat.zero_mul, List.drop_zero, List.take_left' (actCells_len a)]
  | a :: t, i + 1, h => by
    have ih := rowsOf_flat t i (by simpa using h)
    show ((a.cells ++ t.flatMap ActD.cells).drop ((i + 1) * 14)).take 14 = gOf ActD.cells t i
    rw [← ih, show (i + 1) * 14 = 14 + i * 14 by omega, ← List.drop_drop, List.drop_left' (actCells_len a)]
    rfl
theorem Imp.acts (l : List ActD) {n : Nat} {g : Nat → List AV} (hn : n = l.length) (hg : ∀ i, i < n → g i = rowsOf 14 (l.flatMap ActD.cells) i) : Imp (.lst 14 n g) (actsA l) := by
  subst hn
  exact Imp.lst rfl fun i hi => (hg i hi).trans (rowsOf_flat l i hi)

def bK : ByteArray := ⟨#[107]⟩
def bB1 : ByteArray := ⟨#[98]⟩
def tp : ActD := ⟨1, 1, 0, 1, 0, 0, bK, bB1, 1, default⟩
def tc : ActD := ⟨2, 1, 0, 1, 0, 0, bK, ByteArray.empty, 0, default⟩
def td : ActD := ⟨4, 0, 0, 0, 4, 0, ByteArray.empty, ByteArray.empty, 0, ⟨1, 1, bK, bB1, false⟩⟩
def ta : ActD := ⟨5, 0, 0, 0, 4, 0, ByteArray.empty, ByteArray.empty, 0, default⟩
theorem fitI_small {z : Int} (h : -1000 ≤ z) (h2 : z ≤ 1000) : fitI z := by unfold fitI; omega
def okB (a : ActD) : Bool := [a.kind, a.cl, a.q, a.seq, a.tag, a.many, a.m.pub, a.m.seq].all (fun z => decide (-1000 ≤ z) && decide (z ≤ 1000)) && [a.key, a.body, a.m.key, a.m.body].all fun b => decide (b.size ≤ 1000)
theorem okB_ok {a : ActD} (h : okB a = true) : ActOk a := by
  simp only [okB, List.all_cons, List.all_nil, Bool.and_eq_true, decide_eq_true_eq, Bool.and_true] at h
  obtain ⟨⟨h1, h2, h3, h4, h5, h6, h7, h8⟩, g1, g2, g3, g4⟩ := h
  exact ⟨fitI_small h1.1 h1.2, fitI_small h2.1 h2.2, fitI_small h3.1 h3.2, fitI_small h4.1 h4.2, fitI_small h5.1 h5.2, fitI_small h6.1 h6.2, g1, g2, fitI_small h7.1 h7.2, fitI_small h8.1 h8.2, g3, g4⟩
theorem oks {l : List ActD} (h : l.all okB = true) : ∀ a ∈ l, ActOk a := fun a ha => okB_ok (List.all_eq_true.1 h a ha)
theorem check_eq {l : List ActD} {z : Int} (hl : Nat.ble l.length 900 = true) (h : l.all okB = true) (hz : checkJ l = z) : PFn Tryz.prog 102 [actsA l] (.v (.int .i64 z)) := hz ▸ jcheck_p l (Nat.le_of_ble_eq_true hl) (oks h)
theorem tt1 : checkJ [tp, tc, td, ta] = 0 := by decide +kernel
theorem tt2 : checkJ [tc] = 1 := by decide +kernel
theorem tt3 : checkJ [tp, td, td] = 3 := by decide +kernel
theorem tt4 : checkJ [tp, tp] = 2 := by decide +kernel
theorem tt5 : openJ [tp, tc, td] = [td.m] := by decide +kernel
theorem tt6 : openJ [tp, tc, td, ta] = [] := by decide +kernel

end Go.Proofs.YtbogfmgfafdjiaaGreatDoor

/- A cluster in which nothing is: New (world). -/
namespace Go.Proofs.YtbogfmgfafdjiaaGreatDoor
set_option linter.unusedVariables false
set_option linter.unusedSimpArgs false
set_option maxHeartbeats 8000000
open Go.RowKit
set_option maxRecDepth 8000

def tR (R : List Arc) : Tab := ⟨1, R, [0]⟩
def nodeD (t : Tab) : List AV := List.replicate 5 .any ++ (tb1 t ++ List.replicate 97 .any)
def ndG (nb nb2 : Nat) (i : Nat) : List AV := if i = 0 then [.ptr 65 nb 0] else [.v (.pointer (some ⟨nb2, 0, none⟩))]
def ndR (nb : Nat) (t : Tab) : Rows := [(65, .blk nb 98 (nodeD t))]
def ndsR (xn : Value) (k nb nb2 : Nat) : Rows := [(61, .own xn 99 1 k (ndG nb nb2))]
def wldC (xn xc xf xa : Value) : List AV := [.ref 61 xn, .any, .ref 62 xc, .v (.int .i64 1), .ref 63 xf, .ref 64 xa]
def wldB (wb : Nat) (xn xc xf xa : Value) : Rows := [(60, .blk wb 78 (wldC xn xc xf xa))]
/-- While nodes are made. -/
def wl1 (n : Int) (b1 wb : Nat) (xn xt : Value) (t : Tab) : Rows := [(1, .blk b1 27 (confC n)), (60, .blk wb 78 [.ref 61 xn, .any, .v (.slice none 0 0), .v (.int .i64 1), .v (.slice none 0 0), .v (.slice none 0 0)])] ++ tabR 50 xt t
def wl2 (n : Int) (b1 wb : Nat) (xt : Value) (t : Tab) : Nat → Value → Nat → Nat → Rows
  | 0, xn, nb, nb2 => wl1 n b1 wb xn xt t ++ ndsR xn 0 nb nb2
  | k + 1, xn, nb, nb2 => wl1 n b1 wb xn xt t ++ (ndsR xn (k + 1) nb nb2 ++ ndR nb t)
structure WAd where
  cb : Nat
  ab : Nat
  mb : Nat
  db : Nat
  xc : Value
  xt : Value
  x : Value
def clG (cb : Nat) (i : Nat) : List AV := [.ptr 66 cb 0]
def clsR (xc : Value) (cb : Nat) : Rows := [(62, .own xc 129 1 1 (clG cb))]
def flR (xf : Value) (k : Nat) (g : Nat → List AV) : Rows := [(63, .own xf 128 26 k g)]
def actR (xa : Value) (l : List ActD) : Rows := [(64, .own xa 72 14 l.length (gOf ActD.cells l))]
def wn1 (wb : Nat) (xn : Value) (nb nb2 k : Nat) (R : List Arc) : Rows := [(60, .blk wb 78 [.ref 61 xn, .any, .ref 62 (.slice none 0 0), .v (.int .i64 1), .v (.slice none 0 0), .v (.slice none 0 0)])] ++ (ndsR xn k nb nb2 ++ (ndR nb (tR R) ++ [(62, .own (.slice none 0 0) 129 1 0 (fun _ => []))]))
noncomputable def wn2 (wb : Nat) (xn : Value) (nb nb2 k : Nat) (R : List Arc) (p : WAd) : Rows := [(60, .blk wb 78 [.ref 61 xn, .any, .ref 62 p.xc, .v (.int .i64 1), .v (.slice none 0 0), .v (.slice none 0 0)])] ++ (ndsR xn k nb nb2 ++ (ndR nb (tR R) ++ (clsR p.xc p.cb ++ (cliR p.cb p.xt p.ab p.mb p.db p.x ⟨0, [], []⟩ [] ++ tabR 67 p.xt (tR R)))))
/-- A cluster: one client, one queue of one shard. -/
noncomputable def wR (wb : Nat) (xn : Value) (nb nb2 k : Nat) (R : List Arc) (p : WAd) (A : AuD) (m : List (Value × AV)) (xf : Value) (fk : Nat) (gF : Nat → List AV) (xa : Value) (l : List ActD) : Rows :=
  wldB wb xn p.xc xf xa ++ (ndsR xn k nb nb2 ++ (ndR nb (tR R) ++ (clsR p.xc p.cb ++ (cliR p.cb p.xt p.ab p.mb p.db p.x A m ++ (tabR 67 p.xt (tR R) ++ (flR xf fk gF ++ actR xa l))))))
def sT (R : List Arc) : List UInt8 := [] ++ recB (recT (tR R))
def sF (R : List Arc) : List UInt8 := sT R ++ recB recS
theorem wnew_p (n : Int) (R : List Arc) (hn : n = 1 ∨ n = 2) (ht : newT [1] n = tR R) (he : newE [1] n = 0) (hm : mayT (tR R) = true) (hr : in32 (tR R)) (hl : (putL (tR R)).length ≤ 10000) : FnC Tryz.prog 21 [confA n] []
    (fun r F' => ∃ wb xn nb nb2 p, r = .tup [.ptr 60 wb 0, .v (.int .i64 0)] ∧ F' = wR wb xn nb nb2 n.toNat R p ⟨0, [], []⟩ [] (.slice none 0 0) 0 (fun _ => []) (.slice none 0 0) []) := by
  have hs : (sT R).length ≤ 200000 := by unfold sT; rw [List.nil_append, recB_len, recT_len]; omega
  have hT := tabnew_p [1] n (fun z hz => by simp only [List.mem_singleton] at hz; subst hz; unfold fitI; omega)
  rw [ht, he] at hT
  unfold confA
  refine FnC.intro Tryz.func21 rfl Tryz.ntmps21 rfl ?_; intro off w0
  repeat refine S.seq ?_
  refine S.region ?_
  unfold confC
  refine wB 1 (k := fun b1 => ?_)
  (refine wL (k := ?_); try (refine L.nil ?_))
  repeat refine S.seq ?_
  refine S.region ?_
  (refine wL (k := ?_); try (refine L.nil ?_))
  refine wP ((bmay_p n (by omega) (by omega))) (k := ?_)
  (refine wL (k := ?_); try (refine L.nil ?_))
  ((repeat refine S.seq ?_); refine S.cond rfl (fun hc => ?_) (fun hc => ?_) <;> (try first | refine S.skip ?_ | refine S.exit ?_))
  · cases hc
  repeat refine S.seq ?_
  refine S.draw [(1, [1]), (4, [1])] mixed ?_
  refine wT [0, 1, 2, 3, 4] (k := ?_)
  refine H.o1 5 rfl (by kernel_rfl) (by kernel_rfl) (O.makeSlice (T := tt) 90 n.toNat tt_ok rfl rfl rfl rfl rfl rfl rfl rfl ⟨trivial, trivial⟩ (by omega) (by omega) (by show 24 * _ ≤ _; omega) (by omega)) (.inr rfl) rfl fun x25 => ?_
  refine wT [6] (k := ?_)
  refine H.o1 7 rfl (by kernel_rfl) (by kernel_rfl) (O.box 60 rfl rfl rfl rfl rfl trivial rfl) (.inr rfl) rfl fun wb => ?_
  refine wT [8] (k := ?_)
  refine wD (k := ?_)
  ((repeat refine S.seq ?_); refine wG (k := ?_); try (refine L.nil ?_))
  ((repeat refine S.seq ?_); refine wG (k := ?_); try (refine L.nil ?_))
  refine nilRow 50 82 3 (gOf Tab.cells []) ?_
  refine slotAs 5 (.ref 50 (.slice none 0 0)) rfl (Imp.vref rfl) ?_
  refine blkAs 60 [.v (.slice none 0 0), .any, .v (.slice none 0 0), .v (.int .i64 1), .v (.slice none 0 0), .v (.slice none 0 0)] rfl ⟨Imp.refl _, Imp.any _, Imp.refl _, Imp.refl _, Imp.refl _, Imp.refl _, trivial⟩ ?_
  repeat refine S.seq ?_
  refine S.cut (ι := Value) (fun x => [(1, .ptr 1 b1 0), (4, .ptr 60 wb 0), (5, .ref 50 x)]) (fun x => [(1, .blk b1 27 (confC n)), (60, .blk wb 78 [.v (.slice none 0 0), .any, .v (.slice none 0 0), .v (.int .i64 1), .v (.slice none 0 0), .v (.slice none 0 0)])] ++ tabR 50 x (tR R)) ?_ ?_
  · refine S.block (S.once (ι := Value) [(1, .ptr 1 b1 0), (4, .ptr 60 wb 0), (5, .ref 50 (.slice none 0 0)), (29, .lst 1 1 (gOf (fun l => [intW l]) qs1)), (30, .v (.int .i64 1)), (31, .v (.int .i64 0))]
      [(1, .blk b1 27 (confC n)), (60, .blk wb 78 [.v (.slice none 0 0), .any, .v (.slice none 0 0), .v (.int .i64 1), .v (.slice none 0 0), .v (.slice none 0 0)]), (50, .own (.slice none 0 0) 82 3 0 (gOf Tab.cells []))]
      (fun x => [(1, .ptr 1 b1 0), (4, .ptr 60 wb 0), (5, .ref 50 x), (30, .v (.int .i64 1)), (31, .v (.int .i64 1))])
      (fun x => [(1, .blk b1 27 (confC n)), (60, .blk wb 78 [.v (.slice none 0 0), .any, .v (.slice none 0 0), .v (.int .i64 1), .v (.slice none 0 0), .v (.slice none 0 0)])] ++ tabR 50 x (tR R)) ?_ ?_ ?_)
    · exact fun a w h => h.weakP (by (repeat' (first | exact True.intro | exact Imp.refl _ | refine ⟨?_, ?_⟩))) (by unfold confC; (repeat (first | exact Sub.refl _ | refine Sub.pick (by first | exact p0 | exact pS p0 | exact pS (pS p0) | exact pS (pS (pS p0)) | exact pS (pS (pS (pS p0))) | exact pS (pS (pS (pS (pS p0))))) ?_)))
    · unfold confC
      ((repeat refine S.seq ?_); refine wG (k := ?_); try (refine L.nil ?_))
      ((repeat refine S.seq ?_); refine S.cond rfl (fun h1 => ?_) (fun h1 => ?_) <;> (try first | refine S.skip ?_ | refine S.exit ?_))
      · repeat refine S.seq ?_
        refine S.block ?_
        ((repeat refine S.seq ?_); refine wG (k := ?_); try (refine L.nil ?_))
        refine slotAs 7 (intW [1]) rfl (Imp.refl _) ?_
        repeat refine S.seq ?_
        refine S.region ?_
        (refine wL (k := ?_); try (refine L.nil ?_))
        refine wP (hT) (k := ?_)
        (refine wL (k := ?_); try (refine L.nil ?_))
        refine wA 51 (k := fun b8 => ?_)
        refine wS (k := ?_)
        (refine wL (k := ?_); try (refine L.nil ?_))
        repeat refine S.seq ?_
        refine S.region ?_
        (refine wL (k := ?_); try (refine L.nil ?_))
        refine wF 52 (k := fun x44 => ?_)
        refine wY (k := fun x45 => ?_)
        refine ownAs 50 (n' := 1) (gOf Tab.cells [tR R]) rfl rfl (fun i hi => ?_) ?_
        · have hi : i < 1 := hi
          have : i = 0 := by omega
          subst this; rfl
        (refine wL (k := ?_); try (refine L.nil ?_))
        ((repeat refine S.seq ?_); refine wG (k := ?_); try (refine L.nil ?_))
        exact fun a w hR => ⟨x45, hR.weakP (by (repeat' (first | exact True.intro | exact Imp.refl _ | refine ⟨?_, ?_⟩))) (by (try unfold tabR); (try unfold confC); simp only [List.nil_append, List.cons_append]; (repeat (first | exact Sub.refl _ | refine Sub.pick (by first | exact p0 | exact pS p0 | exact pS (pS p0) | exact pS (pS (pS p0)) | exact pS (pS (pS (pS p0))) | exact pS (pS (pS (pS (pS p0))))) ?_)))⟩
      exact absurd h1 (by decide)
    · intro x
      unfold tabR
      ((repeat refine S.seq ?_); refine wG (k := ?_); try (refine L.nil ?_))
      ((repeat refine S.seq ?_); refine S.cond rfl (fun h1 => ?_) (fun h1 => ?_) <;> (try first | refine S.skip ?_ | refine S.exit ?_))
      · exact absurd h1 (by decide)
      exact fun a w hR => ⟨x, hR.weakP (by (repeat' (first | exact True.intro | exact Imp.refl _ | refine ⟨?_, ?_⟩))) (by (try unfold tabR); simp only [List.nil_append, List.cons_append]; (repeat (first | exact Sub.refl _ | refine Sub.pick (by first | exact p0 | exact pS p0 | exact pS (pS p0) | exact pS (pS (pS p0)) | exact pS (pS (pS (pS p0))) | exact pS (pS (pS (pS (pS p0))))) ?_)))⟩
  intro xt
  refine nilRow 61 99 1 (ndG 0 0) ?_
  refine blkAs 60 [.ref 61 (.slice none 0 0), .any, .v (.slice none 0 0), .v (.int .i64 1), .v (.slice none 0 0), .v (.slice none 0 0)] rfl ⟨Imp.vref rfl, Imp.refl _, Imp.refl _, Imp.refl _, Imp.refl _, Imp.refl _, trivial⟩ ?_
  ((repeat refine S.seq ?_); refine wG (k := ?_); try (refine L.nil ?_))
  repeat refine S.seq ?_
  refine S.cut (ι := Value × Nat × Nat) (fun q => [(1, .ptr 1 b1 0), (4, .ptr 60 wb 0), (5, .ref 50 xt)]) (fun q => wl2 n b1 wb xt (tR R) n.toNat q.1 q.2.1 q.2.2) ?_ ?_
  · refine S.block (S.loop (ι := { q : Nat × Value × Nat × Nat // q.1 ≤ n.toNat }) (fun q => [(1, .ptr 1 b1 0), (4, .ptr 60 wb 0), (5, .ref 50 xt), (48, .v (.int .i64 n)), (49, .v (.int .i64 q.1.1))]) (fun q => wl2 n b1 wb xt (tR R) q.1.1 q.1.2.1 q.1.2.2.1 q.1.2.2.2) (fun q => n.toNat - q.1.1) ?_ ?_)
    · exact fun a w h => ⟨⟨(0, .slice none 0 0, 0, 0), Nat.zero_le _⟩, h.weakP (by (repeat' (first | exact True.intro | exact Imp.refl _ | refine ⟨?_, ?_⟩))) (by (try unfold tabR); unfold wl2 wl1 ndsR tabR confC; simp only [List.nil_append, List.cons_append]; (repeat (first | exact Sub.refl _ | refine Sub.pick (by first | exact p0 | exact pS p0 | exact pS (pS p0) | exact pS (pS (pS p0)) | exact pS (pS (pS (pS p0))) | exact pS (pS (pS (pS (pS p0))))) ?_)))⟩
    rintro ⟨⟨k, xn, nb, nb2⟩, hk⟩
    dsimp only at hk ⊢
    rcases k with _ | k
    · unfold wl2 wl1 ndsR tabR confC
      ((repeat refine S.seq ?_); refine wG (k := ?_); try (refine L.nil ?_))
      ((repeat refine S.seq ?_); refine S.cond rfl (fun hc => ?_) (fun hc => ?_) <;> (try first | refine S.skip ?_ | refine S.exit ?_))
      · repeat refine S.seq ?_
        refine S.block ?_
        ((repeat refine S.seq ?_); refine wG (k := ?_); try (refine L.nil ?_))
        repeat refine S.seq ?_
        refine S.region ?_
        refine wC [] (newnode_p) (k := ?_)
        rintro r F' ⟨nc, lb, pb, y, z, rfl, rfl⟩
        (refine wL (k := ?_); try (refine L.nil ?_))
        unfold logR nodP nodR
        repeat refine S.seq ?_
        refine S.region ?_
        (refine wL (k := ?_); try (refine L.nil ?_))
        refine wS (k := ?_)
        refine L.nil ?_
        refine blkAs 80 (nodeC 0 lb pb tb0) rfl (by exact Imps.refl (nodeC 0 lb pb tb0)) ?_
        ((repeat refine S.seq ?_); refine wG (k := ?_); try (refine L.nil ?_))
        repeat refine S.seq ?_
        refine S.cut (ι := Value × Value × Nat) (fun q => [(1, .ptr 1 b1 0), (4, .ptr 60 wb 0), (5, .ref 50 xt), (10, .v (.int .i64 0)), (11, .ptr 80 nc 0), (48, .v (.int .i64 n)), (49, .v (.int .i64 0))]) (fun q => wl1 n b1 wb xn xt (tR R) ++ (ndsR xn 0 nb nb2 ++ ((logR lb q.1 q.2.1 (sF R) [] ++ nodQ 0 nc lb pb q.2.2 (tb1 (tR R)))))) ?_ ?_
        · refine S.block (S.once (ι := Value × Value × Nat) [(1, .ptr 1 b1 0), (4, .ptr 60 wb 0), (5, .ref 50 xt), (10, .v (.int .i64 0)), (11, .ptr 80 nc 0), (48, .v (.int .i64 n)), (49, .v (.int .i64 0)), (57, .ref 50 xt), (58, .v (.int .i64 1)), (59, .v (.int .i64 0))] (wl1 n b1 wb xn xt (tR R) ++ (ndsR xn 0 nb nb2 ++ ((logR lb y z [] [] ++ nodP 0 nc lb pb tb0))))
            (fun q => [(1, .ptr 1 b1 0), (4, .ptr 60 wb 0), (5, .ref 50 xt), (10, .v (.int .i64 0)), (11, .ptr 80 nc 0), (48, .v (.int .i64 n)), (49, .v (.int .i64 0)), (58, .v (.int .i64 1)), (59, .v (.int .i64 1))]) (fun q => wl1 n b1 wb xn xt (tR R) ++ (ndsR xn 0 nb nb2 ++ ((logR lb q.1 q.2.1 (sF R) [] ++ nodQ 0 nc lb pb q.2.2 (tb1 (tR R)))))) ?_ ?_ ?_)
          · exact fun a w h => h.weakP (by (repeat' (first | exact True.intro | exact Imp.refl _ | refine ⟨?_, ?_⟩))) (by (try unfold wl2); (try unfold wl1); (try unfold ndsR); (try unfold ndR); (try unfold tabR); (try unfold nodQ); (try unfold nodP); (try unfold logR); (try unfold entR); (try unfold nodR); (try unfold plcR); (try unfold confC); simp only [List.nil_append, List.cons_append, List.append_nil]; (repeat (first | exact Sub.refl _ | refine Sub.pick (by repeat (first | exact p0 | apply pS)) ?_)))
          · (try unfold wl2); (try unfold wl1); (try unfold ndsR); (try unfold ndR); (try unfold tabR); (try unfold nodQ); (try unfold nodP); (try unfold logR); (try unfold entR); (try unfold nodR); (try unfold plcR); (try unfold confC)
            ((repeat refine S.seq ?_); refine wG (k := ?_); try (refine L.nil ?_))
            ((repeat refine S.seq ?_); refine S.cond rfl (fun h1 => ?_) (fun h1 => ?_) <;> (try first | refine S.skip ?_ | refine S.exit ?_))
            · repeat refine S.seq ?_
              refine S.block ?_
              repeat refine S.seq ?_
              refine S.region ?_
              (refine wL (k := ?_); try (refine L.nil ?_))
              refine wA 55 (k := fun b13 => ?_)
              (refine wL (k := ?_); try (refine L.nil ?_))
              refine wS (k := ?_)
              refine L.nil ?_
              repeat refine S.seq ?_
              refine S.region ?_
              (refine wL (k := ?_); try (refine L.nil ?_))
              refine wP ((rtab_p (tR R) hm hr hl)) (k := ?_)
              refine wF 56 (k := fun x68 => ?_)
              refine freezeSlot 68 56 rfl rfl rfl ?_
              refine slotAs 68 (recsA [recT (tR R)]) rfl (Imp.lst rfl (fun i hi => ?_)) ?_
              · have hi : i < 1 := hi
                have : i = 0 := by omega
                subst this; rfl
              refine L.call (G := [(70, .blk lb 246 [.ref 71 y, .ref 72 z, .v (.bool false)]), (71, .own y 5 1 0 (gOf u8C [])), (72, .own z 5 1 0 (gOf u8C [])), (80, .blk nc 98 (nodeC 0 lb pb tb0))]) rfl rfl rfl rfl rfl rfl rfl ⟨trivial, by exact sd⟩ rfl (by exact Imps.refl [.ptr 80 nc 0, recsA [recT (tR R)]]) (by exact (pickS (pS (pS (pS (pS (pS p0))))) (pickS (pS (pS (pS (pS (pS p0))))) (pickS (pS (pS (pS (pS (pS p0))))) (pickS (pS (pS (pS (pS (pS p0))))) pick0))))) (wrT_p 0 nc lb pb (tR R) y z [] hm hr hl (by decide)) ?_
              rintro r F' ⟨y1, z1, rfl, rfl⟩
              (try unfold wl2); (try unfold wl1); (try unfold ndsR); (try unfold ndR); (try unfold tabR); (try unfold nodQ); (try unfold nodP); (try unfold logR); (try unfold entR); (try unfold nodR); (try unfold plcR); (try unfold confC)
              refine L.nil ?_
              ((repeat refine S.seq ?_); refine wG (k := ?_); try (refine L.nil ?_))
              refine slotAs 71 (intW [0]) rfl (Imp.refl _) ?_
              repeat refine S.seq ?_
              refine S.cut (ι := Value × Value × Nat) (fun q => [(1, .ptr 1 b1 0), (4, .ptr 60 wb 0), (5, .ref 50 xt), (10, .v (.int .i64 0)), (11, .ptr 80 nc 0), (48, .v (.int .i64 n)), (49, .v (.int .i64 0)), (58, .v (.int .i64 1)), (59, .v (.int .i64 0))]) (fun q => wl1 n b1 wb xn xt (tR R) ++ (ndsR xn 0 nb nb2 ++ ((logR lb q.1 q.2.1 (sF R) [] ++ nodQ 0 nc lb pb q.2.2 (tb1 (tR R)))))) ?_ ?_
              · refine S.block (S.once (ι := Value × Value × Nat) [(1, .ptr 1 b1 0), (4, .ptr 60 wb 0), (5, .ref 50 xt), (10, .v (.int .i64 0)), (11, .ptr 80 nc 0), (48, .v (.int .i64 n)), (49, .v (.int .i64 0)), (12, .v (.int .i64 0)), (58, .v (.int .i64 1)), (59, .v (.int .i64 0)), (71, intW [0]), (72, .v (.int .i64 1)), (73, .v (.int .i64 0))] (wl1 n b1 wb xn xt (tR R) ++ (ndsR xn 0 nb nb2 ++ ((logR lb y1 z1 (sT R) [] ++ nodP 0 nc lb pb (tb1 (tR R))))))
                  (fun q => [(1, .ptr 1 b1 0), (4, .ptr 60 wb 0), (5, .ref 50 xt), (10, .v (.int .i64 0)), (11, .ptr 80 nc 0), (48, .v (.int .i64 n)), (49, .v (.int .i64 0)), (58, .v (.int .i64 1)), (59, .v (.int .i64 0)), (72, .v (.int .i64 1)), (73, .v (.int .i64 1))]) (fun q => wl1 n b1 wb xn xt (tR R) ++ (ndsR xn 0 nb nb2 ++ ((logR lb q.1 q.2.1 (sF R) [] ++ nodQ 0 nc lb pb q.2.2 (tb1 (tR R)))))) ?_ ?_ ?_)
                · exact fun a w h => h.weakP (by (repeat' (first | exact True.intro | exact Imp.refl _ | refine ⟨?_, ?_⟩))) (by (try unfold wl2); (try unfold wl1); (try unfold ndsR); (try unfold ndR); (try unfold tabR); (try unfold nodQ); (try unfold nodP); (try unfold logR); (try unfold entR); (try unfold nodR); (try unfold plcR); (try unfold confC); simp only [List.nil_append, List.cons_append, List.append_nil]; (repeat (first | exact Sub.refl _ | refine Sub.pick (by repeat (first | exact p0 | apply pS)) ?_)))
                · (try unfold wl2); (try unfold wl1); (try unfold ndsR); (try unfold ndR); (try unfold tabR); (try unfold nodQ); (try unfold nodP); (try unfold logR); (try unfold entR); (try unfold nodR); (try unfold plcR); (try unfold confC)
                  ((repeat refine S.seq ?_); refine wG (k := ?_); try (refine L.nil ?_))
                  ((repeat refine S.seq ?_); refine S.cond rfl (fun h2 => ?_) (fun h2 => ?_) <;> (try first | refine S.skip ?_ | refine S.exit ?_))
                  · repeat refine S.seq ?_
                    refine S.block ?_
                    ((repeat refine S.seq ?_); refine wG (k := ?_); try (refine L.nil ?_))
                    ((repeat refine S.seq ?_); refine wG (k := ?_); try (refine L.nil ?_))
                    ((repeat refine S.seq ?_); refine S.cond rfl (fun h3 => ?_) (fun h3 => ?_) <;> (try first | refine S.skip ?_ | refine S.exit ?_))
                    · repeat refine S.seq ?_
                      refine S.region ?_
                      (refine wL (k := ?_); try (refine L.nil ?_))
                      refine wP (rsta_p) (k := ?_)
                      refine wF 56 (k := fun x86 => ?_)
                      refine freezeSlot 86 56 rfl rfl rfl ?_
                      refine slotAs 86 (recsA [recS]) rfl (Imp.lst rfl (fun i hi => ?_)) ?_
                      · have hi : i < 1 := hi
                        have : i = 0 := by omega
                        subst this; rfl
                      refine L.call (G := [(70, .blk lb 246 [.ref 71 y1, .ref 72 z1, .v (.bool false)]), (71, .own y1 5 1 (sT R).length (gOf u8C (sT R))), (72, .own z1 5 1 0 (gOf u8C [])), (80, .blk nc 98 (nodeC 0 lb pb (tb1 (tR R)))), (81, .map pb (kOf Tryz.prog 108) [])]) rfl rfl rfl rfl rfl rfl rfl ⟨trivial, by exact sd⟩ rfl (by exact Imps.refl [.ptr 80 nc 0, recsA [recS]]) (by exact (pickS (pS (pS (pS (pS p0)))) (pickS (pS (pS (pS (pS p0)))) (pickS (pS (pS (pS (pS p0)))) (pickS (pS (pS (pS (pS p0)))) (pickS (pS (pS (pS (pS p0)))) pick0)))))) (wrS_p 0 nc lb pb (tb1 (tR R)) y1 z1 (sT R) hs) ?_
                      rintro r F' ⟨y2, z2, eb, rfl, rfl⟩
                      refine L.nil ?_
                      (try unfold wl2); (try unfold wl1); (try unfold ndsR); (try unfold ndR); (try unfold tabR); (try unfold nodQ); (try unfold nodP); (try unfold logR); (try unfold entR); (try unfold nodR); (try unfold plcR); (try unfold confC)
                      ((repeat refine S.seq ?_); refine wG (k := ?_); try (refine L.nil ?_))
                      exact fun a w hR => ⟨(y2, z2, eb), hR.weakP (by (repeat' (first | exact True.intro | exact Imp.refl _ | refine ⟨?_, ?_⟩))) (by (try unfold wl2); (try unfold wl1); (try unfold ndsR); (try unfold ndR); (try unfold tabR); (try unfold nodQ); (try unfold nodP); (try unfold logR); (try unfold entR); (try unfold nodR); (try unfold plcR); (try unfold confC); simp only [List.nil_append, List.cons_append, List.append_nil]; (repeat (first | exact Sub.refl _ | refine Sub.pick (by repeat (first | exact p0 | apply pS)) ?_)))⟩
                    exact absurd h3 (by decide)
                  exact absurd h2 (by decide)
                · rintro ⟨y1, z1, eb⟩
                  dsimp only
                  (try unfold wl2); (try unfold wl1); (try unfold ndsR); (try unfold ndR); (try unfold tabR); (try unfold nodQ); (try unfold nodP); (try unfold logR); (try unfold entR); (try unfold nodR); (try unfold plcR); (try unfold confC)
                  ((repeat refine S.seq ?_); refine wG (k := ?_); try (refine L.nil ?_))
                  ((repeat refine S.seq ?_); refine S.cond rfl (fun h2 => ?_) (fun h2 => ?_) <;> (try first | refine S.skip ?_ | refine S.exit ?_))
                  · exact absurd h2 (by decide)
                  exact fun a w hR => ⟨(y1, z1, eb), hR.weakP (by (repeat' (first | exact True.intro | exact Imp.refl _ | refine ⟨?_, ?_⟩))) (by (try unfold wl2); (try unfold wl1); (try unfold ndsR); (try unfold ndR); (try unfold tabR); (try unfold nodQ); (try unfold nodP); (try unfold logR); (try unfold entR); (try unfold nodR); (try unfold plcR); (try unfold confC); simp only [List.nil_append, List.cons_append, List.append_nil]; (repeat (first | exact Sub.refl _ | refine Sub.pick (by repeat (first | exact p0 | apply pS)) ?_)))⟩
              rintro ⟨y1, z1, eb⟩
              dsimp only
              (try unfold wl2); (try unfold wl1); (try unfold ndsR); (try unfold ndR); (try unfold tabR); (try unfold nodQ); (try unfold nodP); (try unfold logR); (try unfold entR); (try unfold nodR); (try unfold plcR); (try unfold confC)
              ((repeat refine S.seq ?_); refine wG (k := ?_); try (refine L.nil ?_))
              exact fun a w hR => ⟨(y1, z1, eb), hR.weakP (by (repeat' (first | exact True.intro | exact Imp.refl _ | refine ⟨?_, ?_⟩))) (by (try unfold wl2); (try unfold wl1); (try unfold ndsR); (try unfold ndR); (try unfold tabR); (try unfold nodQ); (try unfold nodP); (try unfold logR); (try unfold entR); (try unfold nodR); (try unfold plcR); (try unfold confC); simp only [List.nil_append, List.cons_append, List.append_nil]; (repeat (first | exact Sub.refl _ | refine Sub.pick (by repeat (first | exact p0 | apply pS)) ?_)))⟩
            exact absurd h1 (by decide)
          · rintro ⟨y1, z1, eb⟩
            dsimp only
            (try unfold wl2); (try unfold wl1); (try unfold ndsR); (try unfold ndR); (try unfold tabR); (try unfold nodQ); (try unfold nodP); (try unfold logR); (try unfold entR); (try unfold nodR); (try unfold plcR); (try unfold confC)
            ((repeat refine S.seq ?_); refine wG (k := ?_); try (refine L.nil ?_))
            ((repeat refine S.seq ?_); refine S.cond rfl (fun h1 => ?_) (fun h1 => ?_) <;> (try first | refine S.skip ?_ | refine S.exit ?_))
            · exact absurd h1 (by decide)
            exact fun a w hR => ⟨(y1, z1, eb), hR.weakP (by (repeat' (first | exact True.intro | exact Imp.refl _ | refine ⟨?_, ?_⟩))) (by (try unfold wl2); (try unfold wl1); (try unfold ndsR); (try unfold ndR); (try unfold tabR); (try unfold nodQ); (try unfold nodP); (try unfold logR); (try unfold entR); (try unfold nodR); (try unfold plcR); (try unfold confC); simp only [List.nil_append, List.cons_append, List.append_nil]; (repeat (first | exact Sub.refl _ | refine Sub.pick (by repeat (first | exact p0 | apply pS)) ?_)))⟩
        rintro ⟨y1, z1, eb⟩
        dsimp only
        (try unfold wl2); (try unfold wl1); (try unfold ndsR); (try unfold ndR); (try unfold tabR); (try unfold nodQ); (try unfold nodP); (try unfold logR); (try unfold entR); (try unfold nodR); (try unfold plcR); (try unfold confC)
        repeat refine S.seq ?_
        refine S.region ?_
        (refine wL (k := ?_); try (refine L.nil ?_))
        refine slotAs 95 (.ptr 65 nc 0) rfl ((Imp.ptrv 80 nc 0).trans (Imp.vptr 65 nc 0)) ?_
        refine wF 58 (k := fun x96 => ?_)
        refine wY (k := fun x97 => ?_)
        refine ownAs 61 (n' := 1) (ndG nc nb2) rfl rfl (fun i hi => ?_) ?_
        · have hi : i < 1 := hi
          have : i = 0 := by omega
          subst this; rfl
        (refine wL (k := ?_); try (refine L.nil ?_))
        refine wS (k := ?_)
        refine L.nil ?_
        ((repeat refine S.seq ?_); refine wG (k := ?_); try (refine L.nil ?_))
        refine blkAs 80 (nodeD (tR R)) rfl ⟨Imp.any _, Imp.any _, Imp.any _, Imp.any _, Imp.any _, Imps.refl _⟩ ?_
        refine rowsTo [(1, .blk b1 27 (confC n)), (60, .blk wb 78 [.ref 61 x97, .any, .v (.slice none 0 0), .v (.int .i64 1), .v (.slice none 0 0), .v (.slice none 0 0)]), (50, .own xt 82 3 1 (gOf Tab.cells [tR R])), (61, .own x97 99 1 1 (ndG nc nb2)), (80, .blk nc 98 (nodeD (tR R)))] (by (try unfold wl2); (try unfold wl1); (try unfold ndsR); (try unfold ndR); (try unfold tabR); (try unfold nodQ); (try unfold nodP); (try unfold logR); (try unfold entR); (try unfold nodR); (try unfold plcR); (try unfold confC); simp only [List.nil_append, List.cons_append, List.append_nil]; (repeat (first | exact Sub.refl _ | refine Sub.pick (by repeat (first | exact p0 | apply pS)) ?_))) ?_
        refine renum [(1, .blk b1 27 (confC n)), (60, .blk wb 78 [.ref 61 x97, .any, .v (.slice none 0 0), .v (.int .i64 1), .v (.slice none 0 0), .v (.slice none 0 0)]), (50, .own xt 82 3 1 (gOf Tab.cells [tR R])), (61, .own x97 99 1 1 (ndG nc nb2)), (65, .blk nc 98 (nodeD (tR R)))] 4 (.ptr 60 wb 0) rfl rfl (Imp.refl _) ?_
        exact fun a w hR => ⟨⟨(1, x97, nc, nb2), by omega⟩, by show n.toNat - 1 < n.toNat - 0; omega, hR.weakP (by (repeat' (first | exact True.intro | exact Imp.refl _ | refine ⟨?_, ?_⟩))) (by show Sub _ (wl2 n b1 wb xt (tR R) 1 x97 nc nb2); (try unfold wl2); (try unfold wl1); (try unfold ndsR); (try unfold ndR); (try unfold tabR); (try unfold nodQ); (try unfold nodP); (try unfold logR); (try unfold entR); (try unfold nodR); (try unfold plcR); (try unfold confC); simp only [List.nil_append, List.cons_append, List.append_nil]; (repeat (first | exact Sub.refl _ | refine Sub.pick (by repeat (first | exact p0 | apply pS)) ?_)))⟩
      exfalso
      have := of_dec' hc
      omega
    rcases k with _ | k
    · unfold wl2 wl1 ndsR ndR tabR confC
      refine slotAs 49 (.v (.int .i64 1)) rfl (Imp.of_eq rfl) ?_
      ((repeat refine S.seq ?_); refine wG (k := ?_); try (refine L.nil ?_))
      ((repeat refine S.seq ?_); refine S.cond rfl (fun hc => ?_) (fun hc => ?_) <;> (try first | refine S.skip ?_ | refine S.exit ?_))
      · repeat refine S.seq ?_
        refine S.block ?_
        ((repeat refine S.seq ?_); refine wG (k := ?_); try (refine L.nil ?_))
        repeat refine S.seq ?_
        refine S.region ?_
        refine wC [] (newnode_p) (k := ?_)
        rintro r F' ⟨nc, lb, pb, y, z, rfl, rfl⟩
        (refine wL (k := ?_); try (refine L.nil ?_))
        unfold logR nodP nodR
        repeat refine S.seq ?_
        refine S.region ?_
        (refine wL (k := ?_); try (refine L.nil ?_))
        refine wS (k := ?_)
        refine L.nil ?_
        refine blkAs 80 (nodeC 1 lb pb tb0) rfl (by exact Imps.refl (nodeC 1 lb pb tb0)) ?_
        ((repeat refine S.seq ?_); refine wG (k := ?_); try (refine L.nil ?_))
        repeat refine S.seq ?_
        refine S.cut (ι := Value × Value × Nat) (fun q => [(1, .ptr 1 b1 0), (4, .ptr 60 wb 0), (5, .ref 50 xt), (10, .v (.int .i64 1)), (11, .ptr 80 nc 0), (48, .v (.int .i64 n)), (49, .v (.int .i64 1))]) (fun q => wl1 n b1 wb xn xt (tR R) ++ (ndsR xn 1 nb nb2 ++ (ndR nb (tR R) ++ (logR lb q.1 q.2.1 (sT R) [] ++ nodP 1 nc lb pb (tb1 (tR R)))))) ?_ ?_
        · refine S.block (S.once (ι := Value × Value × Nat) [(1, .ptr 1 b1 0), (4, .ptr 60 wb 0), (5, .ref 50 xt), (10, .v (.int .i64 1)), (11, .ptr 80 nc 0), (48, .v (.int .i64 n)), (49, .v (.int .i64 1)), (57, .ref 50 xt), (58, .v (.int .i64 1)), (59, .v (.int .i64 0))] (wl1 n b1 wb xn xt (tR R) ++ (ndsR xn 1 nb nb2 ++ (ndR nb (tR R) ++ (logR lb y z [] [] ++ nodP 1 nc lb pb tb0))))
            (fun q => [(1, .ptr 1 b1 0), (4, .ptr 60 wb 0), (5, .ref 50 xt), (10, .v (.int .i64 1)), (11, .ptr 80 nc 0), (48, .v (.int .i64 n)), (49, .v (.int .i64 1)), (58, .v (.int .i64 1)), (59, .v (.int .i64 1))]) (fun q => wl1 n b1 wb xn xt (tR R) ++ (ndsR xn 1 nb nb2 ++ (ndR nb (tR R) ++ (logR lb q.1 q.2.1 (sT R) [] ++ nodP 1 nc lb pb (tb1 (tR R)))))) ?_ ?_ ?_)
          · exact fun a w h => h.weakP (by (repeat' (first | exact True.intro | exact Imp.refl _ | refine ⟨?_, ?_⟩))) (by (try unfold wl2); (try unfold wl1); (try unfold ndsR); (try unfold ndR); (try unfold tabR); (try unfold nodQ); (try unfold nodP); (try unfold logR); (try unfold entR); (try unfold nodR); (try unfold plcR); (try unfold confC); simp only [List.nil_append, List.cons_append, List.append_nil]; (repeat (first | exact Sub.refl _ | refine Sub.pick (by repeat (first | exact p0 | apply pS)) ?_)))
          · (try unfold wl2); (try unfold wl1); (try unfold ndsR); (try unfold ndR); (try unfold tabR); (try unfold nodQ); (try unfold nodP); (try unfold logR); (try unfold entR); (try unfold nodR); (try unfold plcR); (try unfold confC)
            ((repeat refine S.seq ?_); refine wG (k := ?_); try (refine L.nil ?_))
            ((repeat refine S.seq ?_); refine S.cond rfl (fun h1 => ?_) (fun h1 => ?_) <;> (try first | refine S.skip ?_ | refine S.exit ?_))
            · repeat refine S.seq ?_
              refine S.block ?_
              repeat refine S.seq ?_
              refine S.region ?_
              (refine wL (k := ?_); try (refine L.nil ?_))
              refine wA 55 (k := fun b13 => ?_)
              (refine wL (k := ?_); try (refine L.nil ?_))
              refine wS (k := ?_)
              refine L.nil ?_
              repeat refine S.seq ?_
              refine S.region ?_
              (refine wL (k := ?_); try (refine L.nil ?_))
              refine wP ((rtab_p (tR R) hm hr hl)) (k := ?_)
              refine wF 56 (k := fun x68 => ?_)
              refine freezeSlot 68 56 rfl rfl rfl ?_
              refine slotAs 68 (recsA [recT (tR R)]) rfl (Imp.lst rfl (fun i hi => ?_)) ?_
              · have hi : i < 1 := hi
                have : i = 0 := by omega
                subst this; rfl
              refine L.call (G := [(70, .blk lb 246 [.ref 71 y, .ref 72 z, .v (.bool false)]), (71, .own y 5 1 0 (gOf u8C [])), (72, .own z 5 1 0 (gOf u8C [])), (80, .blk nc 98 (nodeC 1 lb pb tb0))]) rfl rfl rfl rfl rfl rfl rfl ⟨trivial, by exact sd⟩ rfl (by exact Imps.refl [.ptr 80 nc 0, recsA [recT (tR R)]]) (by exact (pickS (pS (pS (pS (pS (pS (pS p0)))))) (pickS (pS (pS (pS (pS (pS (pS p0)))))) (pickS (pS (pS (pS (pS (pS (pS p0)))))) (pickS (pS (pS (pS (pS (pS (pS p0)))))) pick0))))) (wrT_p 1 nc lb pb (tR R) y z [] hm hr hl (by decide)) ?_
              rintro r F' ⟨y1, z1, rfl, rfl⟩
              (try unfold wl2); (try unfold wl1); (try unfold ndsR); (try unfold ndR); (try unfold tabR); (try unfold nodQ); (try unfold nodP); (try unfold logR); (try unfold entR); (try unfold nodR); (try unfold plcR); (try unfold confC)
              refine L.nil ?_
              ((repeat refine S.seq ?_); refine wG (k := ?_); try (refine L.nil ?_))
              refine slotAs 71 (intW [0]) rfl (Imp.refl _) ?_
              repeat refine S.seq ?_
              refine S.cut (ι := Value × Value × Nat) (fun q => [(1, .ptr 1 b1 0), (4, .ptr 60 wb 0), (5, .ref 50 xt), (10, .v (.int .i64 1)), (11, .ptr 80 nc 0), (48, .v (.int .i64 n)), (49, .v (.int .i64 1)), (58, .v (.int .i64 1)), (59, .v (.int .i64 0))]) (fun q => wl1 n b1 wb xn xt (tR R) ++ (ndsR xn 1 nb nb2 ++ (ndR nb (tR R) ++ (logR lb q.1 q.2.1 (sT R) [] ++ nodP 1 nc lb pb (tb1 (tR R)))))) ?_ ?_
              · refine S.block (S.once (ι := Value × Value × Nat) [(1, .ptr 1 b1 0), (4, .ptr 60 wb 0), (5, .ref 50 xt), (10, .v (.int .i64 1)), (11, .ptr 80 nc 0), (48, .v (.int .i64 n)), (49, .v (.int .i64 1)), (12, .v (.int .i64 0)), (58, .v (.int .i64 1)), (59, .v (.int .i64 0)), (71, intW [0]), (72, .v (.int .i64 1)), (73, .v (.int .i64 0))] (wl1 n b1 wb xn xt (tR R) ++ (ndsR xn 1 nb nb2 ++ (ndR nb (tR R) ++ (logR lb y1 z1 (sT R) [] ++ nodP 1 nc lb pb (tb1 (tR R))))))
                  (fun q => [(1, .ptr 1 b1 0), (4, .ptr 60 wb 0), (5, .ref 50 xt), (10, .v (.int .i64 1)), (11, .ptr 80 nc 0), (48, .v (.int .i64 n)), (49, .v (.int .i64 1)), (58, .v (.int .i64 1)), (59, .v (.int .i64 0)), (72, .v (.int .i64 1)), (73, .v (.int .i64 1))]) (fun q => wl1 n b1 wb xn xt (tR R) ++ (ndsR xn 1 nb nb2 ++ (ndR nb (tR R) ++ (logR lb q.1 q.2.1 (sT R) [] ++ nodP 1 nc lb pb (tb1 (tR R)))))) ?_ ?_ ?_)
                · exact fun a w h => h.weakP (by (repeat' (first | exact True.intro | exact Imp.refl _ | refine ⟨?_, ?_⟩))) (by (try unfold wl2); (try unfold wl1); (try unfold ndsR); (try unfold ndR); (try unfold tabR); (try unfold nodQ); (try unfold nodP); (try unfold logR); (try unfold entR); (try unfold nodR); (try unfold plcR); (try unfold confC); simp only [List.nil_append, List.cons_append, List.append_nil]; (repeat (first | exact Sub.refl _ | refine Sub.pick (by repeat (first | exact p0 | apply pS)) ?_)))
                · (try unfold wl2); (try unfold wl1); (try unfold ndsR); (try unfold ndR); (try unfold tabR); (try unfold nodQ); (try unfold nodP); (try unfold logR); (try unfold entR); (try unfold nodR); (try unfold plcR); (try unfold confC)
                  ((repeat refine S.seq ?_); refine wG (k := ?_); try (refine L.nil ?_))
                  ((repeat refine S.seq ?_); refine S.cond rfl (fun h2 => ?_) (fun h2 => ?_) <;> (try first | refine S.skip ?_ | refine S.exit ?_))
                  · repeat refine S.seq ?_
                    refine S.block ?_
                    ((repeat refine S.seq ?_); refine wG (k := ?_); try (refine L.nil ?_))
                    ((repeat refine S.seq ?_); refine wG (k := ?_); try (refine L.nil ?_))
                    ((repeat refine S.seq ?_); refine S.cond rfl (fun h3 => ?_) (fun h3 => ?_) <;> (try first | refine S.skip ?_ | refine S.exit ?_))
                    · exact absurd h3 (by decide)
                    ((repeat refine S.seq ?_); refine wG (k := ?_); try (refine L.nil ?_))
                    exact fun a w hR => ⟨(y1, z1, 0), hR.weakP (by (repeat' (first | exact True.intro | exact Imp.refl _ | refine ⟨?_, ?_⟩))) (by (try unfold wl2); (try unfold wl1); (try unfold ndsR); (try unfold ndR); (try unfold tabR); (try unfold nodQ); (try unfold nodP); (try unfold logR); (try unfold entR); (try unfold nodR); (try unfold plcR); (try unfold confC); simp only [List.nil_append, List.cons_append, List.append_nil]; (repeat (first | exact Sub.refl _ | refine Sub.pick (by repeat (first | exact p0 | apply pS)) ?_)))⟩
                  exact absurd h2 (by decide)
                · rintro ⟨y1, z1, eb⟩
                  dsimp only
                  (try unfold wl2); (try unfold wl1); (try unfold ndsR); (try unfold ndR); (try unfold tabR); (try unfold nodQ); (try unfold nodP); (try unfold logR); (try unfold entR); (try unfold nodR); (try unfold plcR); (try unfold confC)
                  ((repeat refine S.seq ?_); refine wG (k := ?_); try (refine L.nil ?_))
                  ((repeat refine S.seq ?_); refine S.cond rfl (fun h2 => ?_) (fun h2 => ?_) <;> (try first | refine S.skip ?_ | refine S.exit ?_))
                  · exact absurd h2 (by decide)
                  exact fun a w hR => ⟨(y1, z1, eb), hR.weakP (by (repeat' (first | exact True.intro | exact Imp.refl _ | refine ⟨?_, ?_⟩))) (by (try unfold wl2); (try unfold wl1); (try unfold ndsR); (try unfold ndR); (try unfold tabR); (try unfold nodQ); (try unfold nodP); (try unfold logR); (try unfold entR); (try unfold nodR); (try unfold plcR); (try unfold confC); simp only [List.nil_append, List.cons_append, List.append_nil]; (repeat (first | exact Sub.refl _ | refine Sub.pick (by repeat (first | exact p0 | apply pS)) ?_)))⟩
              rintro ⟨y1, z1, eb⟩
              dsimp only
              (try unfold wl2); (try unfold wl1); (try unfold ndsR); (try unfold ndR); (try unfold tabR); (try unfold nodQ); (try unfold nodP); (try unfold logR); (try unfold entR); (try unfold nodR); (try unfold plcR); (try unfold confC)
              ((repeat refine S.seq ?_); refine wG (k := ?_); try (refine L.nil ?_))
              exact fun a w hR => ⟨(y1, z1, eb), hR.weakP (by (repeat' (first | exact True.intro | exact Imp.refl _ | refine ⟨?_, ?_⟩))) (by (try unfold wl2); (try unfold wl1); (try unfold ndsR); (try unfold ndR); (try unfold tabR); (try unfold nodQ); (try unfold nodP); (try unfold logR); (try unfold entR); (try unfold nodR); (try unfold plcR); (try unfold confC); simp only [List.nil_append, List.cons_append, List.append_nil]; (repeat (first | exact Sub.refl _ | refine Sub.pick (by repeat (first | exact p0 | apply pS)) ?_)))⟩
            exact absurd h1 (by decide)
          · rintro ⟨y1, z1, eb⟩
            dsimp only
            (try unfold wl2); (try unfold wl1); (try unfold ndsR); (try unfold ndR); (try unfold tabR); (try unfold nodQ); (try unfold nodP); (try unfold logR); (try unfold entR); (try unfold nodR); (try unfold plcR); (try unfold confC)
            ((repeat refine S.seq ?_); refine wG (k := ?_); try (refine L.nil ?_))
            ((repeat refine S.seq ?_); refine S.cond rfl (fun h1 => ?_) (fun h1 => ?_) <;> (try first | refine S.skip ?_ | refine S.exit ?_))
            · exact absurd h1 (by decide)
            exact fun a w hR => ⟨(y1, z1, eb), hR.weakP (by (repeat' (first | exact True.intro | exact Imp.refl _ | refine ⟨?_, ?_⟩))) (by (try unfold wl2); (try unfold wl1); (try unfold ndsR); (try unfold ndR); (try unfold tabR); (try unfold nodQ); (try unfold nodP); (try unfold logR); (try unfold entR); (try unfold nodR); (try unfold plcR); (try unfold confC); simp only [List.nil_append, List.cons_append, List.append_nil]; (repeat (first | exact Sub.refl _ | refine Sub.pick (by repeat (first | exact p0 | apply pS)) ?_)))⟩
        rintro ⟨y1, z1, eb⟩
        dsimp only
        (try unfold wl2); (try unfold wl1); (try unfold ndsR); (try unfold ndR); (try unfold tabR); (try unfold nodQ); (try unfold nodP); (try unfold logR); (try unfold entR); (try unfold nodR); (try unfold plcR); (try unfold confC)
        repeat refine S.seq ?_
        refine S.region ?_
        (refine wL (k := ?_); try (refine L.nil ?_))
        refine slotAs 95 (.v (.pointer (some ⟨nc, 0, none⟩))) rfl (Imp.ptrv 80 nc 0) ?_
        refine wF 58 (k := fun x96 => ?_)
        refine wY (k := fun x97 => ?_)
        refine ownAs 61 (n' := 2) (ndG nb nc) rfl rfl (fun i hi => ?_) ?_
        · have hi : i < 2 := hi
          have : i = 0 ∨ i = 1 := by omega
          rcases this with rfl | rfl <;> rfl
        (refine wL (k := ?_); try (refine L.nil ?_))
        refine wS (k := ?_)
        refine L.nil ?_
        ((repeat refine S.seq ?_); refine wG (k := ?_); try (refine L.nil ?_))
        exact fun a w hR => ⟨⟨(2, x97, nb, nc), by have := of_dec hc; show 2 ≤ n.toNat; omega⟩, by have := of_dec hc; show n.toNat - 2 < n.toNat - 1; omega, hR.weakP (by (repeat' (first | exact True.intro | exact Imp.refl _ | refine ⟨?_, ?_⟩))) (by show Sub _ (wl2 n b1 wb xt (tR R) 2 x97 nb nc); (try unfold wl2); (try unfold wl1); (try unfold ndsR); (try unfold ndR); (try unfold tabR); (try unfold nodQ); (try unfold nodP); (try unfold logR); (try unfold entR); (try unfold nodR); (try unfold plcR); (try unfold confC); simp only [List.nil_append, List.cons_append, List.append_nil]; (repeat (first | exact Sub.refl _ | refine Sub.pick (by repeat (first | exact p0 | apply pS)) ?_)))⟩

      have hn1 : n = 1 := by have := of_dec' hc; omega
      subst hn1
      exact fun a w hR => ⟨(xn, nb, nb2), hR.weakP (by (repeat' (first | exact True.intro | exact Imp.refl _ | refine ⟨?_, ?_⟩))) (by show Sub _ (wl2 1 b1 wb xt (tR R) 1 xn nb nb2); (try unfold wl2); (try unfold wl1); (try unfold ndsR); (try unfold ndR); (try unfold tabR); (try unfold confC); simp only [List.nil_append, List.cons_append, List.append_nil]; (repeat (first | exact Sub.refl _ | refine Sub.pick (by repeat (first | exact p0 | apply pS)) ?_)))⟩
    · have hk2 : k = 0 ∧ n = 2 := by omega
      obtain ⟨rfl, rfl⟩ := hk2
      unfold wl2 wl1 ndsR ndR tabR confC
      refine slotAs 49 (.v (.int .i64 2)) rfl (Imp.of_eq rfl) ?_
      ((repeat refine S.seq ?_); refine wG (k := ?_); try (refine L.nil ?_))
      ((repeat refine S.seq ?_); refine S.cond rfl (fun hc => ?_) (fun hc => ?_) <;> (try first | refine S.skip ?_ | refine S.exit ?_))
      · exact absurd hc (by decide)
      exact fun a w hR => ⟨(xn, nb, nb2), hR.weakP (by (repeat' (first | exact True.intro | exact Imp.refl _ | refine ⟨?_, ?_⟩))) (by show Sub _ (wl2 2 b1 wb xt (tR R) 2 xn nb nb2); (try unfold wl2); (try unfold wl1); (try unfold ndsR); (try unfold ndR); (try unfold tabR); (try unfold confC); simp only [List.nil_append, List.cons_append, List.append_nil]; (repeat (first | exact Sub.refl _ | refine Sub.pick (by repeat (first | exact p0 | apply pS)) ?_)))⟩
  rintro ⟨xn, nb, nb2⟩
  dsimp only
  obtain ⟨m, hm1⟩ : ∃ m, n.toNat = m + 1 := ⟨n.toNat - 1, by omega⟩
  rw [hm1]
  unfold wl2 wl1 ndsR ndR tabR confC
  refine freezeSlot 5 50 rfl rfl rfl ?_
  refine nilRow 62 129 1 (fun _ => []) ?_
  refine blkAs 60 [.ref 61 xn, .any, .ref 62 (.slice none 0 0), .v (.int .i64 1), .v (.slice none 0 0), .v (.slice none 0 0)] rfl ⟨Imp.refl _, Imp.refl _, Imp.vref rfl, Imp.refl _, Imp.refl _, Imp.refl _, trivial⟩ ?_
  ((repeat refine S.seq ?_); refine wG (k := ?_); try (refine L.nil ?_))
  repeat refine S.seq ?_
  refine S.cut (ι := WAd) (fun p => [(4, .ptr 60 wb 0)]) (fun p => wn2 wb xn nb nb2 (m + 1) R p) ?_ ?_
  · refine S.block (S.once (ι := WAd) [(4, .ptr 60 wb 0), (5, .lst 3 1 (gOf Tab.cells [tR R])), (102, .v (.int .i64 1)), (103, .v (.int .i64 0))] (wn1 wb xn nb nb2 (m + 1) R)
      (fun p => [(4, .ptr 60 wb 0), (102, .v (.int .i64 1)), (103, .v (.int .i64 1))]) (fun p => wn2 wb xn nb nb2 (m + 1) R p) ?_ ?_ ?_)
    · exact fun a w h => h.weakP (by (repeat' (first | exact True.intro | exact Imp.refl _ | refine ⟨?_, ?_⟩))) (by unfold wn1 ndsR ndR; simp only [List.nil_append, List.cons_append]; (repeat (first | exact Sub.refl _ | refine Sub.pick (by repeat (first | exact p0 | apply pS)) ?_)))
    · unfold wn1 ndsR ndR
      ((repeat refine S.seq ?_); refine wG (k := ?_); try (refine L.nil ?_))
      ((repeat refine S.seq ?_); refine S.cond rfl (fun h1 => ?_) (fun h1 => ?_) <;> (try first | refine S.skip ?_ | refine S.exit ?_))
      · repeat refine S.seq ?_
        refine S.block ?_
        ((repeat refine S.seq ?_); refine wG (k := ?_); try (refine L.nil ?_))
        repeat refine S.seq ?_
        refine S.draw [(4, [60])] mixed ?_
        refine wT [0, 1, 2, 3, 4, 5, 6] (k := ?_)
        refine H.call 7 [] _ rfl (by kernel_rfl) (by kernel_rfl) rfl rfl rfl rfl rfl rfl rfl ⟨trivial, by exact sd⟩ rfl (by exact Imps.refl [.lst 3 1 (gOf Tab.cells [tR R])]) (List.Perm.refl _) (ClnTab (n := 1) (g := gOf Tab.cells [tR R]) (by decide) 67) (by kernel_rfl) (by kernel_rfl) ?_
        rintro r F' ⟨xt2, rfl, rfl⟩
        refine H.call 8 [] _ rfl (by kernel_rfl) (by kernel_rfl) rfl rfl rfl rfl rfl rfl rfl ⟨trivial, by exact sd⟩ rfl (by exact Imps.refl [.v (.int .i64 0), .ref 67 xt2]) (List.Perm.refl _) (newcli_p xt2) (by kernel_rfl) (by kernel_rfl) ?_
        rintro r F' ⟨cb, ab, mb, db, rfl, rfl⟩
        unfold cliR cliB auR dueR
        refine wHF 9 57 (k := fun x115 => ?_)
        refine wHY 10 (k := fun y116 => ?_)
        refine wN ?_
        refine wT [11, 12] (k := ?_)
        refine wHS 13 (k := ?_)
        refine wD (k := ?_)
        refine ownAs 62 (n' := 1) (clG cb) rfl rfl (fun i hi => ?_) ?_
        · have hi : i < 1 := hi
          have : i = 0 := by omega
          subst this; rfl
        ((repeat refine S.seq ?_); refine wG (k := ?_); try (refine L.nil ?_))
        exact fun a w hR => ⟨⟨cb, ab, mb, db, y116, xt2, .slice none 0 0⟩, hR.weakP (by (repeat' (first | exact True.intro | exact Imp.refl _ | refine ⟨?_, ?_⟩))) (by (try unfold wn2); (try unfold ndsR); (try unfold ndR); (try unfold clsR); (try unfold cliR); (try unfold cliB); (try unfold auR); (try unfold dueR); (try unfold tabR); simp only [List.nil_append, List.cons_append]; (repeat (first | exact Sub.refl _ | refine Sub.pick (by repeat (first | exact p0 | apply pS)) ?_)))⟩
      exact absurd h1 (by decide)
    · rintro p
      unfold wn2 ndsR ndR clsR cliR cliB auR dueR tabR
      ((repeat refine S.seq ?_); refine wG (k := ?_); try (refine L.nil ?_))
      ((repeat refine S.seq ?_); refine S.cond rfl (fun h1 => ?_) (fun h1 => ?_) <;> (try first | refine S.skip ?_ | refine S.exit ?_))
      · exact absurd h1 (by decide)
      exact fun a w hR => ⟨p, hR.weakP (by (repeat' (first | exact True.intro | exact Imp.refl _ | refine ⟨?_, ?_⟩))) (by (try unfold wn2); (try unfold ndsR); (try unfold ndR); (try unfold clsR); (try unfold cliR); (try unfold cliB); (try unfold auR); (try unfold dueR); (try unfold tabR); simp only [List.nil_append, List.cons_append]; (repeat (first | exact Sub.refl _ | refine Sub.pick (by repeat (first | exact p0 | apply pS)) ?_)))⟩
  rintro p
  unfold wn2 ndsR ndR clsR cliR cliB auR dueR tabR
  ((repeat refine S.seq ?_); refine wG (k := ?_); try (refine L.nil ?_))
  refine nilRow 63 128 26 (fun _ => []) ?_
  refine nilRow 64 72 14 (gOf ActD.cells []) ?_
  refine blkAs 60 (wldC xn p.xc (.slice none 0 0) (.slice none 0 0)) rfl ⟨Imp.refl _, Imp.refl _, Imp.refl _, Imp.refl _, Imp.vref rfl, Imp.vref rfl, trivial⟩ ?_
  refine rowsTo (wR wb xn nb nb2 (m + 1) R p ⟨0, [], []⟩ [] (.slice none 0 0) 0 (fun _ => []) (.slice none 0 0) []) (by unfold wR wldB flR actR; (try unfold ndsR); (try unfold ndR); (try unfold clsR); (try unfold cliR); (try unfold cliB); (try unfold auR); (try unfold dueR); (try unfold tabR); simp only [List.nil_append, List.cons_append]; (repeat (first | exact Sub.refl _ | refine Sub.pick (by repeat (first | exact p0 | apply pS)) ?_))) ?_
  ((repeat refine S.seq ?_); refine S.ret ?_)
  exact E.ret (T := tt) tt_ok rfl rfl (by exact sd) (Imp.refl _) (List.Sublist.refl _) ⟨wb, xn, nb, nb2, p, rfl, rfl⟩
end Go.Proofs.YtbogfmgfafdjiaaGreatDoor

/- An author: which batches are to be sent now. -/
namespace Go.Proofs.YtbogfmgfafdjiaaGreatDoor
set_option linter.unusedVariables false
set_option linter.unusedSimpArgs false
set_option maxHeartbeats 8000000
open Go.RowKit
set_option maxRecDepth 4000

def OutD.key0 (o : OutD) : ByteArray := (o.l.getD 0 default).key
def sameB (l : List OutD) (i j : Nat) : Bool := (l.getD i default).queue == (l.getD j default).queue && (l.getD i default).key0 == (l.getD j default).key0
def firstB (l : List OutD) (i : Nat) : Bool := (List.range i).all fun j => !sameB l j i
def plcL (l : List OutD) (k : Nat) : List Nat := (List.range k).filter (firstB l)
def plcI (l : List OutD) (k : Nat) : List Int := (plcL l k).map fun i : Nat => (i : Int)
def seenM (l : List OutD) (k : Nat) : List (Value × AV) := ((plcL l k).map fun i => (nameV (l.getD i default).queue (l.getD i default).key0, AV.v (.bool true))).reverse
def seenB (l : List OutD) (k i : Nat) : Bool := (List.range k).any fun j => sameB l j i
theorem plcL_succ (l : List OutD) (k : Nat) : plcL l (k + 1) = plcL l k ++ if firstB l k then [k] else [] := by
  unfold plcL
  rw [List.range_succ, List.filter_append, List.filter_cons, List.filter_nil]
theorem plcL_len (l : List OutD) (k : Nat) : (plcL l k).length ≤ k := by
  unfold plcL
  exact Nat.le_trans (List.length_filter_le _ _) (by rw [List.length_range]; exact Nat.le_refl _)
theorem plcI_succ (l : List OutD) (k : Nat) : plcI l (k + 1) = plcI l k ++ if firstB l k then [(k : Int)] else [] := by
  unfold plcI
  rw [plcL_succ, List.map_append]
  congr 1
  split <;> rfl
theorem seenM_succ (l : List OutD) (k : Nat) : seenM l (k + 1) = if firstB l k then (nameV (l.getD k default).queue (l.getD k default).key0, AV.v (.bool true)) :: seenM l k else seenM l k := by
  unfold seenM
  rw [plcL_succ]
  split <;> simp
theorem sameB_iff {l : List OutD} {i j : Nat} : sameB l i j = true ↔ nameV (l.getD i default).queue (l.getD i default).key0 = nameV (l.getD j default).queue (l.getD j default).key0 := by
  unfold sameB
  rw [Bool.and_eq_true, beq_iff_eq, beq_iff_eq, nameV_inj]
theorem seen_first {l : List OutD} {i : Nat} (hi : i = i) : (!seenB l i i) = firstB l i := by
  unfold seenB firstB
  rw [Bool.eq_iff_iff]
  simp
/-- The first of those of a name is a place. -/
theorem firstB_of {l : List OutD} {k i : Nat} (h : seenB l k i = true) : ∃ j ∈ plcL l k, sameB l j i = true := by
  unfold seenB at h
  rw [List.any_eq_true] at h
  obtain ⟨j, hj, hs⟩ := h
  rw [List.mem_range] at hj
  induction j using Nat.strongRecOn with
  | ind j ih =>
    cases hf : firstB l j with
    | true => exact ⟨j, List.mem_filter.2 ⟨List.mem_range.2 hj, hf⟩, hs⟩
    | false =>
      unfold firstB at hf
      rw [List.all_eq_false] at hf
      obtain ⟨m, hm, hm2⟩ := hf
      rw [List.mem_range] at hm
      have hm3 : sameB l m j = true := by simpa using hm2
      exact ih m hm (by omega) (sameB_iff.2 ((sameB_iff.1 hm3).trans (sameB_iff.1 hs)))
theorem look_seen (l : List OutD) (k i : Nat) : mlook (seenM l k) (nameV (l.getD i default).queue (l.getD i default).key0) (.bool false) = .v (.bool (seenB l k i)) := by
  have key : ∀ (r : List Nat), mget (r.map fun j => (nameV (l.getD j default).queue (l.getD j default).key0, AV.v (.bool true))) (nameV (l.getD i default).queue (l.getD i default).key0) = if r.any (fun j => sameB l j i) then some (.v (.bool true)) else none := by
    intro r
    induction r with
    | nil => rfl
    | cons j r ih =>
      rw [List.map_cons, List.any_cons]
      cases hs : sameB l j i with
      | true =>
        rw [sameB_iff.1 hs, mget_cons_same]
        rfl
      | false =>
        have hne : nameV (l.getD j default).queue (l.getD j default).key0 ≠ nameV (l.getD i default).queue (l.getD i default).key0 := fun e => by
          rw [sameB_iff.2 e] at hs
          cases hs
        rw [mget_cons_other _ _ hne, ih]
        rfl
  unfold mlook seenM
  rw [← List.map_reverse, key]
  cases hb : seenB l k i with
  | true =>
    obtain ⟨j, hj, hs⟩ := firstB_of hb
    rw [if_pos (List.any_eq_true.2 ⟨j, List.mem_reverse.2 hj, hs⟩)]
    rfl
  | false =>
    have : ((plcL l k).reverse.any fun j => sameB l j i) = false := by
      rw [List.any_eq_false]
      intro j hj
      have hj2 := List.mem_filter.1 (List.mem_reverse.1 hj)
      unfold seenB at hb
      rw [List.any_eq_false] at hb
      exact hb j hj2.1
    rw [this]
    rfl

theorem places_p (b mb : Nat) (x : Value) (A : AuD) (ok : AuOk A) : FnC Tryz.prog 178 [.ptr 40 b 0] (auR b mb x A)
    (fun r F' => ∃ y, r = .ref 43 y ∧ F' = (43, .own y 3 1 (plcI A.l A.l.length).length (gOf intC (plcI A.l A.l.length))) :: auR b mb x A) := by
  have hlen := ok.len
  unfold auR
  refine FnC.intro Tryz.func178 rfl Tryz.ntmps178 rfl ?_; intro off w0
  ((repeat refine S.seq ?_); refine wG (k := ?_); try (refine L.nil ?_))
  repeat refine S.seq ?_
  refine S.scopeE 0 (ι := { k : Nat × Value × Nat // k.1 ≤ A.l.length }) (fun k => [(0, .ptr 40 b 0), (3, .ref 43 k.1.2.1), (4, .ref 45 (.map (some k.1.2.2))), (5, .v (.int .i64 k.1.1))])
    (fun k => (43, .own k.1.2.1 3 1 (plcI A.l k.1.1).length (gOf intC (plcI A.l k.1.1))) :: (45, .map k.1.2.2 (kOf Tryz.prog 220) (seenM A.l k.1.1)) :: auR b mb x A) (fun k => A.l.length - k.1.1) rfl ?_ ?_
  · rintro ⟨⟨k, y, sb⟩, hk⟩ J hJ
    dsimp only at hk hJ ⊢
    have hpl := plcL_len A.l k
    have hpi : (plcI A.l k).length = (plcL A.l k).length := by simp [plcI]
    unfold auR
    ((repeat refine S.seq ?_); refine wG (k := ?_); try (refine L.nil ?_))
    ((repeat refine S.seq ?_); refine S.cond rfl (fun h1 => ?_) (fun h1 => ?_) <;> (try first | refine S.skip ?_ | refine S.exit ?_))
    · have h1n : k < A.l.length := by have := of_dec h1; omega
      obtain ⟨o1, o2, o3, o4⟩ := ok.some1 (A.l.getD k default) (by rw [getD_get h1n]; exact List.getElem_mem _)
      have hkey : kOf Tryz.prog 220 (nameV (A.l.getD k default).queue (A.l.getD k default).key0) = true := KeyAut.kName_ok o3 (by
        rw [OutD.key0, getD_get o1]
        exact o4 _ (List.getElem_mem _))
      repeat refine S.seq ?_
      refine S.draw [(3, [40]), (7, [42]), (11, [40]), (15, [42])] mixed ?_
      refine wT [0, 1, 2, 3, 4, 5, 6, 7, 8, 9, 10, 11, 12, 13, 14, 15, 16, 17, 18, 19] (k := ?_)
      refine wHA 20 46 (k := fun b6 => ?_)
      refine wHS 21 (k := ?_)
      refine wD (k := ?_)
      repeat refine S.seq ?_
      refine S.region ?_
      (refine wL (k := ?_); try (refine L.nil ?_))
      refine L.sure (rd := [45]) (A := .v (.bool (seenB A.l k k))) (look_sure (T := tt) tt_ok KeyAut.kName rfl rfl (by kernel_rfl) rfl rfl rfl (by exact sd) rfl (fun _ _ => rfl) rfl hkey (look_seen A.l k k)) rfl rfl rfl ?_
      (refine wL (k := ?_); try (refine L.nil ?_))
      have hsf := seen_first (l := A.l) (i := k) rfl
      rw [hsf]
      refine S.cut (ι := Value) (fun y => [(0, .ptr 40 b 0), (3, .ref 43 y), (4, .ref 45 (.map (some sb))), (5, .v (.int .i64 k))])
        (fun y => (43, .own y 3 1 (plcI A.l (k + 1)).length (gOf intC (plcI A.l (k + 1)))) :: (45, .map sb (kOf Tryz.prog 220) (seenM A.l (k + 1))) :: auR b mb x A) ?_ ?_
      · ((repeat refine S.seq ?_); refine S.cond rfl (fun h2 => ?_) (fun h2 => ?_) <;> (try first | refine S.skip ?_ | refine S.exit ?_))
        · have hs := seenM_succ A.l k
          rw [if_pos h2] at hs
          have hp := plcI_succ A.l k
          rw [if_pos h2] at hp
          repeat refine S.seq ?_
          refine S.region ?_
          (refine wL (k := ?_); try (refine L.nil ?_))
          refine L.mapSet (T := tt) tt_ok KeyAut.kName rfl rfl rfl rfl rfl rfl rfl rfl (by exact sd) rfl rfl hkey (L.nil ?_)
          ((repeat refine S.seq ?_); refine wG (k := ?_); try (refine L.nil ?_))
          refine wF 48 (k := fun x43 => ?_)
          refine wY (k := fun y44 => ?_)
          (refine wL (k := ?_); try (refine L.nil ?_))
          refine ownAs 43 (gOf intC (plcI A.l (k + 1))) rfl (show (plcI A.l k).length + 1 = (plcI A.l (k + 1)).length by rw [hp]; simp) (fun i hi => ?_) ?_
          · rw [hp]
            exact app1_h intC (plcI A.l k) _ _ rfl rfl hi
          refine fun a w h => ⟨y44, ?_⟩
          try dsimp only
          rw [hs]
          exact h.weakP (by (repeat' (first | exact True.intro | exact Imp.refl _ | refine ⟨?_, ?_⟩))) (by first | (unfold auR; (repeat (first | exact Sub.refl _ | refine Sub.pick (by first | exact p0 | exact pS p0 | exact pS (pS p0) | exact pS (pS (pS p0)) | exact pS (pS (pS (pS p0))) | exact pS (pS (pS (pS (pS p0))))) ?_))) | (repeat (first | exact Sub.refl _ | refine Sub.pick (by first | exact p0 | exact pS p0 | exact pS (pS p0) | exact pS (pS (pS p0)) | exact pS (pS (pS (pS p0))) | exact pS (pS (pS (pS (pS p0))))) ?_)))
        · have hs := seenM_succ A.l k
          rw [if_neg (by rw [h2]; decide)] at hs
          have hp := plcI_succ A.l k
          rw [if_neg (by rw [h2]; decide), List.append_nil] at hp
          refine fun a w h => ⟨y, ?_⟩
          try dsimp only
          rw [hs, hp]
          exact h.weakP (by (repeat' (first | exact True.intro | exact Imp.refl _ | refine ⟨?_, ?_⟩))) (by first | (unfold auR; (repeat (first | exact Sub.refl _ | refine Sub.pick (by first | exact p0 | exact pS p0 | exact pS (pS p0) | exact pS (pS (pS p0)) | exact pS (pS (pS (pS p0))) | exact pS (pS (pS (pS (pS p0))))) ?_))) | (repeat (first | exact Sub.refl _ | refine Sub.pick (by first | exact p0 | exact pS p0 | exact pS (pS p0) | exact pS (pS (pS p0)) | exact pS (pS (pS (pS p0))) | exact pS (pS (pS (pS (pS p0))))) ?_)))
      intro y
      try dsimp only
      unfold auR
      ((repeat refine S.seq ?_); refine wG (k := ?_); try (refine L.nil ?_))
      repeat refine S.seq ?_
      refine S.goto ?_
      exact fun a w hR => ⟨rfl, hJ a w ⟨(k + 1, y, sb), by show k + 1 ≤ _; omega⟩ (by show A.l.length - (k + 1) < A.l.length - k; omega) (hR.weakP (by (repeat' (first | exact True.intro | exact Imp.refl _ | refine ⟨?_, ?_⟩))) (by first | (unfold auR; (repeat (first | exact Sub.refl _ | refine Sub.pick (by first | exact p0 | exact pS p0 | exact pS (pS p0) | exact pS (pS (pS p0)) | exact pS (pS (pS (pS p0))) | exact pS (pS (pS (pS (pS p0))))) ?_))) | (repeat (first | exact Sub.refl _ | refine Sub.pick (by first | exact p0 | exact pS p0 | exact pS (pS p0) | exact pS (pS (pS p0)) | exact pS (pS (pS (pS p0))) | exact pS (pS (pS (pS (pS p0))))) ?_))))⟩
    have h1n : k = A.l.length := by have := of_dec' h1; omega
    subst h1n
    ((repeat refine S.seq ?_); refine wG (k := ?_); try (refine L.nil ?_))
    refine rowsTo ((43, .own y 3 1 (plcI A.l A.l.length).length (gOf intC (plcI A.l A.l.length))) :: auR b mb x A) (by first | (unfold auR; (repeat (first | exact Sub.refl _ | refine Sub.pick (by first | exact p0 | exact pS p0 | exact pS (pS p0) | exact pS (pS (pS p0)) | exact pS (pS (pS (pS p0))) | exact pS (pS (pS (pS (pS p0))))) ?_))) | (repeat (first | exact Sub.refl _ | refine Sub.pick (by first | exact p0 | exact pS p0 | exact pS (pS p0) | exact pS (pS (pS p0)) | exact pS (pS (pS (pS p0))) | exact pS (pS (pS (pS (pS p0))))) ?_))) ?_
    ((repeat refine S.seq ?_); refine S.ret ?_)
    exact E.ret (T := tt) tt_ok rfl rfl (by exact sd) (Imp.refl _) (List.Sublist.refl _) ⟨y, rfl, rfl⟩
  · intro hJ
    ((repeat refine S.seq ?_); refine wG (k := ?_); try (refine L.nil ?_))
    repeat refine S.seq ?_
    refine S.region ?_
    refine L.makeMap 45 220 rfl rfl rfl rfl fun sb => ?_
    (refine wL (k := ?_); try (refine L.nil ?_))
    ((repeat refine S.seq ?_); refine wG (k := ?_); try (refine L.nil ?_))
    refine nilRow 43 3 1 (gOf intC (plcI A.l 0)) ?_
    refine slotAs 3 (.ref 43 (.slice none 0 0)) rfl (Imp.vref rfl) ?_
    repeat refine S.seq ?_
    refine S.label ?_
    exact fun a w hR => hJ ⟨(0, .slice none 0 0, sb), Nat.zero_le _⟩ a w (hR.weakP (by (repeat' (first | exact True.intro | exact Imp.refl _ | refine ⟨?_, ?_⟩))) (by first | (unfold auR; (repeat (first | exact Sub.refl _ | refine Sub.pick (by first | exact p0 | exact pS p0 | exact pS (pS p0) | exact pS (pS (pS p0)) | exact pS (pS (pS (pS p0))) | exact pS (pS (pS (pS (pS p0))))) ?_))) | (repeat (first | exact Sub.refl _ | refine Sub.pick (by first | exact p0 | exact pS p0 | exact pS (pS p0) | exact pS (pS (pS p0)) | exact pS (pS (pS (pS p0))) | exact pS (pS (pS (pS (pS p0))))) ?_))))

end Go.Proofs.YtbogfmgfafdjiaaGreatDoor

/- slices.Delete of one element, at author.Out, in a row of the program's own. -/
namespace Go.Proofs.YtbogfmgfafdjiaaGreatDoor.DelOut
set_option linter.unusedVariables false
set_option linter.unusedSimpArgs false
open Go.RowKit
set_option maxRecDepth 20000

theorem und : Tryz.prog.underlying 183 = some (.slice 223) := by kernel_rfl
theorem info : (Tryz.prog.info? 223).map (fun i => (i.zero, i.size, i.bytes)) = some (some (.agg #[.int .i64 0, .slice none 0 0]), 2, 32) := by kernel_rfl
theorem zero : ∀ w : World, (zeroValue 223).run Tryz.prog w = .ok (.agg #[.int .i64 0, .slice none 0 0]) w := fun _ => by kernel_rfl

structure Post {α : Type} (enc : α → List Value) (base g cap : Nat) (l : List α) (k : Nat) (w : World) (e : Ending) (w' : World) : Prop where
  e : e = .returned (.slice (some ⟨g, 0, none⟩) (l.length - 1) cap)
  row : w'.ownsRow base 223 2 (.slice (some ⟨g, 0, none⟩) (l.length - 1) cap) (l.eraseIdx k).length (fl enc (l.eraseIdx k))
  grown : w.grownBy w' (some g)

theorem core {α : Type} {enc : α → List Value} (hs : ∀ x, (enc x).length = 2) (base g cap : Nat) (l : List α) (k : Nat) (hk : k < l.length) (w : World)
    (hrow : w.ownsRow base 223 2 (.slice (some ⟨g, 0, none⟩) l.length cap) l.length (fl enc l)) :
    let W1 := w.drew.setCells g (0 + k * 2) (fl enc (l.drop (k + 1)))
    (∀ j, j < 1 * (.agg #[.int .i64 0, .slice none 0 0] : Value).cells.size → (W1.cell? ⟨g, (l.length - 1) * 2 + j, none⟩).isSome = true) ∧ (∀ j, j < 1 * (.agg #[.int .i64 0, .slice none 0 0] : Value).cells.size → W1.frozen? ⟨g, (l.length - 1) * 2 + j, none⟩ = false) ∧
    Post enc base g cap l k w (.returned (.slice (some ⟨g, 0, none⟩) (l.length - 1) cap)) (W1.setCells g ((l.length - 1) * 2) (Builtin.zeroCells (.agg #[.int .i64 0, .slice none 0 0] : Value).cells 1).toList) := by
  intro W1
  obtain ⟨g', cap', cur, hv, hg, hh, hn, hc, hsz, ht⟩ := hrow.2.resolve_left (fun h => by cases h.1)
  cases hv
  have hb : Blk w g cur.toList 223 := by unfold Blk; simpa using hh
  have hb1 : Blk w.drew g cur.toList 223 := hb
  have hlen : (fl enc (l.drop (k + 1))).length = (l.length - (k + 1)) * 2 := by rw [fl_length hs, List.length_drop]
  have hz : (.agg #[.int .i64 0, .slice none 0 0] : Value).cells.size = 2 := rfl
  have hcl : cur.toList.length = cap * 2 := by simpa using hsz
  have hb2 : Blk W1 g _ 223 := hb1.setCells (fl enc (l.drop (k + 1))) (0 + k * 2) _ _ (by rw [hlen, hcl]; omega)
  have hl2 : (cur.toList.take (0 + k * 2) ++ fl enc (l.drop (k + 1)) ++ cur.toList.drop (0 + k * 2 + (fl enc (l.drop (k + 1))).length)).length = cap * 2 := by
    simp only [List.length_append, List.length_take, List.length_drop, hlen, hcl]; omega
  have htake : (cur.toList.take (0 + k * 2) ++ fl enc (l.drop (k + 1)) ++ cur.toList.drop (0 + k * 2 + (fl enc (l.drop (k + 1))).length)).take ((l.length - 1) * 2) = fl enc (l.eraseIdx k) := by
    rw [List.take_append_of_le_length (by simp only [List.length_append, List.length_take, hlen, hcl]; omega), List.take_of_length_le (by simp only [List.length_append, List.length_take, hlen, hcl]; omega)]
    have : cur.toList.take (0 + k * 2) = fl enc (l.take k) := by
      rw [← fl_take hs l k (by omega), ← ht, List.take_take]; congr 1; omega
    rw [this, ← fl_append, List.eraseIdx_eq_take_drop_succ]
  generalize cur.toList.take (0 + k * 2) ++ fl enc (l.drop (k + 1)) ++ cur.toList.drop (0 + k * 2 + (fl enc (l.drop (k + 1))).length) = cs at *
  refine ⟨fun j hj => ?_, fun j _ => hb2.frozen _, rfl, ?_, ?_⟩
  · rw [hb2.cell, List.getElem?_eq_getElem (by omega)]; rfl
  · have hb3 := hb2.setCells (Builtin.zeroCells (.agg #[.int .i64 0, .slice none 0 0] : Value).cells 1).toList ((l.length - 1) * 2) _ _ (by rw [zeroCells_length]; omega)
    have he : (l.eraseIdx k).length = l.length - 1 := by rw [List.length_eraseIdx, if_pos hk]
    refine ⟨by rw [fl_length hs], .inr ⟨g, cap, _, by rw [he], hg, hb3, by omega, hc, ?_, ?_⟩⟩
    · simp only [List.size_toArray, List.length_append, List.length_take, List.length_drop, zeroCells_length, hz]; omega
    · rw [he]
      show (cs.take ((l.length - 1) * 2) ++ (Builtin.zeroCells (.agg #[.int .i64 0, .slice none 0 0] : Value).cells 1).toList ++ cs.drop _).take ((l.length - 1) * 2) = _
      rw [List.append_assoc, List.take_append_of_le_length (by rw [List.length_take]; omega), List.take_take, Nat.min_self, htake]
  · have g1 : w.grownBy w.drew (some g) := ⟨rfl, rfl, rfl, Nat.le_refl _, fun _ _ _ => rfl⟩
    exact (g1.trans (setCells_grown _ _ _)).trans (setCells_grown _ _ _)

theorem del {α : Type} {enc : α → List Value} (hs : ∀ x, (enc x).length = 2) (h1 : ∀ x, ∀ u ∈ enc x, u.oneCell' = true) (base g cap : Nat) (l : List α) (k : Nat) (hk : k < l.length) (w : World)
    (hrow : w.ownsRow base 223 2 (.slice (some ⟨g, 0, none⟩) l.length cap) l.length (fl enc l)) :
    Calls Tryz.prog 317 #[.slice (some ⟨g, 0, none⟩) l.length cap, .int .i64 k, .int .i64 (k + 1)] w (Post enc base g cap l k w) := by
  obtain ⟨c1, c2, hfin⟩ := core hs base g cap l k hk w hrow
  obtain ⟨i0, hi, hzz⟩ := Option.map_eq_some_iff.1 info
  simp only [Prod.mk.injEq] at hzz
  obtain ⟨_, hz1, _⟩ := hzz
  have hcap : l.length ≤ cap ∧ cap ≤ 9223372036854775807 := by
    obtain ⟨A, c, hv, h1, h2⟩ := own_form0 hrow; cases hv; exact ⟨h1, by simpa [maxLen] using h2⟩
  obtain ⟨hcap1, hcap2⟩ := hcap
  have hlen : (fl enc (l.drop (k + 1))).length = (l.length - (k + 1)) * 2 := by rw [fl_length hs, List.length_drop]
  have hcells : ∀ j u, (fl enc (l.drop (k + 1)))[j]? = some u → w.drew.cell? ⟨g, (k + 1) * 2 + j, none⟩ = some u := by
    intro j u hu
    have := (own_cell hrow ((k + 1) * 2 + j) (by have := (List.getElem?_eq_some_iff.1 hu).1; rw [hlen] at this; rw [fl_length hs]; omega)).1
    rw [← List.getElem?_drop, fl_drop hs l (k + 1) (by omega), hu] at this
    exact this
  have hone : ∀ u ∈ fl enc (l.drop (k + 1)), u.oneCell' = true := by
    intro u hu; obtain ⟨x, _, hx⟩ := List.mem_flatMap.1 hu; exact h1 x u hx
  have hspare : ∀ j, j < (fl enc (l.drop (k + 1))).length → (w.drew.cell? ⟨g, 0 + k * 2 + j, none⟩).isSome = true ∧ w.drew.frozen? ⟨g, 0 + k * 2 + j, none⟩ = false := by
    intro j hj
    have := own_cell hrow (0 + k * 2 + j) (by rw [hlen] at hj; rw [fl_length hs]; omega)
    refine ⟨?_, this.2⟩
    show (w.cell? _).isSome = true
    rw [this.1, List.getElem?_eq_getElem (by rw [hlen] at hj; rw [fl_length hs]; omega)]; rfl
  have hclr : ∀ ty c, (Builtin.clear_ #[183] ty #[.slice (some ⟨g, (l.length - 1) * 2, none⟩) 1 c]).run Tryz.prog (w.drew.setCells g (0 + k * 2) (fl enc (l.drop (k + 1)))) = .ok (.tuple #[]) ((w.drew.setCells g (0 + k * 2) (fl enc (l.drop (k + 1)))).setCells g ((l.length - 1) * 2) (Builtin.zeroCells (.agg #[.int .i64 0, .slice none 0 0] : Value).cells 1).toList) :=
    fun ty c => run_clear_cells _ _ _ ty (.agg #[.int .i64 0, .slice none 0 0]) und zero (by decide) g ((l.length - 1) * 2) 1 _ (by decide) c1 c2
  obtain ⟨W1, hW1⟩ : ∃ W1, W1 = w.drew.setCells g (0 + k * 2) (fl enc (l.drop (k + 1))) := ⟨_, rfl⟩
  rw [← hW1] at hclr hfin
  replace hfin := Lib.hid hfin
  replace hcells := Lib.hid hcells
  replace hone := Lib.hid hone
  replace hspare := Lib.hid hspare
  replace hlen := Lib.hid hlen
  replace hW1 := Lib.hid hW1
  replace hz1 := Lib.hid hz1
  replace hi := Lib.hid hi
  clear c1 c2 hs h1 hrow
  generalize hn : l.length = n at *
  obtain ⟨n, rfl⟩ : ∃ m, n = m + 1 := ⟨n - 1, by omega⟩
  replace hn := Lib.hid hn
  simp only [Nat.add_sub_cancel] at hclr
  by_cases hend : k + 1 = cap
  · have hkn : k = n := by omega
    subst hkn
    subst hend
    have f1 : (k : Int) ≤ (k : Int) + 1 := by omega
    have f0 : (0 : Int) ≤ (k : Int) + 1 := by omega
    go_enter Tryz.func317, Tryz.ntmps317
    go_wp2
    go_region_law (refine step_append_room rfl (.tmp 22) (.tmp 25) 183 rfl 223 i0 2 und hi.out hz1.out g 0 k (k + 1) (by simp [Act.eval, Act.put]) ⟨g, 0, none⟩ 0 0 (fl enc (l.drop (k + 1))) (by simp [Act.eval, Act.put]) (by rw [hlen.out]; simp) (fun j u hu => absurd (List.getElem?_eq_some_iff.1 hu).1 (by rw [hlen.out]; simp)) hone.out (by omega) hspare.out ?_; rw [← hW1.out])
    go_wp2
    go_ret
    exact hfin.out
  · have hadd : (⟨g, 0, none⟩ : Addr).add ((k + 1) * 2) = ⟨g, (k + 1) * 2, none⟩ := by unfold Addr.add; split <;> simp_all
    have f0 : (0 : Int) ≤ (k : Int) + 1 := by omega
    have f4 : (k : Int) + 1 ≤ (n : Int) + 1 := by omega
    have f5 : (k : Int) ≤ n := by omega
    have f1 : k ≤ cap := by omega
    have f2 : k + 1 ≤ cap := by omega
    have f3 : k + 1 ≤ n + 1 := by omega
    have f6 : k + (n - k) = n := by omega
    have f7 : (k : Int) + ((n - k : Nat) : Int) = n := by omega
    have f8 : n + 1 - n = 1 := by omega
    have f9 : n ≤ cap := by omega
    go_enter Tryz.func317, Tryz.ntmps317
    go_wp2
    go_region_law (refine step_append_room rfl (.tmp 22) (.tmp 25) 183 rfl 223 i0 2 und hi.out hz1.out g 0 k cap (by simp [Act.eval, Act.put]) ⟨g, (k + 1) * 2, none⟩ (n + 1 - (k + 1)) (cap - (k + 1)) (fl enc (l.drop (k + 1))) (by simp [Act.eval, Act.put, show ¬ cap = k + 1 from fun h => hend h.symm]) (by rw [hlen.out]) (fun j u hu => by rw [Addr.add_lit]; exact hcells.out j u hu) hone.out (by omega) hspare.out ?_; rw [← hW1.out])
    go_wp2
    go_ret
    exact hfin.out

end Go.Proofs.YtbogfmgfafdjiaaGreatDoor.DelOut

/- slices.Delete of one element, as a contract. -/
namespace Go.Proofs.YtbogfmgfafdjiaaGreatDoor
set_option linter.unusedVariables false
set_option linter.unusedSimpArgs false
set_option maxHeartbeats 8000000
open Go.RowKit

theorem DlOut {n k : Nat} {g : Nat → List AV} {x : Value} (id : Nat) (hk : k < n) :
    FnC Tryz.prog 317 [.ref id x, .v (.int .i64 k), .v (.int .i64 (k + 1))] [(id, .own x 223 2 n g)]
      (fun r F' => ∃ x', r = .ref id x' ∧ F' = [(id, .own x' 223 2 (n - 1) (fun i => if i < k then g i else g (i + 1)))]) := by
  intro off w vs hoff hS hl hr
  match vs, hl with
  | [v0, v1, v2], _ =>
    have e0 := hr 0 _ v0 rfl rfl
    have e1 := hr 1 _ v1 rfl rfl
    have e2 := hr 2 _ v2 rfl rfl
    cases e0; cases e1; cases e2
    obtain ⟨L, rfl, ho, hlen, hel⟩ := (hS.rows _ (List.mem_singleton.2 rfl)).elems
    obtain ⟨g0, cap, rfl, hcap, -⟩ := own_form ho (by omega)
    refine (DelOut.del (fun c : Cz 2 => c.len) (fun c => c.one) 0 g0 cap L k hk w ho).mono fun e w' hp => ?_
    have hle : (L.eraseIdx k).length = L.length - 1 := by rw [List.length_eraseIdx, if_pos hk]
    obtain ⟨q1, q2, q3⟩ := ret_row (r' := .own (.slice (some ⟨g0, 0, none⟩) (L.length - 1) cap) 223 2 (L.length - 1) (fun i => if i < k then g i else g (i + 1))) hS hoff hp.grown (fun b hb _ => by cases hb; rfl) (fun b hb => by left; exact hb) fun he => by
      have key := Row.sat.of_elems (own := Own off [(id, .own (.slice (some ⟨g0, 0, none⟩) (L.length - 1) cap) 223 2 (L.length - 1) (fun i => if i < k then g i else g (i + 1)))]) (g := fun i => if i < k then g i else g (i + 1)) hp.row (fun i hi => by
        rw [hle] at hi
        split
        · exact hlen i (by omega)
        · exact hlen (i + 1) (by omega)) (fun i hi j A hA => by
        have hi' : i < L.length - 1 := by rw [hle] at hi; exact hi
        rw [List.getElem_eraseIdx]
        split at hA
        · rename_i h
          rw [dif_pos h]
          obtain ⟨u, hu, hrep⟩ := hel i (by omega) j A hA
          exact ⟨u, hu, hrep.ext he⟩
        · rename_i h
          rw [dif_neg h]
          obtain ⟨u, hu, hrep⟩ := hel (i + 1) (by omega) j A hA
          exact ⟨u, hu, hrep.ext he⟩)
      rw [hle] at key
      exact key
    exact ⟨_, _, _, ⟨_, rfl, rfl⟩, hp.e, .ref _ _ rfl, q1, q2, q3⟩

end Go.Proofs.YtbogfmgfafdjiaaGreatDoor

/- An author: what is sent now, what came back. -/
namespace Go.Proofs.YtbogfmgfafdjiaaGreatDoor
set_option linter.unusedVariables false
set_option linter.unusedSimpArgs false
set_option maxHeartbeats 8000000
open Go.RowKit
set_option maxRecDepth 4000

theorem alen_p (b mb : Nat) (x : Value) (A : AuD) : FnC Tryz.prog 46 [.ptr 40 b 0] (auR b mb x A) (fun r F' => r = .v (.int .i64 A.l.length) ∧ F' = auR b mb x A) := by
  unfold auR
  refine FnC.intro Tryz.func46 rfl Tryz.ntmps46 rfl ?_; intro off w0
  ((repeat refine S.seq ?_); refine wG (k := ?_); try (refine L.nil ?_))
  ((repeat refine S.seq ?_); refine wG (k := ?_); try (refine L.nil ?_))
  ((repeat refine S.seq ?_); refine S.cond rfl (fun hc => ?_) (fun hc => ?_) <;> (try first | refine S.skip ?_ | refine S.exit ?_))
  · cases hc
  ((repeat refine S.seq ?_); refine wG (k := ?_); try (refine L.nil ?_))
  ((repeat refine S.seq ?_); refine S.ret ?_)
  exact E.ret (T := tt) tt_ok rfl rfl (by exact sd) (Imp.refl _) (by (repeat (first | exact List.nil_sublist _ | refine List.Sublist.cons_cons _ ?_ | refine List.Sublist.cons _ ?_))) ⟨rfl, rfl⟩

def nextO (l : List OutD) (k : Nat) : List OutD := ((plcL l l.length).take k).map fun i => l.getD i default
theorem nextO_succ {l : List OutD} {k : Nat} (h : k < (plcL l l.length).length) : nextO l (k + 1) = nextO l k ++ [l.getD ((plcL l l.length)[k]) default] := by
  unfold nextO
  rw [List.take_add_one, List.getElem?_eq_getElem h, List.map_append]
  rfl
theorem plcL_lt {l : List OutD} {k : Nat} {i : Nat} (h : i ∈ plcL l k) : i < k := List.mem_range.1 (List.mem_filter.1 h).1
theorem plcI_at {l : List OutD} {k : Nat} (h : k < (plcL l l.length).length) : (plcI l l.length).getD k default = (((plcL l l.length)[k] : Nat) : Int) := by
  unfold plcI
  rw [List.getD_eq_getElem?_getD, List.getElem?_map, List.getElem?_eq_getElem h]
  rfl

theorem next_p (b mb : Nat) (x : Value) (A : AuD) (ok : AuOk A) : FnC Tryz.prog 111 [.ptr 40 b 0] (auR b mb x A)
    (fun r F' => ∃ y, r = .ref 46 y ∧ F' = (46, .own y 223 2 (nextO A.l A.l.length).length (gOf OutD.cells (nextO A.l A.l.length))) :: auR b mb x A) := by
  have hlen := ok.len
  have hpl := plcL_len A.l A.l.length
  obtain ⟨n, hn⟩ : ∃ n, n = (plcL A.l A.l.length).length := ⟨_, rfl⟩
  have hpi : (plcI A.l A.l.length).length = n := by rw [hn]; simp [plcI]
  unfold auR
  refine FnC.intro Tryz.func111 rfl Tryz.ntmps111 rfl ?_; intro off w0
  ((repeat refine S.seq ?_); refine wG (k := ?_); try (refine L.nil ?_))
  ((repeat refine S.seq ?_); refine wG (k := ?_); try (refine L.nil ?_))
  ((repeat refine S.seq ?_); refine S.cond rfl (fun h0 => ?_) (fun h0 => ?_) <;> (try first | refine S.skip ?_ | refine S.exit ?_))
  · cases h0
  ((repeat refine S.seq ?_); refine wG (k := ?_); try (refine L.nil ?_))
  repeat refine S.seq ?_
  refine S.region ?_
  (refine wL (k := ?_); try (refine L.nil ?_))
  refine L.call (G := auR b mb x A) (H := []) rfl rfl rfl rfl rfl rfl rfl ⟨trivial, by exact sd⟩ rfl (by exact Imps.refl [.ptr 40 b 0]) (by unfold auR; (repeat (first | exact pick0 | refine pickS (by first | exact p0 | exact pS p0 | exact pS (pS p0) | exact pS (pS (pS p0)) | exact pS (pS (pS (pS p0))) | exact pS (pS (pS (pS (pS p0)))) | exact pS (pS (pS (pS (pS (pS p0)))))) ?_))) (places_p b mb x A ok) ?_
  rintro r F' ⟨y43, rfl, rfl⟩
  refine freezeSlot 9 43 rfl rfl rfl ?_
  rw [hpi]
  (refine wL (k := ?_); try (refine L.nil ?_))
  refine nilRow 46 223 2 (gOf OutD.cells (nextO A.l 0)) ?_
  refine slotAs 3 (.ref 46 (.slice none 0 0)) rfl (Imp.vref rfl) ?_
  repeat refine S.seq ?_
  refine S.block (S.loop (ι := { k : Nat × Value // k.1 ≤ n }) (fun k => [(0, .ptr 40 b 0), (3, .ref 46 k.1.2), (9, .lst 1 n (gOf intC (plcI A.l A.l.length))), (10, .v (.int .i64 n)), (11, .v (.int .i64 k.1.1))])
    (fun k => (46, .own k.1.2 223 2 (nextO A.l k.1.1).length (gOf OutD.cells (nextO A.l k.1.1))) :: auR b mb x A) (fun k => n - k.1.1) ?_ ?_)
  · exact fun a w h => ⟨⟨(0, .slice none 0 0), Nat.zero_le _⟩, h.weakP (by (repeat' (first | exact True.intro | exact Imp.refl _ | refine ⟨?_, ?_⟩))) (by first | (unfold auR; (repeat (first | exact Sub.refl _ | refine Sub.pick (by first | exact p0 | exact pS p0 | exact pS (pS p0) | exact pS (pS (pS p0)) | exact pS (pS (pS (pS p0))) | exact pS (pS (pS (pS (pS p0))))) ?_))) | (repeat (first | exact Sub.refl _ | refine Sub.pick (by first | exact p0 | exact pS p0 | exact pS (pS p0) | exact pS (pS (pS p0)) | exact pS (pS (pS (pS p0))) | exact pS (pS (pS (pS (pS p0))))) ?_)))⟩
  rintro ⟨⟨k, y⟩, hk⟩
  dsimp only at hk ⊢
  unfold auR
  ((repeat refine S.seq ?_); refine wG (k := ?_); try (refine L.nil ?_))
  ((repeat refine S.seq ?_); refine S.cond rfl (fun h1 => ?_) (fun h1 => ?_) <;> (try first | refine S.skip ?_ | refine S.exit ?_))
  · have h1n : k < (plcL A.l A.l.length).length := by have := of_dec h1; omega
    have hat := plcI_at h1n
    obtain ⟨i, hi⟩ : ∃ i, i = (plcL A.l A.l.length)[k] := ⟨_, rfl⟩
    have hil : i < A.l.length := by rw [hi]; exact plcL_lt (List.getElem_mem _)
    rw [← hi] at hat
    have hks := nextO_succ h1n
    rw [← hi] at hks
    have hnl : (nextO A.l k).length ≤ 16 := by unfold nextO; rw [List.length_map, List.length_take]; omega
    obtain ⟨o1, o2, o3, o4⟩ := ok.some1 (A.l.getD i default) (by rw [getD_get hil]; exact List.getElem_mem _)
    repeat refine S.seq ?_
    refine S.block ?_
    ((repeat refine S.seq ?_); refine wG (k := ?_); try (refine L.nil ?_))
    refine slotAs 5 (.v (.int .i64 i)) rfl (Imp.of_eq (by rw [← hat]; rfl)) ?_
    repeat refine S.seq ?_
    refine S.draw [(4, [40]), (8, [42]), (12, [40]), (16, [42])] mixed ?_
    refine wT [0, 1, 2, 3, 4, 5, 6, 7, 8, 9, 10, 11, 12, 13, 14, 15, 16] (k := ?_)
    refine H.call 17 [] _ rfl (by kernel_rfl) (by kernel_rfl) rfl rfl rfl rfl rfl rfl rfl ⟨trivial, by exact sd⟩ rfl (by exact Imps.refl [msgs (A.l.getD i default).l]) (List.Perm.refl _) (ClnMsg (n := (A.l.getD i default).l.length) (g := gOf Msg.cells (A.l.getD i default).l) (by omega) 49) rfl rfl ?_
    rintro r F' ⟨x32, rfl, rfl⟩
    refine H.freeze 32 49 rfl rfl rfl rfl ?_
    refine wT [18] (k := ?_)
    refine wHF 19 50 (k := fun x34 => ?_)
    refine wHY 20 (k := fun y35 => ?_)
    refine wT [21] (k := ?_)
    refine wD (k := ?_)
    refine ownAs 46 (gOf OutD.cells (nextO A.l (k + 1))) rfl (show (nextO A.l k).length + 1 = (nextO A.l (k + 1)).length by rw [hks]; simp) (fun i hi => ?_) ?_
    · rw [hks]
      exact app1_h OutD.cells (nextO A.l k) _ _ rfl rfl hi
    ((repeat refine S.seq ?_); refine wG (k := ?_); try (refine L.nil ?_))
    exact fun a w h => ⟨⟨(k + 1, y35), by show k + 1 ≤ n; omega⟩, by show n - (k + 1) < n - k; omega, h.weakP (by (repeat' (first | exact True.intro | exact Imp.refl _ | refine ⟨?_, ?_⟩))) (by first | (unfold auR; (repeat (first | exact Sub.refl _ | refine Sub.pick (by first | exact p0 | exact pS p0 | exact pS (pS p0) | exact pS (pS (pS p0)) | exact pS (pS (pS (pS p0))) | exact pS (pS (pS (pS (pS p0))))) ?_))) | (repeat (first | exact Sub.refl _ | refine Sub.pick (by first | exact p0 | exact pS p0 | exact pS (pS p0) | exact pS (pS (pS p0)) | exact pS (pS (pS (pS p0))) | exact pS (pS (pS (pS (pS p0))))) ?_)))⟩
  have h1n : k = n := by have := of_dec' h1; omega
  subst h1n
  have e : nextO A.l k = nextO A.l A.l.length := by
    unfold nextO
    rw [List.take_of_length_le (by omega), List.take_of_length_le (by omega)]
  rw [e]
  ((repeat refine S.seq ?_); refine wG (k := ?_); try (refine L.nil ?_))
  ((repeat refine S.seq ?_); refine S.ret ?_)
  exact E.ret (T := tt) tt_ok rfl rfl (by exact sd) (F' := (46, .own y 223 2 (nextO A.l A.l.length).length (gOf OutD.cells (nextO A.l A.l.length))) :: auR b mb x A) (Imp.refl _) (by unfold auR; (repeat (first | exact List.nil_sublist _ | refine List.Sublist.cons_cons _ ?_ | refine List.Sublist.cons _ ?_))) ⟨y, rfl, rfl⟩

def lastM (o : OutD) : Msg := o.l.getD ((o.l.length : Int) - 1).toNat default
def toldB (l : List OutD) (q : Int) (key : ByteArray) (seq : Int) (i : Nat) : Bool := ((l.getD i default).queue == q && (l.getD i default).key0 == key) && (lastM (l.getD i default)).seq == seq
theorem told1_p (b mb : Nat) (x : Value) (A : AuD) (q : Int) (key : ByteArray) (seq : Int) (i : Nat) (ok : AuOk A) (hi : i < A.l.length) :
    FnC Tryz.prog 316 [.v (.int .i64 i), .pel 1 [.ptr 40 b 0], .pel 1 [.v (.int .i64 q)], .pel 1 [.v (.string key)], .pel 1 [.v (.int .i64 seq)]] (auR b mb x A) (fun r F' => r = .v (.bool (toldB A.l q key seq i)) ∧ F' = auR b mb x A) := by
  have hlen := ok.len
  obtain ⟨o1, o2, o3, o4⟩ := ok.some1 (A.l.getD i default) (by rw [getD_get hi]; exact List.getElem_mem _)
  unfold auR
  refine FnC.intro Tryz.func316 rfl Tryz.ntmps316 rfl ?_; intro off w0
  ((repeat refine S.seq ?_); refine wG (k := ?_); try (refine L.nil ?_))
  ((repeat refine S.seq ?_); refine wG (k := ?_); try (refine L.nil ?_))
  repeat refine S.seq ?_
  refine S.draw [(3, [40]), (7, [42])] mixed ?_
  refine wT [0, 1, 2, 3, 4, 5, 6, 7, 8, 9, 10, 11, 12, 13, 14, 15, 16, 17, 18, 19, 20, 21, 22, 23, 24, 25, 26, 27, 28, 29] (k := ?_)
  refine wD (k := ?_)
  ((repeat refine S.seq ?_); refine S.ret ?_)
  exact E.ret (T := tt) tt_ok rfl rfl (by exact sd) (F' := auR b mb x A) (Imp.refl _) (by unfold auR; (repeat (first | exact List.nil_sublist _ | refine List.Sublist.cons_cons _ ?_ | refine List.Sublist.cons _ ?_))) ⟨rfl, rfl⟩

def atA (A : AuD) (q : Int) (key : ByteArray) (seq : Int) : Int := pidx (fun i => toldB A.l q key seq ((plcI A.l A.l.length).getD i default).toNat) (plcI A.l A.l.length).length
def auPlaceA (A : AuD) (q : Int) (key : ByteArray) (seq : Int) : Nat := ((plcI A.l A.l.length).getD (atA A q key seq).toNat default).toNat
def codeA (code : Int) : Int := if code = 0 ∨ code = 8 then 0 else if code = 4 ∨ code = 1 then code else 7
def toldE (A : AuD) (q : Int) (key : ByteArray) (seq code : Int) : Int := if atA A q key seq < 0 then 3 else codeA code
def toldS (A : AuD) (q : Int) (key : ByteArray) (seq code : Int) : AuD := if atA A q key seq < 0 ∨ codeA code = 7 then A else { A with l := A.l.eraseIdx (auPlaceA A q key seq) }
theorem atA_lt (A : AuD) (q : Int) (key : ByteArray) (seq : Int) : -1 ≤ atA A q key seq ∧ atA A q key seq < (plcI A.l A.l.length).length := by
  unfold atA
  rcases pidx_cases (fun i => toldB A.l q key seq ((plcI A.l A.l.length).getD i default).toNat) (plcI A.l A.l.length).length with ⟨h, -⟩ | ⟨k, hk, -, -, h⟩ <;> rw [h] <;> omega

theorem told_p (b mb : Nat) (x : Value) (A : AuD) (q : Int) (key : ByteArray) (seq code : Int) (ok : AuOk A) : FnC Tryz.prog 254 [.ptr 40 b 0, .v (.int .i64 q), .v (.string key), .v (.int .i64 seq), .v (.int .i64 code)] (auR b mb x A)
    (fun r F' => ∃ x', r = .v (.int .i64 (toldE A q key seq code)) ∧ F' = auR b mb x' (toldS A q key seq code)) := by
  have hlen := ok.len
  have hpl := plcL_len A.l A.l.length
  obtain ⟨n, hn⟩ : ∃ n, n = (plcI A.l A.l.length).length := ⟨_, rfl⟩
  have hpi : (plcL A.l A.l.length).length = n := by rw [hn]; simp [plcI]
  have hpos : ∀ i, i < n → ∃ j : Nat, (plcI A.l A.l.length).getD i default = j ∧ j < A.l.length := fun i hi => by
    have h1 : i < (plcL A.l A.l.length).length := by omega
    exact ⟨_, plcI_at h1, plcL_lt (List.getElem_mem h1)⟩
  have hat := atA_lt A q key seq
  rw [← hn] at hat
  unfold auR
  refine FnC.intro Tryz.func254 rfl Tryz.ntmps254 rfl ?_; intro off w0
  repeat refine S.seq ?_
  refine S.region ?_
  refine wB 50 (k := fun b5 => ?_)
  refine wB 51 (k := fun b6 => ?_)
  refine wB 52 (k := fun b7 => ?_)
  refine wB 53 (k := fun b8 => ?_)
  (refine wL (k := ?_); try (refine L.nil ?_))
  refine freezeBlk 5 50 rfl rfl rfl ?_
  refine freezeBlk 6 51 rfl rfl rfl ?_
  refine freezeBlk 7 52 rfl rfl rfl ?_
  refine freezeBlk 8 53 rfl rfl rfl ?_
  ((repeat refine S.seq ?_); refine wG (k := ?_); try (refine L.nil ?_))
  ((repeat refine S.seq ?_); refine S.cond rfl (fun h0 => ?_) (fun h0 => ?_) <;> (try first | refine S.skip ?_ | refine S.exit ?_))
  · cases h0
  repeat refine S.seq ?_
  refine S.region ?_
  (refine wL (k := ?_); try (refine L.nil ?_))
  refine L.call (G := auR b mb x A) (H := []) rfl rfl rfl rfl rfl rfl rfl ⟨trivial, by exact sd⟩ rfl (by exact Imps.refl [.ptr 40 b 0]) (by unfold auR; (repeat (first | exact pick0 | refine pickS (by first | exact p0 | exact pS p0 | exact pS (pS p0) | exact pS (pS (pS p0)) | exact pS (pS (pS (pS p0))) | exact pS (pS (pS (pS (pS p0)))) | exact pS (pS (pS (pS (pS (pS p0)))))) ?_))) (places_p b mb x A ok) ?_
  rintro r F' ⟨y43, rfl, rfl⟩
  refine freezeSlot 16 43 rfl rfl rfl ?_
  rw [← hn]
  (refine wL (k := ?_); try (refine L.nil ?_))
  refine L.call (G := auR b mb x A) (H := []) rfl rfl rfl rfl rfl rfl rfl ⟨trivial, by exact sd⟩ rfl (by exact Imps.refl [.lst 1 n (gOf intC (plcI A.l A.l.length)), .fn (.func 316) [.pel 1 [.ptr 40 b 0], .pel 1 [.v (.int .i64 q)], .pel 1 [.v (.string key)], .pel 1 [.v (.int .i64 seq)]]]) (by unfold auR; (repeat (first | exact pick0 | refine pickS (by first | exact p0 | exact pS p0 | exact pS (pS p0) | exact pS (pS (pS p0)) | exact pS (pS (pS (pS p0))) | exact pS (pS (pS (pS (pS p0)))) | exact pS (pS (pS (pS (pS (pS p0)))))) ?_)))
    (IxI (n := n) (fun i => (plcI A.l A.l.length).getD i default) (fun i => toldB A.l q key seq ((plcI A.l A.l.length).getD i default).toNat) rfl (fun i hi => by
      obtain ⟨j, hj, hjl⟩ := hpos i hi
      rw [hj]
      exact told1_p b mb x A q key seq j ok hjl)) ?_
  rintro r F' ⟨rfl, rfl⟩
  have hatE : pidx (fun i => toldB A.l q key seq ((plcI A.l A.l.length).getD i default).toNat) n = atA A q key seq := by rw [atA, hn]
  rw [hatE]
  (refine wL (k := ?_); try (refine L.nil ?_))
  ((repeat refine S.seq ?_); refine wG (k := ?_); try (refine L.nil ?_))
  ((repeat refine S.seq ?_); refine S.cond rfl (fun h1 => ?_) (fun h1 => ?_) <;> (try first | refine S.skip ?_ | refine S.exit ?_))
  · have h1n : atA A q key seq < 0 := of_dec h1
    have e1 : toldE A q key seq code = 3 := by rw [toldE, if_pos h1n]
    have e2 : toldS A q key seq code = A := by rw [toldS, if_pos (.inl h1n)]
    ((repeat refine S.seq ?_); refine wG (k := ?_); try (refine L.nil ?_))
    ((repeat refine S.seq ?_); refine S.ret ?_)
    rw [e1, e2]
    exact E.ret (T := tt) tt_ok rfl rfl (by exact sd) (F' := auR b mb x A) (Imp.refl _) (by unfold auR; (repeat (first | exact List.nil_sublist _ | refine List.Sublist.cons_cons _ ?_ | refine List.Sublist.cons _ ?_))) ⟨x, rfl, rfl⟩
  have h1n : ¬ atA A q key seq < 0 := of_dec' h1
  obtain ⟨k, hk⟩ : ∃ k : Nat, atA A q key seq = k := ⟨(atA A q key seq).toNat, by omega⟩
  obtain ⟨j, hj, hjl⟩ := hpos k (by omega)
  have hplace : auPlaceA A q key seq = j := by rw [auPlaceA, hk, Int.toNat_natCast, hj, Int.toNat_natCast]
  rw [hk] at hat ⊢
  unfold auR
  repeat refine S.seq ?_
  refine S.region ?_
  (refine wL (k := ?_); try (refine L.nil ?_))
  refine L.call (G := auR b mb x A) (H := []) rfl rfl rfl rfl rfl rfl rfl ⟨trivial, by exact sd⟩ rfl (by exact Imps.refl [.ptr 40 b 0]) (by unfold auR; (repeat (first | exact pick0 | refine pickS (by first | exact p0 | exact pS p0 | exact pS (pS p0) | exact pS (pS (pS p0)) | exact pS (pS (pS (pS p0))) | exact pS (pS (pS (pS (pS p0)))) | exact pS (pS (pS (pS (pS (pS p0)))))) ?_))) (places_p b mb x A ok) ?_
  rintro r F' ⟨y22, rfl, rfl⟩
  refine freezeSlot 22 43 rfl rfl rfl ?_
  rw [← hn]
  (refine wL (k := ?_); try (refine L.nil ?_))
  refine slotAs 12 (.v (.int .i64 j)) rfl (Imp.of_eq (by rw [← hj]; rfl)) ?_
  ((repeat refine S.seq ?_); refine wG (k := ?_); try (refine L.nil ?_))
  refine S.cut (ι := { u : Unit // codeA code ≠ 7 }) (fun _ => [(4, .v (.int .i64 (codeA code))), (5, .pel 1 [.ptr 40 b 0]), (12, .v (.int .i64 j))]) (fun _ => auR b mb x A) ?_ ?_
  · repeat refine S.seq ?_
    refine S.block ?_
    ((repeat refine S.seq ?_); refine wG (k := ?_); try (refine L.nil ?_))
    refine S.cut (ι := { e : Bool // e = (code == 0 || code == 8) }) (fun e => [(4, .v (.int .i64 code)), (5, .pel 1 [.ptr 40 b 0]), (12, .v (.int .i64 j)), (26, .v (.int .i64 code)), (27, .v (.bool e.1))]) (fun _ => auR b mb x A) ?_ ?_
    · ((repeat refine S.seq ?_); refine S.cond rfl (fun h2 => ?_) (fun h2 => ?_) <;> (try first | refine S.skip ?_ | refine S.exit ?_))
      · exact fun a w h => ⟨⟨code == 0, by rw [h2]; rfl⟩, h.weakP (by (repeat' (first | exact True.intro | exact Imp.refl _ | refine ⟨?_, ?_⟩))) (by first | (unfold auR; (repeat (first | exact Sub.refl _ | refine Sub.pick (by first | exact p0 | exact pS p0 | exact pS (pS p0) | exact pS (pS (pS p0)) | exact pS (pS (pS (pS p0))) | exact pS (pS (pS (pS (pS p0))))) ?_))) | (repeat (first | exact Sub.refl _ | refine Sub.pick (by first | exact p0 | exact pS p0 | exact pS (pS p0) | exact pS (pS (pS p0)) | exact pS (pS (pS (pS p0))) | exact pS (pS (pS (pS (pS p0))))) ?_)))⟩
      · ((repeat refine S.seq ?_); refine wG (k := ?_); try (refine L.nil ?_))
        exact fun a w h => ⟨⟨code == 8, by rw [h2]; rfl⟩, h.weakP (by (repeat' (first | exact True.intro | exact Imp.refl _ | refine ⟨?_, ?_⟩))) (by first | (unfold auR; (repeat (first | exact Sub.refl _ | refine Sub.pick (by first | exact p0 | exact pS p0 | exact pS (pS p0) | exact pS (pS (pS p0)) | exact pS (pS (pS (pS p0))) | exact pS (pS (pS (pS (pS p0))))) ?_))) | (repeat (first | exact Sub.refl _ | refine Sub.pick (by first | exact p0 | exact pS p0 | exact pS (pS p0) | exact pS (pS (pS p0)) | exact pS (pS (pS (pS p0))) | exact pS (pS (pS (pS (pS p0))))) ?_)))⟩
    rintro ⟨e, he⟩
    try dsimp only
    unfold auR
    ((repeat refine S.seq ?_); refine S.cond rfl (fun h3 => ?_) (fun h3 => ?_) <;> (try first | refine S.skip ?_ | refine S.exit ?_))
    · have hc : code = 0 ∨ code = 8 := by rw [h3] at he; simpa using he.symm
      have hcA : codeA code = 0 := by rw [codeA, if_pos hc]
      ((repeat refine S.seq ?_); refine wG (k := ?_); try (refine L.nil ?_))
      refine slotAs 4 (.v (.int .i64 (codeA code))) rfl (Imp.of_eq (by rw [hcA])) ?_
      exact fun a w h => ⟨⟨(), by omega⟩, h.weakP (by (repeat' (first | exact True.intro | exact Imp.refl _ | refine ⟨?_, ?_⟩))) (by first | (unfold auR; (repeat (first | exact Sub.refl _ | refine Sub.pick (by first | exact p0 | exact pS p0 | exact pS (pS p0) | exact pS (pS (pS p0)) | exact pS (pS (pS (pS p0))) | exact pS (pS (pS (pS (pS p0))))) ?_))) | (repeat (first | exact Sub.refl _ | refine Sub.pick (by first | exact p0 | exact pS p0 | exact pS (pS p0) | exact pS (pS (pS p0)) | exact pS (pS (pS (pS p0))) | exact pS (pS (pS (pS (pS p0))))) ?_)))⟩
    have hc : ¬ (code = 0 ∨ code = 8) := by
      rw [h3] at he
      have := he.symm
      simp only [Bool.or_eq_false_iff, beq_eq_false_iff_ne, ne_eq] at this
      rintro (h | h)
      · exact this.1 h
      · exact this.2 h
    ((repeat refine S.seq ?_); refine wG (k := ?_); try (refine L.nil ?_))
    refine S.cut (ι := { e : Bool // e = (code == 4 || code == 1) }) (fun e => [(4, .v (.int .i64 code)), (5, .pel 1 [.ptr 40 b 0]), (12, .v (.int .i64 j)), (26, .v (.int .i64 code)), (30, .v (.bool e.1))]) (fun _ => auR b mb x A) ?_ ?_
    · ((repeat refine S.seq ?_); refine S.cond rfl (fun h2 => ?_) (fun h2 => ?_) <;> (try first | refine S.skip ?_ | refine S.exit ?_))
      · exact fun a w h => ⟨⟨code == 4, by rw [h2]; rfl⟩, h.weakP (by (repeat' (first | exact True.intro | exact Imp.refl _ | refine ⟨?_, ?_⟩))) (by first | (unfold auR; (repeat (first | exact Sub.refl _ | refine Sub.pick (by first | exact p0 | exact pS p0 | exact pS (pS p0) | exact pS (pS (pS p0)) | exact pS (pS (pS (pS p0))) | exact pS (pS (pS (pS (pS p0))))) ?_))) | (repeat (first | exact Sub.refl _ | refine Sub.pick (by first | exact p0 | exact pS p0 | exact pS (pS p0) | exact pS (pS (pS p0)) | exact pS (pS (pS (pS p0))) | exact pS (pS (pS (pS (pS p0))))) ?_)))⟩
      · ((repeat refine S.seq ?_); refine wG (k := ?_); try (refine L.nil ?_))
        exact fun a w h => ⟨⟨code == 1, by rw [h2]; rfl⟩, h.weakP (by (repeat' (first | exact True.intro | exact Imp.refl _ | refine ⟨?_, ?_⟩))) (by first | (unfold auR; (repeat (first | exact Sub.refl _ | refine Sub.pick (by first | exact p0 | exact pS p0 | exact pS (pS p0) | exact pS (pS (pS p0)) | exact pS (pS (pS (pS p0))) | exact pS (pS (pS (pS (pS p0))))) ?_))) | (repeat (first | exact Sub.refl _ | refine Sub.pick (by first | exact p0 | exact pS p0 | exact pS (pS p0) | exact pS (pS (pS p0)) | exact pS (pS (pS (pS p0))) | exact pS (pS (pS (pS (pS p0))))) ?_)))⟩
    rintro ⟨e, he⟩
    try dsimp only
    unfold auR
    ((repeat refine S.seq ?_); refine S.cond rfl (fun h4 => ?_) (fun h4 => ?_) <;> (try first | refine S.skip ?_ | refine S.exit ?_))
    · have hc2 : code = 4 ∨ code = 1 := by rw [h4] at he; simpa using he.symm
      have hcA : codeA code = code := by rw [codeA, if_neg hc, if_pos hc2]
      refine slotAs 4 (.v (.int .i64 (codeA code))) rfl (Imp.of_eq (by rw [hcA])) ?_
      exact fun a w h => ⟨⟨(), by omega⟩, h.weakP (by (repeat' (first | exact True.intro | exact Imp.refl _ | refine ⟨?_, ?_⟩))) (by first | (unfold auR; (repeat (first | exact Sub.refl _ | refine Sub.pick (by first | exact p0 | exact pS p0 | exact pS (pS p0) | exact pS (pS (pS p0)) | exact pS (pS (pS (pS p0))) | exact pS (pS (pS (pS (pS p0))))) ?_))) | (repeat (first | exact Sub.refl _ | refine Sub.pick (by first | exact p0 | exact pS p0 | exact pS (pS p0) | exact pS (pS (pS p0)) | exact pS (pS (pS (pS p0))) | exact pS (pS (pS (pS (pS p0))))) ?_)))⟩
    have hc2 : ¬ (code = 4 ∨ code = 1) := by
      rw [h4] at he
      have := he.symm
      simp only [Bool.or_eq_false_iff, beq_eq_false_iff_ne, ne_eq] at this
      rintro (h | h)
      · exact this.1 h
      · exact this.2 h
    have hcA : codeA code = 7 := by rw [codeA, if_neg hc, if_neg hc2]
    have e1 : toldE A q key seq code = 7 := by rw [toldE, if_neg h1n, hcA]
    have e2 : toldS A q key seq code = A := by rw [toldS, if_pos (.inr hcA)]
    ((repeat refine S.seq ?_); refine wG (k := ?_); try (refine L.nil ?_))
    ((repeat refine S.seq ?_); refine S.ret ?_)
    rw [e1, e2]
    exact E.ret (T := tt) tt_ok rfl rfl (by exact sd) (F' := auR b mb x A) (Imp.refl _) (by unfold auR; (repeat (first | exact List.nil_sublist _ | refine List.Sublist.cons_cons _ ?_ | refine List.Sublist.cons _ ?_))) ⟨x, rfl, rfl⟩
  rintro ⟨⟨⟩, hcode⟩
  try dsimp only
  unfold auR
  have e1 : toldE A q key seq code = codeA code := by rw [toldE, if_neg h1n]
  have e2 : toldS A q key seq code = { A with l := A.l.eraseIdx j } := by rw [toldS, if_neg (by rintro (h | h); exact h1n h; exact hcode h), hplace]
  repeat refine S.seq ?_
  refine S.draw [(4, [40])] mixed ?_
  refine wT [0, 1, 2, 3, 4, 5, 6, 7] (k := ?_)
  refine H.call 8 [(42, .own x 223 2 A.l.length (gOf OutD.cells A.l))] [(40, .blk b 185 [.v (.int .i64 A.pub), .ref 41 (.map (some mb)), .ref 42 x]), (41, .map mb (kOf Tryz.prog 220) (marksM A.seqs))] rfl (by kernel_rfl) (by kernel_rfl) rfl rfl rfl rfl rfl rfl rfl ⟨trivial, by exact sd⟩ rfl (by exact Imps.refl [.ref 42 x, .v (.int .i64 j), .v (.int .i64 (j + 1))]) (by (repeat (first | exact pick0 | refine pickS (by first | exact p0 | exact pS p0 | exact pS (pS p0) | exact pS (pS (pS p0)) | exact pS (pS (pS (pS p0))) | exact pS (pS (pS (pS (pS p0)))) | exact pS (pS (pS (pS (pS (pS p0)))))) ?_))) (DlOut (n := A.l.length) (g := gOf OutD.cells A.l) (x := x) 42 (by omega)) (by kernel_rfl) (by kernel_rfl) ?_
  rintro r F' ⟨x', rfl, rfl⟩
  refine wT [9, 10] (k := ?_)
  refine wHS 11 (k := ?_)
  refine wD (k := ?_)
  refine ownAs 42 (gOf OutD.cells (A.l.eraseIdx j)) rfl (show A.l.length - 1 = (A.l.eraseIdx j).length by rw [List.length_eraseIdx, if_pos (by omega)]) (fun i hi => ?_) ?_
  · simp only [gOf, List.getD_eq_getElem?_getD, List.getElem?_eraseIdx]
    split <;> rfl
  ((repeat refine S.seq ?_); refine wG (k := ?_); try (refine L.nil ?_))
  ((repeat refine S.seq ?_); refine S.ret ?_)
  rw [e1, e2]
  refine rowsTo (auR b mb x' { A with l := A.l.eraseIdx j }) (by unfold auR; (repeat (first | exact Sub.refl _ | refine Sub.pick (by first | exact p0 | exact pS p0 | exact pS (pS p0) | exact pS (pS (pS p0)) | exact pS (pS (pS (pS p0))) | exact pS (pS (pS (pS (pS p0))))) ?_))) ?_
  exact E.ret (T := tt) tt_ok rfl rfl (by exact sd) (Imp.refl _) (List.Sublist.refl _) ⟨x', rfl, rfl⟩

end Go.Proofs.YtbogfmgfafdjiaaGreatDoor

/- A cluster: what is sent, what a client says, what it publishes (world). -/
namespace Go.Proofs.YtbogfmgfafdjiaaGreatDoor
set_option linter.unusedVariables false
set_option linter.unusedSimpArgs false
set_option maxHeartbeats 8000000
open Go.RowKit
set_option maxRecDepth 8000

/-- What is known of the only queue's table. -/
structure One (R : List Arc) : Prop where
  may : mayT (tR R) = true
  rng : in32 (tR R)
  len : (putL (tR R)).length ≤ 10000
  mayA : mayA R = true
  own : ∀ p, ownerA R p = 0
theorem find_p (R : List Arc) (h : One R) (key : ByteArray) (hk : fitS key) : PFn Tryz.prog 62 [(tR R).av, .v (.string key)] (.tup [.v (.int .i64 0), .v (.int .i64 0)]) := by
  have qM := tabmay_p (tR R)
  rw [h.may] at qM
  have qO := owner_p R (ofP key)
  rw [h.own] at qO
  unfold Tab.av at qM ⊢
  refine FnC.intro Tryz.func62 rfl Tryz.ntmps62 rfl ?_; intro off w0
  repeat refine S.seq ?_
  refine S.region ?_
  refine wB 2 (k := fun b2 => ?_)
  (refine wL (k := ?_); try (refine L.nil ?_))
  repeat refine S.seq ?_
  refine S.region ?_
  (refine wL (k := ?_); try (refine L.nil ?_))
  refine wP (qM) (k := ?_)
  (refine wL (k := ?_); try (refine L.nil ?_))
  ((repeat refine S.seq ?_); refine S.cond rfl (fun hc => ?_) (fun hc => ?_) <;> (try first | refine S.skip ?_ | refine S.exit ?_))
  · cases hc
  refine blkAs 2 [.v (.int .i64 1), arcs R, .lst 1 1 (fun i => [.v (.int .i64 (([0] : List Int).getD i 0))])] rfl ⟨Imp.refl _, Imp.refl _, Imp.refl _, trivial⟩ ?_
  repeat refine S.seq ?_
  refine S.draw [(1, [2])] mixed ?_
  refine wT [0, 1, 2] (k := ?_)
  refine wHP 3 (pof_p key hk) (k := ?_)
  refine wHP 4 (qO) (k := ?_)
  refine wN ?_
  refine wT [5] (k := ?_)
  refine wD (k := ?_)
  repeat refine S.seq ?_
  refine S.draw [(2, [2])] mixed ?_
  refine wT [0, 1, 2, 3, 4, 5, 6, 7] (k := ?_)
  refine wD (k := ?_)
  (((repeat refine S.seq ?_); refine S.ret ?_); refine wRt (k := ?_))
  exact Imp.refl _
/-- A batch on its way. -/
def msgC (fr to q s : Int) (B : AV) : List AV := [.v (.int .i64 fr), .v (.int .i64 to), .v (.int .i64 0), .v (.int .i64 q), .v (.int .i64 s), .v (.int .i64 0), .v (.int .i64 0), .v (.int .i64 0), .v (.int .i64 0), .v (.bool false), B,
  .v (.int .i64 0), .v (.int .i64 0), .v (.string ByteArray.empty), .v (.string ByteArray.empty), .v (.bool false), .v (.pointer none), .v (.int .i64 0), .v (.slice none 0 0), .v (.slice none 0 0), .v (.bool false), .v (.int .i64 0), .v (.slice none 0 0), .v (.slice none 0 0), .v (.slice none 0 0), .v (.slice none 0 0)]
def sndR (wb : Nat) (xn xc xf xa : Value) (k : Nat) (g : Nat → List AV) : Rows := wldB wb xn xc xf xa ++ flR xf k g
theorem send_p (wb : Nat) (xn xc xf xa : Value) (gF : Nat → List AV) (fr to q s : Int) (l : List Msg) : FnC Tryz.prog 110 [.ptr 60 wb 0, .agg (msgC fr to q s (msgs l))] (sndR wb xn xc xf xa 0 gF)
    (fun r F' => ∃ xf' g', r = .tup [] ∧ F' = sndR wb xn xc xf' xa 1 g') := by
  unfold sndR wldB flR
  refine FnC.intro Tryz.func110 rfl Tryz.ntmps110 rfl ?_; intro off w0
  repeat refine S.seq ?_
  refine S.region ?_
  unfold msgC
  refine wB 3 (k := fun b3 => ?_)
  (refine wL (k := ?_); try (refine L.nil ?_))
  unfold wldC
  ((repeat refine S.seq ?_); refine wG (k := ?_); try (refine L.nil ?_))
  ((repeat refine S.seq ?_); refine S.cond rfl (fun hc => ?_) (fun hc => ?_) <;> (try first | refine S.skip ?_ | refine S.exit ?_))
  · repeat refine S.seq ?_
    refine S.draw [(4, [60]), (5, [3])] mixed ?_
    refine wT [0, 1, 2, 3, 4, 5] (k := ?_)
    refine wHF 6 58 (k := fun x16 => ?_)
    refine wHY 7 (k := fun y17 => ?_)
    refine wT [8, 9] (k := ?_)
    refine wHS 10 (k := ?_)
    refine wD (k := ?_)
    refine blkAs 60 (wldC xn xc y17 xa) rfl ⟨Imp.refl _, Imp.refl _, Imp.refl _, Imp.refl _, Imp.ref, Imp.refl _, trivial⟩ ?_
    exact E.fall (T := tt) tt_ok rfl rfl (by exact sd) (F' := sndR wb xn xc y17 xa 1 _) (Imp.refl _) (by unfold sndR wldB flR; (repeat (first | exact List.nil_sublist _ | refine List.Sublist.cons_cons _ ?_ | refine List.Sublist.cons _ ?_))) ⟨y17, _, rfl, rfl⟩
  exact absurd hc (by decide)
end Go.Proofs.YtbogfmgfafdjiaaGreatDoor

/- An array's element, on abstract values. -/
namespace Go.Proofs.YtbogfmgfafdjiaaGreatDoor
set_option linter.unusedVariables false
set_option linter.unusedSimpArgs false
set_option maxHeartbeats 8000000
open Go.RowKit

section
variable {P : Program} {T : Types} {c : Ctx} {σ : Slots} {F : Rows} {Q : Exit → Act → World → Prop} {ops : Array Oper} {rest : List Oper} {o : Oper}
theorem idx_sure {t e : TypeId} {x y : Operand} {m : Nat} {ti : TI} {cs : List AV} {A : AV} {ik : IntKind} {z : Int} {p q : Prop} (k : Nat) (hT : TOk P T) (ho : o.op = .index t x y) (ht : tdOf T t = some (.array m e)) (he : T.lookup e = some ti) (hs : ti.size = 1) (hag : ti.d.agg = false)
    (hx : evalS σ x = some (.agg cs, p)) (hy : evalS σ y = some (.v (.int ik z), q)) (hpq : p ∧ q) (hz : z = (k : Int)) (hk : Nat.blt k m = true) (hA : cs[k]? = some A) : Sure P c σ F [] o A := by
  intro a w1 hR
  subst hz
  obtain ⟨ti2, hti, htd⟩ := tdOf_some ht
  have hx' := hR.evals hx hpq.1
  have hy' := hR.evals hy hpq.2
  generalize hX : a.eval x = X at hx'
  generalize hY : a.eval y = Y at hy'
  cases hy'
  cases hx' with
  | @agg _ us hl h1 hrep =>
    have hlt : k < cs.length := (List.getElem?_eq_some_iff.1 hA).1
    have hlt' : k < us.length := by omega
    have hu : us[k]? = some us[k] := List.getElem?_eq_getElem hlt'
    refine ⟨us[k], hrep k A us[k] hA hu, fun w hS => ?_⟩
    have hk' := of_blt hk
    have h0 : (0 : Int) ≤ (k : Int) ∧ (k : Int) < (m : Int) := by omega
    have h3 : ¬ m ≤ k := by omega
    simp [execOp, ho, hX, hY, Instr.index, asIntOf, run_underlying ((hT.told hti).array htd), (hT.told he).size, hs, h0, h3, part, (hT.told he).run_agg, hag, hu]
end
end Go.Proofs.YtbogfmgfafdjiaaGreatDoor

/- A cluster: what a client says, what it publishes (world). -/
namespace Go.Proofs.YtbogfmgfafdjiaaGreatDoor
set_option linter.unusedVariables false
set_option linter.unusedSimpArgs false
set_option maxHeartbeats 8000000
open Go.RowKit
set_option maxRecDepth 8000

def kB : ByteArray := ⟨#[107]⟩
def bB : ByteArray := ⟨#[98]⟩
def m1 : Msg := ⟨0, 1, kB, bB, false⟩
def A0 : AuD := ⟨0, [], []⟩
def A1 : AuD := ⟨0, [⟨0, kB, 1⟩], [⟨0, [m1]⟩]⟩
theorem pub1e : pubE A0 0 kB bB 1 = 0 := by decide +kernel
theorem pub1s : pubS A0 0 kB bB 1 = A1 := by decide +kernel
theorem next1 : nextO A1.l A1.l.length = A1.l := by decide +kernel
theorem fitK : fitS kB := by unfold fitS; decide
theorem ok0 : AuOk A0 := ⟨by decide, fun q k => show (0 : Int) ≤ 0 ∧ (0 : Int) ≤ 100000 by decide, fun o ho => by cases ho⟩
theorem ok1 : AuOk A1 := ⟨by decide, fun q k => by
    show 0 ≤ lastSeq [⟨0, kB, 1⟩] q k ∧ lastSeq [⟨0, kB, 1⟩] q k ≤ 100000
    have e : lastSeq [⟨0, kB, 1⟩] q k = if ((0 : Int) == q && kB == k) = true then 1 else 0 := by
      unfold lastSeq
      simp only [List.reverse_singleton, List.find?_cons, List.find?_nil]
      cases ((0 : Int) == q && kB == k) <;> rfl
    rw [e]
    split <;> omega, fun o ho => by
    simp only [A1, List.mem_singleton] at ho
    subst ho
    refine ⟨by decide, by decide, by unfold fitI; decide, fun m hm => ?_⟩
    simp only [List.mem_singleton] at hm
    subst hm
    exact fitK⟩
def sndK : Value := .agg #[.int .i64 0, .string kB, .int .i64 1]
def due1 : List (Value × AV) := [(sndK, .v (.int .i64 (0 + 4)))]

theorem speak_p (wb : Nat) (xn : Value) (nb nb2 k : Nat) (R : List Arc) (p : WAd) (xf : Value) (gF : Nat → List AV) (xa : Value) (l : List ActD) (h : One R) (hk : k ≤ 4) : FnC Tryz.prog 71 [.ptr 60 wb 0, .v (.int .i64 0)] (wR wb xn nb nb2 k R p A1 [] xf 0 gF xa l)
    (fun r F' => ∃ xf' g', r = .tup [] ∧ F' = wR wb xn nb nb2 k R p A1 due1 xf' 1 g' xa l) := by
  have qF := find_p R h kB fitK
  have qN := next_p p.ab p.mb p.x A1 ok1
  rw [next1] at qN
  have hkey : kOf Tryz.prog 226 sndK = true := KeySnd.kName_ok (by unfold fitI; omega) fitK (by unfold fitI; omega)
  refine FnC.intro Tryz.func71 rfl Tryz.ntmps71 rfl ?_; intro off w0
  (try unfold wR); (try unfold wldB); (try unfold ndsR); (try unfold ndR); (try unfold clsR); (try unfold cliR); (try unfold cliB); (try unfold auR); (try unfold dueR); (try unfold tabR); (try unfold flR); (try unfold actR); (try unfold sndR); (try unfold wldC); (try unfold cliC)
  ((repeat refine S.seq ?_); refine wG (k := ?_); try (refine L.nil ?_))
  ((repeat refine S.seq ?_); refine wG (k := ?_); try (refine L.nil ?_))
  ((repeat refine S.seq ?_); refine wG (k := ?_); try (refine L.nil ?_))
  repeat refine S.seq ?_
  refine S.cut (ι := Unit) (fun _ => [(0, .ptr 60 wb 0), (1, .v (.int .i64 0)), (4, .ptr 66 p.cb 0), (5, .v (.int .i64 (k + 0)))]) (fun _ => wR wb xn nb nb2 k R p A1 [] xf 0 gF xa l) ?_ ?_
  · refine S.block (S.loop (ι := { k : Nat // k ≤ 4 }) (fun j => [(0, .ptr 60 wb 0), (1, .v (.int .i64 0)), (4, .ptr 66 p.cb 0), (5, .v (.int .i64 (k + 0))), (33, .agg [.v (.bool false), .v (.bool false), .v (.bool false), .v (.bool false)]), (34, .v (.int .i64 j.1))]) (fun _ => wR wb xn nb nb2 k R p A1 [] xf 0 gF xa l) (fun j => 4 - j.1) ?_ ?_)
    · exact fun a w h => ⟨⟨0, by omega⟩, h.weakP (by (repeat' (first | exact True.intro | exact Imp.refl _ | refine ⟨?_, ?_⟩))) (by (try unfold wR); (try unfold wldB); (try unfold ndsR); (try unfold ndR); (try unfold clsR); (try unfold cliR); (try unfold cliB); (try unfold auR); (try unfold dueR); (try unfold tabR); (try unfold flR); (try unfold actR); (try unfold sndR); (try unfold wldC); (try unfold cliC); simp only [List.nil_append, List.cons_append]; (repeat (first | exact Sub.refl _ | refine Sub.pick (by repeat (first | exact p0 | apply pS)) ?_)))⟩
    rintro ⟨j, hj⟩
    dsimp only
    have hj5 : j = 0 ∨ j = 1 ∨ j = 2 ∨ j = 3 ∨ j = 4 := by omega
    rcases hj5 with rfl | rfl | rfl | rfl | rfl
    · (try unfold wR); (try unfold wldB); (try unfold ndsR); (try unfold ndR); (try unfold clsR); (try unfold cliR); (try unfold cliB); (try unfold auR); (try unfold dueR); (try unfold tabR); (try unfold flR); (try unfold actR); (try unfold sndR); (try unfold wldC); (try unfold cliC)
      ((repeat refine S.seq ?_); refine wG (k := ?_); try (refine L.nil ?_))
      ((repeat refine S.seq ?_); refine S.cond rfl (fun hc => ?_) (fun hc => ?_) <;> (try first | refine S.skip ?_ | refine S.exit ?_))
      · repeat refine S.seq ?_
        refine S.block ?_
        repeat refine S.seq ?_
        refine S.region ?_
        (refine wL (k := ?_); try (refine L.nil ?_))
        refine L.sure (rd := []) (A := .v (.bool false)) (idx_sure (T := tt) 0 tt_ok rfl rfl rfl rfl rfl rfl rfl ⟨trivial, trivial⟩ rfl rfl rfl) rfl rfl rfl ?_
        (refine wL (k := ?_); try (refine L.nil ?_))
        ((repeat refine S.seq ?_); refine wG (k := ?_); try (refine L.nil ?_))
        ((repeat refine S.seq ?_); refine S.cond rfl (fun hd => ?_) (fun hd => ?_) <;> (try first | refine S.skip ?_ | refine S.exit ?_))
        · cases hd
        ((repeat refine S.seq ?_); refine wG (k := ?_); try (refine L.nil ?_))
        exact fun a w hR => ⟨⟨1, by omega⟩, by show 4 - 1 < 4 - 0; omega, hR.weakP (by (repeat' (first | exact True.intro | exact Imp.refl _ | refine ⟨?_, ?_⟩))) (by (try unfold wR); (try unfold wldB); (try unfold ndsR); (try unfold ndR); (try unfold clsR); (try unfold cliR); (try unfold cliB); (try unfold auR); (try unfold dueR); (try unfold tabR); (try unfold flR); (try unfold actR); (try unfold sndR); (try unfold wldC); (try unfold cliC); simp only [List.nil_append, List.cons_append]; (repeat (first | exact Sub.refl _ | refine Sub.pick (by repeat (first | exact p0 | apply pS)) ?_)))⟩
      exact absurd hc (by decide)
    · (try unfold wR); (try unfold wldB); (try unfold ndsR); (try unfold ndR); (try unfold clsR); (try unfold cliR); (try unfold cliB); (try unfold auR); (try unfold dueR); (try unfold tabR); (try unfold flR); (try unfold actR); (try unfold sndR); (try unfold wldC); (try unfold cliC)
      ((repeat refine S.seq ?_); refine wG (k := ?_); try (refine L.nil ?_))
      ((repeat refine S.seq ?_); refine S.cond rfl (fun hc => ?_) (fun hc => ?_) <;> (try first | refine S.skip ?_ | refine S.exit ?_))
      · repeat refine S.seq ?_
        refine S.block ?_
        repeat refine S.seq ?_
        refine S.region ?_
        (refine wL (k := ?_); try (refine L.nil ?_))
        refine L.sure (rd := []) (A := .v (.bool false)) (idx_sure (T := tt) 1 tt_ok rfl rfl rfl rfl rfl rfl rfl ⟨trivial, trivial⟩ rfl rfl rfl) rfl rfl rfl ?_
        (refine wL (k := ?_); try (refine L.nil ?_))
        ((repeat refine S.seq ?_); refine wG (k := ?_); try (refine L.nil ?_))
        ((repeat refine S.seq ?_); refine S.cond rfl (fun hd => ?_) (fun hd => ?_) <;> (try first | refine S.skip ?_ | refine S.exit ?_))
        · cases hd
        ((repeat refine S.seq ?_); refine wG (k := ?_); try (refine L.nil ?_))
        exact fun a w hR => ⟨⟨2, by omega⟩, by show 4 - 2 < 4 - 1; omega, hR.weakP (by (repeat' (first | exact True.intro | exact Imp.refl _ | refine ⟨?_, ?_⟩))) (by (try unfold wR); (try unfold wldB); (try unfold ndsR); (try unfold ndR); (try unfold clsR); (try unfold cliR); (try unfold cliB); (try unfold auR); (try unfold dueR); (try unfold tabR); (try unfold flR); (try unfold actR); (try unfold sndR); (try unfold wldC); (try unfold cliC); simp only [List.nil_append, List.cons_append]; (repeat (first | exact Sub.refl _ | refine Sub.pick (by repeat (first | exact p0 | apply pS)) ?_)))⟩
      exact absurd hc (by decide)
    · (try unfold wR); (try unfold wldB); (try unfold ndsR); (try unfold ndR); (try unfold clsR); (try unfold cliR); (try unfold cliB); (try unfold auR); (try unfold dueR); (try unfold tabR); (try unfold flR); (try unfold actR); (try unfold sndR); (try unfold wldC); (try unfold cliC)
      ((repeat refine S.seq ?_); refine wG (k := ?_); try (refine L.nil ?_))
      ((repeat refine S.seq ?_); refine S.cond rfl (fun hc => ?_) (fun hc => ?_) <;> (try first | refine S.skip ?_ | refine S.exit ?_))
      · repeat refine S.seq ?_
        refine S.block ?_
        repeat refine S.seq ?_
        refine S.region ?_
        (refine wL (k := ?_); try (refine L.nil ?_))
        refine L.sure (rd := []) (A := .v (.bool false)) (idx_sure (T := tt) 2 tt_ok rfl rfl rfl rfl rfl rfl rfl ⟨trivial, trivial⟩ rfl rfl rfl) rfl rfl rfl ?_
        (refine wL (k := ?_); try (refine L.nil ?_))
        ((repeat refine S.seq ?_); refine wG (k := ?_); try (refine L.nil ?_))
        ((repeat refine S.seq ?_); refine S.cond rfl (fun hd => ?_) (fun hd => ?_) <;> (try first | refine S.skip ?_ | refine S.exit ?_))
        · cases hd
        ((repeat refine S.seq ?_); refine wG (k := ?_); try (refine L.nil ?_))
        exact fun a w hR => ⟨⟨3, by omega⟩, by show 4 - 3 < 4 - 2; omega, hR.weakP (by (repeat' (first | exact True.intro | exact Imp.refl _ | refine ⟨?_, ?_⟩))) (by (try unfold wR); (try unfold wldB); (try unfold ndsR); (try unfold ndR); (try unfold clsR); (try unfold cliR); (try unfold cliB); (try unfold auR); (try unfold dueR); (try unfold tabR); (try unfold flR); (try unfold actR); (try unfold sndR); (try unfold wldC); (try unfold cliC); simp only [List.nil_append, List.cons_append]; (repeat (first | exact Sub.refl _ | refine Sub.pick (by repeat (first | exact p0 | apply pS)) ?_)))⟩
      exact absurd hc (by decide)
    · (try unfold wR); (try unfold wldB); (try unfold ndsR); (try unfold ndR); (try unfold clsR); (try unfold cliR); (try unfold cliB); (try unfold auR); (try unfold dueR); (try unfold tabR); (try unfold flR); (try unfold actR); (try unfold sndR); (try unfold wldC); (try unfold cliC)
      ((repeat refine S.seq ?_); refine wG (k := ?_); try (refine L.nil ?_))
      ((repeat refine S.seq ?_); refine S.cond rfl (fun hc => ?_) (fun hc => ?_) <;> (try first | refine S.skip ?_ | refine S.exit ?_))
      · repeat refine S.seq ?_
        refine S.block ?_
        repeat refine S.seq ?_
        refine S.region ?_
        (refine wL (k := ?_); try (refine L.nil ?_))
        refine L.sure (rd := []) (A := .v (.bool false)) (idx_sure (T := tt) 3 tt_ok rfl rfl rfl rfl rfl rfl rfl ⟨trivial, trivial⟩ rfl rfl rfl) rfl rfl rfl ?_
        (refine wL (k := ?_); try (refine L.nil ?_))
        ((repeat refine S.seq ?_); refine wG (k := ?_); try (refine L.nil ?_))
        ((repeat refine S.seq ?_); refine S.cond rfl (fun hd => ?_) (fun hd => ?_) <;> (try first | refine S.skip ?_ | refine S.exit ?_))
        · cases hd
        ((repeat refine S.seq ?_); refine wG (k := ?_); try (refine L.nil ?_))
        exact fun a w hR => ⟨⟨4, by omega⟩, by show 4 - 4 < 4 - 3; omega, hR.weakP (by (repeat' (first | exact True.intro | exact Imp.refl _ | refine ⟨?_, ?_⟩))) (by (try unfold wR); (try unfold wldB); (try unfold ndsR); (try unfold ndR); (try unfold clsR); (try unfold cliR); (try unfold cliB); (try unfold auR); (try unfold dueR); (try unfold tabR); (try unfold flR); (try unfold actR); (try unfold sndR); (try unfold wldC); (try unfold cliC); simp only [List.nil_append, List.cons_append]; (repeat (first | exact Sub.refl _ | refine Sub.pick (by repeat (first | exact p0 | apply pS)) ?_)))⟩
      exact absurd hc (by decide)
    · (try unfold wR); (try unfold wldB); (try unfold ndsR); (try unfold ndR); (try unfold clsR); (try unfold cliR); (try unfold cliB); (try unfold auR); (try unfold dueR); (try unfold tabR); (try unfold flR); (try unfold actR); (try unfold sndR); (try unfold wldC); (try unfold cliC)
      ((repeat refine S.seq ?_); refine wG (k := ?_); try (refine L.nil ?_))
      ((repeat refine S.seq ?_); refine S.cond rfl (fun hc => ?_) (fun hc => ?_) <;> (try first | refine S.skip ?_ | refine S.exit ?_))
      · exact absurd hc (by decide)
      exact fun a w hR => ⟨(), hR.weakP (by (repeat' (first | exact True.intro | exact Imp.refl _ | refine ⟨?_, ?_⟩))) (by (try unfold wR); (try unfold wldB); (try unfold ndsR); (try unfold ndR); (try unfold clsR); (try unfold cliR); (try unfold cliB); (try unfold auR); (try unfold dueR); (try unfold tabR); (try unfold flR); (try unfold actR); (try unfold sndR); (try unfold wldC); (try unfold cliC); simp only [List.nil_append, List.cons_append]; (repeat (first | exact Sub.refl _ | refine Sub.pick (by repeat (first | exact p0 | apply pS)) ?_)))⟩
  intro _
  (try unfold wR); (try unfold wldB); (try unfold ndsR); (try unfold ndR); (try unfold clsR); (try unfold cliR); (try unfold cliB); (try unfold auR); (try unfold dueR); (try unfold tabR); (try unfold flR); (try unfold actR); (try unfold sndR); (try unfold wldC); (try unfold cliC)
  repeat refine S.seq ?_
  refine S.region ?_
  (refine wL (k := ?_); try (refine L.nil ?_))
  refine L.call (G := [(40, .blk p.ab 185 [.v (.int .i64 A1.pub), .ref 41 (.map (some p.mb)), .ref 42 p.x]), (41, .map p.mb (kOf Tryz.prog 220) (marksM A1.seqs)), (42, .own p.x 223 2 A1.l.length (gOf OutD.cells A1.l))]) rfl rfl rfl rfl rfl rfl rfl ⟨trivial, by exact sd⟩ rfl (by exact Imps.refl [.ptr 40 p.ab 0]) (by exact (pickS (pS (pS (pS (pS (pS p0))))) (pickS (pS (pS (pS (pS (pS p0))))) (pickS (pS (pS (pS (pS (pS p0))))) pick0)))) qN ?_
  rintro r F' ⟨y, rfl, rfl⟩
  unfold auR
  (refine wL (k := ?_); try (refine L.nil ?_))
  repeat refine S.seq ?_
  refine S.cut (ι := Value × (Nat → List AV)) (fun _ => [(0, .ptr 60 wb 0), (1, .v (.int .i64 0)), (4, .ptr 66 p.cb 0), (5, .v (.int .i64 (k + 0)))]) (fun q => wR wb xn nb nb2 k R p A1 due1 q.1 1 q.2 xa l) ?_ ?_
  · refine S.block (S.once (ι := Value × (Nat → List AV)) [(0, .ptr 60 wb 0), (1, .v (.int .i64 0)), (4, .ptr 66 p.cb 0), (5, .v (.int .i64 (k + 0))), (50, .ref 46 y), (51, .v (.int .i64 1)), (52, .v (.int .i64 0))] ((46, .own y 223 2 1 (gOf OutD.cells A1.l)) :: wR wb xn nb nb2 k R p A1 [] xf 0 gF xa l)
      (fun q => [(0, .ptr 60 wb 0), (1, .v (.int .i64 0)), (4, .ptr 66 p.cb 0), (5, .v (.int .i64 (k + 0))), (51, .v (.int .i64 1)), (52, .v (.int .i64 1))]) (fun q => wR wb xn nb nb2 k R p A1 due1 q.1 1 q.2 xa l) ?_ ?_ ?_)
    · exact fun a w h => h.weakP (by (repeat' (first | exact True.intro | exact Imp.refl _ | refine ⟨?_, ?_⟩))) (by (try unfold wR); (try unfold wldB); (try unfold ndsR); (try unfold ndR); (try unfold clsR); (try unfold cliR); (try unfold cliB); (try unfold auR); (try unfold dueR); (try unfold tabR); (try unfold flR); (try unfold actR); (try unfold sndR); (try unfold wldC); (try unfold cliC); simp only [List.nil_append, List.cons_append]; (repeat (first | exact Sub.refl _ | refine Sub.pick (by repeat (first | exact p0 | apply pS)) ?_)))
    · (try unfold wR); (try unfold wldB); (try unfold ndsR); (try unfold ndR); (try unfold clsR); (try unfold cliR); (try unfold cliB); (try unfold auR); (try unfold dueR); (try unfold tabR); (try unfold flR); (try unfold actR); (try unfold sndR); (try unfold wldC); (try unfold cliC)
      ((repeat refine S.seq ?_); refine wG (k := ?_); try (refine L.nil ?_))
      ((repeat refine S.seq ?_); refine S.cond rfl (fun hc => ?_) (fun hc => ?_) <;> (try first | refine S.skip ?_ | refine S.exit ?_))
      · repeat refine S.seq ?_
        refine S.block ?_
        repeat refine S.seq ?_
        refine S.region ?_
        (refine wL (k := ?_); try (refine L.nil ?_))
        refine wA 47 (k := fun b9 => ?_)
        refine wS (k := ?_)
        refine L.nil ?_
        refine blkAs 47 [.v (.int .i64 0), .lst 5 1 (gOf Msg.cells [m1])] rfl ⟨Imp.refl _, Imp.refl _, trivial⟩ ?_
        ((repeat refine S.seq ?_); refine wG (k := ?_); try (refine L.nil ?_))
        repeat refine S.seq ?_
        refine S.draw [(1, [47])] mixed ?_
        refine wT [0, 1, 2, 3, 4, 5, 6, 7, 8, 9, 10, 11, 12, 13] (k := ?_)
        refine wHA 14 48 (k := fun b11 => ?_)
        refine wHS 15 (k := ?_)
        refine wD (k := ?_)
        refine blkAs 48 [.v (.int .i64 0), .v (.string kB), .v (.int .i64 1)] rfl ⟨Imp.refl _, Imp.refl _, Imp.refl _, trivial⟩ ?_
        repeat refine S.seq ?_
        refine S.draw [(3, [66]), (4, [48]), (5, [68]), (9, [66])] mixed ?_
        refine wT [0, 1, 2, 3, 4, 6, 7, 8, 9] (k := ?_)
        refine H.s1 5 (A := .v (.int .i64 0)) rfl (by kernel_rfl) (by kernel_rfl) (by kernel_rfl) (by kernel_rfl) (by kernel_rfl) (by intro ch a a' w h; obtain ⟨_, _, _, _, _, h, _⟩ := h; cases h) rfl rfl (by kernel_rfl) (look_sure (T := tt) (z := .int .i64 0) (kv := sndK) tt_ok KeySnd.kName rfl rfl (by kernel_rfl) rfl rfl rfl (by exact sd) rfl (fun _ _ => rfl) rfl hkey rfl) ?_
        refine wT [10] (k := ?_)
        refine wD (k := ?_)
        ((repeat refine S.seq ?_); refine S.cond rfl (fun hd => ?_) (fun hd => ?_) <;> (try first | refine S.skip ?_ | refine S.exit ?_))
        · exact absurd hd (by decide)
        repeat refine S.seq ?_
        refine S.draw [(3, [66]), (4, [48]), (8, [66])] mixed ?_
        refine wT [0, 1, 2, 3, 4, 5, 6, 7, 8, 9] (k := ?_)
        refine H.o1 10 rfl (by kernel_rfl) (by kernel_rfl) (O.mapSet (T := tt) (kv := sndK) tt_ok KeySnd.kName rfl rfl rfl rfl rfl rfl rfl rfl (by exact sd) rfl rfl hkey) (.inl (by kernel_rfl)) (by kernel_rfl) fun _ => ?_
        refine wD (k := ?_)
        repeat refine S.seq ?_
        refine S.draw [(3, [66]), (5, [47]), (7, [67]), (9, [48])] mixed ?_
        refine wT [0, 1, 2, 3, 4, 5, 6, 7, 8, 9] (k := ?_)
        refine wHP 10 (qF) (k := ?_)
        refine wN ?_
        refine wT [11, 12, 13, 14, 15] (k := ?_)
        refine wD (k := ?_)
        repeat refine S.seq ?_
        refine S.region ?_
        (refine wL (k := ?_); try (refine L.nil ?_))
        refine L.call (G := [(60, .blk wb 78 [.ref 61 xn, .any, .ref 62 p.xc, .v (.int .i64 1), .ref 63 xf, .ref 64 xa]), (63, .own xf 128 26 0 gF)]) rfl rfl rfl rfl rfl rfl rfl ⟨trivial, by exact sd⟩ rfl (by exact Imps.refl [.ptr 60 wb 0, .agg (msgC (k + 0) 0 0 0 (msgs [m1]))]) (by exact (pickS (pS (pS (pS p0))) (pickS (pS (pS (pS (pS (pS (pS (pS (pS (pS (pS (pS (pS p0)))))))))))) pick0))) (send_p wb xn p.xc xf xa gF (k + 0) 0 0 0 [m1]) ?_
        rintro r F' ⟨xf2, g2, rfl, rfl⟩
        refine L.nil ?_
        (try unfold wR); (try unfold wldB); (try unfold ndsR); (try unfold ndR); (try unfold clsR); (try unfold cliR); (try unfold cliB); (try unfold auR); (try unfold dueR); (try unfold tabR); (try unfold flR); (try unfold actR); (try unfold sndR); (try unfold wldC); (try unfold cliC)
        ((repeat refine S.seq ?_); refine wG (k := ?_); try (refine L.nil ?_))
        exact fun a w hR => ⟨(xf2, g2), hR.weakP (by (repeat' (first | exact True.intro | exact Imp.refl _ | refine ⟨?_, ?_⟩))) (by unfold due1; (try unfold wR); (try unfold wldB); (try unfold ndsR); (try unfold ndR); (try unfold clsR); (try unfold cliR); (try unfold cliB); (try unfold auR); (try unfold dueR); (try unfold tabR); (try unfold flR); (try unfold actR); (try unfold sndR); (try unfold wldC); (try unfold cliC); simp only [List.nil_append, List.cons_append]; (repeat (first | exact Sub.refl _ | refine Sub.pick (by repeat (first | exact p0 | apply pS)) ?_)))⟩
      exact absurd hc (by decide)
    · rintro q
      (try unfold wR); (try unfold wldB); (try unfold ndsR); (try unfold ndR); (try unfold clsR); (try unfold cliR); (try unfold cliB); (try unfold auR); (try unfold dueR); (try unfold tabR); (try unfold flR); (try unfold actR); (try unfold sndR); (try unfold wldC); (try unfold cliC)
      ((repeat refine S.seq ?_); refine wG (k := ?_); try (refine L.nil ?_))
      ((repeat refine S.seq ?_); refine S.cond rfl (fun hc => ?_) (fun hc => ?_) <;> (try first | refine S.skip ?_ | refine S.exit ?_))
      · exact absurd hc (by decide)
      exact fun a w hR => ⟨q, hR.weakP (by (repeat' (first | exact True.intro | exact Imp.refl _ | refine ⟨?_, ?_⟩))) (by (try unfold wR); (try unfold wldB); (try unfold ndsR); (try unfold ndR); (try unfold clsR); (try unfold cliR); (try unfold cliB); (try unfold auR); (try unfold dueR); (try unfold tabR); (try unfold flR); (try unfold actR); (try unfold sndR); (try unfold wldC); (try unfold cliC); simp only [List.nil_append, List.cons_append]; (repeat (first | exact Sub.refl _ | refine Sub.pick (by repeat (first | exact p0 | apply pS)) ?_)))⟩
  rintro ⟨xf2, g2⟩
  dsimp only
  (try unfold wR); (try unfold wldB); (try unfold ndsR); (try unfold ndR); (try unfold clsR); (try unfold cliR); (try unfold cliB); (try unfold auR); (try unfold dueR); (try unfold tabR); (try unfold flR); (try unfold actR); (try unfold sndR); (try unfold wldC); (try unfold cliC)
  ((repeat refine S.seq ?_); refine wG (k := ?_); try (refine L.nil ?_))
  repeat refine S.seq ?_
  refine S.cut (ι := Unit) (fun _ => [(0, .ptr 60 wb 0), (1, .v (.int .i64 0)), (4, .ptr 66 p.cb 0), (5, .v (.int .i64 (k + 0)))]) (fun _ => wR wb xn nb nb2 k R p A1 due1 xf2 1 g2 xa l) ?_ ?_
  · refine S.block (S.loop (ι := Unit) (fun j => [(0, .ptr 60 wb 0), (1, .v (.int .i64 0)), (4, .ptr 66 p.cb 0), (5, .v (.int .i64 (k + 0))), (122, .v (.int .i64 0)), (123, .v (.int .i64 0))]) (fun _ => wR wb xn nb nb2 k R p A1 due1 xf2 1 g2 xa l) (fun j => 0) ?_ ?_)
    · exact fun a w h => ⟨(), h.weakP (by (repeat' (first | exact True.intro | exact Imp.refl _ | refine ⟨?_, ?_⟩))) (by (try unfold wR); (try unfold wldB); (try unfold ndsR); (try unfold ndR); (try unfold clsR); (try unfold cliR); (try unfold cliB); (try unfold auR); (try unfold dueR); (try unfold tabR); (try unfold flR); (try unfold actR); (try unfold sndR); (try unfold wldC); (try unfold cliC); simp only [List.nil_append, List.cons_append]; (repeat (first | exact Sub.refl _ | refine Sub.pick (by repeat (first | exact p0 | apply pS)) ?_)))⟩
    rintro _
    (try unfold wR); (try unfold wldB); (try unfold ndsR); (try unfold ndR); (try unfold clsR); (try unfold cliR); (try unfold cliB); (try unfold auR); (try unfold dueR); (try unfold tabR); (try unfold flR); (try unfold actR); (try unfold sndR); (try unfold wldC); (try unfold cliC)
    ((repeat refine S.seq ?_); refine wG (k := ?_); try (refine L.nil ?_))
    ((repeat refine S.seq ?_); refine S.cond rfl (fun hc => ?_) (fun hc => ?_) <;> (try first | refine S.skip ?_ | refine S.exit ?_))
    · exact absurd hc (by decide)
    exact fun a w hR => ⟨(), hR.weakP (by (repeat' (first | exact True.intro | exact Imp.refl _ | refine ⟨?_, ?_⟩))) (by (try unfold wR); (try unfold wldB); (try unfold ndsR); (try unfold ndR); (try unfold clsR); (try unfold cliR); (try unfold cliB); (try unfold auR); (try unfold dueR); (try unfold tabR); (try unfold flR); (try unfold actR); (try unfold sndR); (try unfold wldC); (try unfold cliC); simp only [List.nil_append, List.cons_append]; (repeat (first | exact Sub.refl _ | refine Sub.pick (by repeat (first | exact p0 | apply pS)) ?_)))⟩
  intro _
  (try unfold wR); (try unfold wldB); (try unfold ndsR); (try unfold ndR); (try unfold clsR); (try unfold cliR); (try unfold cliB); (try unfold auR); (try unfold dueR); (try unfold tabR); (try unfold flR); (try unfold actR); (try unfold sndR); (try unfold wldC); (try unfold cliC)
  repeat refine S.seq ?_
  refine S.draw [(4, [66]), (10, [66]), (14, [66])] mixed ?_
  refine wT [0, 1, 2, 3, 4, 5, 6, 7, 8, 9, 10, 11, 12, 13, 14, 15, 16] (k := ?_)
  refine wD (k := ?_)
  ((repeat refine S.seq ?_); refine S.cond rfl (fun hc => ?_) (fun hc => ?_) <;> (try first | refine S.skip ?_ | refine S.exit ?_))
  · exact absurd hc (by decide)
  refine rowsTo (wR wb xn nb nb2 k R p A1 due1 xf2 1 g2 xa l) (by (try unfold wR); (try unfold wldB); (try unfold ndsR); (try unfold ndR); (try unfold clsR); (try unfold cliR); (try unfold cliB); (try unfold auR); (try unfold dueR); (try unfold tabR); (try unfold flR); (try unfold actR); (try unfold sndR); (try unfold wldC); (try unfold cliC); simp only [List.nil_append, List.cons_append]; (repeat (first | exact Sub.refl _ | refine Sub.pick (by repeat (first | exact p0 | apply pS)) ?_))) ?_
  exact E.fall (T := tt) tt_ok rfl rfl (by exact sd) (F' := wR wb xn nb nb2 k R p A1 due1 xf2 1 g2 xa l) (Imp.refl _) (List.Sublist.refl _) ⟨xf2, g2, rfl, rfl⟩
end Go.Proofs.YtbogfmgfafdjiaaGreatDoor
