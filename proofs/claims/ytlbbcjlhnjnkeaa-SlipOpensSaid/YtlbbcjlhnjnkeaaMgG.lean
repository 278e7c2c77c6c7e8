/- Texts of this proof, laid together: ShardH, ShardJ, ShardMay, ShardLaw, ShardPut. -/
import Derived.Test.YtlbbcjlhnjnkeaaMgF
/- Get. -/
namespace Go.Proofs.Ytlbbcjlhnjnkeaa
set_option linter.unusedVariables false
set_option linter.unusedSimpArgs false
set_option maxHeartbeats 8000000
open Go.RowKit
set_option maxRecDepth 4000

/-- The first ready one whose key nobody holds. -/
def freeAt (s : Shard) : Int := pidx (fun i => !hasKey s.held (s.ready.getD i default).key) s.ready.length
def getE (s : Shard) : Int := if !mayShard s then 1 else if s.frozen then 6 else if freeAt s = -1 then 3 else if s.next == 1073741824 then 4 else 0
def getH (s : Shard) : Held := ⟨s.next, s.ready.getD (freeAt s).toNat default⟩
def getS (s : Shard) : Shard := { s with ready := s.ready.eraseIdx (freeAt s).toNat, held := s.held ++ [getH s], next := s.next + 1 }

/-- What holds at a place is told by a state. -/
theorem E.state {c : Ctx} {σ : Slots} {F : Rows} {e : Exit} {Q : Exit → Act → World → Prop} {ι : Type} (sl : ι → Slots) (ro : ι → Rows) (i : ι) (hw : ∀ a w, R c σ F a w → R c (sl i) (ro i) a w) (next : ∀ i, E c e (sl i) (ro i) Q) : E c e σ F Q := fun a w hR => next i a w (hw a w hR)

set_option maxHeartbeats 8000000 in
theorem get_p (s : Shard) (hs : s.small) (hr : ∀ m ∈ s.ready, fitS m.key) : PFn Try.prog 45 [s.av] (.tup [(if getE s = 0 then getS s else s).av, (if getE s = 0 then getH s else default).av, .v (.int .i64 (getE s))]) := by
  have ⟨h1, h2, hk⟩ := hs
  refine FnC.intro Try.func45 rfl Try.ntmps45 rfl ?_; intro off w0
  repeat refine S.seq ?_
  refine S.region ?_
  refine L.box 1 rfl rfl rfl rfl rfl trivial rfl fun b => ?_
  refine L.alloc (T := tt) 2 tt_ok rfl rfl rfl rfl rfl fun b2 => ?_
  refine L.alloc (T := tt) 3 tt_ok rfl rfl rfl rfl rfl fun b3 => ?_
  (refine L.go (T := tt) tt_ok rfl rfl ?sd286 ?_; (try (case sd286 => (repeat' (first | exact trivial | with_reducible refine zI ?_ ?_)))); try (refine L.nil ?_))
  repeat refine S.seq ?_
  refine S.scope 0 (ι := { p : Nat × Nat // p.1 ≤ s.ready.length ∧ mayShard s = true ∧ s.frozen = false ∧ ∀ j, j < p.1 → hasKey s.held (s.ready.getD j default).key = true })
    (fun p => [(8, .v (.int .i64 p.1.1)), (5, .ref 83 (.map (some p.1.2))), (3, .ptr 3 b3 0), (2, .ptr 2 b2 0), (1, .ptr 1 b 0)])
    (fun p => [(83, .map p.1.2 (kOf Try.prog 9) (keysM s.held)), (3, .blk b3 53 [.v (.int .i64 0), .v (.int .i64 0), .v (.int .i64 0), .v (.string ByteArray.empty), .v (.string ByteArray.empty), .v (.bool false)]),
        (2, .blk b2 29 [.v (.bool false), .v (.int .i64 0), .v (.slice none 0 0), .v (.slice none 0 0), .v (.slice none 0 0)]), (1, .blk b 29 s.cells)]) (fun p => s.ready.length - p.1.1) rfl ?_ ?_
  · ((repeat refine S.seq ?_); refine S.region (L.go (T := tt) tt_ok rfl rfl ?sd263 ?_); (try (case sd263 => (repeat' (first | exact trivial | with_reducible refine zI ?_ ?_ | rfl | exact zN rfl)))); try (refine L.nil ?_))
    refine L.callP rfl rfl rfl rfl rfl rfl rfl ⟨trivial, by (repeat' (first | exact trivial | with_reducible refine zI ?_ ?_))⟩ rfl (by exact Imps.refl [s.av]) (may_p s h1 h2 hk) ?_
    (refine L.go (T := tt) tt_ok rfl rfl ?sd287 ?_; (try (case sd287 => (repeat' (first | exact trivial | with_reducible refine zI ?_ ?_)))); try (refine L.nil ?_))
    ((repeat refine S.seq ?_); refine S.cond rfl (fun h0 => ?_) (fun h0 => ?_) <;> (try first | refine S.skip ?_ | refine S.exit ?_))
    · ((repeat refine S.seq ?_); refine S.region (L.go (T := tt) tt_ok rfl rfl ?sd264 ?_); (try (case sd264 => (repeat' (first | exact trivial | with_reducible refine zI ?_ ?_ | rfl | exact zN rfl)))); try (refine L.nil ?_))
      (refine L.store (T := tt) tt_ok rfl rfl rfl rfl rfl rfl ?sd295 ?_; (try (case sd295 => (repeat' (first | exact trivial | with_reducible refine zI ?_ ?_ | rfl | exact zN rfl)))))
      (refine L.store (T := tt) tt_ok rfl rfl rfl rfl rfl rfl ?sd296 ?_; (try (case sd296 => (repeat' (first | exact trivial | with_reducible refine zI ?_ ?_ | rfl | exact zN rfl)))))
      (refine L.go (T := tt) tt_ok rfl rfl ?sd288 ?_; (try (case sd288 => (repeat' (first | exact trivial | with_reducible refine zI ?_ ?_)))); try (refine L.nil ?_))
      ((repeat refine S.seq ?_); refine S.ret ?_)
      have : getE s = 1 := by rw [getE, if_pos h0]
      refine E.retP (T := tt) tt_ok rfl rfl (by (repeat' (first | exact trivial | with_reducible refine zI ?_ ?_ | rfl | exact zN rfl))) (Imp.of_eq ?_)
      rw [this]
      rfl
    have hm : mayShard s = true := by simpa using h0
    ((repeat refine S.seq ?_); refine S.region (L.go (T := tt) tt_ok rfl rfl ?sd265 ?_); (try (case sd265 => (repeat' (first | exact trivial | with_reducible refine zI ?_ ?_ | rfl)))); try (refine L.nil ?_))
    ((repeat refine S.seq ?_); refine S.cond rfl (fun h3 => ?_) (fun h3 => ?_) <;> (try first | refine S.skip ?_ | refine S.exit ?_))
    · ((repeat refine S.seq ?_); refine S.region (L.go (T := tt) tt_ok rfl rfl ?sd266 ?_); (try (case sd266 => (repeat' (first | exact trivial | with_reducible refine zI ?_ ?_ | rfl | exact zN rfl)))); try (refine L.nil ?_))
      (refine L.store (T := tt) tt_ok rfl rfl rfl rfl rfl rfl ?sd297 ?_; (try (case sd297 => (repeat' (first | exact trivial | with_reducible refine zI ?_ ?_ | rfl | exact zN rfl)))))
      (refine L.store (T := tt) tt_ok rfl rfl rfl rfl rfl rfl ?sd298 ?_; (try (case sd298 => (repeat' (first | exact trivial | with_reducible refine zI ?_ ?_ | rfl | exact zN rfl)))))
      (refine L.go (T := tt) tt_ok rfl rfl ?sd289 ?_; (try (case sd289 => (repeat' (first | exact trivial | with_reducible refine zI ?_ ?_)))); try (refine L.nil ?_))
      ((repeat refine S.seq ?_); refine S.ret ?_)
      have : getE s = 6 := by rw [getE, if_neg (by simp [hm]), if_pos h3]
      refine E.retP (T := tt) tt_ok rfl rfl (by (repeat' (first | exact trivial | with_reducible refine zI ?_ ?_ | rfl | exact zN rfl))) (Imp.of_eq ?_)
      rw [this]
      rfl
    repeat refine S.seq ?_
    refine S.region (L.makeMap 83 9 rfl rfl rfl rfl fun b4 => ?_)
    (refine L.go (T := tt) tt_ok rfl rfl ?sd290 ?_; (try (case sd290 => (repeat' (first | exact trivial | with_reducible refine zI ?_ ?_)))); try (refine L.nil ?_))
    ((repeat refine S.seq ?_); refine S.region (L.go (T := tt) tt_ok rfl rfl ?sd267 ?_); (try (case sd267 => (repeat' (first | exact trivial | with_reducible refine zI ?_ ?_ | rfl)))); try (refine L.nil ?_))
    repeat refine S.seq ?_
    refine S.block (S.loop (ι := { k : Nat // k ≤ s.held.length }) (fun k => [(23, .v (.int .i64 k.1)), (22, .v (.int .i64 s.held.length)), (21, helds s.held), (5, .ref 83 (.map (some b4))), (3, .ptr 3 b3 0), (2, .ptr 2 b2 0), (1, .ptr 1 b 0)])
      (fun k => [(83, .map b4 (kOf Try.prog 9) (keysM (s.held.take k.1))), (3, .blk b3 53 [.v (.int .i64 0), .v (.int .i64 0), .v (.int .i64 0), .v (.string ByteArray.empty), .v (.string ByteArray.empty), .v (.bool false)]),
        (2, .blk b2 29 [.v (.bool false), .v (.int .i64 0), .v (.slice none 0 0), .v (.slice none 0 0), .v (.slice none 0 0)]), (1, .blk b 29 s.cells)]) (fun k => s.held.length - k.1) ?_ ?_)
    · exact fun a w h => ⟨⟨0, Nat.zero_le _⟩, h.weak (by (repeat' (first | exact True.intro | exact Imp.refl _ | refine ⟨?_, ?_⟩))) (by (repeat (first | exact List.nil_sublist _ | refine List.Sublist.cons_cons _ ?_ | refine List.Sublist.cons _ ?_)))⟩
    · rintro ⟨k, hk1⟩
      dsimp only
      ((repeat refine S.seq ?_); refine S.region (L.go (T := tt) tt_ok rfl rfl ?sd268 ?_); (try (case sd268 => (repeat' (first | exact trivial | with_reducible refine zI ?_ ?_)))); try (refine L.nil ?_))
      ((repeat refine S.seq ?_); refine S.cond rfl (fun h => ?_) (fun h => ?_) <;> (try first | refine S.skip ?_ | refine S.exit ?_))
      · have h := of_dec h
        have hkey : fitS (s.held.getD k default).m.key := hk _ (by
          have : s.held[k]? = some s.held[k] := List.getElem?_eq_getElem (by omega)
          rw [List.getD_eq_getElem?_getD, this]; exact List.getElem_mem _)
        repeat refine S.seq ?_
        refine S.block ?_
        repeat refine S.seq ?_
        refine S.region (L.run (T := tt) 2 tt_ok rfl rfl (by (repeat' (first | exact trivial | with_reducible refine zI ?_ ?_ | rfl | omega))) ?_)
        refine L.alloc (T := tt) 7 tt_ok rfl rfl rfl rfl rfl fun b5 => ?_
        (refine L.store (T := tt) tt_ok rfl rfl rfl rfl rfl rfl ?sd299 ?_; (try (case sd299 => (repeat' (first | exact trivial | with_reducible refine zI ?_ ?_ | rfl | exact zN rfl)))))
        refine L.nil ?_
        ((repeat refine S.seq ?_); refine S.region (L.go (T := tt) tt_ok rfl rfl ?sd269 ?_); (try (case sd269 => (repeat' (first | exact trivial | with_reducible refine zI ?_ ?_ | rfl)))); try (refine L.nil ?_))
        refine L.mapSet (T := tt) tt_ok kStr rfl rfl rfl rfl rfl rfl rfl rfl (by (repeat' (first | exact trivial | with_reducible refine zI ?_ ?_))) rfl rfl (kStr_ok hkey) (L.nil ?_)
        ((repeat refine S.seq ?_); refine S.region (L.go (T := tt) tt_ok rfl rfl ?sd270 ?_); (try (case sd270 => (repeat' (first | exact trivial | with_reducible refine zI ?_ ?_ | (unfold fits; omega))))); try (refine L.nil ?_))
        intro a w hR
        refine ⟨⟨k + 1, by omega⟩, by simp only; omega, ?_⟩
        dsimp only
        rw [keysM_succ (by omega)]
        exact hR.weak (by (repeat' (first | exact True.intro | exact Imp.refl _ | refine ⟨?_, ?_⟩))) (by (repeat (first | exact List.nil_sublist _ | refine List.Sublist.cons_cons _ ?_ | refine List.Sublist.cons _ ?_)))
      · have h := of_dec' h
        have hkn : k = s.held.length := by omega
        subst hkn
        rw [List.take_length]
        ((repeat refine S.seq ?_); refine S.region (L.go (T := tt) tt_ok rfl rfl ?sd271 ?_); (try (case sd271 => (repeat' (first | exact trivial | with_reducible refine zI ?_ ?_)))); try (refine L.nil ?_))
        refine E.state (ι := { p : Nat × Nat // p.1 ≤ s.ready.length ∧ mayShard s = true ∧ s.frozen = false ∧ ∀ j, j < p.1 → hasKey s.held (s.ready.getD j default).key = true })
          (fun p => [(8, .v (.int .i64 p.1.1)), (5, .ref 83 (.map (some p.1.2))), (3, .ptr 3 b3 0), (2, .ptr 2 b2 0), (1, .ptr 1 b 0)])
          (fun p => [(83, .map p.1.2 (kOf Try.prog 9) (keysM s.held)), (3, .blk b3 53 [.v (.int .i64 0), .v (.int .i64 0), .v (.int .i64 0), .v (.string ByteArray.empty), .v (.string ByteArray.empty), .v (.bool false)]),
            (2, .blk b2 29 [.v (.bool false), .v (.int .i64 0), .v (.slice none 0 0), .v (.slice none 0 0), .v (.slice none 0 0)]), (1, .blk b 29 s.cells)])
          ⟨(0, b4), Nat.zero_le _, hm, h3, fun j hj => absurd hj (Nat.not_lt_zero j)⟩ (fun a w h => h.weak (by (repeat' (first | exact True.intro | exact Imp.refl _ | refine ⟨?_, ?_⟩))) (by (repeat (first | exact List.nil_sublist _ | refine List.Sublist.cons_cons _ ?_ | refine List.Sublist.cons _ ?_)))) ?_
        rintro ⟨⟨k, b4⟩, hk1, hm, hfz, hno⟩
        dsimp only at hk1 hno ⊢
        repeat refine S.seq ?_
        refine S.label ?_
        ((repeat refine S.seq ?_); refine S.region (L.go (T := tt) tt_ok rfl rfl ?sd272 ?_); (try (case sd272 => (repeat' (first | exact trivial | with_reducible refine zI ?_ ?_ | rfl)))); try (refine L.nil ?_))
        ((repeat refine S.seq ?_); refine S.cond rfl (fun h => ?_) (fun h => ?_) <;> (try first | refine S.skip ?_ | refine S.exit ?_))
        · ((repeat refine S.seq ?_); refine S.region (L.go (T := tt) tt_ok rfl rfl ?sd273 ?_); (try (case sd273 => (repeat' (first | exact trivial | with_reducible refine zI ?_ ?_ | rfl | exact zN rfl)))); try (refine L.nil ?_))
          (refine L.store (T := tt) tt_ok rfl rfl rfl rfl rfl rfl ?sd300 ?_; (try (case sd300 => (repeat' (first | exact trivial | with_reducible refine zI ?_ ?_ | rfl | exact zN rfl)))))
          (refine L.store (T := tt) tt_ok rfl rfl rfl rfl rfl rfl ?sd301 ?_; (try (case sd301 => (repeat' (first | exact trivial | with_reducible refine zI ?_ ?_ | rfl | exact zN rfl)))))
          (refine L.go (T := tt) tt_ok rfl rfl ?sd291 ?_; (try (case sd291 => (repeat' (first | exact trivial | with_reducible refine zI ?_ ?_)))); try (refine L.nil ?_))
          ((repeat refine S.seq ?_); refine S.ret ?_)
          have h := of_dec h
          have hkn : k = s.ready.length := by omega
          have hf : freeAt s = -1 := pidx_none fun j hj => by rw [hno j (by omega)]; rfl
          have : getE s = 3 := by rw [getE, if_neg (by simp [hm]), if_neg (by simp [hfz]), if_pos hf]
          refine E.retP (T := tt) tt_ok rfl rfl (by (repeat' (first | exact trivial | with_reducible refine zI ?_ ?_ | rfl | exact zN rfl))) (Imp.of_eq ?_)
          rw [this]
          rfl
        have h := of_dec' h
        have hkey : fitS (s.ready.getD k default).key := hr _ (by
          have : s.ready[k]? = some s.ready[k] := List.getElem?_eq_getElem (by omega)
          rw [List.getD_eq_getElem?_getD, this]; exact List.getElem_mem _)
        ((repeat refine S.seq ?_); refine S.region (L.go (T := tt) tt_ok rfl rfl ?sd274 ?_); (try (case sd274 => (repeat' (first | exact trivial | with_reducible refine zI ?_ ?_ | rfl | omega)))); try (refine L.nil ?_))
        refine L.sure (rd := [83]) (A := .v (.bool (hasKey s.held (s.ready.getD k default).key))) (look_sure (T := tt) tt_ok kStr rfl rfl (by kernel_rfl) rfl rfl rfl (by (repeat' (first | exact trivial | with_reducible refine zI ?_ ?_))) rfl (fun _ _ => rfl) rfl (kStr_ok hkey) (look_keys _ _)) rfl rfl rfl (L.nil ?_)
        ((repeat refine S.seq ?_); refine S.cond rfl (fun h4 => ?_) (fun h4 => ?_) <;> (try first | refine S.skip ?_ | refine S.exit ?_))
        · ((repeat refine S.seq ?_); refine S.region (L.go (T := tt) tt_ok rfl rfl ?sd275 ?_); (try (case sd275 => (repeat' (first | exact trivial | with_reducible refine zI ?_ ?_ | (unfold fits; omega))))); try (refine L.nil ?_))
          refine S.goto ?_
          exact fun a w hR => ⟨rfl, ⟨⟨(k + 1, b4), by dsimp only; omega, hm, hfz, fun j hj => by rcases Nat.lt_or_ge j k with h | h; exact hno j h; (have : j = k := by dsimp only at hj; omega); subst this; exact h4⟩, hR.weak (by (repeat' (first | exact True.intro | exact Imp.refl _ | refine ⟨?_, ?_⟩))) (by (repeat (first | exact List.nil_sublist _ | refine List.Sublist.cons_cons _ ?_ | refine List.Sublist.cons _ ?_)))⟩⟩
        have hfk : freeAt s = k := pidx_some (by omega) (by rw [h4]; rfl) fun j hj => by rw [hno j hj]; rfl
        ((repeat refine S.seq ?_); refine S.region (L.go (T := tt) tt_ok rfl rfl ?sd276 ?_); (try (case sd276 => (repeat' (first | exact trivial | with_reducible refine zI ?_ ?_ | rfl)))); try (refine L.nil ?_))
        ((repeat refine S.seq ?_); refine S.cond rfl (fun h5 => ?_) (fun h5 => ?_) <;> (try first | refine S.skip ?_ | refine S.exit ?_))
        · ((repeat refine S.seq ?_); refine S.region (L.go (T := tt) tt_ok rfl rfl ?sd277 ?_); (try (case sd277 => (repeat' (first | exact trivial | with_reducible refine zI ?_ ?_ | rfl | exact zN rfl)))); try (refine L.nil ?_))
          (refine L.store (T := tt) tt_ok rfl rfl rfl rfl rfl rfl ?sd302 ?_; (try (case sd302 => (repeat' (first | exact trivial | with_reducible refine zI ?_ ?_ | rfl | exact zN rfl)))))
          (refine L.store (T := tt) tt_ok rfl rfl rfl rfl rfl rfl ?sd303 ?_; (try (case sd303 => (repeat' (first | exact trivial | with_reducible refine zI ?_ ?_ | rfl | exact zN rfl)))))
          (refine L.go (T := tt) tt_ok rfl rfl ?sd292 ?_; (try (case sd292 => (repeat' (first | exact trivial | with_reducible refine zI ?_ ?_)))); try (refine L.nil ?_))
          ((repeat refine S.seq ?_); refine S.ret ?_)
          have : getE s = 4 := by rw [getE, if_neg (by simp [hm]), if_neg (by simp [hfz]), if_neg (by rw [hfk]; omega), if_pos h5]
          refine E.retP (T := tt) tt_ok rfl rfl (by (repeat' (first | exact trivial | with_reducible refine zI ?_ ?_ | rfl | exact zN rfl))) (Imp.of_eq ?_)
          rw [this]
          rfl
        have hE : getE s = 0 := by rw [getE, if_neg (by simp [hm]), if_neg (by simp [hfz]), if_neg (by rw [hfk]; omega), if_neg (by rw [h5]; simp)]
        ((repeat refine S.seq ?_); refine S.region (L.go (T := tt) tt_ok rfl rfl ?sd278 ?_); (try (case sd278 => (repeat' (first | exact trivial | with_reducible refine zI ?_ ?_ | rfl | exact zN rfl)))); try (refine L.nil ?_))
        refine L.call (G := []) (H := [(83, _), (3, _), (2, _), (1, _)]) rfl rfl rfl rfl rfl rfl rfl ⟨trivial, by (repeat' (first | exact trivial | with_reducible refine zI ?_ ?_))⟩ rfl (by exact Imps.refl [s.av]) (List.Perm.refl _) (own_p s h1 h2 (by have := may_marks hm; omega)) ?_
        rintro r F' ⟨x, y, z, rfl, rfl⟩
        (refine L.store (T := tt) tt_ok rfl rfl rfl rfl rfl rfl ?sd304 ?_; (try (case sd304 => (repeat' (first | exact trivial | with_reducible refine zI ?_ ?_ | rfl | exact zN rfl)))))
        refine L.nil ?_
        repeat refine S.seq ?_
        have hnx : 1 ≤ s.next ∧ s.next ≤ 1073741824 := by
          simp only [mayShard, Bool.and_eq_true, Bool.not_eq_true', Bool.or_eq_false_iff, decide_eq_false_iff_not] at hm
          omega
        refine S.draw [(1, [1]), (3, [1]), (6, [91])] mixed ?_
        (refine H.ts (T := tt) [0, 1, 2, 3, 4, 5, 6, 7] tt_ok (by kernel_rfl) (by kernel_rfl) (by kernel_rfl) (by intro ch a a' w h; obtain ⟨_, _, _, _, _, h, _⟩ := h; cases h) rfl ?sd310 ?_; (try (case sd310 => (repeat' (first | exact trivial | with_reducible refine zI ?_ ?_ | rfl | exact zN rfl | omega)))))
        refine H.o1 8 rfl (by kernel_rfl) (by kernel_rfl) (O.alloc (T := tt) 5 tt_ok rfl rfl rfl rfl rfl) (.inr rfl) rfl fun b5 => ?_
        (refine H.store (T := tt) 9 rfl (by kernel_rfl) (by kernel_rfl) tt_ok rfl rfl rfl rfl rfl rfl ?sd334 rfl (by kernel_rfl) ?_; (try (case sd334 => (repeat' (first | exact trivial | with_reducible refine zI ?_ ?_ | rfl | exact zN rfl)))))
        refine H.done (by kernel_rfl) ?_
        repeat refine S.seq ?_
        refine S.draw [(1, [1]), (7, [1]), (8, [5]), (12, [1])] mixed ?_
        (refine H.ts (T := tt) [0, 1, 2, 3, 4, 6, 7, 8, 11, 12, 13] tt_ok (by kernel_rfl) (by kernel_rfl) (by kernel_rfl) (by intro ch a a' w h; obtain ⟨_, _, _, _, _, h, _⟩ := h; cases h) rfl ?sd311 ?_; (try (case sd311 => (repeat' (first | exact trivial | with_reducible refine zI ?_ ?_ | rfl | exact zN rfl | (unfold fits; omega))))))
        refine H.o2 5 9 rfl rfl (by kernel_rfl) (by kernel_rfl) (O.call (G := [(91, _)]) (H := [(5, _), (93, _), (92, _), (83, _), (3, _), (2, _), (1, _)]) rfl rfl rfl rfl rfl rfl rfl ⟨trivial, by (repeat' (first | exact trivial | with_reducible refine zI ?_ ?_))⟩ rfl (by exact Imps.refl [.ref 91 x, .v (.int .i64 k), .v (.int .i64 (k + 1))]) (by exact List.perm_middle (l₁ := [_, _, _]) (l₂ := [_, _, _, _])) (DlMsg (n := s.ready.length) (g := gOf Msg.cells s.ready) (x := x) 91 (by omega)))
          (O.buildSlice (T := tt) 6 tt_ok rfl rfl rfl rfl rfl rfl (by decide) (by decide) rfl rfl (by (repeat' (first | exact trivial | with_reducible refine zI ?_ ?_ | rfl | exact zN rfl)))) (.inl (by kernel_rfl)) (.inr rfl) (by kernel_rfl) rfl (fun q => ?_) (fun x6 => ?_)
        · obtain ⟨⟨r, F'⟩, x', e1, e2⟩ := q
          dsimp only at e1 e2
          subst e1 e2
          (refine H.ts (T := tt) [14] tt_ok (by kernel_rfl) (by kernel_rfl) (by kernel_rfl) (by intro ch a a' w h; obtain ⟨_, _, _, _, _, h, _⟩ := h; cases h) rfl ?sd312 ?_; (try (case sd312 => (repeat' (first | exact trivial | with_reducible refine zI ?_ ?_)))))
          refine H.o1 9 rfl (by kernel_rfl) (by kernel_rfl) (O.buildSlice (T := tt) 6 tt_ok rfl rfl rfl rfl rfl rfl (by decide) (by decide) rfl rfl (by (repeat' (first | exact trivial | with_reducible refine zI ?_ ?_ | rfl | exact zN rfl)))) (.inr rfl) rfl fun x6 => ?_
          refine H.o1 10 rfl (by kernel_rfl) (by kernel_rfl) (O.append (T := tt) tt_ok rfl rfl rfl rfl rfl rfl rfl rfl rfl rfl (by (repeat' (first | exact trivial | with_reducible refine zI ?_ ?_ | rfl))) ⟨rfl, by decide, by decide⟩ (by simp; omega)) (.inl (by kernel_rfl)) (by kernel_rfl) fun y' => ?_
          (refine H.store (T := tt) 15 rfl (by kernel_rfl) (by kernel_rfl) tt_ok rfl rfl rfl rfl rfl rfl ?sd335 rfl (by kernel_rfl) ?_; (try (case sd335 => (repeat' (first | exact trivial | with_reducible refine zI ?_ ?_ | rfl | exact zN rfl)))))
          (refine H.ts (T := tt) [16] tt_ok (by kernel_rfl) (by kernel_rfl) (by kernel_rfl) (by intro ch a a' w h; obtain ⟨_, _, _, _, _, h, _⟩ := h; cases h) rfl ?sd313 ?_; (try (case sd313 => (repeat' (first | exact trivial | with_reducible refine zI ?_ ?_)))))
          (refine H.store (T := tt) 17 rfl (by kernel_rfl) (by kernel_rfl) tt_ok rfl rfl rfl rfl rfl rfl ?sd336 rfl (by kernel_rfl) ?_; (try (case sd336 => (repeat' (first | exact trivial | with_reducible refine zI ?_ ?_ | rfl | exact zN rfl)))))
          (refine H.ts (T := tt) [18] tt_ok (by kernel_rfl) (by kernel_rfl) (by kernel_rfl) (by intro ch a a' w h; obtain ⟨_, _, _, _, _, h, _⟩ := h; cases h) rfl ?sd314 ?_; (try (case sd314 => (repeat' (first | exact trivial | with_reducible refine zI ?_ ?_)))))
          (refine H.store (T := tt) 19 rfl (by kernel_rfl) (by kernel_rfl) tt_ok rfl rfl rfl rfl rfl rfl ?sd337 rfl (by kernel_rfl) ?_; (try (case sd337 => (repeat' (first | exact trivial | with_reducible refine zI ?_ ?_ | rfl | exact zN rfl)))))
          refine H.done (by kernel_rfl) ?_
          repeat refine S.seq ?_
          refine S.draw [(0, [1]), (1, [5])] mixed ?_
          (refine H.ts (T := tt) [0, 1] tt_ok (by kernel_rfl) (by kernel_rfl) (by kernel_rfl) (by intro ch a a' w h; obtain ⟨_, _, _, _, _, h, _⟩ := h; cases h) rfl ?sd315 ?_; (try (case sd315 => (repeat' (first | exact trivial | with_reducible refine zI ?_ ?_ | rfl | exact zN rfl)))))
          (refine H.store (T := tt) 2 rfl (by kernel_rfl) (by kernel_rfl) tt_ok rfl rfl rfl rfl rfl rfl ?sd338 rfl (by kernel_rfl) ?_; (try (case sd338 => (repeat' (first | exact trivial | with_reducible refine zI ?_ ?_ | rfl | exact zN rfl)))))
          (refine H.store (T := tt) 3 rfl (by kernel_rfl) (by kernel_rfl) tt_ok rfl rfl rfl rfl rfl rfl ?sd339 rfl (by kernel_rfl) ?_; (try (case sd339 => (repeat' (first | exact trivial | with_reducible refine zI ?_ ?_ | rfl | exact zN rfl)))))
          (refine H.ts (T := tt) [4] tt_ok (by kernel_rfl) (by kernel_rfl) (by kernel_rfl) (by intro ch a a' w h; obtain ⟨_, _, _, _, _, h, _⟩ := h; cases h) rfl ?sd316 ?_; (try (case sd316 => (repeat' (first | exact trivial | with_reducible refine zI ?_ ?_)))))
          refine H.done (by kernel_rfl) ?_
          ((repeat refine S.seq ?_); refine S.ret ?_)
          refine freezeCell 2 2 91 rfl rfl rfl rfl (freezeCell 2 3 92 rfl rfl rfl rfl (freezeCell 2 4 93 rfl rfl rfl rfl ?_))
          refine E.retP (T := tt) tt_ok rfl rfl (by (repeat' (first | exact trivial | with_reducible refine zI ?_ ?_ | rfl | exact zN rfl))) ?_
          rw [hE, if_pos rfl, if_pos rfl, getS, getH, hfk]
          exact Imp.tup ⟨Imp.agg ⟨Imp.refl _, Imp.refl _, imp_drop _ _ _ (by omega), imp_app1 _ _ _ _ rfl, Imp.refl _, trivial⟩, Imp.refl _, Imp.refl _, trivial⟩
        · refine H.call 5 [(91, _)] [(6, _), (5, _), (93, _), (92, _), (83, _), (3, _), (2, _), (1, _)] rfl (by kernel_rfl) (by kernel_rfl) rfl rfl rfl rfl rfl rfl rfl ⟨trivial, by (repeat' (first | exact trivial | with_reducible refine zI ?_ ?_))⟩ rfl (by exact Imps.refl [.ref 91 x, .v (.int .i64 k), .v (.int .i64 (k + 1))]) (by exact List.perm_middle (l₁ := [_, _, _, _]) (l₂ := [_, _, _, _])) (DlMsg (n := s.ready.length) (g := gOf Msg.cells s.ready) (x := x) 91 (by omega)) (by kernel_rfl) (by kernel_rfl) ?_
          rintro r F' ⟨x', rfl, rfl⟩
          (refine H.ts (T := tt) [14] tt_ok (by kernel_rfl) (by kernel_rfl) (by kernel_rfl) (by intro ch a a' w h; obtain ⟨_, _, _, _, _, h, _⟩ := h; cases h) rfl ?sd317 ?_; (try (case sd317 => (repeat' (first | exact trivial | with_reducible refine zI ?_ ?_)))))
          refine H.o1 10 rfl (by kernel_rfl) (by kernel_rfl) (O.append (T := tt) tt_ok rfl rfl rfl rfl rfl rfl rfl rfl rfl rfl (by (repeat' (first | exact trivial | with_reducible refine zI ?_ ?_ | rfl))) ⟨rfl, by decide, by decide⟩ (by simp; omega)) (.inl (by kernel_rfl)) (by kernel_rfl) fun y' => ?_
          (refine H.store (T := tt) 15 rfl (by kernel_rfl) (by kernel_rfl) tt_ok rfl rfl rfl rfl rfl rfl ?sd340 rfl (by kernel_rfl) ?_; (try (case sd340 => (repeat' (first | exact trivial | with_reducible refine zI ?_ ?_ | rfl | exact zN rfl)))))
          (refine H.ts (T := tt) [16] tt_ok (by kernel_rfl) (by kernel_rfl) (by kernel_rfl) (by intro ch a a' w h; obtain ⟨_, _, _, _, _, h, _⟩ := h; cases h) rfl ?sd318 ?_; (try (case sd318 => (repeat' (first | exact trivial | with_reducible refine zI ?_ ?_)))))
          (refine H.store (T := tt) 17 rfl (by kernel_rfl) (by kernel_rfl) tt_ok rfl rfl rfl rfl rfl rfl ?sd341 rfl (by kernel_rfl) ?_; (try (case sd341 => (repeat' (first | exact trivial | with_reducible refine zI ?_ ?_ | rfl | exact zN rfl)))))
          (refine H.ts (T := tt) [18] tt_ok (by kernel_rfl) (by kernel_rfl) (by kernel_rfl) (by intro ch a a' w h; obtain ⟨_, _, _, _, _, h, _⟩ := h; cases h) rfl ?sd319 ?_; (try (case sd319 => (repeat' (first | exact trivial | with_reducible refine zI ?_ ?_)))))
          (refine H.store (T := tt) 19 rfl (by kernel_rfl) (by kernel_rfl) tt_ok rfl rfl rfl rfl rfl rfl ?sd342 rfl (by kernel_rfl) ?_; (try (case sd342 => (repeat' (first | exact trivial | with_reducible refine zI ?_ ?_ | rfl | exact zN rfl)))))
          refine H.done (by kernel_rfl) ?_
          repeat refine S.seq ?_
          refine S.draw [(0, [1]), (1, [5])] mixed ?_
          (refine H.ts (T := tt) [0, 1] tt_ok (by kernel_rfl) (by kernel_rfl) (by kernel_rfl) (by intro ch a a' w h; obtain ⟨_, _, _, _, _, h, _⟩ := h; cases h) rfl ?sd320 ?_; (try (case sd320 => (repeat' (first | exact trivial | with_reducible refine zI ?_ ?_ | rfl | exact zN rfl)))))
          (refine H.store (T := tt) 2 rfl (by kernel_rfl) (by kernel_rfl) tt_ok rfl rfl rfl rfl rfl rfl ?sd343 rfl (by kernel_rfl) ?_; (try (case sd343 => (repeat' (first | exact trivial | with_reducible refine zI ?_ ?_ | rfl | exact zN rfl)))))
          (refine H.store (T := tt) 3 rfl (by kernel_rfl) (by kernel_rfl) tt_ok rfl rfl rfl rfl rfl rfl ?sd344 rfl (by kernel_rfl) ?_; (try (case sd344 => (repeat' (first | exact trivial | with_reducible refine zI ?_ ?_ | rfl | exact zN rfl)))))
          (refine H.ts (T := tt) [4] tt_ok (by kernel_rfl) (by kernel_rfl) (by kernel_rfl) (by intro ch a a' w h; obtain ⟨_, _, _, _, _, h, _⟩ := h; cases h) rfl ?sd321 ?_; (try (case sd321 => (repeat' (first | exact trivial | with_reducible refine zI ?_ ?_)))))
          refine H.done (by kernel_rfl) ?_
          ((repeat refine S.seq ?_); refine S.ret ?_)
          refine freezeCell 2 2 91 rfl rfl rfl rfl (freezeCell 2 3 92 rfl rfl rfl rfl (freezeCell 2 4 93 rfl rfl rfl rfl ?_))
          refine E.retP (T := tt) tt_ok rfl rfl (by (repeat' (first | exact trivial | with_reducible refine zI ?_ ?_ | rfl | exact zN rfl))) ?_
          rw [hE, if_pos rfl, if_pos rfl, getS, getH, hfk]
          exact Imp.tup ⟨Imp.agg ⟨Imp.refl _, Imp.refl _, imp_drop _ _ _ (by omega), imp_app1 _ _ _ _ rfl, Imp.refl _, trivial⟩, Imp.refl _, Imp.refl _, trivial⟩

  · rintro ⟨⟨k, b4⟩, hk1, hm, hfz, hno⟩
    dsimp only at hk1 hno ⊢
    repeat refine S.seq ?_
    refine S.skip ?_
    ((repeat refine S.seq ?_); refine S.region (L.go (T := tt) tt_ok rfl rfl ?sd279 ?_); (try (case sd279 => (repeat' (first | exact trivial | with_reducible refine zI ?_ ?_ | rfl)))); try (refine L.nil ?_))
    ((repeat refine S.seq ?_); refine S.cond rfl (fun h => ?_) (fun h => ?_) <;> (try first | refine S.skip ?_ | refine S.exit ?_))
    · ((repeat refine S.seq ?_); refine S.region (L.go (T := tt) tt_ok rfl rfl ?sd280 ?_); (try (case sd280 => (repeat' (first | exact trivial | with_reducible refine zI ?_ ?_ | rfl | exact zN rfl)))); try (refine L.nil ?_))
      (refine L.store (T := tt) tt_ok rfl rfl rfl rfl rfl rfl ?sd305 ?_; (try (case sd305 => (repeat' (first | exact trivial | with_reducible refine zI ?_ ?_ | rfl | exact zN rfl)))))
      (refine L.store (T := tt) tt_ok rfl rfl rfl rfl rfl rfl ?sd306 ?_; (try (case sd306 => (repeat' (first | exact trivial | with_reducible refine zI ?_ ?_ | rfl | exact zN rfl)))))
      (refine L.go (T := tt) tt_ok rfl rfl ?sd293 ?_; (try (case sd293 => (repeat' (first | exact trivial | with_reducible refine zI ?_ ?_)))); try (refine L.nil ?_))
      ((repeat refine S.seq ?_); refine S.ret ?_)
      have h := of_dec h
      have hkn : k = s.ready.length := by omega
      have hf : freeAt s = -1 := pidx_none fun j hj => by rw [hno j (by omega)]; rfl
      have : getE s = 3 := by rw [getE, if_neg (by simp [hm]), if_neg (by simp [hfz]), if_pos hf]
      refine E.retP (T := tt) tt_ok rfl rfl (by (repeat' (first | exact trivial | with_reducible refine zI ?_ ?_ | rfl | exact zN rfl))) (Imp.of_eq ?_)
      rw [this]
      rfl
    have h := of_dec' h
    have hkey : fitS (s.ready.getD k default).key := hr _ (by
      have : s.ready[k]? = some s.ready[k] := List.getElem?_eq_getElem (by omega)
      rw [List.getD_eq_getElem?_getD, this]; exact List.getElem_mem _)
    ((repeat refine S.seq ?_); refine S.region (L.go (T := tt) tt_ok rfl rfl ?sd281 ?_); (try (case sd281 => (repeat' (first | exact trivial | with_reducible refine zI ?_ ?_ | rfl | omega)))); try (refine L.nil ?_))
    refine L.sure (rd := [83]) (A := .v (.bool (hasKey s.held (s.ready.getD k default).key))) (look_sure (T := tt) tt_ok kStr rfl rfl (by kernel_rfl) rfl rfl rfl (by (repeat' (first | exact trivial | with_reducible refine zI ?_ ?_))) rfl (fun _ _ => rfl) rfl (kStr_ok hkey) (look_keys _ _)) rfl rfl rfl (L.nil ?_)
    ((repeat refine S.seq ?_); refine S.cond rfl (fun h4 => ?_) (fun h4 => ?_) <;> (try first | refine S.skip ?_ | refine S.exit ?_))
    · ((repeat refine S.seq ?_); refine S.region (L.go (T := tt) tt_ok rfl rfl ?sd282 ?_); (try (case sd282 => (repeat' (first | exact trivial | with_reducible refine zI ?_ ?_ | (unfold fits; omega))))); try (refine L.nil ?_))
      refine S.goto ?_
      exact fun a w hR => ⟨rfl, ⟨⟨(k + 1, b4), by dsimp only; omega, hm, hfz, fun j hj => by rcases Nat.lt_or_ge j k with h | h; exact hno j h; (have : j = k := by dsimp only at hj; omega); subst this; exact h4⟩, by dsimp only; omega, hR.weak (by (repeat' (first | exact True.intro | exact Imp.refl _ | refine ⟨?_, ?_⟩))) (by (repeat (first | exact List.nil_sublist _ | refine List.Sublist.cons_cons _ ?_ | refine List.Sublist.cons _ ?_)))⟩⟩
    have hfk : freeAt s = k := pidx_some (by omega) (by rw [h4]; rfl) fun j hj => by rw [hno j hj]; rfl
    ((repeat refine S.seq ?_); refine S.region (L.go (T := tt) tt_ok rfl rfl ?sd283 ?_); (try (case sd283 => (repeat' (first | exact trivial | with_reducible refine zI ?_ ?_ | rfl)))); try (refine L.nil ?_))
    ((repeat refine S.seq ?_); refine S.cond rfl (fun h5 => ?_) (fun h5 => ?_) <;> (try first | refine S.skip ?_ | refine S.exit ?_))
    · ((repeat refine S.seq ?_); refine S.region (L.go (T := tt) tt_ok rfl rfl ?sd284 ?_); (try (case sd284 => (repeat' (first | exact trivial | with_reducible refine zI ?_ ?_ | rfl | exact zN rfl)))); try (refine L.nil ?_))
      (refine L.store (T := tt) tt_ok rfl rfl rfl rfl rfl rfl ?sd307 ?_; (try (case sd307 => (repeat' (first | exact trivial | with_reducible refine zI ?_ ?_ | rfl | exact zN rfl)))))
      (refine L.store (T := tt) tt_ok rfl rfl rfl rfl rfl rfl ?sd308 ?_; (try (case sd308 => (repeat' (first | exact trivial | with_reducible refine zI ?_ ?_ | rfl | exact zN rfl)))))
      (refine L.go (T := tt) tt_ok rfl rfl ?sd294 ?_; (try (case sd294 => (repeat' (first | exact trivial | with_reducible refine zI ?_ ?_)))); try (refine L.nil ?_))
      ((repeat refine S.seq ?_); refine S.ret ?_)
      have : getE s = 4 := by rw [getE, if_neg (by simp [hm]), if_neg (by simp [hfz]), if_neg (by rw [hfk]; omega), if_pos h5]
      refine E.retP (T := tt) tt_ok rfl rfl (by (repeat' (first | exact trivial | with_reducible refine zI ?_ ?_ | rfl | exact zN rfl))) (Imp.of_eq ?_)
      rw [this]
      rfl
    have hE : getE s = 0 := by rw [getE, if_neg (by simp [hm]), if_neg (by simp [hfz]), if_neg (by rw [hfk]; omega), if_neg (by rw [h5]; simp)]
    ((repeat refine S.seq ?_); refine S.region (L.go (T := tt) tt_ok rfl rfl ?sd285 ?_); (try (case sd285 => (repeat' (first | exact trivial | with_reducible refine zI ?_ ?_ | rfl | exact zN rfl)))); try (refine L.nil ?_))
    refine L.call (G := []) (H := [(83, _), (3, _), (2, _), (1, _)]) rfl rfl rfl rfl rfl rfl rfl ⟨trivial, by (repeat' (first | exact trivial | with_reducible refine zI ?_ ?_))⟩ rfl (by exact Imps.refl [s.av]) (List.Perm.refl _) (own_p s h1 h2 (by have := may_marks hm; omega)) ?_
    rintro r F' ⟨x, y, z, rfl, rfl⟩
    (refine L.store (T := tt) tt_ok rfl rfl rfl rfl rfl rfl ?sd309 ?_; (try (case sd309 => (repeat' (first | exact trivial | with_reducible refine zI ?_ ?_ | rfl | exact zN rfl)))))
    refine L.nil ?_
    repeat refine S.seq ?_
    have hnx : 1 ≤ s.next ∧ s.next ≤ 1073741824 := by
      simp only [mayShard, Bool.and_eq_true, Bool.not_eq_true', Bool.or_eq_false_iff, decide_eq_false_iff_not] at hm
      omega
    refine S.draw [(1, [1]), (3, [1]), (6, [91])] mixed ?_
    (refine H.ts (T := tt) [0, 1, 2, 3, 4, 5, 6, 7] tt_ok (by kernel_rfl) (by kernel_rfl) (by kernel_rfl) (by intro ch a a' w h; obtain ⟨_, _, _, _, _, h, _⟩ := h; cases h) rfl ?sd322 ?_; (try (case sd322 => (repeat' (first | exact trivial | with_reducible refine zI ?_ ?_ | rfl | exact zN rfl | omega)))))
    refine H.o1 8 rfl (by kernel_rfl) (by kernel_rfl) (O.alloc (T := tt) 5 tt_ok rfl rfl rfl rfl rfl) (.inr rfl) rfl fun b5 => ?_
    (refine H.store (T := tt) 9 rfl (by kernel_rfl) (by kernel_rfl) tt_ok rfl rfl rfl rfl rfl rfl ?sd345 rfl (by kernel_rfl) ?_; (try (case sd345 => (repeat' (first | exact trivial | with_reducible refine zI ?_ ?_ | rfl | exact zN rfl)))))
    refine H.done (by kernel_rfl) ?_
    repeat refine S.seq ?_
    refine S.draw [(1, [1]), (7, [1]), (8, [5]), (12, [1])] mixed ?_
    (refine H.ts (T := tt) [0, 1, 2, 3, 4, 6, 7, 8, 11, 12, 13] tt_ok (by kernel_rfl) (by kernel_rfl) (by kernel_rfl) (by intro ch a a' w h; obtain ⟨_, _, _, _, _, h, _⟩ := h; cases h) rfl ?sd323 ?_; (try (case sd323 => (repeat' (first | exact trivial | with_reducible refine zI ?_ ?_ | rfl | exact zN rfl | (unfold fits; omega))))))
    refine H.o2 5 9 rfl rfl (by kernel_rfl) (by kernel_rfl) (O.call (G := [(91, _)]) (H := [(5, _), (93, _), (92, _), (83, _), (3, _), (2, _), (1, _)]) rfl rfl rfl rfl rfl rfl rfl ⟨trivial, by (repeat' (first | exact trivial | with_reducible refine zI ?_ ?_))⟩ rfl (by exact Imps.refl [.ref 91 x, .v (.int .i64 k), .v (.int .i64 (k + 1))]) (by exact List.perm_middle (l₁ := [_, _, _]) (l₂ := [_, _, _, _])) (DlMsg (n := s.ready.length) (g := gOf Msg.cells s.ready) (x := x) 91 (by omega)))
      (O.buildSlice (T := tt) 6 tt_ok rfl rfl rfl rfl rfl rfl (by decide) (by decide) rfl rfl (by (repeat' (first | exact trivial | with_reducible refine zI ?_ ?_ | rfl | exact zN rfl)))) (.inl (by kernel_rfl)) (.inr rfl) (by kernel_rfl) rfl (fun q => ?_) (fun x6 => ?_)
    · obtain ⟨⟨r, F'⟩, x', e1, e2⟩ := q
      dsimp only at e1 e2
      subst e1 e2
      (refine H.ts (T := tt) [14] tt_ok (by kernel_rfl) (by kernel_rfl) (by kernel_rfl) (by intro ch a a' w h; obtain ⟨_, _, _, _, _, h, _⟩ := h; cases h) rfl ?sd324 ?_; (try (case sd324 => (repeat' (first | exact trivial | with_reducible refine zI ?_ ?_)))))
      refine H.o1 9 rfl (by kernel_rfl) (by kernel_rfl) (O.buildSlice (T := tt) 6 tt_ok rfl rfl rfl rfl rfl rfl (by decide) (by decide) rfl rfl (by (repeat' (first | exact trivial | with_reducible refine zI ?_ ?_ | rfl | exact zN rfl)))) (.inr rfl) rfl fun x6 => ?_
      refine H.o1 10 rfl (by kernel_rfl) (by kernel_rfl) (O.append (T := tt) tt_ok rfl rfl rfl rfl rfl rfl rfl rfl rfl rfl (by (repeat' (first | exact trivial | with_reducible refine zI ?_ ?_ | rfl))) ⟨rfl, by decide, by decide⟩ (by simp; omega)) (.inl (by kernel_rfl)) (by kernel_rfl) fun y' => ?_
      (refine H.store (T := tt) 15 rfl (by kernel_rfl) (by kernel_rfl) tt_ok rfl rfl rfl rfl rfl rfl ?sd346 rfl (by kernel_rfl) ?_; (try (case sd346 => (repeat' (first | exact trivial | with_reducible refine zI ?_ ?_ | rfl | exact zN rfl)))))
      (refine H.ts (T := tt) [16] tt_ok (by kernel_rfl) (by kernel_rfl) (by kernel_rfl) (by intro ch a a' w h; obtain ⟨_, _, _, _, _, h, _⟩ := h; cases h) rfl ?sd325 ?_; (try (case sd325 => (repeat' (first | exact trivial | with_reducible refine zI ?_ ?_)))))
      (refine H.store (T := tt) 17 rfl (by kernel_rfl) (by kernel_rfl) tt_ok rfl rfl rfl rfl rfl rfl ?sd347 rfl (by kernel_rfl) ?_; (try (case sd347 => (repeat' (first | exact trivial | with_reducible refine zI ?_ ?_ | rfl | exact zN rfl)))))
      (refine H.ts (T := tt) [18] tt_ok (by kernel_rfl) (by kernel_rfl) (by kernel_rfl) (by intro ch a a' w h; obtain ⟨_, _, _, _, _, h, _⟩ := h; cases h) rfl ?sd326 ?_; (try (case sd326 => (repeat' (first | exact trivial | with_reducible refine zI ?_ ?_)))))
      (refine H.store (T := tt) 19 rfl (by kernel_rfl) (by kernel_rfl) tt_ok rfl rfl rfl rfl rfl rfl ?sd348 rfl (by kernel_rfl) ?_; (try (case sd348 => (repeat' (first | exact trivial | with_reducible refine zI ?_ ?_ | rfl | exact zN rfl)))))
      refine H.done (by kernel_rfl) ?_
      repeat refine S.seq ?_
      refine S.draw [(0, [1]), (1, [5])] mixed ?_
      (refine H.ts (T := tt) [0, 1] tt_ok (by kernel_rfl) (by kernel_rfl) (by kernel_rfl) (by intro ch a a' w h; obtain ⟨_, _, _, _, _, h, _⟩ := h; cases h) rfl ?sd327 ?_; (try (case sd327 => (repeat' (first | exact trivial | with_reducible refine zI ?_ ?_ | rfl | exact zN rfl)))))
      (refine H.store (T := tt) 2 rfl (by kernel_rfl) (by kernel_rfl) tt_ok rfl rfl rfl rfl rfl rfl ?sd349 rfl (by kernel_rfl) ?_; (try (case sd349 => (repeat' (first | exact trivial | with_reducible refine zI ?_ ?_ | rfl | exact zN rfl)))))
      (refine H.store (T := tt) 3 rfl (by kernel_rfl) (by kernel_rfl) tt_ok rfl rfl rfl rfl rfl rfl ?sd350 rfl (by kernel_rfl) ?_; (try (case sd350 => (repeat' (first | exact trivial | with_reducible refine zI ?_ ?_ | rfl | exact zN rfl)))))
      (refine H.ts (T := tt) [4] tt_ok (by kernel_rfl) (by kernel_rfl) (by kernel_rfl) (by intro ch a a' w h; obtain ⟨_, _, _, _, _, h, _⟩ := h; cases h) rfl ?sd328 ?_; (try (case sd328 => (repeat' (first | exact trivial | with_reducible refine zI ?_ ?_)))))
      refine H.done (by kernel_rfl) ?_
      ((repeat refine S.seq ?_); refine S.ret ?_)
      refine freezeCell 2 2 91 rfl rfl rfl rfl (freezeCell 2 3 92 rfl rfl rfl rfl (freezeCell 2 4 93 rfl rfl rfl rfl ?_))
      refine E.retP (T := tt) tt_ok rfl rfl (by (repeat' (first | exact trivial | with_reducible refine zI ?_ ?_ | rfl | exact zN rfl))) ?_
      rw [hE, if_pos rfl, if_pos rfl, getS, getH, hfk]
      exact Imp.tup ⟨Imp.agg ⟨Imp.refl _, Imp.refl _, imp_drop _ _ _ (by omega), imp_app1 _ _ _ _ rfl, Imp.refl _, trivial⟩, Imp.refl _, Imp.refl _, trivial⟩
    · refine H.call 5 [(91, _)] [(6, _), (5, _), (93, _), (92, _), (83, _), (3, _), (2, _), (1, _)] rfl (by kernel_rfl) (by kernel_rfl) rfl rfl rfl rfl rfl rfl rfl ⟨trivial, by (repeat' (first | exact trivial | with_reducible refine zI ?_ ?_))⟩ rfl (by exact Imps.refl [.ref 91 x, .v (.int .i64 k), .v (.int .i64 (k + 1))]) (by exact List.perm_middle (l₁ := [_, _, _, _]) (l₂ := [_, _, _, _])) (DlMsg (n := s.ready.length) (g := gOf Msg.cells s.ready) (x := x) 91 (by omega)) (by kernel_rfl) (by kernel_rfl) ?_
      rintro r F' ⟨x', rfl, rfl⟩
      (refine H.ts (T := tt) [14] tt_ok (by kernel_rfl) (by kernel_rfl) (by kernel_rfl) (by intro ch a a' w h; obtain ⟨_, _, _, _, _, h, _⟩ := h; cases h) rfl ?sd329 ?_; (try (case sd329 => (repeat' (first | exact trivial | with_reducible refine zI ?_ ?_)))))
      refine H.o1 10 rfl (by kernel_rfl) (by kernel_rfl) (O.append (T := tt) tt_ok rfl rfl rfl rfl rfl rfl rfl rfl rfl rfl (by (repeat' (first | exact trivial | with_reducible refine zI ?_ ?_ | rfl))) ⟨rfl, by decide, by decide⟩ (by simp; omega)) (.inl (by kernel_rfl)) (by kernel_rfl) fun y' => ?_
      (refine H.store (T := tt) 15 rfl (by kernel_rfl) (by kernel_rfl) tt_ok rfl rfl rfl rfl rfl rfl ?sd351 rfl (by kernel_rfl) ?_; (try (case sd351 => (repeat' (first | exact trivial | with_reducible refine zI ?_ ?_ | rfl | exact zN rfl)))))
      (refine H.ts (T := tt) [16] tt_ok (by kernel_rfl) (by kernel_rfl) (by kernel_rfl) (by intro ch a a' w h; obtain ⟨_, _, _, _, _, h, _⟩ := h; cases h) rfl ?sd330 ?_; (try (case sd330 => (repeat' (first | exact trivial | with_reducible refine zI ?_ ?_)))))
      (refine H.store (T := tt) 17 rfl (by kernel_rfl) (by kernel_rfl) tt_ok rfl rfl rfl rfl rfl rfl ?sd352 rfl (by kernel_rfl) ?_; (try (case sd352 => (repeat' (first | exact trivial | with_reducible refine zI ?_ ?_ | rfl | exact zN rfl)))))
      (refine H.ts (T := tt) [18] tt_ok (by kernel_rfl) (by kernel_rfl) (by kernel_rfl) (by intro ch a a' w h; obtain ⟨_, _, _, _, _, h, _⟩ := h; cases h) rfl ?sd331 ?_; (try (case sd331 => (repeat' (first | exact trivial | with_reducible refine zI ?_ ?_)))))
      (refine H.store (T := tt) 19 rfl (by kernel_rfl) (by kernel_rfl) tt_ok rfl rfl rfl rfl rfl rfl ?sd353 rfl (by kernel_rfl) ?_; (try (case sd353 => (repeat' (first | exact trivial | with_reducible refine zI ?_ ?_ | rfl | exact zN rfl)))))
      refine H.done (by kernel_rfl) ?_
      repeat refine S.seq ?_
      refine S.draw [(0, [1]), (1, [5])] mixed ?_
      (refine H.ts (T := tt) [0, 1] tt_ok (by kernel_rfl) (by kernel_rfl) (by kernel_rfl) (by intro ch a a' w h; obtain ⟨_, _, _, _, _, h, _⟩ := h; cases h) rfl ?sd332 ?_; (try (case sd332 => (repeat' (first | exact trivial | with_reducible refine zI ?_ ?_ | rfl | exact zN rfl)))))
      (refine H.store (T := tt) 2 rfl (by kernel_rfl) (by kernel_rfl) tt_ok rfl rfl rfl rfl rfl rfl ?sd354 rfl (by kernel_rfl) ?_; (try (case sd354 => (repeat' (first | exact trivial | with_reducible refine zI ?_ ?_ | rfl | exact zN rfl)))))
      (refine H.store (T := tt) 3 rfl (by kernel_rfl) (by kernel_rfl) tt_ok rfl rfl rfl rfl rfl rfl ?sd355 rfl (by kernel_rfl) ?_; (try (case sd355 => (repeat' (first | exact trivial | with_reducible refine zI ?_ ?_ | rfl | exact zN rfl)))))
      (refine H.ts (T := tt) [4] tt_ok (by kernel_rfl) (by kernel_rfl) (by kernel_rfl) (by intro ch a a' w h; obtain ⟨_, _, _, _, _, h, _⟩ := h; cases h) rfl ?sd333 ?_; (try (case sd333 => (repeat' (first | exact trivial | with_reducible refine zI ?_ ?_)))))
      refine H.done (by kernel_rfl) ?_
      ((repeat refine S.seq ?_); refine S.ret ?_)
      refine freezeCell 2 2 91 rfl rfl rfl rfl (freezeCell 2 3 92 rfl rfl rfl rfl (freezeCell 2 4 93 rfl rfl rfl rfl ?_))
      refine E.retP (T := tt) tt_ok rfl rfl (by (repeat' (first | exact trivial | with_reducible refine zI ?_ ?_ | rfl | exact zN rfl))) ?_
      rw [hE, if_pos rfl, if_pos rfl, getS, getH, hfk]
      exact Imp.tup ⟨Imp.agg ⟨Imp.refl _, Imp.refl _, imp_drop _ _ _ (by omega), imp_app1 _ _ _ _ rfl, Imp.refl _, trivial⟩, Imp.refl _, Imp.refl _, trivial⟩

end Go.Proofs.Ytlbbcjlhnjnkeaa

/- The shard's calls, told alike. -/
namespace Go.Proofs.Ytlbbcjlhnjnkeaa
set_option linter.unusedVariables false
set_option linter.unusedSimpArgs false
set_option maxHeartbeats 8000000
open Go.RowKit
set_option maxRecDepth 4000

structure Shard.fine (s : Shard) : Prop where
  small : s.small
  keys : ∀ m ∈ s.ready, fitS m.key

def putR (s : Shard) (l : List Msg) : Shard × Int := (if putE s l = 0 then putS s l else s, putE s l)
def getR (s : Shard) : Shard × Held × Int := (if getE s = 0 then getS s else s, if getE s = 0 then getH s else default, getE s)

theorem putR_p (s : Shard) (l : List Msg) (hs : s.fine) : PFn Try.prog 44 [s.av, msgs l] (.tup [(putR s l).1.av, .v (.int .i64 (putR s l).2)]) := put_p s l hs.small
theorem getR_p (s : Shard) (hs : s.fine) : PFn Try.prog 45 [s.av] (.tup [(getR s).1.av, (getR s).2.1.av, .v (.int .i64 (getR s).2.2)]) := get_p s hs.small hs.keys
theorem ackR_p (s : Shard) (tag : Int) (hs : s.fine) : PFn Try.prog 46 [s.av, .v (.int .i64 tag)] (.tup [(ackS s tag).1.av, .v (.int .i64 (ackS s tag).2)]) := ack_p s tag hs.small
theorem nackR_p (s : Shard) (tag : Int) (hs : s.fine) : PFn Try.prog 47 [s.av, .v (.int .i64 tag)] (.tup [(nackS s tag).1.av, .v (.int .i64 (nackS s tag).2)]) := nack_p s tag hs.small
theorem mayR_p (s : Shard) (hs : s.fine) : PFn Try.prog 34 [s.av] (.v (.bool (mayShard s))) := may_p s hs.small.ready hs.small.held hs.small.keys

theorem mayMsg_key {m : Msg} (h : mayMsg m = true) : fitS m.key := (may_fit h).2.1
theorem mayRow_at {l : List Msg} (h : mayRow l = true) {m : Msg} (hm : m ∈ l) : mayMsg m = true := by
  obtain ⟨i, hi, rfl⟩ := List.getElem_of_mem hm
  have := (rowTo_at (Bool.and_eq_true_iff.1 h).2 hi).1
  rwa [List.getD_eq_getElem?_getD, List.getElem?_eq_getElem hi] at this

theorem mayShard_lens {s : Shard} (h : mayShard s = true) : s.ready.length + s.held.length ≤ 48 ∧ 1 ≤ s.next ∧ s.next ≤ 1073741824 ∧ s.marks.length ≤ 64 := by
  simp only [mayShard, Bool.and_eq_true, decide_eq_true_eq, Bool.not_eq_true', Bool.or_eq_false_iff, decide_eq_false_iff_not] at h
  omega

theorem fine_put {s : Shard} (l : List Msg) (hs : s.fine) : (putR s l).1.fine := by
  unfold putR
  split
  · rename_i h
    unfold putE at h
    dsimp only at h
    split at h
    · cases h
    rename_i h0
    simp only [Bool.or_eq_true, Bool.not_eq_true', not_or, Bool.not_eq_false] at h0
    have hl := mayShard_lens h0.1
    have hr : l.length ≤ 8 := by
      have := (Bool.and_eq_true_iff.1 h0.2).1
      simp only [Bool.not_eq_true', Bool.or_eq_false_iff, decide_eq_false_iff_not] at this
      omega
    exact ⟨⟨by simp [putS]; omega, hs.small.held, hs.small.keys⟩, fun m hm => by
      simp only [putS, List.mem_append] at hm
      exact hm.elim (hs.keys m) fun h => mayMsg_key (mayRow_at h0.2 h)⟩
  · exact hs

theorem pidx_at {p : Nat → Bool} {n : Nat} (h : pidx p n ≠ -1) : (pidx p n).toNat < n ∧ p (pidx p n).toNat = true ∧ pidx p n = ((pidx p n).toNat : Int) ∧ ∀ j, j < (pidx p n).toNat → p j = false := by
  rcases pidx_cases p n with ⟨h1, -⟩ | ⟨k, hk, hp, hno, h1⟩
  · exact absurd h1 h
  · rw [h1]; exact ⟨by simpa using hk, by simpa using hp, by simp, by simpa using hno⟩

theorem getE_zero {s : Shard} (h : getE s = 0) : mayShard s = true ∧ s.frozen = false ∧ freeAt s ≠ -1 ∧ s.next ≠ 1073741824 := by
  unfold getE at h
  split at h
  · cases h
  split at h
  · cases h
  split at h
  · cases h
  split at h
  · cases h
  rename_i h1 h2 h3 h4
  exact ⟨by simpa using h1, by simpa using h2, h3, by simpa using h4⟩

theorem fine_get {s : Shard} (hs : s.fine) : (getR s).1.fine := by
  unfold getR
  dsimp only
  split
  · rename_i h
    obtain ⟨h1, -, h3, -⟩ := getE_zero h
    have hl := mayShard_lens h1
    have hlt : (freeAt s).toNat < s.ready.length := (pidx_at h3).1
    have hmem : s.ready.getD (freeAt s).toNat default ∈ s.ready := by
      rw [List.getD_eq_getElem?_getD, List.getElem?_eq_getElem hlt]; exact List.getElem_mem hlt
    refine ⟨⟨?_, ?_, fun x hx => ?_⟩, fun m hm => hs.keys m (List.mem_of_mem_eraseIdx hm)⟩
    · have := List.length_eraseIdx_le s.ready (freeAt s).toNat
      simp only [getS]; omega
    · simp [getS]; omega
    · simp only [getS, List.mem_append, List.mem_singleton] at hx
      rcases hx with hx | rfl
      · exact hs.small.keys x hx
      · exact hs.keys _ hmem
  · exact hs

theorem fine_ack {s : Shard} (tag : Int) (hs : s.fine) : (ackS s tag).1.fine := by
  unfold ackS
  split
  · exact ⟨⟨hs.small.ready, Nat.le_trans (List.length_eraseIdx_le _ _) hs.small.held, fun h hh => hs.small.keys h (List.mem_of_mem_eraseIdx hh)⟩, hs.keys⟩
  · exact hs

theorem fine_nack {s : Shard} (tag : Int) (hs : s.fine) : (nackS s tag).1.fine := by
  unfold nackS
  split
  · rename_i h
    have hlt := settle_lt h
    have hl := mayShard_lens hlt.1
    have hmem : s.held.getD (heldAt s.held tag).toNat default ∈ s.held := by
      rw [List.getD_eq_getElem?_getD, List.getElem?_eq_getElem hlt.2.2]; exact List.getElem_mem hlt.2.2
    refine ⟨⟨by simp; omega, Nat.le_trans (List.length_eraseIdx_le _ _) hs.small.held, fun h hh => hs.small.keys h (List.mem_of_mem_eraseIdx hh)⟩, fun m hm => ?_⟩
    rcases List.mem_cons.1 hm with rfl | hm
    · exact hs.small.keys _ hmem
    · exact hs.keys m hm
  · exact hs

theorem fine_frozen {s : Shard} (on : Bool) (hs : s.fine) : (setFrozen s on).1.fine := by
  unfold setFrozen
  split
  · exact hs
  split
  · exact hs
  · exact ⟨⟨hs.small.ready, hs.small.held, hs.small.keys⟩, hs.keys⟩

theorem fine_new : Shard.fine ⟨false, 1, [], [], []⟩ := ⟨⟨by simp, by simp, by simp⟩, by simp⟩

end Go.Proofs.Ytlbbcjlhnjnkeaa

/- Which shards may be, in plain words. -/
namespace Go.Proofs.Ytlbbcjlhnjnkeaa
set_option linter.unusedVariables false
set_option linter.unusedSimpArgs false
set_option maxHeartbeats 8000000
open Go.RowKit

theorem mem_take {α : Type} {l : List α} {k : Nat} {x : α} (h : x ∈ l.take k) : ∃ j, ∃ hj : j < l.length, j < k ∧ l[j] = x := by
  obtain ⟨j, hj, rfl⟩ := List.getElem_of_mem h
  rw [List.length_take] at hj
  exact ⟨j, by omega, by omega, by simp⟩
theorem take_mem {α : Type} {l : List α} {k j : Nat} (hj : j < l.length) (hk : j < k) : l[j] ∈ l.take k := by
  have h : j < (l.take k).length := by rw [List.length_take]; omega
  have := List.getElem_mem h
  simpa using this

/-- One publisher's, of one key. -/
def nm (m : Mark) (p : Int) (k : ByteArray) : Prop := m.pub = p ∧ m.key = k
theorem nm_b (m : Mark) (p : Int) (k : ByteArray) : ((m.pub == p && m.key == k) = true) ↔ nm m p k := by simp [nm]
instance (m : Mark) (p : Int) (k : ByteArray) : Decidable (nm m p k) := by unfold nm; infer_instance

theorem lastSeq_nil (p : Int) (k : ByteArray) : lastSeq [] p k = 0 := rfl
theorem lastSeq_snoc (l : List Mark) (x : Mark) (p : Int) (k : ByteArray) : lastSeq (l ++ [x]) p k = if nm x p k then x.seq else lastSeq l p k := by
  unfold lastSeq
  rw [List.reverse_append, List.reverse_singleton, List.singleton_append, List.find?_cons]
  by_cases h : nm x p k
  · rw [(nm_b x p k).2 h, if_pos h]
  · rw [Bool.eq_false_iff.2 fun e => h ((nm_b x p k).1 e), if_neg h]
theorem snoc_ind {α : Type} {P : List α → Prop} (h0 : P []) (h1 : ∀ l x, P l → P (l ++ [x])) (l : List α) : P l := by
  have : ∀ r : List α, P r.reverse := fun r => by
    induction r with
    | nil => exact h0
    | cons x r ih => rw [List.reverse_cons]; exact h1 _ _ ih
  simpa using this l.reverse
theorem lastSeq_cases (l : List Mark) (p : Int) (k : ByteArray) : (lastSeq l p k = 0 ∧ ∀ m ∈ l, ¬ nm m p k) ∨ ∃ m ∈ l, nm m p k ∧ lastSeq l p k = m.seq := by
  induction l using snoc_ind with
  | h0 => exact .inl ⟨rfl, by simp⟩
  | h1 l x ih =>
    rw [lastSeq_snoc]
    by_cases h : nm x p k
    · rw [if_pos h]; exact .inr ⟨x, by simp, h, rfl⟩
    · rw [if_neg h]
      rcases ih with ⟨h1, h2⟩ | ⟨m, h1, h2, h3⟩
      · refine .inl ⟨h1, fun m hm => ?_⟩
        rcases List.mem_append.1 hm with hm | hm
        · exact h2 m hm
        · rw [List.mem_singleton.1 hm]; exact h
      · exact .inr ⟨m, by simp [h1], h2, h3⟩

/-- Of one name the numbers rise. -/
def inc (a b : Mark) : Prop := a.pub = b.pub → a.key = b.key → a.seq < b.seq
theorem inc_le {l : List Mark} (hi : l.Pairwise inc) {m : Mark} (hm : m ∈ l) {p : Int} {k : ByteArray} (hn : nm m p k) : m.seq ≤ lastSeq l p k := by
  induction l using snoc_ind with
  | h0 => cases hm
  | h1 l x ih =>
    obtain ⟨h1, -, h3⟩ := List.pairwise_append.1 hi
    rw [lastSeq_snoc]
    rcases List.mem_append.1 hm with hm | hm
    · by_cases h : nm x p k
      · rw [if_pos h]
        exact Int.le_of_lt (h3 m hm x (by simp) (hn.1.trans h.1.symm) (hn.2.trans h.2.symm))
      · rw [if_neg h]; exact ih h1 hm
    · rw [List.mem_singleton.1 hm] at hn ⊢
      rw [if_pos hn]; exact Int.le_refl _
theorem inc_lt {l : List Mark} (hi : l.Pairwise inc) {x : Int} (hx : 1 ≤ x) (p : Int) (k : ByteArray) : lastSeq l p k < x ↔ ∀ m ∈ l, nm m p k → m.seq < x := by
  constructor
  · intro h m hm hn
    have := inc_le hi hm hn
    omega
  · intro h
    rcases lastSeq_cases l p k with ⟨h1, -⟩ | ⟨m, h1, h2, h3⟩
    · omega
    · rw [h3]; exact h m h1 h2
/-- No two of one name. -/
def apart (a b : Mark) : Prop := ¬ nm a b.pub b.key
theorem apart_inc {l : List Mark} (h : l.Pairwise apart) : l.Pairwise inc := h.imp fun {a b} h e1 e2 => absurd ⟨e1, e2⟩ h
theorem apart_seq {l : List Mark} (h : l.Pairwise apart) {m : Mark} (hm : m ∈ l) : lastSeq l m.pub m.key = m.seq := by
  rcases lastSeq_cases l m.pub m.key with ⟨-, h2⟩ | ⟨m', h1, h2, h3⟩
  · exact absurd ⟨rfl, rfl⟩ (h2 m hm)
  · rw [h3]
    obtain ⟨i, hi, rfl⟩ := List.getElem_of_mem hm
    obtain ⟨j, hj, rfl⟩ := List.getElem_of_mem h1
    have hp := List.pairwise_iff_getElem.1 h
    rcases Nat.lt_trichotomy i j with h | h | h
    · exact absurd ⟨h2.1.symm, h2.2.symm⟩ (hp i j hi hj h)
    · subst h; rfl
    · exact absurd h2 (hp j i hj hi h)

theorem pos_seq {l : List Mark} (h : ∀ m ∈ l, mayMsg (markMsg m) = true) (p : Int) (k : ByteArray) : ¬ lastSeq l p k > 0 ↔ ∀ m ∈ l, ¬ nm m p k := by
  rcases lastSeq_cases l p k with ⟨h1, h2⟩ | ⟨m, h1, h2, h3⟩
  · exact ⟨fun _ => h2, fun _ => by omega⟩
  · have := mayMsg_le (h m h1)
    have e : (markMsg m).seq = m.seq := rfl
    exact ⟨fun h => by omega, fun h => absurd h2 (h m h1)⟩

theorem marks_iff (l : List Mark) : marksTo l l.length = true ↔ (∀ m ∈ l, mayMsg (markMsg m) = true) ∧ l.Pairwise apart := by
  have key : ∀ n, n ≤ l.length → (marksTo l n = true ↔ (∀ m ∈ l.take n, mayMsg (markMsg m) = true) ∧ (l.take n).Pairwise apart) := by
    intro n
    induction n with
    | zero => intro _; simp [marksTo]
    | succ n ih =>
      intro hn
      have hlt : n < l.length := by omega
      rw [marksTo_succ, Bool.and_eq_true, ih (by omega), List.take_add_one, List.getElem?_eq_getElem hlt]
      simp only [Option.toList_some, List.pairwise_append, List.mem_append, List.mem_singleton, marksE, Bool.and_eq_true, Bool.not_eq_true', decide_eq_false_iff_not, getD_get hlt]
      constructor
      · rintro ⟨⟨h1, h2⟩, h3, h4⟩
        rw [pos_seq h1] at h4
        exact ⟨fun m hm => hm.elim (h1 m) fun e => e ▸ h3, h2, by simp, fun a ha b hb => by subst hb; exact h4 a ha⟩
      · rintro ⟨h1, h2, -, h4⟩
        have h1' : ∀ m ∈ l.take n, mayMsg (markMsg m) = true := fun m hm => h1 m (.inl hm)
        exact ⟨⟨h1', h2⟩, h1 _ (.inr rfl), (pos_seq h1' _ _).2 fun m hm => h4 m hm _ rfl⟩
  have := key l.length (Nat.le_refl _)
  rwa [List.take_length] at this

/-- 12.1, in words. -/
structure May (s : Shard) : Prop where
  marks : ∀ m ∈ s.marks, mayMsg (markMsg m) = true
  apart : s.marks.Pairwise apart
  few : s.marks.length ≤ 64
  next : 1 ≤ s.next ∧ s.next ≤ 1073741824
  all : s.ready.length + s.held.length ≤ 48
  held : ∀ h ∈ s.held, 1 ≤ h.tag ∧ h.tag < s.next ∧ mayMsg h.m = true ∧ h.m.seq ≤ lastSeq s.marks h.m.pub h.m.key
  tags : s.held.Pairwise fun a b => a.tag < b.tag
  keys : s.held.Pairwise fun a b => a.m.key ≠ b.m.key
  ready : ∀ m ∈ s.ready, mayMsg m = true ∧ m.seq ≤ lastSeq s.marks m.pub m.key
  inc : (heldMarks s.held ++ s.ready.map Msg.mark).Pairwise inc

theorem hasKey_iff (l : List Held) (k : ByteArray) : hasKey l k = false ↔ ∀ h ∈ l, h.m.key ≠ k := by
  simp [hasKey]

theorem held_iff (s : Shard) : heldTo s s.held.length = true ↔ (∀ h ∈ s.held, 1 ≤ h.tag ∧ h.tag < s.next ∧ mayMsg h.m = true ∧ h.m.seq ≤ lastSeq s.marks h.m.pub h.m.key) ∧ (s.held.Pairwise fun a b => a.tag < b.tag) ∧ (s.held.Pairwise fun a b => a.m.key ≠ b.m.key) := by
  have key : ∀ n, n ≤ s.held.length → (heldTo s n = true ↔ (∀ h ∈ s.held.take n, 1 ≤ h.tag ∧ h.tag < s.next ∧ mayMsg h.m = true ∧ h.m.seq ≤ lastSeq s.marks h.m.pub h.m.key) ∧ ((s.held.take n).Pairwise fun a b => a.tag < b.tag) ∧ ((s.held.take n).Pairwise fun a b => a.m.key ≠ b.m.key)) := by
    intro n
    induction n with
    | zero => intro _; simp [heldTo]
    | succ n ih =>
      intro hn
      have hlt : n < s.held.length := by omega
      rw [heldTo_succ, Bool.and_eq_true, ih (by omega), List.take_add_one, List.getElem?_eq_getElem hlt]
      simp only [Option.toList_some, List.pairwise_append, List.mem_append, List.mem_singleton, heldE, Bool.and_eq_true, Bool.not_eq_true', Bool.or_eq_false_iff, decide_eq_false_iff_not, Bool.not_eq_false', getD_get hlt, hasKey_iff]
      have htag : (∀ h ∈ s.held.take n, 1 ≤ h.tag) → ((s.held.take n).Pairwise fun a b => a.tag < b.tag) → (¬ s.held[n].tag ≤ tagTo s.held n ↔ 1 ≤ s.held[n].tag ∧ ∀ h ∈ s.held.take n, h.tag < s.held[n].tag) := by
        intro h1 h2
        unfold tagTo
        by_cases h0 : n = 0
        · subst h0; simp; omega
        · rw [if_neg h0, getD_get (by omega)]
          have hm := take_mem (l := s.held) (j := n - 1) (k := n) (by omega) (by omega)
          constructor
          · intro h
            have h4 := h1 _ hm
            refine ⟨by omega, fun x hx => ?_⟩
            obtain ⟨j, hj, hjn, rfl⟩ := mem_take hx
            rcases Nat.lt_or_ge j (n - 1) with hj' | hj'
            · have := List.pairwise_iff_getElem.1 h2 j (n - 1) (by rw [List.length_take]; omega) (by rw [List.length_take]; omega) hj'
              simp only [List.getElem_take] at this
              omega
            · have e : j = n - 1 := by omega
              subst e; omega
          · rintro ⟨h, h'⟩
            have := h' _ hm
            omega
      constructor
      · rintro ⟨⟨h1, h2, h3⟩, ⟨⟨⟨h4, h5⟩, h6⟩, h7⟩, h8⟩
        obtain ⟨h9, h10⟩ := (htag (fun h hh => (h1 h hh).1) h2).1 h4
        exact ⟨fun h hh => hh.elim (h1 h) fun e => by subst e; exact ⟨h9, by omega, h7, by omega⟩, ⟨h2, by simp, fun a ha b hb => by subst hb; exact h10 a ha⟩, h3, by simp, fun a ha b hb => by subst hb; exact h6 a ha⟩
      · rintro ⟨h1, ⟨h2, -, h3⟩, h4, -, h5⟩
        have h6 := h1 _ (.inr rfl)
        exact ⟨⟨fun h hh => h1 h (.inl hh), h2, h4⟩, ⟨⟨⟨(htag (fun h hh => (h1 h (.inl hh)).1) h2).2 ⟨h6.1, fun h hh => h3 h hh _ rfl⟩, by omega⟩, fun h hh => h5 h hh _ rfl⟩, h6.2.2.1⟩, by omega⟩
  have := key s.held.length (Nat.le_refl _)
  rwa [List.take_length] at this

theorem ready_iff (s : Shard) (hh : (heldMarks s.held).Pairwise inc) : readyTo s s.ready.length = true ↔ (∀ m ∈ s.ready, mayMsg m = true ∧ m.seq ≤ lastSeq s.marks m.pub m.key) ∧ (heldMarks s.held ++ s.ready.map Msg.mark).Pairwise inc := by
  have key : ∀ n, n ≤ s.ready.length → (readyTo s n = true ↔ (∀ m ∈ s.ready.take n, mayMsg m = true ∧ m.seq ≤ lastSeq s.marks m.pub m.key) ∧ (heldMarks s.held ++ (s.ready.take n).map Msg.mark).Pairwise inc) := by
    intro n
    induction n with
    | zero => intro _; simp [readyTo, hh]
    | succ n ih =>
      intro hn
      have hlt : n < s.ready.length := by omega
      rw [readyTo_succ, Bool.and_eq_true, ih (by omega), List.take_add_one, List.getElem?_eq_getElem hlt]
      simp only [Option.toList_some, List.map_append, List.map_cons, List.map_nil, ← List.append_assoc]
      rw [List.pairwise_append (l₂ := [Msg.mark s.ready[n]])]
      simp only [List.mem_append, List.mem_singleton, readyE, Bool.and_eq_true, Bool.not_eq_true', Bool.or_eq_false_iff, decide_eq_false_iff_not, Bool.not_eq_false', getD_get hlt]
      constructor
      · rintro ⟨⟨h1, h2⟩, ⟨h3, h4⟩, h5⟩
        have hx := mayMsg_le h3
        have h6 := (inc_lt h2 hx.1 s.ready[n].pub s.ready[n].key).1 (by omega)
        exact ⟨fun m hm => hm.elim (h1 m) fun e => by subst e; exact ⟨h3, by omega⟩, h2, by simp, fun a ha b hb e1 e2 => by subst hb; exact h6 a (List.mem_append.2 ha) ⟨e1, e2⟩⟩
      · rintro ⟨h1, h2, -, h3⟩
        have h4 := h1 _ (.inr rfl)
        have hx := mayMsg_le h4.1
        have h6 := (inc_lt h2 hx.1 s.ready[n].pub s.ready[n].key).2 fun m hm hn => h3 m (List.mem_append.1 hm) _ rfl hn.1 hn.2
        exact ⟨⟨fun m hm => h1 m (.inl hm), h2⟩, ⟨h4.1, by omega⟩, by omega⟩
  have := key s.ready.length (Nat.le_refl _)
  rwa [List.take_length] at this

theorem heldMarks_apart {l : List Held} (h : l.Pairwise fun a b => a.m.key ≠ b.m.key) : (heldMarks l).Pairwise apart := by
  unfold heldMarks
  rw [List.pairwise_map]
  exact h.imp fun {a b} h e => h e.2

theorem may_iff (s : Shard) : mayShard s = true ↔ May s := by
  unfold mayShard
  simp only [Bool.and_eq_true, decide_eq_true_eq, Bool.not_eq_true', Bool.or_eq_false_iff, decide_eq_false_iff_not, marks_iff, held_iff]
  constructor
  · rintro ⟨⟨⟨⟨⟨h1, h2⟩, h3⟩, ⟨⟨h4, h5⟩, h6⟩⟩, h7, h8, h9⟩, h10⟩
    rw [ready_iff s (apart_inc (heldMarks_apart h9))] at h10
    exact ⟨h1, h2, by omega, by omega, by omega, h7, h8, h9, h10.1, h10.2⟩
  · rintro ⟨h1, h2, h3, h4, h5, h7, h8, h9, h10, h11⟩
    exact ⟨⟨⟨⟨⟨h1, h2⟩, by omega⟩, ⟨⟨by omega, by omega⟩, by omega⟩⟩, h7, h8, h9⟩, (ready_iff s (apart_inc (heldMarks_apart h9))).2 ⟨h10, h11⟩⟩

end Go.Proofs.Ytlbbcjlhnjnkeaa

/- What the shard's calls keep. -/
namespace Go.Proofs.Ytlbbcjlhnjnkeaa
set_option linter.unusedVariables false
set_option linter.unusedSimpArgs false
set_option maxHeartbeats 8000000
open Go.RowKit

theorem markAt_cases (l : List Mark) (p : Int) (k : ByteArray) : (markAt l p k = -1 ∧ ∀ m ∈ l, ¬ nm m p k) ∨ ∃ i, ∃ hi : i < l.length, markAt l p k = i ∧ nm l[i] p k := by
  unfold markAt
  rcases pidx_cases (fun i => let m := l.getD i default; m.pub == p && m.key == k) l.length with ⟨h, hno⟩ | ⟨i, hi, hp, -, h⟩
  · refine .inl ⟨h, fun m hm hn => ?_⟩
    obtain ⟨j, hj, rfl⟩ := List.getElem_of_mem hm
    have := hno j hj
    simp only [getD_get hj] at this
    rw [(nm_b _ _ _).2 hn] at this
    cases this
  · refine .inr ⟨i, hi, h, ?_⟩
    simp only [getD_get hi] at hp
    exact (nm_b _ _ _).1 hp
theorem last_none {l : List Mark} {p : Int} {k : ByteArray} (h : ∀ m ∈ l, ¬ nm m p k) : lastSeq l p k = 0 := by
  rcases lastSeq_cases l p k with ⟨h1, -⟩ | ⟨m, h1, h2, -⟩
  · exact h1
  · exact absurd h2 (h m h1)
theorem last_mem {l : List Mark} (ha : l.Pairwise apart) {m : Mark} (hm : m ∈ l) {p : Int} {k : ByteArray} (hn : nm m p k) : lastSeq l p k = m.seq := by
  rw [← hn.1, ← hn.2]; exact apart_seq ha hm
theorem lastOf_eq {l : List Mark} (ha : l.Pairwise apart) (p : Int) (k : ByteArray) : lastOf l p k = lastSeq l p k := by
  unfold lastOf
  rcases markAt_cases l p k with ⟨h, hno⟩ | ⟨i, hi, h, hn⟩
  · rw [h, if_pos (by decide), last_none hno]
  · rw [h, if_neg (by omega), Int.toNat_natCast, getD_get hi, last_mem ha (List.getElem_mem hi) hn]

/-- The marks behind a batch. -/
def putM (l : List Mark) (x : Mark) : List Mark := if markAt l x.pub x.key ≥ 0 then l.modify (markAt l x.pub x.key).toNat (fun m => { m with seq := x.seq }) else l ++ [x]
theorem putM_cases (l : List Mark) (x : Mark) : ((∀ m ∈ l, ¬ nm m x.pub x.key) ∧ markAt l x.pub x.key = -1 ∧ putM l x = l ++ [x]) ∨ ∃ i, ∃ hi : i < l.length, nm l[i] x.pub x.key ∧ markAt l x.pub x.key = i ∧ putM l x = l.set i x := by
  unfold putM
  rcases markAt_cases l x.pub x.key with ⟨h, hno⟩ | ⟨i, hi, h, hn⟩
  · exact .inl ⟨hno, h, by rw [h, if_neg (by decide)]⟩
  · refine .inr ⟨i, hi, hn, h, ?_⟩
    rw [h, if_pos (by omega), Int.toNat_natCast]
    apply List.ext_getElem?
    intro j
    rw [List.getElem?_modify, List.getElem?_set]
    by_cases e : i = j
    · subst e
      obtain ⟨n1, n2⟩ := hn
      simp [hi, n1, n2]
    · rw [if_neg e]; cases l[j]? <;> simp [e]
theorem putM_apart {l : List Mark} (ha : l.Pairwise apart) (x : Mark) : (putM l x).Pairwise apart := by
  rcases putM_cases l x with ⟨hno, -, e⟩ | ⟨i, hi, hn, -, e⟩
  · rw [e, List.pairwise_append]
    exact ⟨ha, by simp, fun a h b hb => by rw [List.mem_singleton.1 hb]; exact hno a h⟩
  · rw [e, List.pairwise_iff_getElem]
    intro a b h1 h2 hab
    have h := List.pairwise_iff_getElem.1 ha
    simp only [List.length_set] at h1 h2
    rw [List.getElem_set, List.getElem_set]
    split
    · rename_i e1; subst e1
      rw [if_neg (by omega)]
      exact fun h' => h i b h1 h2 hab ⟨hn.1.trans h'.1, hn.2.trans h'.2⟩
    · split
      · rename_i e2; subst e2
        exact fun h' => h a i h1 h2 hab ⟨h'.1.trans hn.1.symm, h'.2.trans hn.2.symm⟩
      · exact h a b h1 h2 hab
theorem putM_mem {l : List Mark} {x m : Mark} (h : m ∈ putM l x) : m ∈ l ∨ m = x := by
  rcases putM_cases l x with ⟨-, -, e⟩ | ⟨i, hi, -, -, e⟩
  · rw [e] at h; simpa using h
  · rw [e] at h; exact (List.mem_or_eq_of_mem_set h)
theorem putM_last {l : List Mark} (ha : l.Pairwise apart) (x : Mark) (p : Int) (k : ByteArray) : lastSeq (putM l x) p k = if nm x p k then x.seq else lastSeq l p k := by
  rcases putM_cases l x with ⟨hno, -, e⟩ | ⟨i, hi, hn, -, e⟩
  · rw [e, lastSeq_snoc]
  · have hp := putM_apart ha x
    rw [e] at hp ⊢
    split
    · rename_i h
      exact last_mem hp (List.mem_set hi x) h
    · rename_i h
      rcases lastSeq_cases l p k with ⟨h1, h2⟩ | ⟨m, h1, h2, h3⟩
      · rw [h1]
        refine last_none fun m hm => ?_
        rcases List.mem_or_eq_of_mem_set hm with h3 | h3
        · exact h2 m h3
        · rw [h3]; exact h
      · rw [h3]
        obtain ⟨j, hj, rfl⟩ := List.getElem_of_mem h1
        refine last_mem hp ?_ h2
        rw [List.mem_iff_getElem]
        refine ⟨j, by simpa using hj, ?_⟩
        rw [List.getElem_set, if_neg]
        rintro rfl
        exact h ⟨hn.1.symm.trans h2.1, hn.2.symm.trans h2.2⟩
theorem putM_len (l : List Mark) (x : Mark) : (putM l x).length = l.length + (if markAt l x.pub x.key < 0 then 1 else 0) := by
  rcases putM_cases l x with ⟨-, h, e⟩ | ⟨i, hi, -, h, e⟩
  · rw [e, h, if_pos (by decide)]; simp
  · rw [e, h, if_neg (by omega)]; simp

/-- A batch: one publisher, one key, numbers in a row. -/
theorem row_seq {l : List Msg} (h : mayRow l = true) : ∀ i (hi : i < l.length), mayMsg l[i] = true ∧ l[i].again = false ∧ l[i].pub = (l.getD 0 default).pub ∧ l[i].key = (l.getD 0 default).key ∧ l[i].seq = (l.getD 0 default).seq + i := by
  have hr := (Bool.and_eq_true_iff.1 h).2
  intro i
  induction i with
  | zero =>
    intro hi
    have := rowTo_at hr hi
    rw [getD_get hi] at this ⊢
    exact ⟨this.1, this.2.1, rfl, rfl, by simp⟩
  | succ i ih =>
    intro hi
    have h1 := ih (by omega)
    have h2 := rowTo_at hr hi
    rw [getD_get hi] at h2
    obtain ⟨g1, g2, g3, g4⟩ := h2
    simp only [Bool.and_eq_true, beq_iff_eq] at g3
    simp only [Nat.add_sub_cancel, getD_get (show i < l.length by omega), Bool.or_eq_true, beq_iff_eq] at g4
    refine ⟨g1, g2, g3.1, g3.2, ?_⟩
    have := g4.resolve_left (by omega)
    omega
theorem row_len {l : List Msg} (h : mayRow l = true) : 1 ≤ l.length ∧ l.length ≤ 8 := by
  have := (Bool.and_eq_true_iff.1 h).1
  simp only [Bool.not_eq_true', Bool.or_eq_false_iff, decide_eq_false_iff_not] at this
  omega
def lastMsg (l : List Msg) : Msg := l.getD ((l.length : Int) - 1).toNat default
theorem lastMsg_eq {l : List Msg} (h : mayRow l = true) : mayMsg (lastMsg l) = true ∧ (lastMsg l).pub = (l.getD 0 default).pub ∧ (lastMsg l).key = (l.getD 0 default).key ∧ (lastMsg l).seq = (l.getD 0 default).seq + l.length - 1 := by
  have hl := row_len h
  have e : ((l.length : Int) - 1).toNat = l.length - 1 := by omega
  obtain ⟨g1, g2, g3, g4, g5⟩ := row_seq h (l.length - 1) (by omega)
  unfold lastMsg
  rw [e, getD_get (show l.length - 1 < l.length by omega)]
  exact ⟨g1, g3, g4, by omega⟩

structure PutOk (s : Shard) (l : List Msg) : Prop where
  may : mayShard s = true
  row : mayRow l = true
  new : lastOf s.marks (l.getD 0 default).pub (l.getD 0 default).key < (l.getD 0 default).seq
  open' : s.frozen = false
  all : s.ready.length + s.held.length + l.length ≤ 48
  few : ¬ (markAt s.marks (l.getD 0 default).pub (l.getD 0 default).key < 0 ∧ s.marks.length = 64)
theorem putE_zero {s : Shard} {l : List Msg} (h : putE s l = 0) : PutOk s l := by
  unfold putE at h
  dsimp only at h
  split at h
  · cases h
  split at h
  · cases h
  split at h
  · cases h
  split at h
  · cases h
  split at h
  · cases h
  rename_i h1 h2 h3 h4 h5
  simp only [Bool.or_eq_true, Bool.not_eq_true', not_or, Bool.not_eq_false] at h1
  simp only [decide_eq_true_eq] at h2 h3
  simp only [Bool.or_eq_true, decide_eq_true_eq, Bool.and_eq_true, beq_iff_eq, not_or] at h5
  exact ⟨h1.1, h1.2, by omega, by simpa using h4, by omega, by omega⟩

theorem putS_marks {s : Shard} {l : List Msg} (h : mayRow l = true) : (putS s l).marks = putM s.marks ⟨(lastMsg l).pub, (lastMsg l).key, (lastMsg l).seq⟩ := by
  have he := lastMsg_eq h
  unfold putS putM
  dsimp only
  rw [he.2.1, he.2.2.1]
  split <;> simp only [lastMsg] at he ⊢
  rw [he.2.1, he.2.2.1]

theorem may_put {s : Shard} {l : List Msg} (h : PutOk s l) : May (putS s l) := by
  have m := (may_iff s).1 h.may
  have hs := row_seq h.row
  have hl := row_len h.row
  obtain ⟨e1, e2, e3, e4⟩ := lastMsg_eq h.row
  have hnew := h.new
  rw [lastOf_eq m.apart] at hnew
  have hm := putS_marks (s := s) h.row
  have hlast : ∀ p k, lastSeq (putS s l).marks p k = if nm ⟨(lastMsg l).pub, (lastMsg l).key, (lastMsg l).seq⟩ p k then (lastMsg l).seq else lastSeq s.marks p k := fun p k => by rw [hm, putM_last m.apart]
  have hge : ∀ p k, lastSeq s.marks p k ≤ lastSeq (putS s l).marks p k := fun p k => by
    rw [hlast]
    split
    · rename_i hn
      rw [← hn.1, ← hn.2]
      simp only [e2, e3]
      omega
    · exact Int.le_refl _
  refine ⟨fun x hx => ?_, ?_, ?_, m.next, ?_, fun x hx => ?_, m.tags, m.keys, fun x hx => ?_, ?_⟩
  · rw [hm] at hx
    rcases putM_mem hx with hx | rfl
    · exact m.marks x hx
    · unfold mayMsg at e1 ⊢
      simp only [Bool.and_eq_true] at e1 ⊢
      exact ⟨e1.1, rfl⟩
  · rw [hm]; exact putM_apart m.apart _
  · rw [hm, putM_len]
    have := h.few
    have := m.few
    simp only [e2, e3]
    split <;> omega
  · have := h.all
    simp only [putS, List.length_append]
    omega
  · have := m.held x hx
    exact ⟨this.1, this.2.1, this.2.2.1, Int.le_trans this.2.2.2 (hge _ _)⟩
  · simp only [putS, List.mem_append] at hx
    rcases hx with hx | hx
    · have := m.ready x hx
      exact ⟨this.1, Int.le_trans this.2 (hge _ _)⟩
    · obtain ⟨i, hi, rfl⟩ := List.getElem_of_mem hx
      obtain ⟨g1, g2, g3, g4, g5⟩ := hs i hi
      refine ⟨g1, ?_⟩
      rw [hlast, if_pos ⟨e2.trans g3.symm, e3.trans g4.symm⟩]
      omega
  · show (heldMarks s.held ++ (s.ready ++ l).map Msg.mark).Pairwise inc
    rw [List.map_append, ← List.append_assoc, List.pairwise_append]
    refine ⟨m.inc, ?_, fun a ha b hb p1 p2 => ?_⟩
    · rw [List.pairwise_map, List.pairwise_iff_getElem]
      intro i j hi hj hij _ _
      have := (hs i hi).2.2.2.2
      have := (hs j hj).2.2.2.2
      simp only [Msg.mark]
      omega
    · obtain ⟨b', hb', rfl⟩ := List.mem_map.1 hb
      obtain ⟨i, hi, rfl⟩ := List.getElem_of_mem hb'
      obtain ⟨g1, g2, g3, g4, g5⟩ := hs i hi
      have hle : a.seq ≤ lastSeq s.marks a.pub a.key := by
        rcases List.mem_append.1 ha with ha | ha
        · obtain ⟨x, hx, rfl⟩ := List.mem_map.1 ha
          exact (m.held x hx).2.2.2
        · obtain ⟨x, hx, rfl⟩ := List.mem_map.1 ha
          exact (m.ready x hx).2
      simp only [Msg.mark] at p1 p2 ⊢
      rw [p1, p2, g3, g4] at hle
      omega

theorem freeAt_free {s : Shard} (h : freeAt s ≠ -1) : ∃ k, ∃ hk : k < s.ready.length, freeAt s = k ∧ hasKey s.held s.ready[k].key = false ∧ ∀ j (hj : j < k), hasKey s.held (s.ready[j]'(by omega)).key = true := by
  obtain ⟨h1, h2, h3, h4⟩ := pidx_at h
  refine ⟨(freeAt s).toNat, h1, h3, ?_, fun j hj => ?_⟩
  · have h2' : (!hasKey s.held (s.ready.getD (freeAt s).toNat default).key) = true := h2
    rw [getD_get (i := (freeAt s).toNat) h1] at h2'
    simpa only [Bool.not_eq_true'] using h2'
  · have h4' : (!hasKey s.held (s.ready.getD j default).key) = false := h4 j hj
    rw [getD_get (show j < s.ready.length from Nat.lt_trans hj h1)] at h4'
    simpa only [Bool.not_eq_false'] using h4'

theorem may_get {s : Shard} (h : getE s = 0) : May (getS s) := by
  obtain ⟨hm, hf, hfree, hn⟩ := getE_zero h
  have m := (may_iff s).1 hm
  obtain ⟨k, hk, ek, hun, hlk⟩ := freeAt_free hfree
  have hg : getS s = { s with ready := s.ready.eraseIdx k, held := s.held ++ [⟨s.next, s.ready[k]⟩], next := s.next + 1 } := by
    unfold getS getH; rw [ek, Int.toNat_natCast, getD_get hk]
  have hkm := m.ready _ (List.getElem_mem hk)
  rw [hg]
  refine ⟨m.marks, m.apart, m.few, ⟨by have := m.next; show 1 ≤ s.next + 1; omega, by have := m.next; show s.next + 1 ≤ _; omega⟩, ?_, fun x hx => ?_, ?_, ?_, fun x hx => m.ready x (List.mem_of_mem_eraseIdx hx), ?_⟩
  · have := m.all
    simp only [List.length_eraseIdx, if_pos hk, List.length_append, List.length_singleton]
    omega
  · rcases List.mem_append.1 hx with hx | hx
    · have := m.held x hx
      exact ⟨this.1, by show x.tag < s.next + 1; omega, this.2.2.1, this.2.2.2⟩
    · rw [List.mem_singleton.1 hx]
      have := m.next
      exact ⟨this.1, by show s.next < s.next + 1; omega, hkm.1, hkm.2⟩
  · rw [List.pairwise_append]
    exact ⟨m.tags, by simp, fun a ha b hb => by rw [List.mem_singleton.1 hb]; exact (m.held a ha).2.1⟩
  · rw [List.pairwise_append]
    exact ⟨m.keys, by simp, fun a ha b hb => by rw [List.mem_singleton.1 hb]; exact (hasKey_iff _ _).1 hun a ha⟩
  · show (heldMarks (s.held ++ [⟨s.next, s.ready[k]⟩]) ++ (s.ready.eraseIdx k).map Msg.mark).Pairwise inc
    have hi := m.inc
    have er : s.ready = s.ready.take k ++ s.ready[k] :: s.ready.drop (k + 1) := by rw [← List.drop_eq_getElem_cons hk, List.take_append_drop]
    rw [List.eraseIdx_eq_take_drop_succ]
    rw [er] at hi
    simp only [heldMarks, List.map_append, List.map_cons, List.map_nil] at hi ⊢
    rw [List.pairwise_append] at hi ⊢
    obtain ⟨i1, i2, i3⟩ := hi
    rw [List.pairwise_append, List.pairwise_cons] at i2
    obtain ⟨i4, ⟨i5, i6⟩, i7⟩ := i2
    refine ⟨?_, ?_, fun a ha b hb => ?_⟩
    · rw [List.pairwise_append]
      exact ⟨i1, by simp, fun a ha b hb => by rw [List.mem_singleton.1 hb]; exact i3 a ha s.ready[k].mark (List.mem_append.2 (.inr (List.mem_cons_self ..)))⟩
    · rw [List.pairwise_append]
      exact ⟨i4, i6, fun a ha b hb => i7 a ha b (List.mem_cons_of_mem _ hb)⟩
    · rcases List.mem_append.1 ha with ha | ha
      · refine i3 a ha b ?_
        rcases List.mem_append.1 hb with hb | hb
        · exact List.mem_append.2 (.inl hb)
        · exact List.mem_append.2 (.inr (List.mem_cons_of_mem _ hb))
      · rw [List.mem_singleton.1 ha]
        rcases List.mem_append.1 hb with hb | hb
        · obtain ⟨x, hx, rfl⟩ := List.mem_map.1 hb
          obtain ⟨j, hj, hjk, rfl⟩ := mem_take hx
          intro _ e2
          have h1 := hlk j hjk
          have e3 : s.ready[j].key = s.ready[k].key := e2.symm
          rw [e3, hun] at h1
          cases h1
        · exact i5 b hb

theorem may_erase {s : Shard} (m : May s) (k : Nat) : May { s with held := s.held.eraseIdx k } := by
  have hsub := List.eraseIdx_sublist s.held k
  refine ⟨m.marks, m.apart, m.few, m.next, ?_, fun x hx => m.held x (hsub.subset hx), m.tags.sublist hsub, m.keys.sublist hsub, m.ready, m.inc.sublist ?_⟩
  · have := m.all
    have := hsub.length_le
    show s.ready.length + (s.held.eraseIdx k).length ≤ 48
    omega
  · exact (hsub.map _).append (List.Sublist.refl _)

theorem may_ack {s : Shard} {tag : Int} (h : settleE s tag = 0) : May (ackS s tag).1 := by
  rw [ackS, if_pos h]
  exact may_erase ((may_iff s).1 (settle_lt h).1) _

theorem may_nack {s : Shard} {tag : Int} (h : settleE s tag = 0) : May (nackS s tag).1 := by
  rw [nackS, if_pos h]
  obtain ⟨h1, h2, h3⟩ := settle_lt h
  have m := (may_iff s).1 h1
  generalize (heldAt s.held tag).toNat = k at h3
  have e := may_erase m k
  rw [getD_get h3]
  have hk := m.held _ (List.getElem_mem h3)
  have eh : s.held = s.held.take k ++ s.held[k] :: s.held.drop (k + 1) := by rw [← List.drop_eq_getElem_cons h3, List.take_append_drop]
  refine ⟨m.marks, m.apart, m.few, m.next, ?_, e.held, e.tags, e.keys, fun x hx => ?_, ?_⟩
  · have := m.all
    simp only [List.length_eraseIdx, if_pos h3, List.length_cons]
    omega
  · rcases List.mem_cons.1 hx with rfl | hx
    · exact ⟨hk.2.2.1, hk.2.2.2⟩
    · exact m.ready x hx
  · show (heldMarks (s.held.eraseIdx k) ++ ((s.held[k]).m.back :: s.ready).map Msg.mark).Pairwise inc
    have hi := m.inc
    have hkeys := heldMarks_apart m.keys
    rw [List.eraseIdx_eq_take_drop_succ]
    rw [eh] at hi hkeys
    simp only [heldMarks, List.map_append, List.map_cons] at hi hkeys ⊢
    rw [List.pairwise_append] at hi hkeys ⊢
    obtain ⟨i1, i2, i3⟩ := hi
    obtain ⟨k1, k2, k3⟩ := hkeys
    rw [List.pairwise_append, List.pairwise_cons] at i1
    rw [List.pairwise_cons] at k2
    obtain ⟨i4, ⟨i5, i6⟩, i7⟩ := i1
    refine ⟨?_, ?_, fun a ha b hb => ?_⟩
    · rw [List.pairwise_append]
      exact ⟨i4, i6, fun a ha b hb => i7 a ha b (List.mem_cons_of_mem _ hb)⟩
    · rw [List.pairwise_cons]
      exact ⟨fun b hb => i3 s.held[k].m.mark (List.mem_append.2 (.inr (List.mem_cons_self ..))) b hb, i2⟩
    · have hin : a ∈ (s.held.take k).map (fun h => h.m.mark) ++ s.held[k].m.mark :: (s.held.drop (k + 1)).map fun h => h.m.mark := by
        rcases List.mem_append.1 ha with ha | ha
        · exact List.mem_append.2 (.inl ha)
        · exact List.mem_append.2 (.inr (List.mem_cons_of_mem _ ha))
      rcases List.mem_cons.1 hb with rfl | hb
      · intro p1 p2
        exfalso
        rcases List.mem_append.1 ha with ha | ha
        · exact k3 a ha s.held[k].m.mark (List.mem_cons_self ..) ⟨p1, p2⟩
        · exact k2.1 a ha ⟨p1.symm, p2.symm⟩
      · exact i3 a hin b hb

theorem may_frozen {s : Shard} (m : May s) (on : Bool) : May { s with frozen := on } := ⟨m.marks, m.apart, m.few, m.next, m.all, m.held, m.tags, m.keys, m.ready, m.inc⟩
theorem may_new : May ⟨false, 1, [], [], []⟩ := ⟨by simp, by simp, by simp, by simp, by simp, by simp, by simp, by simp, by simp, by simp [heldMarks]⟩

theorem may_putR {s : Shard} (m : May s) (l : List Msg) : May (putR s l).1 := by
  unfold putR; dsimp only; split
  · rename_i h; exact may_put (putE_zero h)
  · exact m
theorem may_getR {s : Shard} (m : May s) : May (getR s).1 := by
  unfold getR; dsimp only; split
  · rename_i h; exact may_get h
  · exact m
theorem may_ackR {s : Shard} (m : May s) (tag : Int) : May (ackS s tag).1 := by
  by_cases h : settleE s tag = 0
  · exact may_ack h
  · rw [ackS, if_neg h]; exact m
theorem may_nackR {s : Shard} (m : May s) (tag : Int) : May (nackS s tag).1 := by
  by_cases h : settleE s tag = 0
  · exact may_nack h
  · rw [nackS, if_neg h]; exact m
theorem may_setR {s : Shard} (m : May s) (on : Bool) : May (setFrozen s on).1 := by
  unfold setFrozen; split
  · exact m
  split
  · exact m
  · exact may_frozen m on
theorem May.fine {s : Shard} (m : May s) : s.fine := ⟨⟨by have := m.all; omega, by have := m.all; omega, fun h hh => mayMsg_key (m.held h hh).2.2.1⟩, fun x hx => mayMsg_key (m.ready x hx).1⟩

end Go.Proofs.Ytlbbcjlhnjnkeaa

/- What Put answers, where the batch is a new one. -/
namespace Go.Proofs.Ytlbbcjlhnjnkeaa
set_option linter.unusedVariables false
set_option linter.unusedSimpArgs false
set_option maxHeartbeats 8000000
open Go.RowKit

theorem markAt_neg {l : List Mark} {p : Int} {k : ByteArray} : markAt l p k < 0 ↔ ∀ m ∈ l, ¬ nm m p k := by
  rcases markAt_cases l p k with ⟨h, hno⟩ | ⟨i, hi, h, hn⟩
  · exact ⟨fun _ => hno, fun _ => by omega⟩
  · exact ⟨fun h' => by omega, fun h' => absurd hn (h' _ (List.getElem_mem hi))⟩

theorem putE_val {s : Shard} {l : List Msg} (m : May s) (hr : mayRow l = true) (hn : lastSeq s.marks (l.getD 0 default).pub (l.getD 0 default).key < (l.getD 0 default).seq) (ho : s.frozen = false) :
    putE s l = if s.ready.length + s.held.length + l.length > 48 ∨ ((∀ m ∈ s.marks, ¬ nm m (l.getD 0 default).pub (l.getD 0 default).key) ∧ s.marks.length = 64) then 4 else 0 := by
  have hl := row_len hr
  obtain ⟨e1, e2, e3, e4⟩ := lastMsg_eq hr
  unfold lastMsg at e4
  unfold putE
  dsimp only
  rw [lastOf_eq m.apart, (may_iff s).2 m, hr, ho]
  rw [if_neg (by simp), if_neg (by simp only [decide_eq_true_eq, ge_iff_le]; omega), if_neg (by simp only [decide_eq_true_eq, ge_iff_le]; omega), if_neg (by simp)]
  congr 1
  simp only [Bool.or_eq_true, decide_eq_true_eq, Bool.and_eq_true, beq_iff_eq, markAt_neg, eq_iff_iff]
  constructor
  · rintro (h | h)
    · exact .inl (by omega)
    · exact .inr ⟨h.1, by omega⟩
  · rintro (h | h)
    · exact .inl (by omega)
    · exact .inr ⟨h.1, by omega⟩

theorem mayRow_one {x : Msg} (h : mayMsg x = true) (ha : x.again = false) : mayRow [x] = true := by
  simp [mayRow, rowTo, rowE, h, ha]

/-- One message of a new name. -/
theorem put_one {s : Shard} {x : Msg} (m : May s) (h : mayMsg x = true) (ha : x.again = false) (ho : s.frozen = false) (hn : lastSeq s.marks x.pub x.key < x.seq) :
    putR s [x] = if s.ready.length + s.held.length + 1 > 48 ∨ ((∀ m ∈ s.marks, ¬ nm m x.pub x.key) ∧ s.marks.length = 64) then (s, 4) else ({ s with ready := s.ready ++ [x], marks := putM s.marks x.mark }, 0) := by
  have hr := mayRow_one h ha
  have hv : putE s [x] = if s.ready.length + s.held.length + 1 > 48 ∨ ((∀ m ∈ s.marks, ¬ nm m x.pub x.key) ∧ s.marks.length = 64) then 4 else 0 := putE_val m hr hn ho
  rw [putR, hv]
  split <;> rfl

theorem putM_new {l : List Mark} {x : Mark} (h : ∀ m ∈ l, ¬ nm m x.pub x.key) : putM l x = l ++ [x] := by
  rcases putM_cases l x with ⟨-, -, e⟩ | ⟨i, hi, hn, -, -⟩
  · exact e
  · exact absurd hn (h _ (List.getElem_mem hi))

end Go.Proofs.Ytlbbcjlhnjnkeaa
