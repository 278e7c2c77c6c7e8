/- Sixteen batches wait, no more; of each queue and key one is on its way at a time. -/
import Derived.Test.YtfdneepgpekmiaaDoorMgE
namespace Go.Proofs.YtfdneepgpekmiaaDoor
set_option linter.unusedVariables false
set_option linter.unusedSimpArgs false
set_option maxHeartbeats 8000000
open Go.RowKit
set_option maxRecDepth 4000

def dN : Int × ByteArray := (0, ByteArray.empty)
def nmO (l : List OutD) : List (Int × ByteArray) := l.map fun o => (o.queue, o.key0)
def firstN (N : List (Int × ByteArray)) (i : Nat) : Bool := (List.range i).all fun j => !(N.getD j dN == N.getD i dN)
def plcN (N : List (Int × ByteArray)) (k : Nat) : List Nat := (List.range k).filter (firstN N)
theorem nmO_at (l : List OutD) (i : Nat) : (nmO l).getD i dN = ((l.getD i default).queue, (l.getD i default).key0) := by
  unfold nmO
  rw [List.getD_eq_getElem?_getD, List.getElem?_map, List.getD_eq_getElem?_getD]
  cases l[i]? <;> rfl
theorem plcL_nm (l : List OutD) (k : Nat) : plcL l k = plcN (nmO l) k := by
  unfold plcL plcN
  congr 1
  funext i
  unfold firstB firstN
  congr 1
  funext j
  rw [nmO_at, nmO_at]
  rfl
def namesF (m k : Nat) : List (Int × ByteArray) := (List.range k).map fun j : Nat => (((j % 2 : Nat) : Int), keyN ((j % m : Nat) : Int))
def nm2 (m k : Nat) : List (Int × ByteArray) := (plcN (namesF m k) k).map fun i => (namesF m k).getD i dN
theorem full1 : ∀ m, m < 4 → 0 < m → ∀ k, k < 17 → 0 < k → 1 ≤ (nm2 m k).length ∧ (nm2 m k).length ≤ 2 * m := by decide +kernel
theorem full2b : ((List.range 4).all fun m => (List.range 17).all fun k => (List.range (nm2 m k).length).all fun i => (List.range i).all fun j => !((nm2 m k).getD i dN == (nm2 m k).getD j dN)) = true := by decide +kernel
theorem full2 : ∀ m, m < 4 → 0 < m → ∀ k, k < 17 → ∀ i, i < (nm2 m k).length → ∀ j, j < i → (nm2 m k).getD i dN ≠ (nm2 m k).getD j dN := by
  intro m hm _ k hk i hi j hj
  have h1 := List.all_eq_true.1 full2b m (List.mem_range.2 hm)
  have h2 := List.all_eq_true.1 h1 k (List.mem_range.2 hk)
  have h3 := List.all_eq_true.1 h2 i (List.mem_range.2 hi)
  have h4 := List.all_eq_true.1 h3 j (List.mem_range.2 hj)
  intro e
  rw [e] at h4
  simp at h4
theorem kE3 : ∀ j : Nat, j < 3 → kE (j : Int) = j ∧ (keyN (j : Int)).size = 1 := by
  intro j hj
  have : j = 0 ∨ j = 1 ∨ j = 2 := by omega
  rcases this with rfl | rfl | rfl <;> decide +kernel

structure FInv (m i : Nat) (A : AuD) : Prop where
  ok : AuOk A
  pub : A.pub = 0
  seq : ∀ q k, lastSeq A.seqs q k ≤ 8 * (i : Int)
  nm : nmO A.l = namesF m (min i 16)
theorem FInv.len {m i : Nat} {A : AuD} (h : FInv m i A) : A.l.length = min i 16 := by
  have := congrArg List.length h.nm
  simpa [nmO, namesF] using this
theorem FInv.pubE {m i : Nat} {A : AuD} (h : FInv m i A) (hm : m < 4) (hm0 : 0 < m) (hi : i < 20) : pubE A ((i % 2 : Nat) : Int) (keyN ((i % m : Nat) : Int)) bB 1 = if i < 16 then 0 else 4 := by
  have hj : i % m < 3 := by have := Nat.mod_lt i hm0; omega
  obtain ⟨-, ks⟩ := kE3 (i % m) hj
  have hs := h.ok.seq ((i % 2 : Nat) : Int) (keyN ((i % m : Nat) : Int))
  have hlen := h.len
  have ha : argA ((i % 2 : Nat) : Int) 1 = false := by
    unfold argA
    simp only [Bool.or_eq_false_iff, decide_eq_false_iff_not]
    omega
  have hb : bB.size = 1 := rfl
  have hall : (List.range (1 : Int).toNat).all (fun j => mayMsg (msgA A ((i % 2 : Nat) : Int) (keyN ((i % m : Nat) : Int)) bB 1 j)) = true := by
    rw [List.all_eq_true]
    intro j hj2
    have hj0 : j = 0 := by have := List.mem_range.1 hj2; have e : (1 : Int).toNat = 1 := rfl; omega
    subst hj0
    have e : msgA A ((i % 2 : Nat) : Int) (keyN ((i % m : Nat) : Int)) bB 1 0 = ⟨0, lastSeq A.seqs ((i % 2 : Nat) : Int) (keyN ((i % m : Nat) : Int)) + 1 + ((0 : Nat) : Int), keyN ((i % m : Nat) : Int), bB, false⟩ := by
      rw [msgA, bodyA, if_neg (by decide), h.pub]
    rw [e]
    unfold mayMsg
    simp only [Bool.and_eq_true, decide_eq_true_eq, ks, hb]
    omega
  unfold Go.Proofs.YtfdneepgpekmiaaDoor.pubE
  rw [ha, if_neg (by decide), hall, if_neg (by decide)]
  by_cases h16 : i < 16
  · rw [if_neg (by omega), if_pos h16]
  · rw [if_pos (by omega), if_neg h16]
theorem FInv.next {m i : Nat} {A : AuD} (h : FInv m i A) (hm : m < 4) (hm0 : 0 < m) (hi : i < 20) : FInv m (i + 1) (pubS A ((i % 2 : Nat) : Int) (keyN ((i % m : Nat) : Int)) bB 1) := by
  have hE := h.pubE hm hm0 hi
  have hk : fitS (keyN ((i % m : Nat) : Int)) := by have := keyN_size ((i % m : Nat) : Int); unfold fitS; omega
  refine ⟨h.ok.pub h.seq (by omega) _ hk bB 1, ?_, fun q k => ?_, ?_⟩
  · unfold pubS
    split
    · exact h.pub
    · exact h.pub
  · have := (pubS_seq A ((i % 2 : Nat) : Int) (keyN ((i % m : Nat) : Int)) bB 1 (fun q k => (h.ok.seq q k).1) q k).2 _ h.seq
    omega
  · unfold pubS
    rw [hE]
    by_cases h16 : i < 16
    · rw [if_pos h16, if_pos rfl]
      show nmO (A.l ++ [_]) = _
      have e1 : min (i + 1) 16 = min i 16 + 1 := by omega
      have e2 : min i 16 = i := by omega
      have hn := h.nm
      unfold nmO namesF at hn ⊢
      rw [List.map_append, hn, e1, List.range_succ, List.map_append, e2]
      rfl
    · rw [if_neg h16, if_neg (by decide), h.nm]
      congr 1
      omega

theorem nextO_nm {m i : Nat} {A : AuD} (h : FInv m i A) : nmO (nextO A.l A.l.length) = nm2 m (min i 16) ∧ ∀ o ∈ nextO A.l A.l.length, o ∈ A.l := by
  have hlen := h.len
  have hpl := plcL_len A.l A.l.length
  have e : nextO A.l A.l.length = (plcL A.l A.l.length).map fun i => A.l.getD i default := by
    unfold nextO
    rw [List.take_of_length_le hpl]
  rw [e]
  constructor
  · unfold nm2
    rw [← h.nm, ← hlen, ← plcL_nm]
    unfold nmO
    rw [List.map_map]
    refine List.map_congr_left fun j _ => ?_
    exact (nmO_at A.l j).symm
  · intro o ho
    obtain ⟨j, hj, rfl⟩ := List.mem_map.1 ho
    rw [getD_get (plcL_lt hj)]
    exact List.getElem_mem _

theorem authorFull_p (n keys : Int) : PFn Tryd.prog 4 [.v (.int .i64 n), .v (.int .i64 keys)] (.v (.bool true)) := by
  obtain ⟨K0, hK, hKe⟩ := umod n 20 (by decide) (by decide)
  obtain ⟨M0, hM, hMe⟩ := umod keys 3 (by decide) (by decide)
  obtain ⟨K, hK1⟩ : ∃ K, K = K0 + 1 := ⟨_, rfl⟩
  obtain ⟨M, hM1⟩ : ∃ M, M = M0 + 1 := ⟨_, rfl⟩
  have hm : M < 4 := by omega
  have hm0 : 0 < M := by omega
  refine FnC.intro Tryd.func4 rfl Tryd.ntmps4 rfl ?_; intro off w0
  ((repeat refine S.seq ?_); refine S.region (L.go (T := tt) tt_ok rfl rfl ?sd1 ?_); (try (case sd1 => (repeat' ((first | first | exact trivial | exact zA | with_reducible refine zI ?_ ?_ | exact zB | exact zC | exact zD | exact zE | rfl | exact zN rfl | omega | assumption | (simp; done) | (simp [splice]; done) | (simp; omega) | (unfold fits; omega) | (unfold fits; simp_all; omega) | (simp_all; omega) | (simp_all; done) | intro _ | exact zI ?_ ?_ | intro _))))); try (refine L.nil ?_))
  repeat refine S.seq ?_
  refine S.region ?_
  refine L.call (G := []) rfl rfl rfl rfl rfl rfl rfl ⟨trivial, by (repeat' ((first | first | exact trivial | exact zA | with_reducible refine zI ?_ ?_ | exact zB | exact zC | exact zD | exact zE | rfl | exact zN rfl | omega | assumption | (simp; done) | (simp [splice]; done) | (simp; omega) | (unfold fits; omega) | (unfold fits; simp_all; omega) | (simp_all; omega) | (simp_all; done) | intro _ | exact zI ?_ ?_ | intro _)))⟩ rfl (Imps.refl _) (by (repeat (first | exact pick0 | refine pickS (by first | exact p0 | exact pS p0 | exact pS (pS p0) | exact pS (pS (pS p0)) | exact pS (pS (pS (pS p0))) | exact pS (pS (pS (pS (pS p0)))) | exact pS (pS (pS (pS (pS (pS p0)))))) ?_))) (anew_p 0 (by decide) (by decide)) ?_
  rintro r F' ⟨b, mb, rfl, rfl⟩
  (refine L.go (T := tt) tt_ok rfl rfl ?sd14 ?_; (try (case sd14 => (repeat' ((first | first | exact trivial | exact zA | with_reducible refine zI ?_ ?_ | exact zB | exact zC | exact zD | exact zE | rfl | exact zN rfl | omega | assumption | (simp; done) | (simp [splice]; done) | (simp; omega) | (unfold fits; omega) | (unfold fits; simp_all; omega) | (simp_all; omega) | (simp_all; done) | intro _ | exact zI ?_ ?_ | intro _))))); try (refine L.nil ?_))
  ((repeat refine S.seq ?_); refine S.region (L.go (T := tt) tt_ok rfl rfl ?sd2 ?_); (try (case sd2 => (repeat' ((first | first | exact trivial | exact zA | with_reducible refine zI ?_ ?_ | exact zB | exact zC | exact zD | exact zE | rfl | exact zN rfl | omega | assumption | (simp; done) | (simp [splice]; done) | (simp; omega) | (unfold fits; omega) | (unfold fits; simp_all; omega) | (simp_all; omega) | (simp_all; done) | intro _ | exact zI ?_ ?_ | intro _))))); try (refine L.nil ?_))
  ((repeat refine S.seq ?_); refine S.cond rfl (fun h1 => ?_) (fun h1 => ?_) <;> (try first | refine S.skip ?_ | refine S.exit ?_))
  · cases h1
  ((repeat refine S.seq ?_); refine S.region (L.go (T := tt) tt_ok rfl rfl ?sd3 ?_); (try (case sd3 => (repeat' ((first | first | exact trivial | exact zA | with_reducible refine zI ?_ ?_ | exact zB | exact zC | exact zD | exact zE | rfl | exact zN rfl | omega | assumption | (simp; done) | (simp [splice]; done) | (simp; omega) | (unfold fits; omega) | (unfold fits; simp_all; omega) | (simp_all; omega) | (simp_all; done) | intro _ | exact zI ?_ ?_ | intro _))))); try (refine L.nil ?_))
  refine slotAs 6 (.v (.int .i64 (K : Int))) rfl (Imp.of_eq (by rw [hKe, hK1, Int.add_comm]; rfl)) ?_
  refine slotAs 7 (.v (.int .i64 (M : Int))) rfl (Imp.of_eq (by rw [hMe, hM1, Int.add_comm]; rfl)) ?_
  ((repeat refine S.seq ?_); refine S.region (L.go (T := tt) tt_ok rfl rfl ?sd4 ?_); (try (case sd4 => (repeat' ((first | first | exact trivial | exact zA | with_reducible refine zI ?_ ?_ | exact zB | exact zC | exact zD | exact zE | rfl | exact zN rfl | omega | assumption | (simp; done) | (simp [splice]; done) | (simp; omega) | (unfold fits; omega) | (unfold fits; simp_all; omega) | (simp_all; omega) | (simp_all; done) | intro _ | exact zI ?_ ?_ | intro _))))); try (refine L.nil ?_))
  repeat refine S.seq ?_
  refine S.block (S.loop (ι := { q : Nat × Value × AuD // q.1 ≤ K ∧ FInv M q.1 q.2.2 }) (fun q => [(5, .ptr 40 b 0), (6, .v (.int .i64 (K : Int))), (7, .v (.int .i64 (M : Int))), (8, .v (.int .i64 q.1.1))])
    (fun q => auR b mb q.1.2.1 q.1.2.2) (fun q => K - q.1.1) ?_ ?_)
  · exact fun a w h => ⟨⟨(0, .slice none 0 0, ⟨0, [], []⟩), Nat.zero_le _, ⟨AuOk.nil 0, rfl, fun q k => by simp [lastSeq], rfl⟩⟩, h.weakP (by (repeat' (first | exact True.intro | exact Imp.refl _ | refine ⟨?_, ?_⟩))) (by first | (unfold auR; (repeat (first | exact Sub.refl _ | refine Sub.pick (by first | exact p0 | exact pS p0 | exact pS (pS p0) | exact pS (pS (pS p0)) | exact pS (pS (pS (pS p0))) | exact pS (pS (pS (pS (pS p0))))) ?_))) | (repeat (first | exact Sub.refl _ | refine Sub.pick (by first | exact p0 | exact pS p0 | exact pS (pS p0) | exact pS (pS (pS p0)) | exact pS (pS (pS (pS p0))) | exact pS (pS (pS (pS (pS p0))))) ?_)))⟩
  rintro ⟨⟨i, x, A⟩, hi, hv⟩
  dsimp only at hi hv ⊢
  unfold auR
  ((repeat refine S.seq ?_); refine S.region (L.go (T := tt) tt_ok rfl rfl ?sd5 ?_); (try (case sd5 => (repeat' ((first | first | exact trivial | exact zA | with_reducible refine zI ?_ ?_ | exact zB | exact zC | exact zD | exact zE | rfl | exact zN rfl | omega | assumption | (simp; done) | (simp [splice]; done) | (simp; omega) | (unfold fits; omega) | (unfold fits; simp_all; omega) | (simp_all; omega) | (simp_all; done) | intro _ | exact zI ?_ ?_ | intro _))))); try (refine L.nil ?_))
  ((repeat refine S.seq ?_); refine S.cond rfl (fun h2 => ?_) (fun h2 => ?_) <;> (try first | refine S.skip ?_ | refine S.exit ?_))
  · have h2n : i < K := by have := of_dec h2; omega
    have hE := hv.pubE hm hm0 (by omega)
    have hnx := hv.next hm hm0 (by omega)
    have hj : i % M < 3 := by have := Nat.mod_lt i hm0; omega
    obtain ⟨ke, -⟩ := kE3 (i % M) hj
    have hk : fitS (keyN ((i % M : Nat) : Int)) := by have := keyN_size ((i % M : Nat) : Int); unfold fitS; omega
    have t2 : (i : Int).tmod 2 = ((i % 2 : Nat) : Int) := by rw [Int.tmod_eq_emod_of_nonneg (by omega)]; omega
    have tm : (i : Int).tmod (M : Int) = ((i % M : Nat) : Int) := by rw [Int.tmod_eq_emod_of_nonneg (by omega)]; rfl
    repeat refine S.seq ?_
    refine S.block ?_
    repeat refine S.seq ?_
    refine S.region ?_
    (refine L.go (T := tt) tt_ok rfl rfl ?sd15 ?_; (try (case sd15 => (repeat' ((first | first | exact trivial | exact zA | with_reducible refine zI ?_ ?_ | exact zB | exact zC | exact zD | exact zE | rfl | exact zN rfl | omega | assumption | (simp; done) | (simp [splice]; done) | (simp; omega) | (unfold fits; omega) | (unfold fits; simp_all; omega) | (simp_all; omega) | (simp_all; done) | intro _ | exact zI ?_ ?_ | intro _))))); try (refine L.nil ?_))
    refine slotAs 35 (.v (.int .i64 ((i % 2 : Nat) : Int))) rfl (Imp.of_eq (by rw [t2])) ?_
    refine slotAs 38 (.v (.int .i64 ((i % M : Nat) : Int))) rfl (Imp.of_eq (by rw [tm])) ?_
    refine L.callP rfl rfl rfl rfl rfl rfl rfl ⟨trivial, by (repeat' ((first | first | exact trivial | exact zA | with_reducible refine zI ?_ ?_ | exact zB | exact zC | exact zD | exact zE | rfl | exact zN rfl | omega | assumption | (simp; done) | (simp [splice]; done) | (simp; omega) | (unfold fits; omega) | (unfold fits; simp_all; omega) | (simp_all; omega) | (simp_all; done) | intro _ | exact zI ?_ ?_ | intro _)))⟩ rfl (Imps.refl _) (key_p ((i % M : Nat) : Int)) ?_
    rw [ke]
    refine L.call (G := auR b mb x A) (H := []) rfl rfl rfl rfl rfl rfl rfl ⟨trivial, by (repeat' ((first | first | exact trivial | exact zA | with_reducible refine zI ?_ ?_ | exact zB | exact zC | exact zD | exact zE | rfl | exact zN rfl | omega | assumption | (simp; done) | (simp [splice]; done) | (simp; omega) | (unfold fits; omega) | (unfold fits; simp_all; omega) | (simp_all; omega) | (simp_all; done) | intro _ | exact zI ?_ ?_ | intro _)))⟩ rfl (by exact Imps.refl _) (by unfold auR; (repeat (first | exact pick0 | refine pickS (by first | exact p0 | exact pS p0 | exact pS (pS p0) | exact pS (pS (pS p0)) | exact pS (pS (pS (pS p0))) | exact pS (pS (pS (pS (pS p0)))) | exact pS (pS (pS (pS (pS (pS p0)))))) ?_))) (publish_p b mb x A ((i % 2 : Nat) : Int) (keyN ((i % M : Nat) : Int)) bB 1 hv.ok hk (by decide)) ?_
    rintro r F' ⟨x1, rfl, rfl⟩
    (refine L.go (T := tt) tt_ok rfl rfl ?sd16 ?_; (try (case sd16 => (repeat' ((first | first | exact trivial | exact zA | with_reducible refine zI ?_ ?_ | exact zB | exact zC | exact zD | exact zE | rfl | exact zN rfl | omega | assumption | (simp; done) | (simp [splice]; done) | (simp; omega) | (unfold fits; omega) | (unfold fits; simp_all; omega) | (simp_all; omega) | (simp_all; done) | intro _ | exact zI ?_ ?_ | intro _))))); try (refine L.nil ?_))
    ((repeat refine S.seq ?_); refine S.region (L.go (T := tt) tt_ok rfl rfl ?sd6 ?_); (try (case sd6 => (repeat' ((first | first | exact trivial | exact zA | with_reducible refine zI ?_ ?_ | exact zB | exact zC | exact zD | exact zE | rfl | exact zN rfl | omega | assumption | (simp; done) | (simp [splice]; done) | (simp; omega) | (unfold fits; omega) | (unfold fits; simp_all; omega) | (simp_all; omega) | (simp_all; done) | intro _ | exact zI ?_ ?_ | intro _))))); try (refine L.nil ?_))
    ((repeat refine S.seq ?_); refine S.cond rfl (fun h3 => ?_) (fun h3 => ?_) <;> (try first | refine S.skip ?_ | refine S.exit ?_))
    · exfalso
      rw [hE] at h3
      by_cases h16 : i < 16
      · simp [h16] at h3
        omega
      · simp [h16] at h3
        omega
    ((repeat refine S.seq ?_); refine S.region (L.go (T := tt) tt_ok rfl rfl ?sd7 ?_); (try (case sd7 => (repeat' ((first | first | exact trivial | exact zA | with_reducible refine zI ?_ ?_ | exact zB | exact zC | exact zD | exact zE | rfl | exact zN rfl | omega | assumption | (simp; done) | (simp [splice]; done) | (simp; omega) | (unfold fits; omega) | (unfold fits; simp_all; omega) | (simp_all; omega) | (simp_all; done) | intro _ | exact zI ?_ ?_ | intro _))))); try (refine L.nil ?_))
    exact fun a w h => ⟨⟨(i + 1, x1, _), by show i + 1 ≤ _; omega, hnx⟩, by show K - (i + 1) < K - i; omega, h.weakP (by (repeat' (first | exact True.intro | exact Imp.refl _ | refine ⟨?_, ?_⟩))) (by first | (unfold auR; (repeat (first | exact Sub.refl _ | refine Sub.pick (by first | exact p0 | exact pS p0 | exact pS (pS p0) | exact pS (pS (pS p0)) | exact pS (pS (pS (pS p0))) | exact pS (pS (pS (pS (pS p0))))) ?_))) | (repeat (first | exact Sub.refl _ | refine Sub.pick (by first | exact p0 | exact pS p0 | exact pS (pS p0) | exact pS (pS (pS p0)) | exact pS (pS (pS (pS p0))) | exact pS (pS (pS (pS (pS p0))))) ?_)))⟩
  have h2n : i = K := by have := of_dec' h2; omega
  subst h2n
  obtain ⟨g1, g2⟩ := nextO_nm hv
  obtain ⟨Q, hQ⟩ : ∃ Q, Q = nextO A.l A.l.length := ⟨_, rfl⟩
  rw [← hQ] at g1 g2
  have hQl : Q.length = (nm2 M (min i 16)).length := by rw [← g1]; simp [nmO]
  obtain ⟨f1, f2⟩ := full1 M hm hm0 (min i 16) (by omega) (by omega)
  have f3 := full2 M hm hm0 (min i 16) (by omega)
  rw [← hQl] at f1 f2 f3
  rw [← g1] at f3
  have hne : ∀ a, a < Q.length → 0 < (Q.getD a default).l.length := fun a ha => by
    rw [getD_get ha]
    exact (hv.ok.some1 _ (g2 _ (List.getElem_mem ha))).1
  repeat refine S.seq ?_
  refine S.region ?_
  (refine L.go (T := tt) tt_ok rfl rfl ?sd17 ?_; (try (case sd17 => (repeat' ((first | first | exact trivial | exact zA | with_reducible refine zI ?_ ?_ | exact zB | exact zC | exact zD | exact zE | rfl | exact zN rfl | omega | assumption | (simp; done) | (simp [splice]; done) | (simp; omega) | (unfold fits; omega) | (unfold fits; simp_all; omega) | (simp_all; omega) | (simp_all; done) | intro _ | exact zI ?_ ?_ | intro _))))); try (refine L.nil ?_))
  refine L.call (G := auR b mb x A) (H := []) rfl rfl rfl rfl rfl rfl rfl ⟨trivial, by (repeat' ((first | first | exact trivial | exact zA | with_reducible refine zI ?_ ?_ | exact zB | exact zC | exact zD | exact zE | rfl | exact zN rfl | omega | assumption | (simp; done) | (simp [splice]; done) | (simp; omega) | (unfold fits; omega) | (unfold fits; simp_all; omega) | (simp_all; omega) | (simp_all; done) | intro _ | exact zI ?_ ?_ | intro _)))⟩ rfl (by exact Imps.refl _) (by unfold auR; (repeat (first | exact pick0 | refine pickS (by first | exact p0 | exact pS p0 | exact pS (pS p0) | exact pS (pS (pS p0)) | exact pS (pS (pS (pS p0))) | exact pS (pS (pS (pS (pS p0)))) | exact pS (pS (pS (pS (pS (pS p0)))))) ?_))) (next_p b mb x A hv.ok) ?_
  rintro r F' ⟨y, rfl, rfl⟩
  rw [← hQ]
  refine freezeSlot 61 46 rfl rfl rfl ?_
  (refine L.go (T := tt) tt_ok rfl rfl ?sd18 ?_; (try (case sd18 => (repeat' ((first | first | exact trivial | exact zA | with_reducible refine zI ?_ ?_ | exact zB | exact zC | exact zD | exact zE | rfl | exact zN rfl | omega | assumption | (simp; done) | (simp [splice]; done) | (simp; omega) | (unfold fits; omega) | (unfold fits; simp_all; omega) | (simp_all; omega) | (simp_all; done) | intro _ | exact zI ?_ ?_ | intro _))))); try (refine L.nil ?_))
  ((repeat refine S.seq ?_); refine S.region (L.go (T := tt) tt_ok rfl rfl ?sd8 ?_); (try (case sd8 => (repeat' ((first | first | exact trivial | exact zA | with_reducible refine zI ?_ ?_ | exact zB | exact zC | exact zD | exact zE | rfl | exact zN rfl | omega | assumption | (simp; done) | (simp [splice]; done) | (simp; omega) | (unfold fits; omega) | (unfold fits; simp_all; omega) | (simp_all; omega) | (simp_all; done) | intro _ | exact zI ?_ ?_ | intro _))))); try (refine L.nil ?_))
  repeat refine S.seq ?_
  refine S.block (S.loop (ι := { k : Nat // k ≤ Q.length }) (fun k => [(5, .ptr 40 b 0), (6, .v (.int .i64 (i : Int))), (7, .v (.int .i64 (M : Int))), (11, .lst 2 Q.length (gOf OutD.cells Q)), (12, .v (.int .i64 k.1))])
    (fun _ => auR b mb x A) (fun k => Q.length - k.1) ?_ ?_)
  · exact fun a w h => ⟨⟨0, Nat.zero_le _⟩, h.weakP (by (repeat' (first | exact True.intro | exact Imp.refl _ | refine ⟨?_, ?_⟩))) (by first | (unfold auR; (repeat (first | exact Sub.refl _ | refine Sub.pick (by first | exact p0 | exact pS p0 | exact pS (pS p0) | exact pS (pS (pS p0)) | exact pS (pS (pS (pS p0))) | exact pS (pS (pS (pS (pS p0))))) ?_))) | (repeat (first | exact Sub.refl _ | refine Sub.pick (by first | exact p0 | exact pS p0 | exact pS (pS p0) | exact pS (pS (pS p0)) | exact pS (pS (pS (pS p0))) | exact pS (pS (pS (pS (pS p0))))) ?_)))⟩
  rintro ⟨p, hp⟩
  dsimp only
  unfold auR
  ((repeat refine S.seq ?_); refine S.region (L.go (T := tt) tt_ok rfl rfl ?sd9 ?_); (try (case sd9 => (repeat' ((first | first | exact trivial | exact zA | with_reducible refine zI ?_ ?_ | exact zB | exact zC | exact zD | exact zE | rfl | exact zN rfl | omega | assumption | (simp; done) | (simp [splice]; done) | (simp; omega) | (unfold fits; omega) | (unfold fits; simp_all; omega) | (simp_all; omega) | (simp_all; done) | intro _ | exact zI ?_ ?_ | intro _))))); try (refine L.nil ?_))
  ((repeat refine S.seq ?_); refine S.cond rfl (fun h4 => ?_) (fun h4 => ?_) <;> (try first | refine S.skip ?_ | refine S.exit ?_))
  · have h4n : p < Q.length := by have := of_dec h4; omega
    have hnp := hne p h4n
    repeat refine S.seq ?_
    refine S.block ?_
    ((repeat refine S.seq ?_); refine S.region (L.go (T := tt) tt_ok rfl rfl ?sd10 ?_); (try (case sd10 => (repeat' ((first | first | exact trivial | exact zA | with_reducible refine zI ?_ ?_ | exact zB | exact zC | exact zD | exact zE | rfl | exact zN rfl | omega | assumption | (simp; done) | (simp [splice]; done) | (simp; omega) | (unfold fits; omega) | (unfold fits; simp_all; omega) | (simp_all; omega) | (simp_all; done) | intro _ | exact zI ?_ ?_ | intro _))))); try (refine L.nil ?_))
    repeat refine S.seq ?_
    refine S.block (S.loop (ι := { k : Nat // k ≤ p }) (fun k => [(5, .ptr 40 b 0), (6, .v (.int .i64 (i : Int))), (7, .v (.int .i64 (M : Int))), (11, .lst 2 Q.length (gOf OutD.cells Q)), (12, .v (.int .i64 p)), (13, .v (.int .i64 k.1))])
      (fun _ => auR b mb x A) (fun k => p - k.1) ?_ ?_)
    · exact fun a w h => ⟨⟨0, Nat.zero_le _⟩, h.weakP (by (repeat' (first | exact True.intro | exact Imp.refl _ | refine ⟨?_, ?_⟩))) (by first | (unfold auR; (repeat (first | exact Sub.refl _ | refine Sub.pick (by first | exact p0 | exact pS p0 | exact pS (pS p0) | exact pS (pS (pS p0)) | exact pS (pS (pS (pS p0))) | exact pS (pS (pS (pS (pS p0))))) ?_))) | (repeat (first | exact Sub.refl _ | refine Sub.pick (by first | exact p0 | exact pS p0 | exact pS (pS p0) | exact pS (pS (pS p0)) | exact pS (pS (pS (pS p0))) | exact pS (pS (pS (pS (pS p0))))) ?_)))⟩
    rintro ⟨q, hq⟩
    dsimp only
    unfold auR
    ((repeat refine S.seq ?_); refine S.region (L.go (T := tt) tt_ok rfl rfl ?sd11 ?_); (try (case sd11 => (repeat' ((first | first | exact trivial | exact zA | with_reducible refine zI ?_ ?_ | exact zB | exact zC | exact zD | exact zE | rfl | exact zN rfl | omega | assumption | (simp; done) | (simp [splice]; done) | (simp; omega) | (unfold fits; omega) | (unfold fits; simp_all; omega) | (simp_all; omega) | (simp_all; done) | intro _ | exact zI ?_ ?_ | intro _))))); try (refine L.nil ?_))
    ((repeat refine S.seq ?_); refine S.cond rfl (fun h5 => ?_) (fun h5 => ?_) <;> (try first | refine S.skip ?_ | refine S.exit ?_))
    · have h5n : q < p := by have := of_dec h5; omega
      have hnq := hne q (by omega)
      have hdf := f3 p h4n q h5n
      rw [nmO_at, nmO_at] at hdf
      repeat refine S.seq ?_
      refine S.block ?_
      repeat refine S.seq ?_
      refine S.draw [] mixed ?_
      (refine H.ts (T := tt) [0, 1, 2, 3, 4, 5, 6, 7, 8, 9, 10, 11, 12, 13, 14, 15, 16, 17, 18, 19, 20, 21, 22, 23, 24, 25, 26, 27, 28, 29] tt_ok (by kernel_rfl) (by kernel_rfl) (by kernel_rfl) (by intro ch a a' w h; obtain ⟨_, _, _, _, _, h, _⟩ := h; cases h) rfl ?sd21 ?_; (try (case sd21 => (repeat' ((first | first | exact trivial | exact zA | with_reducible refine zI ?_ ?_ | exact zB | exact zC | exact zD | exact zE | rfl | exact zN rfl | omega | assumption | (simp; done) | (simp [splice]; done) | (simp; omega) | (unfold fits; omega) | (unfold fits; simp_all; omega) | (simp_all; omega) | (simp_all; done) | intro _ | exact zI ?_ ?_ | intro _))))))
      refine H.done (by kernel_rfl) ?_
      ((repeat refine S.seq ?_); refine S.cond rfl (fun h6 => ?_) (fun h6 => ?_) <;> (try first | refine S.skip ?_ | refine S.exit ?_))
      · exfalso
        apply hdf
        have h6' : (((Q.getD p default).queue == (Q.getD q default).queue) && ((Q.getD p default).key0 == (Q.getD q default).key0)) = true := h6
        rw [Bool.and_eq_true, beq_iff_eq, beq_iff_eq] at h6'
        rw [h6'.1, h6'.2]
      ((repeat refine S.seq ?_); refine S.region (L.go (T := tt) tt_ok rfl rfl ?sd12 ?_); (try (case sd12 => (repeat' ((first | first | exact trivial | exact zA | with_reducible refine zI ?_ ?_ | exact zB | exact zC | exact zD | exact zE | rfl | exact zN rfl | omega | assumption | (simp; done) | (simp [splice]; done) | (simp; omega) | (unfold fits; omega) | (unfold fits; simp_all; omega) | (simp_all; omega) | (simp_all; done) | intro _ | exact zI ?_ ?_ | intro _))))); try (refine L.nil ?_))
      exact fun a w h => ⟨⟨q + 1, by omega⟩, by show p - (q + 1) < p - q; omega, h.weakP (by (repeat' (first | exact True.intro | exact Imp.refl _ | refine ⟨?_, ?_⟩))) (by first | (unfold auR; (repeat (first | exact Sub.refl _ | refine Sub.pick (by first | exact p0 | exact pS p0 | exact pS (pS p0) | exact pS (pS (pS p0)) | exact pS (pS (pS (pS p0))) | exact pS (pS (pS (pS (pS p0))))) ?_))) | (repeat (first | exact Sub.refl _ | refine Sub.pick (by first | exact p0 | exact pS p0 | exact pS (pS p0) | exact pS (pS (pS p0)) | exact pS (pS (pS (pS p0))) | exact pS (pS (pS (pS (pS p0))))) ?_)))⟩
    ((repeat refine S.seq ?_); refine S.region (L.go (T := tt) tt_ok rfl rfl ?sd13 ?_); (try (case sd13 => (repeat' ((first | first | exact trivial | exact zA | with_reducible refine zI ?_ ?_ | exact zB | exact zC | exact zD | exact zE | rfl | exact zN rfl | omega | assumption | (simp; done) | (simp [splice]; done) | (simp; omega) | (unfold fits; omega) | (unfold fits; simp_all; omega) | (simp_all; omega) | (simp_all; done) | intro _ | exact zI ?_ ?_ | intro _))))); try (refine L.nil ?_))
    exact fun a w h => ⟨⟨p + 1, by omega⟩, by show Q.length - (p + 1) < Q.length - p; omega, h.weakP (by (repeat' (first | exact True.intro | exact Imp.refl _ | refine ⟨?_, ?_⟩))) (by first | (unfold auR; (repeat (first | exact Sub.refl _ | refine Sub.pick (by first | exact p0 | exact pS p0 | exact pS (pS p0) | exact pS (pS (pS p0)) | exact pS (pS (pS (pS p0))) | exact pS (pS (pS (pS (pS p0))))) ?_))) | (repeat (first | exact Sub.refl _ | refine Sub.pick (by first | exact p0 | exact pS p0 | exact pS (pS p0) | exact pS (pS (pS p0)) | exact pS (pS (pS (pS p0))) | exact pS (pS (pS (pS (pS p0))))) ?_)))⟩
  have hln := hv.len
  repeat refine S.seq ?_
  refine S.region ?_
  refine L.callP rfl rfl rfl rfl rfl rfl rfl ⟨trivial, by (repeat' ((first | first | exact trivial | exact zA | with_reducible refine zI ?_ ?_ | exact zB | exact zC | exact zD | exact zE | rfl | exact zN rfl | omega | assumption | (simp; done) | (simp [splice]; done) | (simp; omega) | (unfold fits; omega) | (unfold fits; simp_all; omega) | (simp_all; omega) | (simp_all; done) | intro _ | exact zI ?_ ?_ | intro _)))⟩ rfl (Imps.refl _) told20_p ?_
  (refine L.go (T := tt) tt_ok rfl rfl ?sd19 ?_; (try (case sd19 => (repeat' ((first | first | exact trivial | exact zA | with_reducible refine zI ?_ ?_ | exact zB | exact zC | exact zD | exact zE | rfl | exact zN rfl | omega | assumption | (simp; done) | (simp [splice]; done) | (simp; omega) | (unfold fits; omega) | (unfold fits; simp_all; omega) | (simp_all; omega) | (simp_all; done) | intro _ | exact zI ?_ ?_ | intro _))))); try (refine L.nil ?_))
  refine L.callT (G := auR b mb x A) (H := []) rfl rfl rfl rfl rfl rfl rfl rfl ⟨trivial, by (repeat' ((first | first | exact trivial | exact zA | with_reducible refine zI ?_ ?_ | exact zB | exact zC | exact zD | exact zE | rfl | exact zN rfl | omega | assumption | (simp; done) | (simp [splice]; done) | (simp; omega) | (unfold fits; omega) | (unfold fits; simp_all; omega) | (simp_all; omega) | (simp_all; done) | intro _ | exact zI ?_ ?_ | intro _)))⟩ rfl (by exact Imps.refl _) (by unfold auR; (repeat (first | exact pick0 | refine pickS (by first | exact p0 | exact pS p0 | exact pS (pS p0) | exact pS (pS (pS p0)) | exact pS (pS (pS (pS p0))) | exact pS (pS (pS (pS (pS p0)))) | exact pS (pS (pS (pS (pS (pS p0)))))) ?_))) (alen_p b mb x A) ?_
  rintro r F' ⟨rfl, rfl⟩
  rw [hln]
  (refine L.go (T := tt) tt_ok rfl rfl ?sd20 ?_; (try (case sd20 => (repeat' ((first | first | exact trivial | exact zA | with_reducible refine zI ?_ ?_ | exact zB | exact zC | exact zD | exact zE | rfl | exact zN rfl | omega | assumption | (simp; done) | (simp [splice]; done) | (simp; omega) | (unfold fits; omega) | (unfold fits; simp_all; omega) | (simp_all; omega) | (simp_all; done) | intro _ | exact zI ?_ ?_ | intro _))))); try (refine L.nil ?_))
  (((repeat refine S.seq ?_); refine S.ret ?_); refine E.retP (T := tt) tt_ok rfl rfl (by (repeat' ((first | first | exact trivial | exact zA | with_reducible refine zI ?_ ?_ | exact zB | exact zC | exact zD | exact zE | rfl | exact zN rfl | omega | assumption | (simp; done) | (simp [splice]; done) | (simp; omega) | (unfold fits; omega) | (unfold fits; simp_all; omega) | (simp_all; omega) | (simp_all; done) | intro _ | exact zI ?_ ?_ | intro _)))) (Imp.of_eq ?_))
  have c1 : (((min i 16 : Nat) : Int) == if (16 : Int) < (i : Int) then 16 else (i : Int)) = true := by
    rw [beq_iff_eq]
    split <;> omega
  rw [c1, decide_eq_true (show (Q.length : Int) ≥ 1 by omega), decide_eq_true (show (Q.length : Int) ≤ 2 * (M : Int) by omega)]
  rfl

end Go.Proofs.YtfdneepgpekmiaaDoor
