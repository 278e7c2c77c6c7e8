/- What a transaction gathers is one batch: in plain words, and the walk. -/
import Derived.Test.YtgnklbdbglnmaaaMgJ
namespace Go.Proofs.Ytgnklbdbglnmaaa
set_option linter.unusedVariables false
set_option linter.unusedSimpArgs false
set_option maxHeartbeats 8000000
open Go.RowKit
set_option maxRecDepth 4000

def bnL (F : Int) (c : ByteArray) (k : Nat) : List Msg := (List.range k).map fun (i : Nat) => ⟨3, F + (i : Int), c, ⟨#[98]⟩, false⟩
def bnT (F : Int) (c : ByteArray) : Nat → Tx
  | 0 => ⟨3, 0, ByteArray.empty, [], []⟩
  | k + 1 => ⟨3, 2, c, bnL F c (k + 1), []⟩
theorem bnL_len (F : Int) (c : ByteArray) (k : Nat) : (bnL F c k).length = k := by simp [bnL]
theorem bnL_get {F : Int} {c : ByteArray} {k i : Nat} (h : i < k) : (bnL F c k).getD i default = ⟨3, F + (i : Int), c, ⟨#[98]⟩, false⟩ := by
  rw [getD_get (by rw [bnL_len]; exact h)]; simp [bnL]
theorem bnL_succ (F : Int) (c : ByteArray) (k : Nat) : bnL F c (k + 1) = bnL F c k ++ [⟨3, F + (k : Int), c, ⟨#[98]⟩, false⟩] := by simp [bnL, List.range_succ]
theorem bnT_put (F : Int) (c : ByteArray) : ∀ k, (bnT F c k).put = bnL F c k
  | 0 => rfl
  | _ + 1 => rfl
theorem bnT_ack (F : Int) (c : ByteArray) : ∀ k, (bnT F c k).ack = []
  | 0 => rfl
  | _ + 1 => rfl
theorem bnT_pub (F : Int) (c : ByteArray) : ∀ k, (bnT F c k).pub = 3
  | 0 => rfl
  | _ + 1 => rfl
theorem bnT_len (F : Int) (c : ByteArray) (k : Nat) : (bnT F c k).len = k := by
  rw [Tx.len, bnT_put, bnT_ack, bnL_len]; simp
theorem bn_may {F : Int} {c : ByteArray} (h1 : 1 ≤ F) (h2 : F ≤ 100000) (hc : c.size = 1) : mayMsg ⟨3, F, c, ⟨#[98]⟩, false⟩ = true := by
  have e1 : (ByteArray.mk #[98]).size = 1 := rfl
  simp only [mayMsg, Bool.and_eq_true, decide_eq_true_eq]
  omega
theorem bn_here (F : Int) (c : ByteArray) : ∀ k, (bnT F c k).here 2 c = 0
  | 0 => rfl
  | k + 1 => by
    rw [Tx.here, if_neg]
    simp [bnT]
theorem bn_pub {F : Int} {c : ByteArray} {k : Nat} (h1 : 1 ≤ F) (h2 : F ≤ 1000) (hc : c.size = 1) (hk : k < 8) : (bnT F c k).pubE 2 c (F + k) ⟨#[98]⟩ = 0 ∧ (bnT F c k).pubT 2 c (F + k) ⟨#[98]⟩ = bnT F c (k + 1) := by
  have key : (bnT F c k).pubE 2 c (F + k) ⟨#[98]⟩ = 0 := by
    rw [Tx.pubE, Tx.msg, bnT_pub, bn_may (by omega) (by omega) hc, bn_here, bnT_put, bnL_len, if_neg (by decide), if_neg (by decide), if_neg (by omega), if_neg]
    simp only [Bool.and_eq_true, decide_eq_true_eq]
    rintro ⟨h, h3⟩
    rw [bnL_get (by omega)] at h3
    simp only [bne_iff_ne, ne_eq] at h3
    omega
  refine ⟨key, ?_⟩
  rw [Tx.pubT, if_pos key, bnT_put, Tx.msg, bnT_pub]
  rcases k with _ | k
  · rfl
  · show Tx.mk 3 2 c _ [] = _
    rw [← bnL_succ]; rfl
theorem bn_more {F : Int} {c : ByteArray} {k : Nat} (h1 : 1 ≤ F) (h2 : F ≤ 1000) (hc : c.size = 1) (h0 : 1 ≤ k) (hk : k ≤ 8) : (bnT F c k).pubE 2 c (F + k + 1) ⟨#[98]⟩ = (if k = 8 then 4 else 1) ∧ (bnT F c k).pubT 2 c (F + k + 1) ⟨#[98]⟩ = bnT F c k := by
  have key : (bnT F c k).pubE 2 c (F + k + 1) ⟨#[98]⟩ = if k = 8 then 4 else 1 := by
    rw [Tx.pubE, Tx.msg, bnT_pub, bn_may (by omega) (by omega) hc, bn_here, bnT_put, bnL_len, if_neg (by decide), if_neg (by decide)]
    split
    · rfl
    · rw [if_pos]
      simp only [Bool.and_eq_true, decide_eq_true_eq]
      refine ⟨by omega, ?_⟩
      rw [bnL_get (by omega)]
      simp only [bne_iff_ne, ne_eq]
      omega
  refine ⟨key, ?_⟩
  rw [Tx.pubT, if_neg]
  rw [key]; split <;> decide
theorem bn_other {F : Int} {c : ByteArray} {k : Nat} (h1 : 1 ≤ F) (h2 : F ≤ 1000) (hc : c.size = 1) (h0 : 1 ≤ k) (hk : k ≤ 8) : (bnT F c k).pubE 1 c (F + k) ⟨#[98]⟩ = 540 ∧ (bnT F c k).pubT 1 c (F + k) ⟨#[98]⟩ = bnT F c k := by
  obtain ⟨j, rfl⟩ : ∃ j, k = j + 1 := ⟨k - 1, by omega⟩
  have hh : (bnT F c (j + 1)).here 1 c = 540 := by
    rw [Tx.here, bnT_len, if_pos]
    simp [bnT]
  have key : (bnT F c (j + 1)).pubE 1 c (F + ((j + 1 : Nat) : Int)) ⟨#[98]⟩ = 540 := by
    rw [Tx.pubE, Tx.msg, bnT_pub, bn_may (by omega) (by omega) hc, hh, if_neg (by decide), if_pos (by decide)]
  refine ⟨key, ?_⟩
  rw [Tx.pubT, if_neg]
  rw [key]; decide
theorem bn_row {F : Int} {c : ByteArray} {k : Nat} (h1 : 1 ≤ F) (h2 : F ≤ 1000) (hc : c.size = 1) (h0 : 1 ≤ k) (hk : k ≤ 8) : mayRow (bnL F c k) = true := by
  refine (row_iff _).2 ⟨by rw [bnL_len]; omega, fun i hi => ?_⟩
  rw [bnL_len] at hi
  unfold rowC
  rw [bnL_get hi, bnL_get (show 0 < k by omega)]
  refine ⟨bn_may (by omega) (by omega) hc, rfl, rfl, rfl, ?_⟩
  simp
theorem bn_do {F : Int} {c : ByteArray} {k : Nat} (h1 : 1 ≤ F) (h2 : F ≤ 1000) (hc : c.size = 1) (h0 : 1 ≤ k) (hk : k ≤ 8) : bdo t0 (bnL F c k) [] = (⟨false, 1, bnL F c k, [], [⟨3, c, F + k - 1⟩]⟩, 0) := by
  have hr := bn_row h1 h2 hc h0 hk
  have hl := bnL_len F c k
  have hlast : lastMsg (bnL F c k) = ⟨3, F + ((k - 1 : Nat) : Int), c, ⟨#[98]⟩, false⟩ := by
    unfold lastMsg
    rw [hl, show ((k : Int) - 1).toNat = k - 1 by omega, bnL_get (by omega)]
  have hp : putR t0 (bnL F c k) = (⟨false, 1, bnL F c k, [], [⟨3, c, F + k - 1⟩]⟩, 0) := by
    rw [put_eq, hr, (may_iff t0).2 may_new, if_neg (by decide), hlast, bnL_get (show 0 < k by omega), hl]
    have e0 : lastOf t0.marks 3 c = 0 := rfl
    dsimp only
    rw [e0, if_neg (by omega), if_neg (by omega), if_neg (by decide), if_neg]
    · refine congrArg (fun m => ((⟨false, 1, bnL F c k, [], m⟩ : Shard), (0 : Int))) ?_
      have : markOf (bnL F c k) = ⟨3, c, F + k - 1⟩ := by
        unfold markOf
        rw [hlast, bnL_get (show 0 < k by omega)]
        simp only [Mark.mk.injEq, true_and]
        omega
      rw [this]; rfl
    · show ¬ (((0 : Nat) : Int) + ((0 : Nat) : Int) + k > 48 ∨ ((0 : Int) = 0 ∧ ((0 : Nat) : Int) ≥ 64))
      omega
  have ha : ackRun t0 [] ([] : List Int).length = t0 := rfl
  rw [bdo, hl, if_neg (by omega), if_neg (by decide), if_neg (by omega), ha, hp, if_pos rfl]

theorem batchNext_p (n first key : Int) : PFn Try.prog 3 [.v (.int .i64 n), .v (.int .i64 first), .v (.int .i64 key)] (.v (.bool true)) := by
  have hn := uM_lt n 8 (by decide) (by decide)
  have hf := uM_lt first 1000 (by decide) (by decide)
  have hk := uM_lt key 6 (by decide) (by decide)
  have hne : IntKind.i64.wrap ((IntKind.u64.wrap n).tmod 8) = uM n 8 := rfl
  have hfe : IntKind.i64.wrap ((IntKind.u64.wrap first).tmod 1000) = uM first 1000 := rfl
  have hc := nameK_size hk.1 hk.2
  obtain ⟨N, hN⟩ : ∃ N : Nat, uM n 8 = N := ⟨(uM n 8).toNat, by omega⟩
  obtain ⟨F, hF⟩ : ∃ F : Int, F = 1 + uM first 1000 := ⟨_, rfl⟩
  obtain ⟨c, hcc⟩ : ∃ c, c = nameK (uM key 6) := ⟨_, rfl⟩
  rw [← hcc] at hc
  refine FnC.intro Try.func3 rfl Try.ntmps3 rfl ?_; intro off w0
  ((repeat refine S.seq ?_); refine S.region (L.go (T := tt) tt_ok rfl rfl ?sd908 ?_); (try (case sd908 => (repeat' (first | exact trivial | exact zA | with_reducible refine zI ?_ ?_ | exact zB | exact zC | exact zD | exact zE | rfl | exact zN rfl | omega | assumption | (simp; done) | (simp [splice]; done) | (simp; omega) | (unfold fits; omega) | (unfold fits; simp_all; omega) | (simp_all; omega) | (simp_all; done) | intro _)))); try (refine L.nil ?_))
  ((repeat refine S.seq ?_); refine S.region (L.go (T := tt) tt_ok rfl rfl ?sd909 ?_); (try (case sd909 => (repeat' (first | exact trivial | exact zA | with_reducible refine zI ?_ ?_ | exact zB | exact zC | exact zD | exact zE | rfl | exact zN rfl | omega | assumption | (simp; done) | (simp [splice]; done) | (simp; omega) | (unfold fits; omega) | (unfold fits; simp_all; omega) | (simp_all; omega) | (simp_all; done) | intro _)))); try (refine L.nil ?_))
  refine slotAs 7 (.v (.int .i64 ((N : Int) + 1))) rfl (Imp.of_eq (by rw [hne, hN, Int.add_comm])) ?_
  refine slotAs 8 (.v (.int .i64 F)) rfl (Imp.of_eq (by rw [hfe, hF])) ?_
  repeat refine S.seq ?_
  refine S.region ?_
  refine L.call (G := []) rfl rfl rfl rfl rfl rfl rfl ⟨trivial, by (repeat' (first | exact trivial | exact zA | with_reducible refine zI ?_ ?_ | exact zB | exact zC | exact zD | exact zE | rfl | exact zN rfl | omega | assumption | (simp; done) | (simp [splice]; done) | (simp; omega) | (unfold fits; omega) | (unfold fits; simp_all; omega) | (simp_all; omega) | (simp_all; done) | intro _))⟩ rfl (Imps.refl _) (by (repeat (first | exact pick0 | refine pickS (by first | exact p0 | exact pS p0 | exact pS (pS p0) | exact pS (pS (pS p0)) | exact pS (pS (pS (pS p0))) | exact pS (pS (pS (pS (pS p0)))) | exact pS (pS (pS (pS (pS (pS p0)))))) ?_))) (txnew_p 3 (by decide) (by decide)) ?_
  rintro r F' ⟨b20, rfl, rfl⟩
  (refine L.go (T := tt) tt_ok rfl rfl ?sd921 ?_; (try (case sd921 => (repeat' (first | exact trivial | exact zA | with_reducible refine zI ?_ ?_ | exact zB | exact zC | exact zD | exact zE | rfl | exact zN rfl | omega | assumption | (simp; done) | (simp [splice]; done) | (simp; omega) | (unfold fits; omega) | (unfold fits; simp_all; omega) | (simp_all; omega) | (simp_all; done) | intro _)))); try (refine L.nil ?_))
  ((repeat refine S.seq ?_); refine S.region (L.go (T := tt) tt_ok rfl rfl ?sd910 ?_); (try (case sd910 => (repeat' (first | exact trivial | exact zA | with_reducible refine zI ?_ ?_ | exact zB | exact zC | exact zD | exact zE | rfl | exact zN rfl | omega | assumption | (simp; done) | (simp [splice]; done) | (simp; omega) | (unfold fits; omega) | (unfold fits; simp_all; omega) | (simp_all; omega) | (simp_all; done) | intro _)))); try (refine L.nil ?_))
  ((repeat refine S.seq ?_); refine S.cond rfl (fun h1 => ?_) (fun h1 => ?_) <;> (try first | refine S.skip ?_ | refine S.exit ?_))
  · cases h1
  refine nilRow 21 46 5 (gOf Msg.cells []) ?_
  refine nilRow 22 3 1 (gOf intC []) ?_
  refine blkAs 20 ((bnT F c 0).cells (.slice none 0 0) (.slice none 0 0)) rfl ⟨Imp.refl _, Imp.refl _, Imp.refl _, Imp.vref rfl, Imp.vref rfl, trivial⟩ ?_
  ((repeat refine S.seq ?_); refine S.region (L.go (T := tt) tt_ok rfl rfl ?sd911 ?_); (try (case sd911 => (repeat' (first | exact trivial | exact zA | with_reducible refine zI ?_ ?_ | exact zB | exact zC | exact zD | exact zE | rfl | exact zN rfl | omega | assumption | (simp; done) | (simp [splice]; done) | (simp; omega) | (unfold fits; omega) | (unfold fits; simp_all; omega) | (simp_all; omega) | (simp_all; done) | intro _)))); try (refine L.nil ?_))
  refine L.callP rfl rfl rfl rfl rfl rfl rfl ⟨trivial, by (repeat' (first | exact trivial | exact zA | with_reducible refine zI ?_ ?_ | exact zB | exact zC | exact zD | exact zE | rfl | exact zN rfl | omega | assumption | (simp; done) | (simp [splice]; done) | (simp; omega) | (unfold fits; omega) | (unfold fits; simp_all; omega) | (simp_all; omega) | (simp_all; done) | intro _))⟩ rfl (Imps.refl _) (name_p (uM key 6) hk.1 (by omega)) ?_
  rw [← hcc]
  (refine L.go (T := tt) tt_ok rfl rfl ?sd922 ?_; (try (case sd922 => (repeat' (first | exact trivial | exact zA | with_reducible refine zI ?_ ?_ | exact zB | exact zC | exact zD | exact zE | rfl | exact zN rfl | omega | assumption | (simp; done) | (simp [splice]; done) | (simp; omega) | (unfold fits; omega) | (unfold fits; simp_all; omega) | (simp_all; omega) | (simp_all; done) | intro _)))); try (refine L.nil ?_))
  ((repeat refine S.seq ?_); refine S.region (L.go (T := tt) tt_ok rfl rfl ?sd912 ?_); (try (case sd912 => (repeat' (first | exact trivial | exact zA | with_reducible refine zI ?_ ?_ | exact zB | exact zC | exact zD | exact zE | rfl | exact zN rfl | omega | assumption | (simp; done) | (simp [splice]; done) | (simp; omega) | (unfold fits; omega) | (unfold fits; simp_all; omega) | (simp_all; omega) | (simp_all; done) | intro _)))); try (refine L.nil ?_))
  repeat refine S.seq ?_
  refine S.block (S.loop (ι := { k : Nat × Value // k.1 ≤ N + 1 }) (fun k => [(7, .v (.int .i64 ((N : Int) + 1))), (8, .v (.int .i64 F)), (9, .ptr 20 b20 0), (10, .v (.string c)), (11, .v (.int .i64 k.1.1))])
    (fun k => txR b20 k.1.2 (.slice none 0 0) (bnT F c k.1.1)) (fun k => N + 1 - k.1.1) ?_ ?_)
  · exact fun a w h => ⟨⟨(0, .slice none 0 0), Nat.zero_le _⟩, h.weakP (by (repeat' (first | exact True.intro | exact Imp.refl _ | refine ⟨?_, ?_⟩))) (by unfold txR; (repeat (first | exact Sub.refl _ | refine Sub.pick (by first | exact p0 | exact pS p0 | exact pS (pS p0) | exact pS (pS (pS p0)) | exact pS (pS (pS (pS p0))) | exact pS (pS (pS (pS (pS p0))))) ?_)))⟩
  rintro ⟨⟨k, p⟩, hk'⟩
  dsimp only at hk' ⊢
  ((repeat refine S.seq ?_); refine S.region (L.go (T := tt) tt_ok rfl rfl ?sd913 ?_); (try (case sd913 => (repeat' (first | exact trivial | exact zA | with_reducible refine zI ?_ ?_ | exact zB | exact zC | exact zD | exact zE | rfl | exact zN rfl | omega | assumption | (simp; done) | (simp [splice]; done) | (simp; omega) | (unfold fits; omega) | (unfold fits; simp_all; omega) | (simp_all; omega) | (simp_all; done) | intro _)))); try (refine L.nil ?_))
  ((repeat refine S.seq ?_); refine S.cond rfl (fun h2 => ?_) (fun h2 => ?_) <;> (try first | refine S.skip ?_ | refine S.exit ?_))
  · have h2 := of_dec h2
    obtain ⟨p1, p2⟩ := bn_pub (F := F) (c := c) (k := k) (by omega) (by omega) hc (by omega)
    have hlast : (bnT F c k).put.length = k := by rw [bnT_put, bnL_len]
    repeat refine S.seq ?_
    refine S.block ?_
    ((repeat refine S.seq ?_); refine S.region (L.go (T := tt) tt_ok rfl rfl ?sd914 ?_); (try (case sd914 => (repeat' (first | exact trivial | exact zA | with_reducible refine zI ?_ ?_ | exact zB | exact zC | exact zD | exact zE | rfl | exact zN rfl | omega | assumption | (simp; done) | (simp [splice]; done) | (simp; omega) | (unfold fits; omega) | (unfold fits; simp_all; omega) | (simp_all; omega) | (simp_all; done) | intro _)))); try (refine L.nil ?_))
    refine L.call (G := txR b20 p (.slice none 0 0) (bnT F c k)) (H := []) rfl rfl rfl rfl rfl rfl rfl ⟨trivial, by (repeat' (first | exact trivial | exact zA | with_reducible refine zI ?_ ?_ | exact zB | exact zC | exact zD | exact zE | rfl | exact zN rfl | omega | assumption | (simp; done) | (simp [splice]; done) | (simp; omega) | (unfold fits; omega) | (unfold fits; simp_all; omega) | (simp_all; omega) | (simp_all; done) | intro _))⟩ rfl (Imps.refl _) (by unfold txR; (repeat (first | exact pick0 | refine pickS (by first | exact p0 | exact pS p0 | exact pS (pS p0) | exact pS (pS (pS p0)) | exact pS (pS (pS (pS p0))) | exact pS (pS (pS (pS (pS p0)))) | exact pS (pS (pS (pS (pS (pS p0)))))) ?_))) (pub_p b20 _ _ (bnT F c k) 2 c (F + k) ⟨#[98]⟩ (by omega) (by rw [bnT_ack]; decide) (fun h => ?hq)) ?_
    case hq =>
      rw [hlast, bnT_put, bnL_get (by omega)]
      dsimp only
      omega
    rintro r F' ⟨p', rfl, rfl⟩
    rw [p1, p2]
    (refine L.go (T := tt) tt_ok rfl rfl ?sd923 ?_; (try (case sd923 => (repeat' (first | exact trivial | exact zA | with_reducible refine zI ?_ ?_ | exact zB | exact zC | exact zD | exact zE | rfl | exact zN rfl | omega | assumption | (simp; done) | (simp [splice]; done) | (simp; omega) | (unfold fits; omega) | (unfold fits; simp_all; omega) | (simp_all; omega) | (simp_all; done) | intro _)))); try (refine L.nil ?_))
    refine L.callT (G := txR b20 p' (.slice none 0 0) (bnT F c (k + 1))) (H := []) rfl rfl rfl rfl rfl rfl rfl rfl ⟨trivial, by (repeat' (first | exact trivial | exact zA | with_reducible refine zI ?_ ?_ | exact zB | exact zC | exact zD | exact zE | rfl | exact zN rfl | omega | assumption | (simp; done) | (simp [splice]; done) | (simp; omega) | (unfold fits; omega) | (unfold fits; simp_all; omega) | (simp_all; omega) | (simp_all; done) | intro _))⟩ rfl (Imps.refl _) (by unfold txR; (repeat (first | exact pick0 | refine pickS (by first | exact p0 | exact pS p0 | exact pS (pS p0) | exact pS (pS (pS p0)) | exact pS (pS (pS (pS p0))) | exact pS (pS (pS (pS (pS p0)))) | exact pS (pS (pS (pS (pS (pS p0)))))) ?_))) (txlen_p b20 _ _ (bnT F c (k + 1)) (by rw [bnT_put, bnL_len]; omega) (by rw [bnT_ack]; decide)) ?_
    rintro r F' ⟨rfl, rfl⟩
    rw [bnT_len]
    (refine L.go (T := tt) tt_ok rfl rfl ?sd924 ?_; (try (case sd924 => (repeat' (first | exact trivial | exact zA | with_reducible refine zI ?_ ?_ | exact zB | exact zC | exact zD | exact zE | rfl | exact zN rfl | omega | assumption | (simp; done) | (simp [splice]; done) | (simp; omega) | (unfold fits; omega) | (unfold fits; simp_all; omega) | (simp_all; omega) | (simp_all; done) | intro _)))); try (refine L.nil ?_))
    ((repeat refine S.seq ?_); refine S.cond rfl (fun h3 => ?_) (fun h3 => ?_) <;> (try first | refine S.skip ?_ | refine S.exit ?_))
    · exfalso
      simp at h3
    ((repeat refine S.seq ?_); refine S.region (L.go (T := tt) tt_ok rfl rfl ?sd915 ?_); (try (case sd915 => (repeat' (first | exact trivial | exact zA | with_reducible refine zI ?_ ?_ | exact zB | exact zC | exact zD | exact zE | rfl | exact zN rfl | omega | assumption | (simp; done) | (simp [splice]; done) | (simp; omega) | (unfold fits; omega) | (unfold fits; simp_all; omega) | (simp_all; omega) | (simp_all; done) | intro _)))); try (refine L.nil ?_))
    exact fun a w hR => ⟨⟨(k + 1, p'), by show k + 1 ≤ _; omega⟩, by show N + 1 - (k + 1) < N + 1 - k; omega, hR.weakP (by (repeat' (first | exact True.intro | exact Imp.refl _ | refine ⟨?_, ?_⟩))) (by unfold txR; (repeat (first | exact Sub.refl _ | refine Sub.pick (by first | exact p0 | exact pS p0 | exact pS (pS p0) | exact pS (pS (pS p0)) | exact pS (pS (pS (pS p0))) | exact pS (pS (pS (pS (pS p0))))) ?_)))⟩
  · have h2 := of_dec' h2
    have hk0 : k = N + 1 := by omega
    obtain ⟨q1, q2⟩ := bn_more (F := F) (c := c) (k := k) (by omega) (by omega) hc (by omega) (by omega)
    obtain ⟨o1, o2⟩ := bn_other (F := F) (c := c) (k := k) (by omega) (by omega) hc (by omega) (by omega)
    have hlast : (bnT F c k).put.length = k := by rw [bnT_put, bnL_len]
    have hqq : ((bnT F c k).put.length : Int) > 0 → 1 ≤ ((bnT F c k).put.getD (((bnT F c k).put.length : Int) - 1).toNat default).seq ∧ ((bnT F c k).put.getD (((bnT F c k).put.length : Int) - 1).toNat default).seq ≤ 1073741824 := by
      intro h
      rw [hlast, bnT_put, bnL_get (by omega)]
      dsimp only
      omega
    ((repeat refine S.seq ?_); refine S.region (L.go (T := tt) tt_ok rfl rfl ?sd916 ?_); (try (case sd916 => (repeat' (first | exact trivial | exact zA | with_reducible refine zI ?_ ?_ | exact zB | exact zC | exact zD | exact zE | rfl | exact zN rfl | omega | assumption | (simp; done) | (simp [splice]; done) | (simp; omega) | (unfold fits; omega) | (unfold fits; simp_all; omega) | (simp_all; omega) | (simp_all; done) | intro _)))); try (refine L.nil ?_))
    refine slotAs 62 (.v (.int .i64 (F + k + 1))) rfl (Imp.of_eq (by subst hk0; rfl)) ?_
    refine L.call (G := txR b20 p (.slice none 0 0) (bnT F c k)) (H := []) rfl rfl rfl rfl rfl rfl rfl ⟨trivial, by (repeat' (first | exact trivial | exact zA | with_reducible refine zI ?_ ?_ | exact zB | exact zC | exact zD | exact zE | rfl | exact zN rfl | omega | assumption | (simp; done) | (simp [splice]; done) | (simp; omega) | (unfold fits; omega) | (unfold fits; simp_all; omega) | (simp_all; omega) | (simp_all; done) | intro _))⟩ rfl (Imps.refl _) (by unfold txR; (repeat (first | exact pick0 | refine pickS (by first | exact p0 | exact pS p0 | exact pS (pS p0) | exact pS (pS (pS p0)) | exact pS (pS (pS (pS p0))) | exact pS (pS (pS (pS (pS p0)))) | exact pS (pS (pS (pS (pS (pS p0)))))) ?_))) (pub_p b20 _ _ (bnT F c k) 2 c (F + k + 1) ⟨#[98]⟩ (by omega) (by rw [bnT_ack]; decide) hqq) ?_
    rintro r F' ⟨p', rfl, rfl⟩
    rw [q1, q2]
    (refine L.go (T := tt) tt_ok rfl rfl ?sd925 ?_; (try (case sd925 => (repeat' (first | exact trivial | exact zA | with_reducible refine zI ?_ ?_ | exact zB | exact zC | exact zD | exact zE | rfl | exact zN rfl | omega | assumption | (simp; done) | (simp [splice]; done) | (simp; omega) | (unfold fits; omega) | (unfold fits; simp_all; omega) | (simp_all; omega) | (simp_all; done) | intro _)))); try (refine L.nil ?_))
    refine slotAs 68 (.v (.int .i64 (F + k))) rfl (Imp.of_eq (by subst hk0; rfl)) ?_
    refine L.call (G := txR b20 p' (.slice none 0 0) (bnT F c k)) (H := []) rfl rfl rfl rfl rfl rfl rfl ⟨trivial, by (repeat' (first | exact trivial | exact zA | with_reducible refine zI ?_ ?_ | exact zB | exact zC | exact zD | exact zE | rfl | exact zN rfl | omega | assumption | (simp; done) | (simp [splice]; done) | (simp; omega) | (unfold fits; omega) | (unfold fits; simp_all; omega) | (simp_all; omega) | (simp_all; done) | intro _))⟩ rfl (Imps.refl _) (by unfold txR; (repeat (first | exact pick0 | refine pickS (by first | exact p0 | exact pS p0 | exact pS (pS p0) | exact pS (pS (pS p0)) | exact pS (pS (pS (pS p0))) | exact pS (pS (pS (pS (pS p0)))) | exact pS (pS (pS (pS (pS (pS p0)))))) ?_))) (pub_p b20 _ _ (bnT F c k) 1 c (F + k) ⟨#[98]⟩ (by omega) (by rw [bnT_ack]; decide) hqq) ?_
    rintro r F' ⟨p3, rfl, rfl⟩
    rw [o1, o2]
    (refine L.go (T := tt) tt_ok rfl rfl ?sd926 ?_; (try (case sd926 => (repeat' (first | exact trivial | exact zA | with_reducible refine zI ?_ ?_ | exact zB | exact zC | exact zD | exact zE | rfl | exact zN rfl | omega | assumption | (simp; done) | (simp [splice]; done) | (simp; omega) | (unfold fits; omega) | (unfold fits; simp_all; omega) | (simp_all; omega) | (simp_all; done) | intro _)))); try (refine L.nil ?_))
    ((repeat refine S.seq ?_); refine S.region (L.go (T := tt) tt_ok rfl rfl ?sd917 ?_); (try (case sd917 => (repeat' (first | exact trivial | exact zA | with_reducible refine zI ?_ ?_ | exact zB | exact zC | exact zD | exact zE | rfl | exact zN rfl | omega | assumption | (simp; done) | (simp [splice]; done) | (simp; omega) | (unfold fits; omega) | (unfold fits; simp_all; omega) | (simp_all; omega) | (simp_all; done) | intro _)))); try (refine L.nil ?_))
    refine L.call (G := txR b20 p3 (.slice none 0 0) (bnT F c k)) (H := []) rfl rfl rfl rfl rfl rfl rfl ⟨trivial, by (repeat' (first | exact trivial | exact zA | with_reducible refine zI ?_ ?_ | exact zB | exact zC | exact zD | exact zE | rfl | exact zN rfl | omega | assumption | (simp; done) | (simp [splice]; done) | (simp; omega) | (unfold fits; omega) | (unfold fits; simp_all; omega) | (simp_all; omega) | (simp_all; done) | intro _))⟩ rfl (Imps.refl _) (by unfold txR; (repeat (first | exact pick0 | refine pickS (by first | exact p0 | exact pS p0 | exact pS (pS p0) | exact pS (pS (pS p0)) | exact pS (pS (pS (pS p0))) | exact pS (pS (pS (pS (pS p0)))) | exact pS (pS (pS (pS (pS (pS p0)))))) ?_))) (txtake_p b20 _ _ (bnT F c k) (by omega) (by rw [bnT_ack]; decide) (by rw [bnT_len]; omega)) ?_
    rintro r F' ⟨rfl, rfl⟩
    have hq2 : (bnT F c k).queue = 2 := by subst hk0; rfl
    rw [bnT_put, bnT_ack, hq2]
    (refine L.go (T := tt) tt_ok rfl rfl ?sd927 ?_; (try (case sd927 => (repeat' (first | exact trivial | exact zA | with_reducible refine zI ?_ ?_ | exact zB | exact zC | exact zD | exact zE | rfl | exact zN rfl | omega | assumption | (simp; done) | (simp [splice]; done) | (simp; omega) | (unfold fits; omega) | (unfold fits; simp_all; omega) | (simp_all; omega) | (simp_all; done) | intro _)))); try (refine L.nil ?_))
    refine freezeSlot 15 21 rfl rfl rfl ?_
    refine freezeSlot 16 22 rfl rfl rfl ?_
    repeat refine S.seq ?_
    refine S.region ?_
    refine L.callP rfl rfl rfl rfl rfl rfl rfl ⟨trivial, by (repeat' (first | exact trivial | exact zA | with_reducible refine zI ?_ ?_ | exact zB | exact zC | exact zD | exact zE | rfl | exact zN rfl | omega | assumption | (simp; done) | (simp [splice]; done) | (simp; omega) | (unfold fits; omega) | (unfold fits; simp_all; omega) | (simp_all; omega) | (simp_all; done) | intro _))⟩ rfl (Imps.refl _) new_p ?_
    (refine L.go (T := tt) tt_ok rfl rfl ?sd928 ?_; (try (case sd928 => (repeat' (first | exact trivial | exact zA | with_reducible refine zI ?_ ?_ | exact zB | exact zC | exact zD | exact zE | rfl | exact zN rfl | omega | assumption | (simp; done) | (simp [splice]; done) | (simp; omega) | (unfold fits; omega) | (unfold fits; simp_all; omega) | (simp_all; omega) | (simp_all; done) | intro _)))); try (refine L.nil ?_))
    refine L.callP rfl rfl rfl rfl rfl rfl rfl ⟨trivial, by (repeat' (first | exact trivial | exact zA | with_reducible refine zI ?_ ?_ | exact zB | exact zC | exact zD | exact zE | rfl | exact zN rfl | omega | assumption | (simp; done) | (simp [splice]; done) | (simp; omega) | (unfold fits; omega) | (unfold fits; simp_all; omega) | (simp_all; omega) | (simp_all; done) | intro _))⟩ rfl (Imps.refl _) (bdo_p t0 (bnL F c k) [] t0_f) ?_
    rw [bn_do (by omega) (by omega) hc (by omega) (by omega)]
    (refine L.go (T := tt) tt_ok rfl rfl ?sd929 ?_; (try (case sd929 => (repeat' (first | exact trivial | exact zA | with_reducible refine zI ?_ ?_ | exact zB | exact zC | exact zD | exact zE | rfl | exact zN rfl | omega | assumption | (simp; done) | (simp [splice]; done) | (simp; omega) | (unfold fits; omega) | (unfold fits; simp_all; omega) | (simp_all; omega) | (simp_all; done) | intro _)))); try (refine L.nil ?_))
    refine L.alloc (T := tt) 17 tt_ok rfl rfl rfl rfl rfl fun b17 => ?_
    (refine L.store (T := tt) tt_ok rfl rfl rfl rfl rfl rfl ?sd933 ?_; (try (case sd933 => (repeat' (first | exact trivial | exact zA | with_reducible refine zI ?_ ?_ | exact zB | exact zC | exact zD | exact zE | rfl | exact zN rfl | omega | assumption | (simp; done) | (simp [splice]; done) | (simp; omega) | (unfold fits; omega) | (unfold fits; simp_all; omega) | (simp_all; omega) | (simp_all; done) | intro _)))))
    (refine L.go (T := tt) tt_ok rfl rfl ?sd930 ?_; (try (case sd930 => (repeat' (first | exact trivial | exact zA | with_reducible refine zI ?_ ?_ | exact zB | exact zC | exact zD | exact zE | rfl | exact zN rfl | omega | assumption | (simp; done) | (simp [splice]; done) | (simp; omega) | (unfold fits; omega) | (unfold fits; simp_all; omega) | (simp_all; omega) | (simp_all; done) | intro _)))); try (refine L.nil ?_))
    ((repeat refine S.seq ?_); refine S.region (L.go (T := tt) tt_ok rfl rfl ?sd918 ?_); (try (case sd918 => (repeat' (first | exact trivial | exact zA | with_reducible refine zI ?_ ?_ | exact zB | exact zC | exact zD | exact zE | rfl | exact zN rfl | omega | assumption | (simp; done) | (simp [splice]; done) | (simp; omega) | (unfold fits; omega) | (unfold fits; simp_all; omega) | (simp_all; omega) | (simp_all; done) | intro _)))); try (refine L.nil ?_))
    ((repeat refine S.seq ?_); refine S.region (L.go (T := tt) tt_ok rfl rfl ?sd919 ?_); (try (case sd919 => (repeat' (first | exact trivial | exact zA | with_reducible refine zI ?_ ?_ | exact zB | exact zC | exact zD | exact zE | rfl | exact zN rfl | omega | assumption | (simp; done) | (simp [splice]; done) | (simp; omega) | (unfold fits; omega) | (unfold fits; simp_all; omega) | (simp_all; omega) | (simp_all; done) | intro _)))); try (refine L.nil ?_))
    refine S.cut (ι := Unit) (fun _ => [(7, .v (.int .i64 ((N : Int) + 1))), (8, .v (.int .i64 F)), (10, .v (.string c)), (12, .v (.int .i64 (if k = 8 then 4 else 1))), (13, .v (.int .i64 540)), (14, .v (.int .i64 2)), (15, msgs (bnL F c k)), (16, ints []), (17, .ptr 17 b17 0), (18, .v (.int .i64 0)), (19, .v (.int .i64 (if k = 8 then 4 else 1)))]) (fun _ => [(17, .blk b17 35 (Shard.cells ⟨false, 1, bnL F c k, [], [⟨3, c, F + k - 1⟩]⟩))]) ?_ ?_
    · ((repeat refine S.seq ?_); refine S.cond rfl (fun h4 => ?_) (fun h4 => ?_) <;> (try first | refine S.skip ?_ | refine S.exit ?_))
      · have h4 : k = 8 := by
          have : (N : Int) + 1 = 8 := by simpa using h4
          omega
        ((repeat refine S.seq ?_); refine S.region (L.go (T := tt) tt_ok rfl rfl ?sd920 ?_); (try (case sd920 => (repeat' (first | exact trivial | exact zA | with_reducible refine zI ?_ ?_ | exact zB | exact zC | exact zD | exact zE | rfl | exact zN rfl | omega | assumption | (simp; done) | (simp [splice]; done) | (simp; omega) | (unfold fits; omega) | (unfold fits; simp_all; omega) | (simp_all; omega) | (simp_all; done) | intro _)))); try (refine L.nil ?_))
        refine slotAs 19 (.v (.int .i64 (if k = 8 then 4 else 1))) rfl (Imp.of_eq (by rw [if_pos h4])) ?_
        exact fun a w hR => ⟨(), hR.weakP (by (repeat' (first | exact True.intro | exact Imp.refl _ | refine ⟨?_, ?_⟩))) (by (repeat (first | exact Sub.refl _ | refine Sub.pick (by first | exact p0 | exact pS p0 | exact pS (pS p0) | exact pS (pS (pS p0)) | exact pS (pS (pS (pS p0))) | exact pS (pS (pS (pS (pS p0))))) ?_)))⟩
      · have h4 : ¬ k = 8 := by
          have : ¬ (N : Int) + 1 = 8 := by simpa using h4
          omega
        refine slotAs 19 (.v (.int .i64 (if k = 8 then 4 else 1))) rfl (Imp.of_eq (by rw [if_neg h4])) ?_
        exact fun a w hR => ⟨(), hR.weakP (by (repeat' (first | exact True.intro | exact Imp.refl _ | refine ⟨?_, ?_⟩))) (by (repeat (first | exact Sub.refl _ | refine Sub.pick (by first | exact p0 | exact pS p0 | exact pS (pS p0) | exact pS (pS (pS p0)) | exact pS (pS (pS (pS p0))) | exact pS (pS (pS (pS (pS p0))))) ?_)))⟩
    rintro ⟨⟩
    have hl : (bnL F c k).length = k := bnL_len F c k
    repeat refine S.seq ?_
    refine S.region ?_
    refine L.callP rfl rfl rfl rfl rfl rfl rfl ⟨trivial, by (repeat' (first | exact trivial | exact zA | with_reducible refine zI ?_ ?_ | exact zB | exact zC | exact zD | exact zE | rfl | exact zN rfl | omega | assumption | (simp; done) | (simp [splice]; done) | (simp; omega) | (unfold fits; omega) | (unfold fits; simp_all; omega) | (simp_all; omega) | (simp_all; done) | intro _))⟩ rfl (Imps.refl _) told13_p ?_
    (refine L.go (T := tt) tt_ok rfl rfl ?sd931 ?_; (try (case sd931 => (repeat' (first | exact trivial | exact zA | with_reducible refine zI ?_ ?_ | exact zB | exact zC | exact zD | exact zE | rfl | exact zN rfl | omega | assumption | (simp; done) | (simp [splice]; done) | (simp; omega) | (unfold fits; omega) | (unfold fits; simp_all; omega) | (simp_all; omega) | (simp_all; done) | intro _)))); try (refine L.nil ?_))
    refine L.callG rfl rfl rfl rfl rfl rfl rfl (fun _ => ⟨trivial, by (repeat' (first | exact trivial | exact zA | with_reducible refine zI ?_ ?_ | exact zB | exact zC | exact zD | exact zE | rfl | exact zN rfl | omega | assumption | (simp; done) | (simp [splice]; done) | (simp; omega) | (unfold fits; omega) | (unfold fits; simp_all; omega) | (simp_all; omega) | (simp_all; done) | intro _))⟩) rfl (Imps.refl _) (fun _ => (last_p ⟨false, 1, bnL F c k, [], [⟨3, c, F + k - 1⟩]⟩ 3 c)) ?_
    (refine L.go (T := tt) tt_ok rfl rfl ?sd932 ?_; (try (case sd932 => (repeat' (first | exact trivial | exact zA | with_reducible refine zI ?_ ?_ | exact zB | exact zC | exact zD | exact zE | rfl | exact zN rfl | omega | assumption | (simp; done) | (simp [splice]; done) | (simp; omega) | (unfold fits; omega) | (unfold fits; simp_all; omega) | (simp_all; omega) | (simp_all; done) | intro _)))); try (refine L.nil ?_))
    (((repeat refine S.seq ?_); refine S.ret ?_); refine E.retP (T := tt) tt_ok rfl rfl (by (repeat' (first | exact trivial | exact zA | with_reducible refine zI ?_ ?_ | exact zB | exact zC | exact zD | exact zE | rfl | exact zN rfl | omega | assumption | (simp; done) | (simp [splice]; done) | (simp; omega) | (unfold fits; omega) | (unfold fits; simp_all; omega) | (simp_all; omega) | (simp_all; done) | intro _))) (Imp.of_eq ?_))
    have hla : lastOf [⟨3, c, F + k - 1⟩] 3 c = F + k - 1 := by
      have : markAt [⟨3, c, F + k - 1⟩] 3 c = 0 := by
        rcases markAt_cases [⟨3, c, F + k - 1⟩] 3 c with ⟨-, hno⟩ | ⟨i, hi, h, -⟩
        · exact absurd ⟨rfl, rfl⟩ (hno _ (List.mem_singleton.2 rfl))
        · rw [h]; simp at hi; omega
      rw [lastOf, this]; rfl
    subst hk0
    have hla' : lastOf [⟨3, c, F + ((N : Int) + 1) - 1⟩] 3 c = F + ((N : Int) + 1) - 1 := hla
    simp [hla', hl]
    rfl

end Go.Proofs.Ytgnklbdbglnmaaa
