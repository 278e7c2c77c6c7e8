/- Texts of this proof, laid together: SlG, SlH, SlI, SlJ, SlK. -/
import Derived.Test.YtlbbcjlhnjnkeaaMgK
import Derived.Test.YtlbbcjlhnjnkeaaMgI
import Derived.Test.YtlbbcjlhnjnkeaaMgC
import Derived.Test.YtlbbcjlhnjnkeaaMgD
/- A record, done to a shard. -/
namespace Go.Proofs.Ytlbbcjlhnjnkeaa
set_option linter.unusedVariables false
set_option linter.unusedSimpArgs false
set_option maxHeartbeats 8000000
open Go.RowKit
set_option maxRecDepth 4000

def gotR (s : Shard) (r : RecD) : Shard × Int := if ((getR s).2.2 == 0 && (getR s).2.1.tag != r.tag) = true then (s, 1) else ((getR s).1, (getR s).2.2)
def applyR (s : Shard) (r : RecD) : Shard × Int :=
  if mayRec r = false then (s, 1) else if r.kind = 1 then putR s r.batch else if r.kind = 2 then gotR s r else if r.kind = 3 then ackS s r.tag else if r.kind = 4 then nackS s r.tag
  else if r.kind = 5 then setFrozen s true else if r.kind = 6 then setFrozen s false else (r.shard, 0)

theorem slipapply_p (s : Shard) (r : RecD) (hs : s.fine) (h : RecOk r) : PFn Try.prog 19 [s.av, r.av] (.tup [(applyR s r).1.av, .v (.int .i64 (applyR s r).2)]) := by
  refine FnC.intro Try.func19 rfl Try.ntmps19 rfl ?_; intro off w0
  repeat refine S.seq ?_
  refine S.region ?_
  refine L.box 2 rfl rfl rfl rfl rfl trivial rfl fun b2 => ?_
  refine L.box 3 rfl rfl rfl rfl rfl trivial rfl fun b3 => ?_
  refine L.alloc (T := tt) 4 tt_ok rfl rfl rfl rfl rfl fun b4 => ?_
  (refine L.go (T := tt) tt_ok rfl rfl ?sd204 ?_; (try (case sd204 => (repeat' (first | exact trivial | with_reducible refine zI ?_ ?_)))); try (refine L.nil ?_))
  ((repeat refine S.seq ?_); refine S.region (L.go (T := tt) tt_ok rfl rfl ?sd168 ?_); (try (case sd168 => (repeat' (first | exact trivial | with_reducible refine zI ?_ ?_ | rfl | exact zN rfl)))); try (refine L.nil ?_))
  refine L.callP rfl rfl rfl rfl rfl rfl rfl ⟨trivial, by (repeat' (first | exact trivial | with_reducible refine zI ?_ ?_))⟩ rfl (Imps.refl _) (slipmay_p r h) ?_
  (refine L.go (T := tt) tt_ok rfl rfl ?sd205 ?_; (try (case sd205 => (repeat' (first | exact trivial | with_reducible refine zI ?_ ?_)))); try (refine L.nil ?_))
  ((repeat refine S.seq ?_); refine S.cond rfl (fun h0 => ?_) (fun h0 => ?_) <;> (try first | refine S.skip ?_ | refine S.exit ?_))
  · have e : mayRec r = false := by simpa using h0
    ((repeat refine S.seq ?_); refine S.region (L.go (T := tt) tt_ok rfl rfl ?sd169 ?_); (try (case sd169 => (repeat' (first | exact trivial | with_reducible refine zI ?_ ?_ | rfl | exact zN rfl)))); try (refine L.nil ?_))
    (refine L.store (T := tt) tt_ok rfl rfl rfl rfl rfl rfl ?sd242 ?_; (try (case sd242 => (repeat' (first | exact trivial | with_reducible refine zI ?_ ?_ | rfl | exact zN rfl)))))
    (refine L.go (T := tt) tt_ok rfl rfl ?sd206 ?_; (try (case sd206 => (repeat' (first | exact trivial | with_reducible refine zI ?_ ?_)))); try (refine L.nil ?_))
    ((repeat refine S.seq ?_); refine S.ret ?_)
    refine E.retP (T := tt) tt_ok rfl rfl (by (repeat' (first | exact trivial | with_reducible refine zI ?_ ?_ | rfl | exact zN rfl))) (Imp.of_eq ?_)
    rw [applyR, if_pos e]
    rfl
  have e : mayRec r ≠ false := by simpa using h0
  ((repeat refine S.seq ?_); refine S.region (L.go (T := tt) tt_ok rfl rfl ?sd170 ?_); (try (case sd170 => (repeat' (first | exact trivial | with_reducible refine zI ?_ ?_ | rfl)))); try (refine L.nil ?_))
  repeat refine S.seq ?_
  refine S.cut (ι := { u : Unit // applyR s r = (r.shard, 0) }) (fun _ => [(3, .ptr 3 b3 0), (4, .ptr 4 b4 0)]) (fun _ => [(4, .blk b4 29 [.v (.bool false), .v (.int .i64 0), .v (.slice none 0 0), .v (.slice none 0 0), .v (.slice none 0 0)]), (3, .blk b3 37 r.cells)]) ?_ ?_
  · refine S.block ?_
    ((repeat refine S.seq ?_); refine S.region (L.go (T := tt) tt_ok rfl rfl ?sd171 ?_); (try (case sd171 => (repeat' (first | exact trivial | with_reducible refine zI ?_ ?_)))); try (refine L.nil ?_))
    ((repeat refine S.seq ?_); refine S.cond rfl (fun k1 => ?_) (fun k1 => ?_) <;> (try first | refine S.skip ?_ | refine S.exit ?_))
    · have k1 := of_beq k1
      ((repeat refine S.seq ?_); refine S.region (L.go (T := tt) tt_ok rfl rfl ?sd172 ?_); (try (case sd172 => (repeat' (first | exact trivial | with_reducible refine zI ?_ ?_ | rfl | exact zN rfl)))); try (refine L.nil ?_))
      refine L.callP rfl rfl rfl rfl rfl rfl rfl ⟨trivial, by (repeat' (first | exact trivial | with_reducible refine zI ?_ ?_))⟩ rfl (Imps.refl _) (putR_p s r.batch hs) ?_
      (refine L.go (T := tt) tt_ok rfl rfl ?sd207 ?_; (try (case sd207 => (repeat' (first | exact trivial | with_reducible refine zI ?_ ?_)))); try (refine L.nil ?_))
      (refine L.store (T := tt) tt_ok rfl rfl rfl rfl rfl rfl ?sd243 ?_; (try (case sd243 => (repeat' (first | exact trivial | with_reducible refine zI ?_ ?_ | rfl | exact zN rfl)))))
      (refine L.go (T := tt) tt_ok rfl rfl ?sd208 ?_; (try (case sd208 => (repeat' (first | exact trivial | with_reducible refine zI ?_ ?_)))); try (refine L.nil ?_))
      ((repeat refine S.seq ?_); refine S.ret ?_)
      refine E.retP (T := tt) tt_ok rfl rfl (by (repeat' (first | exact trivial | with_reducible refine zI ?_ ?_ | rfl | exact zN rfl))) (Imp.of_eq ?_)
      rw [applyR, if_neg e, if_pos k1]
      rfl
    have k1 := of_nbeq k1
    ((repeat refine S.seq ?_); refine S.region (L.go (T := tt) tt_ok rfl rfl ?sd173 ?_); (try (case sd173 => (repeat' (first | exact trivial | with_reducible refine zI ?_ ?_)))); try (refine L.nil ?_))
    ((repeat refine S.seq ?_); refine S.cond rfl (fun k2 => ?_) (fun k2 => ?_) <;> (try first | refine S.skip ?_ | refine S.exit ?_))
    · have k2 := of_beq k2
      repeat refine S.seq ?_
      refine S.region ?_
      (refine L.go (T := tt) tt_ok rfl rfl ?sd209 ?_; (try (case sd209 => (repeat' (first | exact trivial | with_reducible refine zI ?_ ?_ | rfl | exact zN rfl)))); try (refine L.nil ?_))
      refine L.callP rfl rfl rfl rfl rfl rfl rfl ⟨trivial, by (repeat' (first | exact trivial | with_reducible refine zI ?_ ?_))⟩ rfl (Imps.refl _) (getR_p s hs) ?_
      (refine L.go (T := tt) tt_ok rfl rfl ?sd210 ?_; (try (case sd210 => (repeat' (first | exact trivial | with_reducible refine zI ?_ ?_)))); try (refine L.nil ?_))
      refine L.alloc (T := tt) 6 tt_ok rfl rfl rfl rfl rfl fun b6 => ?_
      refine L.alloc (T := tt) 7 tt_ok rfl rfl rfl rfl rfl fun b7 => ?_
      (refine L.store (T := tt) tt_ok rfl rfl rfl rfl rfl rfl ?sd244 ?_; (try (case sd244 => (repeat' (first | exact trivial | with_reducible refine zI ?_ ?_ | rfl | exact zN rfl)))))
      (refine L.store (T := tt) tt_ok rfl rfl rfl rfl rfl rfl ?sd245 ?_; (try (case sd245 => (repeat' (first | exact trivial | with_reducible refine zI ?_ ?_ | rfl | exact zN rfl)))))
      (refine L.go (T := tt) tt_ok rfl rfl ?sd211 ?_; (try (case sd211 => (repeat' (first | exact trivial | with_reducible refine zI ?_ ?_)))); try (refine L.nil ?_))
      ((repeat refine S.seq ?_); refine S.region (L.go (T := tt) tt_ok rfl rfl ?sd174 ?_); (try (case sd174 => (repeat' (first | exact trivial | exact zA | with_reducible refine zI ?_ ?_ | exact zB | exact zD | (simp; done))))); try (refine L.nil ?_))
      ((repeat refine S.seq ?_); refine S.cond rfl (fun k8 => ?_) (fun k8 => ?_) <;> (try first | refine S.skip ?_ | refine S.exit ?_))
      · ((repeat refine S.seq ?_); refine S.region (L.go (T := tt) tt_ok rfl rfl ?sd175 ?_); (try (case sd175 => (repeat' (first | exact trivial | with_reducible refine zI ?_ ?_ | rfl | exact zN rfl)))); try (refine L.nil ?_))
        (refine L.store (T := tt) tt_ok rfl rfl rfl rfl rfl rfl ?sd246 ?_; (try (case sd246 => (repeat' (first | exact trivial | with_reducible refine zI ?_ ?_ | rfl | exact zN rfl)))))
        (refine L.go (T := tt) tt_ok rfl rfl ?sd212 ?_; (try (case sd212 => (repeat' (first | exact trivial | with_reducible refine zI ?_ ?_)))); try (refine L.nil ?_))
        ((repeat refine S.seq ?_); refine S.ret ?_)
        refine E.retP (T := tt) tt_ok rfl rfl (by (repeat' (first | exact trivial | with_reducible refine zI ?_ ?_ | rfl | exact zN rfl))) (Imp.of_eq ?_)
        rw [applyR, if_neg e, if_neg k1, if_pos k2, gotR, if_pos k8]
        rfl
      ((repeat refine S.seq ?_); refine S.region (L.go (T := tt) tt_ok rfl rfl ?sd176 ?_); (try (case sd176 => (repeat' (first | exact trivial | with_reducible refine zI ?_ ?_ | rfl | exact zN rfl)))); try (refine L.nil ?_))
      (refine L.store (T := tt) tt_ok rfl rfl rfl rfl rfl rfl ?sd247 ?_; (try (case sd247 => (repeat' (first | exact trivial | with_reducible refine zI ?_ ?_ | rfl | exact zN rfl)))))
      (refine L.go (T := tt) tt_ok rfl rfl ?sd213 ?_; (try (case sd213 => (repeat' (first | exact trivial | with_reducible refine zI ?_ ?_)))); try (refine L.nil ?_))
      ((repeat refine S.seq ?_); refine S.ret ?_)
      refine E.retP (T := tt) tt_ok rfl rfl (by (repeat' (first | exact trivial | with_reducible refine zI ?_ ?_ | rfl | exact zN rfl))) (Imp.of_eq ?_)
      rw [applyR, if_neg e, if_neg k1, if_pos k2, gotR, if_neg (by rw [k8]; decide)]
      rfl
    have k2 := of_nbeq k2
    ((repeat refine S.seq ?_); refine S.region (L.go (T := tt) tt_ok rfl rfl ?sd177 ?_); (try (case sd177 => (repeat' (first | exact trivial | with_reducible refine zI ?_ ?_)))); try (refine L.nil ?_))
    ((repeat refine S.seq ?_); refine S.cond rfl (fun k3 => ?_) (fun k3 => ?_) <;> (try first | refine S.skip ?_ | refine S.exit ?_))
    · have k3 := of_beq k3
      ((repeat refine S.seq ?_); refine S.region (L.go (T := tt) tt_ok rfl rfl ?sd178 ?_); (try (case sd178 => (repeat' (first | exact trivial | with_reducible refine zI ?_ ?_ | rfl | exact zN rfl)))); try (refine L.nil ?_))
      refine L.callP rfl rfl rfl rfl rfl rfl rfl ⟨trivial, by (repeat' (first | exact trivial | with_reducible refine zI ?_ ?_))⟩ rfl (Imps.refl _) (ackR_p s r.tag hs) ?_
      (refine L.go (T := tt) tt_ok rfl rfl ?sd214 ?_; (try (case sd214 => (repeat' (first | exact trivial | with_reducible refine zI ?_ ?_)))); try (refine L.nil ?_))
      (refine L.store (T := tt) tt_ok rfl rfl rfl rfl rfl rfl ?sd248 ?_; (try (case sd248 => (repeat' (first | exact trivial | with_reducible refine zI ?_ ?_ | rfl | exact zN rfl)))))
      (refine L.go (T := tt) tt_ok rfl rfl ?sd215 ?_; (try (case sd215 => (repeat' (first | exact trivial | with_reducible refine zI ?_ ?_)))); try (refine L.nil ?_))
      ((repeat refine S.seq ?_); refine S.ret ?_)
      refine E.retP (T := tt) tt_ok rfl rfl (by (repeat' (first | exact trivial | with_reducible refine zI ?_ ?_ | rfl | exact zN rfl))) (Imp.of_eq ?_)
      rw [applyR, if_neg e, if_neg k1, if_neg k2, if_pos k3]
      rfl
    have k3 := of_nbeq k3
    ((repeat refine S.seq ?_); refine S.region (L.go (T := tt) tt_ok rfl rfl ?sd179 ?_); (try (case sd179 => (repeat' (first | exact trivial | with_reducible refine zI ?_ ?_)))); try (refine L.nil ?_))
    ((repeat refine S.seq ?_); refine S.cond rfl (fun k4 => ?_) (fun k4 => ?_) <;> (try first | refine S.skip ?_ | refine S.exit ?_))
    · have k4 := of_beq k4
      ((repeat refine S.seq ?_); refine S.region (L.go (T := tt) tt_ok rfl rfl ?sd180 ?_); (try (case sd180 => (repeat' (first | exact trivial | with_reducible refine zI ?_ ?_ | rfl | exact zN rfl)))); try (refine L.nil ?_))
      refine L.callP rfl rfl rfl rfl rfl rfl rfl ⟨trivial, by (repeat' (first | exact trivial | with_reducible refine zI ?_ ?_))⟩ rfl (Imps.refl _) (nackR_p s r.tag hs) ?_
      (refine L.go (T := tt) tt_ok rfl rfl ?sd216 ?_; (try (case sd216 => (repeat' (first | exact trivial | with_reducible refine zI ?_ ?_)))); try (refine L.nil ?_))
      (refine L.store (T := tt) tt_ok rfl rfl rfl rfl rfl rfl ?sd249 ?_; (try (case sd249 => (repeat' (first | exact trivial | with_reducible refine zI ?_ ?_ | rfl | exact zN rfl)))))
      (refine L.go (T := tt) tt_ok rfl rfl ?sd217 ?_; (try (case sd217 => (repeat' (first | exact trivial | with_reducible refine zI ?_ ?_)))); try (refine L.nil ?_))
      ((repeat refine S.seq ?_); refine S.ret ?_)
      refine E.retP (T := tt) tt_ok rfl rfl (by (repeat' (first | exact trivial | with_reducible refine zI ?_ ?_ | rfl | exact zN rfl))) (Imp.of_eq ?_)
      rw [applyR, if_neg e, if_neg k1, if_neg k2, if_neg k3, if_pos k4]
      rfl
    have k4 := of_nbeq k4
    ((repeat refine S.seq ?_); refine S.region (L.go (T := tt) tt_ok rfl rfl ?sd181 ?_); (try (case sd181 => (repeat' (first | exact trivial | with_reducible refine zI ?_ ?_)))); try (refine L.nil ?_))
    ((repeat refine S.seq ?_); refine S.cond rfl (fun k5 => ?_) (fun k5 => ?_) <;> (try first | refine S.skip ?_ | refine S.exit ?_))
    · have k5 := of_beq k5
      ((repeat refine S.seq ?_); refine S.region (L.go (T := tt) tt_ok rfl rfl ?sd182 ?_); (try (case sd182 => (repeat' (first | exact trivial | with_reducible refine zI ?_ ?_ | rfl | exact zN rfl)))); try (refine L.nil ?_))
      refine L.callP rfl rfl rfl rfl rfl rfl rfl ⟨trivial, by (repeat' (first | exact trivial | with_reducible refine zI ?_ ?_))⟩ rfl (Imps.refl _) (freeze_p s hs.small) ?_
      (refine L.go (T := tt) tt_ok rfl rfl ?sd218 ?_; (try (case sd218 => (repeat' (first | exact trivial | with_reducible refine zI ?_ ?_)))); try (refine L.nil ?_))
      (refine L.store (T := tt) tt_ok rfl rfl rfl rfl rfl rfl ?sd250 ?_; (try (case sd250 => (repeat' (first | exact trivial | with_reducible refine zI ?_ ?_ | rfl | exact zN rfl)))))
      (refine L.go (T := tt) tt_ok rfl rfl ?sd219 ?_; (try (case sd219 => (repeat' (first | exact trivial | with_reducible refine zI ?_ ?_)))); try (refine L.nil ?_))
      ((repeat refine S.seq ?_); refine S.ret ?_)
      refine E.retP (T := tt) tt_ok rfl rfl (by (repeat' (first | exact trivial | with_reducible refine zI ?_ ?_ | rfl | exact zN rfl))) (Imp.of_eq ?_)
      rw [applyR, if_neg e, if_neg k1, if_neg k2, if_neg k3, if_neg k4, if_pos k5]
      rfl
    have k5 := of_nbeq k5
    ((repeat refine S.seq ?_); refine S.region (L.go (T := tt) tt_ok rfl rfl ?sd183 ?_); (try (case sd183 => (repeat' (first | exact trivial | with_reducible refine zI ?_ ?_)))); try (refine L.nil ?_))
    ((repeat refine S.seq ?_); refine S.cond rfl (fun k6 => ?_) (fun k6 => ?_) <;> (try first | refine S.skip ?_ | refine S.exit ?_))
    · have k6 := of_beq k6
      ((repeat refine S.seq ?_); refine S.region (L.go (T := tt) tt_ok rfl rfl ?sd184 ?_); (try (case sd184 => (repeat' (first | exact trivial | with_reducible refine zI ?_ ?_ | rfl | exact zN rfl)))); try (refine L.nil ?_))
      refine L.callP rfl rfl rfl rfl rfl rfl rfl ⟨trivial, by (repeat' (first | exact trivial | with_reducible refine zI ?_ ?_))⟩ rfl (Imps.refl _) (thaw_p s hs.small) ?_
      (refine L.go (T := tt) tt_ok rfl rfl ?sd220 ?_; (try (case sd220 => (repeat' (first | exact trivial | with_reducible refine zI ?_ ?_)))); try (refine L.nil ?_))
      (refine L.store (T := tt) tt_ok rfl rfl rfl rfl rfl rfl ?sd251 ?_; (try (case sd251 => (repeat' (first | exact trivial | with_reducible refine zI ?_ ?_ | rfl | exact zN rfl)))))
      (refine L.go (T := tt) tt_ok rfl rfl ?sd221 ?_; (try (case sd221 => (repeat' (first | exact trivial | with_reducible refine zI ?_ ?_)))); try (refine L.nil ?_))
      ((repeat refine S.seq ?_); refine S.ret ?_)
      refine E.retP (T := tt) tt_ok rfl rfl (by (repeat' (first | exact trivial | with_reducible refine zI ?_ ?_ | rfl | exact zN rfl))) (Imp.of_eq ?_)
      rw [applyR, if_neg e, if_neg k1, if_neg k2, if_neg k3, if_neg k4, if_neg k5, if_pos k6]
      rfl
    have k6 := of_nbeq k6
    exact fun a w hR => ⟨⟨(), by rw [applyR, if_neg e, if_neg k1, if_neg k2, if_neg k3, if_neg k4, if_neg k5, if_neg k6]⟩, hR.weakP (by (repeat' (first | exact True.intro | exact Imp.refl _ | refine ⟨?_, ?_⟩))) (by (repeat (first | exact Sub.refl _ | refine Sub.pick (by first | exact p0 | exact pS p0 | exact pS (pS p0) | exact pS (pS (pS p0)) | exact pS (pS (pS (pS p0))) | exact pS (pS (pS (pS (pS p0))))) ?_)))⟩
  rintro ⟨⟨⟩, hq⟩
  ((repeat refine S.seq ?_); refine S.region (L.go (T := tt) tt_ok rfl rfl ?sd185 ?_); (try (case sd185 => (repeat' (first | exact trivial | with_reducible refine zI ?_ ?_ | rfl | exact zN rfl)))); try (refine L.nil ?_))
  (refine L.store (T := tt) tt_ok rfl rfl rfl rfl rfl rfl ?sd252 ?_; (try (case sd252 => (repeat' (first | exact trivial | with_reducible refine zI ?_ ?_ | rfl | exact zN rfl)))))
  (refine L.go (T := tt) tt_ok rfl rfl ?sd222 ?_; (try (case sd222 => (repeat' (first | exact trivial | with_reducible refine zI ?_ ?_)))); try (refine L.nil ?_))
  ((repeat refine S.seq ?_); refine S.ret ?_)
  refine E.retP (T := tt) tt_ok rfl rfl (by (repeat' (first | exact trivial | with_reducible refine zI ?_ ?_ | rfl | exact zN rfl))) (Imp.of_eq ?_)
  rw [hq]
  rfl

theorem rapply_p (s : Shard) (r : RecD) (hs : s.small) (h : RecOk r) : PFn Try.prog 17 [s.av, r.av] (.tup [(applyR s r).1.av, .v (.int .i64 (applyR s r).2)]) := by
  refine FnC.intro Try.func17 rfl Try.ntmps17 rfl ?_; intro off w0
  repeat refine S.seq ?_
  refine S.region ?_
  refine L.box 2 rfl rfl rfl rfl rfl trivial rfl fun b2 => ?_
  refine L.box 3 rfl rfl rfl rfl rfl trivial rfl fun b3 => ?_
  refine L.alloc (T := tt) 4 tt_ok rfl rfl rfl rfl rfl fun b4 => ?_
  (refine L.go (T := tt) tt_ok rfl rfl ?sd223 ?_; (try (case sd223 => (repeat' (first | exact trivial | with_reducible refine zI ?_ ?_)))); try (refine L.nil ?_))
  ((repeat refine S.seq ?_); refine S.region (L.go (T := tt) tt_ok rfl rfl ?sd186 ?_); (try (case sd186 => (repeat' (first | exact trivial | with_reducible refine zI ?_ ?_ | rfl | exact zN rfl)))); try (refine L.nil ?_))
  refine L.callP rfl rfl rfl rfl rfl rfl rfl ⟨trivial, by (repeat' (first | exact trivial | with_reducible refine zI ?_ ?_))⟩ rfl (Imps.refl _) (recmay_p r h) ?_
  (refine L.go (T := tt) tt_ok rfl rfl ?sd224 ?_; (try (case sd224 => (repeat' (first | exact trivial | with_reducible refine zI ?_ ?_)))); try (refine L.nil ?_))
  ((repeat refine S.seq ?_); refine S.cond rfl (fun h0 => ?_) (fun h0 => ?_) <;> (try first | refine S.skip ?_ | refine S.exit ?_))
  · have e : mayRec r = false := by simpa using h0
    ((repeat refine S.seq ?_); refine S.region (L.go (T := tt) tt_ok rfl rfl ?sd187 ?_); (try (case sd187 => (repeat' (first | exact trivial | with_reducible refine zI ?_ ?_ | rfl | exact zN rfl)))); try (refine L.nil ?_))
    (refine L.store (T := tt) tt_ok rfl rfl rfl rfl rfl rfl ?sd253 ?_; (try (case sd253 => (repeat' (first | exact trivial | with_reducible refine zI ?_ ?_ | rfl | exact zN rfl)))))
    (refine L.go (T := tt) tt_ok rfl rfl ?sd225 ?_; (try (case sd225 => (repeat' (first | exact trivial | with_reducible refine zI ?_ ?_)))); try (refine L.nil ?_))
    ((repeat refine S.seq ?_); refine S.ret ?_)
    refine E.retP (T := tt) tt_ok rfl rfl (by (repeat' (first | exact trivial | with_reducible refine zI ?_ ?_ | rfl | exact zN rfl))) (Imp.of_eq ?_)
    rw [applyR, if_pos e]
    rfl
  have e : mayRec r ≠ false := by simpa using h0
  ((repeat refine S.seq ?_); refine S.region (L.go (T := tt) tt_ok rfl rfl ?sd188 ?_); (try (case sd188 => (repeat' (first | exact trivial | with_reducible refine zI ?_ ?_ | rfl)))); try (refine L.nil ?_))
  repeat refine S.seq ?_
  refine S.cut (ι := { u : Unit // applyR s r = (r.shard, 0) }) (fun _ => [(3, .ptr 3 b3 0), (4, .ptr 4 b4 0)]) (fun _ => [(4, .blk b4 29 [.v (.bool false), .v (.int .i64 0), .v (.slice none 0 0), .v (.slice none 0 0), .v (.slice none 0 0)]), (3, .blk b3 37 r.cells)]) ?_ ?_
  · refine S.block ?_
    ((repeat refine S.seq ?_); refine S.region (L.go (T := tt) tt_ok rfl rfl ?sd189 ?_); (try (case sd189 => (repeat' (first | exact trivial | with_reducible refine zI ?_ ?_)))); try (refine L.nil ?_))
    ((repeat refine S.seq ?_); refine S.cond rfl (fun k1 => ?_) (fun k1 => ?_) <;> (try first | refine S.skip ?_ | refine S.exit ?_))
    · have k1 := of_beq k1
      ((repeat refine S.seq ?_); refine S.region (L.go (T := tt) tt_ok rfl rfl ?sd190 ?_); (try (case sd190 => (repeat' (first | exact trivial | with_reducible refine zI ?_ ?_ | rfl | exact zN rfl)))); try (refine L.nil ?_))
      refine L.callP rfl rfl rfl rfl rfl rfl rfl ⟨trivial, by (repeat' (first | exact trivial | with_reducible refine zI ?_ ?_))⟩ rfl (Imps.refl _) (rput_p s r.batch hs) ?_
      (refine L.go (T := tt) tt_ok rfl rfl ?sd226 ?_; (try (case sd226 => (repeat' (first | exact trivial | with_reducible refine zI ?_ ?_)))); try (refine L.nil ?_))
      (refine L.store (T := tt) tt_ok rfl rfl rfl rfl rfl rfl ?sd254 ?_; (try (case sd254 => (repeat' (first | exact trivial | with_reducible refine zI ?_ ?_ | rfl | exact zN rfl)))))
      (refine L.go (T := tt) tt_ok rfl rfl ?sd227 ?_; (try (case sd227 => (repeat' (first | exact trivial | with_reducible refine zI ?_ ?_)))); try (refine L.nil ?_))
      ((repeat refine S.seq ?_); refine S.ret ?_)
      refine E.retP (T := tt) tt_ok rfl rfl (by (repeat' (first | exact trivial | with_reducible refine zI ?_ ?_ | rfl | exact zN rfl))) (Imp.of_eq ?_)
      rw [applyR, if_neg e, if_pos k1]
      rfl
    have k1 := of_nbeq k1
    ((repeat refine S.seq ?_); refine S.region (L.go (T := tt) tt_ok rfl rfl ?sd191 ?_); (try (case sd191 => (repeat' (first | exact trivial | with_reducible refine zI ?_ ?_)))); try (refine L.nil ?_))
    ((repeat refine S.seq ?_); refine S.cond rfl (fun k2 => ?_) (fun k2 => ?_) <;> (try first | refine S.skip ?_ | refine S.exit ?_))
    · have k2 := of_beq k2
      repeat refine S.seq ?_
      refine S.region ?_
      (refine L.go (T := tt) tt_ok rfl rfl ?sd228 ?_; (try (case sd228 => (repeat' (first | exact trivial | with_reducible refine zI ?_ ?_ | rfl | exact zN rfl)))); try (refine L.nil ?_))
      refine L.callP rfl rfl rfl rfl rfl rfl rfl ⟨trivial, by (repeat' (first | exact trivial | with_reducible refine zI ?_ ?_))⟩ rfl (Imps.refl _) (rget_p s hs) ?_
      (refine L.go (T := tt) tt_ok rfl rfl ?sd229 ?_; (try (case sd229 => (repeat' (first | exact trivial | with_reducible refine zI ?_ ?_)))); try (refine L.nil ?_))
      refine L.alloc (T := tt) 6 tt_ok rfl rfl rfl rfl rfl fun b6 => ?_
      refine L.alloc (T := tt) 7 tt_ok rfl rfl rfl rfl rfl fun b7 => ?_
      (refine L.store (T := tt) tt_ok rfl rfl rfl rfl rfl rfl ?sd255 ?_; (try (case sd255 => (repeat' (first | exact trivial | with_reducible refine zI ?_ ?_ | rfl | exact zN rfl)))))
      (refine L.store (T := tt) tt_ok rfl rfl rfl rfl rfl rfl ?sd256 ?_; (try (case sd256 => (repeat' (first | exact trivial | with_reducible refine zI ?_ ?_ | rfl | exact zN rfl)))))
      (refine L.go (T := tt) tt_ok rfl rfl ?sd230 ?_; (try (case sd230 => (repeat' (first | exact trivial | with_reducible refine zI ?_ ?_)))); try (refine L.nil ?_))
      ((repeat refine S.seq ?_); refine S.region (L.go (T := tt) tt_ok rfl rfl ?sd192 ?_); (try (case sd192 => (repeat' (first | exact trivial | exact zA | with_reducible refine zI ?_ ?_ | exact zB | exact zD | (simp; done))))); try (refine L.nil ?_))
      ((repeat refine S.seq ?_); refine S.cond rfl (fun k8 => ?_) (fun k8 => ?_) <;> (try first | refine S.skip ?_ | refine S.exit ?_))
      · ((repeat refine S.seq ?_); refine S.region (L.go (T := tt) tt_ok rfl rfl ?sd193 ?_); (try (case sd193 => (repeat' (first | exact trivial | with_reducible refine zI ?_ ?_ | rfl | exact zN rfl)))); try (refine L.nil ?_))
        (refine L.store (T := tt) tt_ok rfl rfl rfl rfl rfl rfl ?sd257 ?_; (try (case sd257 => (repeat' (first | exact trivial | with_reducible refine zI ?_ ?_ | rfl | exact zN rfl)))))
        (refine L.go (T := tt) tt_ok rfl rfl ?sd231 ?_; (try (case sd231 => (repeat' (first | exact trivial | with_reducible refine zI ?_ ?_)))); try (refine L.nil ?_))
        ((repeat refine S.seq ?_); refine S.ret ?_)
        refine E.retP (T := tt) tt_ok rfl rfl (by (repeat' (first | exact trivial | with_reducible refine zI ?_ ?_ | rfl | exact zN rfl))) (Imp.of_eq ?_)
        rw [applyR, if_neg e, if_neg k1, if_pos k2, gotR, if_pos k8]
        rfl
      ((repeat refine S.seq ?_); refine S.region (L.go (T := tt) tt_ok rfl rfl ?sd194 ?_); (try (case sd194 => (repeat' (first | exact trivial | with_reducible refine zI ?_ ?_ | rfl | exact zN rfl)))); try (refine L.nil ?_))
      (refine L.store (T := tt) tt_ok rfl rfl rfl rfl rfl rfl ?sd258 ?_; (try (case sd258 => (repeat' (first | exact trivial | with_reducible refine zI ?_ ?_ | rfl | exact zN rfl)))))
      (refine L.go (T := tt) tt_ok rfl rfl ?sd232 ?_; (try (case sd232 => (repeat' (first | exact trivial | with_reducible refine zI ?_ ?_)))); try (refine L.nil ?_))
      ((repeat refine S.seq ?_); refine S.ret ?_)
      refine E.retP (T := tt) tt_ok rfl rfl (by (repeat' (first | exact trivial | with_reducible refine zI ?_ ?_ | rfl | exact zN rfl))) (Imp.of_eq ?_)
      rw [applyR, if_neg e, if_neg k1, if_pos k2, gotR, if_neg (by rw [k8]; decide)]
      rfl
    have k2 := of_nbeq k2
    ((repeat refine S.seq ?_); refine S.region (L.go (T := tt) tt_ok rfl rfl ?sd195 ?_); (try (case sd195 => (repeat' (first | exact trivial | with_reducible refine zI ?_ ?_)))); try (refine L.nil ?_))
    ((repeat refine S.seq ?_); refine S.cond rfl (fun k3 => ?_) (fun k3 => ?_) <;> (try first | refine S.skip ?_ | refine S.exit ?_))
    · have k3 := of_beq k3
      ((repeat refine S.seq ?_); refine S.region (L.go (T := tt) tt_ok rfl rfl ?sd196 ?_); (try (case sd196 => (repeat' (first | exact trivial | with_reducible refine zI ?_ ?_ | rfl | exact zN rfl)))); try (refine L.nil ?_))
      refine L.callP rfl rfl rfl rfl rfl rfl rfl ⟨trivial, by (repeat' (first | exact trivial | with_reducible refine zI ?_ ?_))⟩ rfl (Imps.refl _) (rack_p s r.tag hs) ?_
      (refine L.go (T := tt) tt_ok rfl rfl ?sd233 ?_; (try (case sd233 => (repeat' (first | exact trivial | with_reducible refine zI ?_ ?_)))); try (refine L.nil ?_))
      (refine L.store (T := tt) tt_ok rfl rfl rfl rfl rfl rfl ?sd259 ?_; (try (case sd259 => (repeat' (first | exact trivial | with_reducible refine zI ?_ ?_ | rfl | exact zN rfl)))))
      (refine L.go (T := tt) tt_ok rfl rfl ?sd234 ?_; (try (case sd234 => (repeat' (first | exact trivial | with_reducible refine zI ?_ ?_)))); try (refine L.nil ?_))
      ((repeat refine S.seq ?_); refine S.ret ?_)
      refine E.retP (T := tt) tt_ok rfl rfl (by (repeat' (first | exact trivial | with_reducible refine zI ?_ ?_ | rfl | exact zN rfl))) (Imp.of_eq ?_)
      rw [applyR, if_neg e, if_neg k1, if_neg k2, if_pos k3]
      rfl
    have k3 := of_nbeq k3
    ((repeat refine S.seq ?_); refine S.region (L.go (T := tt) tt_ok rfl rfl ?sd197 ?_); (try (case sd197 => (repeat' (first | exact trivial | with_reducible refine zI ?_ ?_)))); try (refine L.nil ?_))
    ((repeat refine S.seq ?_); refine S.cond rfl (fun k4 => ?_) (fun k4 => ?_) <;> (try first | refine S.skip ?_ | refine S.exit ?_))
    · have k4 := of_beq k4
      ((repeat refine S.seq ?_); refine S.region (L.go (T := tt) tt_ok rfl rfl ?sd198 ?_); (try (case sd198 => (repeat' (first | exact trivial | with_reducible refine zI ?_ ?_ | rfl | exact zN rfl)))); try (refine L.nil ?_))
      refine L.callP rfl rfl rfl rfl rfl rfl rfl ⟨trivial, by (repeat' (first | exact trivial | with_reducible refine zI ?_ ?_))⟩ rfl (Imps.refl _) (rnack_p s r.tag hs) ?_
      (refine L.go (T := tt) tt_ok rfl rfl ?sd235 ?_; (try (case sd235 => (repeat' (first | exact trivial | with_reducible refine zI ?_ ?_)))); try (refine L.nil ?_))
      (refine L.store (T := tt) tt_ok rfl rfl rfl rfl rfl rfl ?sd260 ?_; (try (case sd260 => (repeat' (first | exact trivial | with_reducible refine zI ?_ ?_ | rfl | exact zN rfl)))))
      (refine L.go (T := tt) tt_ok rfl rfl ?sd236 ?_; (try (case sd236 => (repeat' (first | exact trivial | with_reducible refine zI ?_ ?_)))); try (refine L.nil ?_))
      ((repeat refine S.seq ?_); refine S.ret ?_)
      refine E.retP (T := tt) tt_ok rfl rfl (by (repeat' (first | exact trivial | with_reducible refine zI ?_ ?_ | rfl | exact zN rfl))) (Imp.of_eq ?_)
      rw [applyR, if_neg e, if_neg k1, if_neg k2, if_neg k3, if_pos k4]
      rfl
    have k4 := of_nbeq k4
    ((repeat refine S.seq ?_); refine S.region (L.go (T := tt) tt_ok rfl rfl ?sd199 ?_); (try (case sd199 => (repeat' (first | exact trivial | with_reducible refine zI ?_ ?_)))); try (refine L.nil ?_))
    ((repeat refine S.seq ?_); refine S.cond rfl (fun k5 => ?_) (fun k5 => ?_) <;> (try first | refine S.skip ?_ | refine S.exit ?_))
    · have k5 := of_beq k5
      ((repeat refine S.seq ?_); refine S.region (L.go (T := tt) tt_ok rfl rfl ?sd200 ?_); (try (case sd200 => (repeat' (first | exact trivial | with_reducible refine zI ?_ ?_ | rfl | exact zN rfl)))); try (refine L.nil ?_))
      refine L.callP rfl rfl rfl rfl rfl rfl rfl ⟨trivial, by (repeat' (first | exact trivial | with_reducible refine zI ?_ ?_))⟩ rfl (Imps.refl _) (rfreeze_p s hs) ?_
      (refine L.go (T := tt) tt_ok rfl rfl ?sd237 ?_; (try (case sd237 => (repeat' (first | exact trivial | with_reducible refine zI ?_ ?_)))); try (refine L.nil ?_))
      (refine L.store (T := tt) tt_ok rfl rfl rfl rfl rfl rfl ?sd261 ?_; (try (case sd261 => (repeat' (first | exact trivial | with_reducible refine zI ?_ ?_ | rfl | exact zN rfl)))))
      (refine L.go (T := tt) tt_ok rfl rfl ?sd238 ?_; (try (case sd238 => (repeat' (first | exact trivial | with_reducible refine zI ?_ ?_)))); try (refine L.nil ?_))
      ((repeat refine S.seq ?_); refine S.ret ?_)
      refine E.retP (T := tt) tt_ok rfl rfl (by (repeat' (first | exact trivial | with_reducible refine zI ?_ ?_ | rfl | exact zN rfl))) (Imp.of_eq ?_)
      rw [applyR, if_neg e, if_neg k1, if_neg k2, if_neg k3, if_neg k4, if_pos k5]
      rfl
    have k5 := of_nbeq k5
    ((repeat refine S.seq ?_); refine S.region (L.go (T := tt) tt_ok rfl rfl ?sd201 ?_); (try (case sd201 => (repeat' (first | exact trivial | with_reducible refine zI ?_ ?_)))); try (refine L.nil ?_))
    ((repeat refine S.seq ?_); refine S.cond rfl (fun k6 => ?_) (fun k6 => ?_) <;> (try first | refine S.skip ?_ | refine S.exit ?_))
    · have k6 := of_beq k6
      ((repeat refine S.seq ?_); refine S.region (L.go (T := tt) tt_ok rfl rfl ?sd202 ?_); (try (case sd202 => (repeat' (first | exact trivial | with_reducible refine zI ?_ ?_ | rfl | exact zN rfl)))); try (refine L.nil ?_))
      refine L.callP rfl rfl rfl rfl rfl rfl rfl ⟨trivial, by (repeat' (first | exact trivial | with_reducible refine zI ?_ ?_))⟩ rfl (Imps.refl _) (rthaw_p s hs) ?_
      (refine L.go (T := tt) tt_ok rfl rfl ?sd239 ?_; (try (case sd239 => (repeat' (first | exact trivial | with_reducible refine zI ?_ ?_)))); try (refine L.nil ?_))
      (refine L.store (T := tt) tt_ok rfl rfl rfl rfl rfl rfl ?sd262 ?_; (try (case sd262 => (repeat' (first | exact trivial | with_reducible refine zI ?_ ?_ | rfl | exact zN rfl)))))
      (refine L.go (T := tt) tt_ok rfl rfl ?sd240 ?_; (try (case sd240 => (repeat' (first | exact trivial | with_reducible refine zI ?_ ?_)))); try (refine L.nil ?_))
      ((repeat refine S.seq ?_); refine S.ret ?_)
      refine E.retP (T := tt) tt_ok rfl rfl (by (repeat' (first | exact trivial | with_reducible refine zI ?_ ?_ | rfl | exact zN rfl))) (Imp.of_eq ?_)
      rw [applyR, if_neg e, if_neg k1, if_neg k2, if_neg k3, if_neg k4, if_neg k5, if_pos k6]
      rfl
    have k6 := of_nbeq k6
    exact fun a w hR => ⟨⟨(), by rw [applyR, if_neg e, if_neg k1, if_neg k2, if_neg k3, if_neg k4, if_neg k5, if_neg k6]⟩, hR.weakP (by (repeat' (first | exact True.intro | exact Imp.refl _ | refine ⟨?_, ?_⟩))) (by (repeat (first | exact Sub.refl _ | refine Sub.pick (by first | exact p0 | exact pS p0 | exact pS (pS p0) | exact pS (pS (pS p0)) | exact pS (pS (pS (pS p0))) | exact pS (pS (pS (pS (pS p0))))) ?_)))⟩
  rintro ⟨⟨⟩, hq⟩
  ((repeat refine S.seq ?_); refine S.region (L.go (T := tt) tt_ok rfl rfl ?sd203 ?_); (try (case sd203 => (repeat' (first | exact trivial | with_reducible refine zI ?_ ?_ | rfl | exact zN rfl)))); try (refine L.nil ?_))
  (refine L.store (T := tt) tt_ok rfl rfl rfl rfl rfl rfl ?sd263 ?_; (try (case sd263 => (repeat' (first | exact trivial | with_reducible refine zI ?_ ?_ | rfl | exact zN rfl)))))
  (refine L.go (T := tt) tt_ok rfl rfl ?sd241 ?_; (try (case sd241 => (repeat' (first | exact trivial | with_reducible refine zI ?_ ?_)))); try (refine L.nil ?_))
  ((repeat refine S.seq ?_); refine S.ret ?_)
  refine E.retP (T := tt) tt_ok rfl rfl (by (repeat' (first | exact trivial | with_reducible refine zI ?_ ?_ | rfl | exact zN rfl))) (Imp.of_eq ?_)
  rw [hq]
  rfl

end Go.Proofs.Ytlbbcjlhnjnkeaa

/- A log is opened. -/
namespace Go.Proofs.Ytlbbcjlhnjnkeaa
set_option linter.unusedVariables false
set_option linter.unusedSimpArgs false
set_option maxHeartbeats 8000000
open Go.RowKit
set_option maxRecDepth 4000

def sNew : Shard := ⟨false, 1, [], [], []⟩
def openG (f : Shard → List RecD → Shard × Int) (q : Shard × Int) (t : List RecD) : Shard × Int := if q.2 = 0 then f q.1 t else q
def openF : Shard → List RecD → Shard × Int
  | s, [] => (s, 0)
  | s, r :: t => if (applyR s r).2 = 0 then openF (applyR s r).1 t else applyR s r
instance : Inhabited RecD := ⟨rec0⟩
theorem may_apply {s : Shard} (m : May s) (r : RecD) : May (applyR s r).1 := by
  unfold applyR
  split
  · exact m
  rename_i h0
  split
  · exact may_putR m _
  rename_i h1
  split
  · unfold gotR
    split
    · exact m
    · exact may_getR m
  rename_i h2
  split
  · exact may_ackR m _
  rename_i h3
  split
  · exact may_nackR m _
  rename_i h4
  split
  · exact may_setR m _
  rename_i h5
  split
  · exact may_setR m _
  rename_i h6
  have h : mayShard r.shard = true := by
    have h0 : mayRec r = true := by simpa using h0
    rw [mayRec, if_neg h1, if_neg (by omega), if_neg (by omega)] at h0
    split at h0
    · simp only [Bool.and_eq_true] at h0
      exact h0.2
    · cases h0
  exact (may_iff _).1 h

theorem open_step {q : Shard × Int} {l : List RecD} {i : Nat} (h0 : q.2 = 0) (hi : i < l.length) : openG openF q (l.drop i) = openG openF (applyR q.1 (l.getD i default)) (l.drop (i + 1)) := by
  rw [openG, if_pos h0, List.drop_eq_getElem_cons hi, openF, getD_get hi]
  rfl
theorem open_end {q : Shard × Int} {l : List RecD} {i : Nat} (h : ¬ (i < l.length ∧ q.2 = 0)) : openG openF q (l.drop i) = q := by
  unfold openG
  split
  · rename_i h0
    rw [List.drop_eq_nil_of_le (by omega), openF]
    exact Prod.ext rfl h0.symm
  · rfl
theorem open_start (s : Shard) (l : List RecD) : openF s l = openG openF (s, 0) (l.drop 0) := by rw [openG, if_pos rfl]; rfl

theorem slipopen_p (l : List RecD) (hr : ∀ r ∈ l, RecOk r) : PFn Try.prog 7 [recsA l] (.tup [(openF sNew l).1.av, .v (.int .i64 (openF sNew l).2)]) := by
  rw [open_start]
  refine FnC.intro Try.func7 rfl Try.ntmps7 rfl ?_; intro off w0
  refine lenAt (sz := 9) (n := l.length) (g := gOf RecD.cells l) 0 rfl fun hn => ?_
  repeat refine S.seq ?_
  refine S.region ?_
  refine L.alloc (T := tt) 2 tt_ok rfl rfl rfl rfl rfl fun b2 => ?_
  (refine L.go (T := tt) tt_ok rfl rfl ?sd275 ?_; (try (case sd275 => (repeat' (first | exact trivial | with_reducible refine zI ?_ ?_)))); try (refine L.nil ?_))
  repeat refine S.seq ?_
  refine S.scopeE 0 (ι := { p : Nat × (Shard × Int) × Nat // p.1 ≤ l.length ∧ May p.2.1.1 ∧ openG openF p.2.1 (l.drop p.1) = openG openF (sNew, 0) (l.drop 0) })
    (fun p => [(0, recsA l), (2, .ptr 2 b2 0), (4, .ptr 4 p.1.2.2 0), (5, .v (.int .i64 p.1.2.1.2)), (6, .v (.int .i64 p.1.1))])
    (fun p => [(4, .blk p.1.2.2 29 p.1.2.1.1.cells), (2, .blk b2 29 [.v (.bool false), .v (.int .i64 0), .v (.slice none 0 0), .v (.slice none 0 0), .v (.slice none 0 0)])]) (fun p => l.length - p.1.1) rfl ?_ ?_
  · rintro ⟨⟨i, q, b4⟩, hi, hm, he⟩ J hJ
    dsimp only at hi hm he hJ ⊢
    ((repeat refine S.seq ?_); refine S.region (L.go (T := tt) tt_ok rfl rfl ?sd264 ?_); (try (case sd264 => (repeat' (first | exact trivial | exact zA | with_reducible refine zI ?_ ?_ | exact zB | exact zE)))); try (refine L.nil ?_))
    ((repeat refine S.seq ?_); refine S.cond rfl (fun hc => ?_) (fun hc => ?_) <;> (try first | refine S.skip ?_ | refine S.exit ?_))
    · have hc' : i < l.length ∧ q.2 = 0 := by
        simp only [Bool.and_eq_true, decide_eq_true_eq, beq_iff_eq] at hc
        omega
      have hok : RecOk (l.getD i default) := hr _ (by rw [getD_get hc'.1]; exact List.getElem_mem _)
      repeat refine S.seq ?_
      refine S.draw [(0, [4])] mixed ?_
      (refine H.ts (T := tt) [0, 1, 2, 3, 4] tt_ok (by kernel_rfl) (by kernel_rfl) (by kernel_rfl) (by intro ch a a' w h; obtain ⟨_, _, _, _, _, h, _⟩ := h; cases h) rfl ?sd286 ?_; (try (case sd286 => (repeat' (first | exact trivial | with_reducible refine zI ?_ ?_ | rfl | exact zN rfl | omega)))))
      refine H.callP 5 rfl (by kernel_rfl) (by kernel_rfl) rfl rfl rfl rfl rfl rfl rfl ⟨trivial, by (repeat' (first | exact trivial | with_reducible refine zI ?_ ?_))⟩ rfl (by exact Imps.refl _) ((slipapply_p q.1 (l.getD i default) hm.fine hok)) ?_
      refine H.rebase ?_
      (refine H.ts (T := tt) [6, 7, 8] tt_ok (by kernel_rfl) (by kernel_rfl) (by kernel_rfl) (by intro ch a a' w h; obtain ⟨_, _, _, _, _, h, _⟩ := h; cases h) rfl ?sd287 ?_; (try (case sd287 => (repeat' (first | exact trivial | with_reducible refine zI ?_ ?_)))))
      (refine H.store (T := tt) 9 rfl (by kernel_rfl) (by kernel_rfl) tt_ok rfl rfl rfl rfl rfl rfl ?sd294 rfl (by kernel_rfl) ?_; (try (case sd294 => (repeat' (first | exact trivial | with_reducible refine zI ?_ ?_ | rfl | exact zN rfl)))))
      (refine H.ts (T := tt) [10] tt_ok (by kernel_rfl) (by kernel_rfl) (by kernel_rfl) (by intro ch a a' w h; obtain ⟨_, _, _, _, _, h, _⟩ := h; cases h) rfl ?sd288 ?_; (try (case sd288 => (repeat' (first | exact trivial | with_reducible refine zI ?_ ?_)))))
      refine H.done (by kernel_rfl) ?_
      ((repeat refine S.seq ?_); refine S.region (L.go (T := tt) tt_ok rfl rfl ?sd265 ?_); (try (case sd265 => (repeat' (first | exact trivial | with_reducible refine zI ?_ ?_ | (unfold fits; omega))))); try (refine L.nil ?_))
      repeat refine S.seq ?_
      refine S.goto ?_
      exact fun a' w hR => ⟨rfl, hJ a' w ⟨(i + 1, applyR q.1 (l.getD i default), b4), by show i + 1 ≤ _; omega, may_apply hm _, by show openG openF (applyR q.1 (l.getD i default)) (l.drop (i + 1)) = _; rw [← he, open_step hc'.2 hc'.1]⟩ (by show l.length - (i + 1) < l.length - i; omega) (hR.weakP (by (repeat' (first | exact True.intro | exact Imp.refl _ | refine ⟨?_, ?_⟩))) (by (repeat (first | exact Sub.refl _ | refine Sub.pick (by first | exact p0 | exact pS p0 | exact pS (pS p0) | exact pS (pS (pS p0)) | exact pS (pS (pS (pS p0))) | exact pS (pS (pS (pS (pS p0))))) ?_))))⟩
    have hc' : ¬ (i < l.length ∧ q.2 = 0) := by
      rintro ⟨h1, h2⟩
      rw [h2, decide_eq_true (show (i : Int) < l.length by omega)] at hc
      cases hc
    have he' : q = openG openF (sNew, 0) (l.drop 0) := by rw [← he, open_end hc']
    rw [← he']
    ((repeat refine S.seq ?_); refine S.region (L.go (T := tt) tt_ok rfl rfl ?sd266 ?_); (try (case sd266 => (repeat' (first | exact trivial | with_reducible refine zI ?_ ?_ | rfl | exact zN rfl)))); try (refine L.nil ?_))
    (refine L.store (T := tt) tt_ok rfl rfl rfl rfl rfl rfl ?sd280 ?_; (try (case sd280 => (repeat' (first | exact trivial | with_reducible refine zI ?_ ?_ | rfl | exact zN rfl)))))
    (refine L.go (T := tt) tt_ok rfl rfl ?sd276 ?_; (try (case sd276 => (repeat' (first | exact trivial | with_reducible refine zI ?_ ?_)))); try (refine L.nil ?_))
    ((repeat refine S.seq ?_); refine S.ret ?_)
    exact E.retP (T := tt) tt_ok rfl rfl (by (repeat' (first | exact trivial | with_reducible refine zI ?_ ?_ | rfl | exact zN rfl))) (Imp.refl _)
  · intro hJ
    repeat refine S.seq ?_
    refine S.region ?_
    refine L.callP rfl rfl rfl rfl rfl rfl rfl ⟨trivial, by (repeat' (first | exact trivial))⟩ rfl (Imps.refl _) new_p ?_
    refine L.alloc (T := tt) 4 tt_ok rfl rfl rfl rfl rfl fun b4 => ?_
    (refine L.store (T := tt) tt_ok rfl rfl rfl rfl rfl rfl ?sd281 ?_; (try (case sd281 => (repeat' (first | exact trivial | with_reducible refine zI ?_ ?_ | rfl | exact zN rfl)))))
    refine L.nil ?_
    ((repeat refine S.seq ?_); refine S.region (L.go (T := tt) tt_ok rfl rfl ?sd267 ?_); (try (case sd267 => (repeat' (first | exact trivial | with_reducible refine zI ?_ ?_)))); try (refine L.nil ?_))
    repeat refine S.seq ?_
    refine S.label ?_
    exact fun a' w hR => hJ ⟨(0, (sNew, 0), b4), Nat.zero_le _, may_new, rfl⟩ a' w (hR.weakP (by (repeat' (first | exact True.intro | exact Imp.refl _ | refine ⟨?_, ?_⟩))) (by (repeat (first | exact Sub.refl _ | refine Sub.pick (by first | exact p0 | exact pS p0 | exact pS (pS p0) | exact pS (pS (pS p0)) | exact pS (pS (pS (pS p0))) | exact pS (pS (pS (pS (pS p0))))) ?_))))

theorem apply_err {s : Shard} {r : RecD} (h : (applyR s r).2 ≠ 0) : (applyR s r).1 = s := by
  unfold applyR at h ⊢
  split
  · rfl
  rename_i h0
  rw [if_neg h0] at h
  split
  · rename_i h1
    rw [if_pos h1] at h
    unfold putR at h ⊢
    rw [if_neg h]
  rename_i h1
  rw [if_neg h1] at h
  split
  · rename_i h2
    rw [if_pos h2] at h
    unfold gotR at h ⊢
    split
    · rfl
    · rename_i h3
      rw [if_neg h3] at h
      unfold getR at h ⊢
      exact if_neg h
  rename_i h2
  rw [if_neg h2] at h
  split
  · rename_i h3
    rw [if_pos h3] at h
    unfold ackS at h ⊢
    split
    · rename_i h4
      rw [if_pos h4] at h
      exact absurd rfl h
    · rfl
  rename_i h3
  rw [if_neg h3] at h
  split
  · rename_i h4
    rw [if_pos h4] at h
    unfold nackS at h ⊢
    split
    · rename_i h5
      rw [if_pos h5] at h
      exact absurd rfl h
    · rfl
  rename_i h4
  rw [if_neg h4] at h
  have hf : ∀ on, (setFrozen s on).2 ≠ 0 → (setFrozen s on).1 = s := fun on h => by
    unfold setFrozen at h ⊢
    split
    · rfl
    · rename_i h5
      rw [if_neg h5] at h
      split
      · rfl
      · rename_i h6
        rw [if_neg h6] at h
        exact absurd rfl h
  split
  · rename_i h5
    rw [if_pos h5] at h
    exact hf _ h
  rename_i h5
  rw [if_neg h5] at h
  split
  · rename_i h6
    rw [if_pos h6] at h
    exact hf _ h
  rename_i h6
  rw [if_neg h6] at h
  exact absurd rfl h

theorem openF_bad {s : Shard} {r : RecD} {t : List RecD} (h : (applyR s r).2 ≠ 0) : openF s (r :: t) = applyR s r := by rw [openF, if_neg h]

theorem refopen_p (l : List RecD) (hr : ∀ r ∈ l, RecOk r) : PFn Try.prog 8 [recsA l] (.tup [(openF sNew l).1.av, .v (.int .i64 (openF sNew l).2)]) := by
  rw [open_start]
  refine FnC.intro Try.func8 rfl Try.ntmps8 rfl ?_; intro off w0
  refine lenAt (sz := 9) (n := l.length) (g := gOf RecD.cells l) 0 rfl fun hn => ?_
  repeat refine S.seq ?_
  refine S.region ?_
  refine L.alloc (T := tt) 2 tt_ok rfl rfl rfl rfl rfl fun b2 => ?_
  (refine L.go (T := tt) tt_ok rfl rfl ?sd277 ?_; (try (case sd277 => (repeat' (first | exact trivial | with_reducible refine zI ?_ ?_)))); try (refine L.nil ?_))
  repeat refine S.seq ?_
  refine S.region ?_
  refine L.callP rfl rfl rfl rfl rfl rfl rfl ⟨trivial, by (repeat' (first | exact trivial))⟩ rfl (Imps.refl _) rnew_p ?_
  refine L.alloc (T := tt) 4 tt_ok rfl rfl rfl rfl rfl fun b4 => ?_
  (refine L.store (T := tt) tt_ok rfl rfl rfl rfl rfl rfl ?sd282 ?_; (try (case sd282 => (repeat' (first | exact trivial | with_reducible refine zI ?_ ?_ | rfl | exact zN rfl)))))
  refine L.nil ?_
  ((repeat refine S.seq ?_); refine S.region (L.go (T := tt) tt_ok rfl rfl ?sd268 ?_); (try (case sd268 => (repeat' (first | exact trivial | with_reducible refine zI ?_ ?_)))); try (refine L.nil ?_))
  repeat refine S.seq ?_
  refine S.block (S.loop (ι := { p : Nat × Shard // p.1 ≤ l.length ∧ May p.2 ∧ openG openF (p.2, 0) (l.drop p.1) = openG openF (sNew, 0) (l.drop 0) })
    (fun p => [(0, recsA l), (2, .ptr 2 b2 0), (4, .ptr 4 b4 0), (5, .v (.int .i64 p.1.1))])
    (fun p => [(4, .blk b4 29 p.1.2.cells), (2, .blk b2 29 [.v (.bool false), .v (.int .i64 0), .v (.slice none 0 0), .v (.slice none 0 0), .v (.slice none 0 0)])]) (fun p => l.length - p.1.1) ?_ ?_)
  · exact fun a w hR => ⟨⟨(0, sNew), Nat.zero_le _, may_new, rfl⟩, hR.weakP (by (repeat' (first | exact True.intro | exact Imp.refl _ | refine ⟨?_, ?_⟩))) (by (repeat (first | exact Sub.refl _ | refine Sub.pick (by first | exact p0 | exact pS p0 | exact pS (pS p0) | exact pS (pS (pS p0)) | exact pS (pS (pS (pS p0))) | exact pS (pS (pS (pS (pS p0))))) ?_)))⟩
  rintro ⟨⟨i, s⟩, hi, hm, he⟩
  dsimp only at hi hm he ⊢
  ((repeat refine S.seq ?_); refine S.region (L.go (T := tt) tt_ok rfl rfl ?sd269 ?_); (try (case sd269 => (repeat' (first | exact trivial | with_reducible refine zI ?_ ?_)))); try (refine L.nil ?_))
  ((repeat refine S.seq ?_); refine S.cond rfl (fun hc => ?_) (fun hc => ?_) <;> (try first | refine S.skip ?_ | refine S.exit ?_))
  · have hc' : i < l.length := by have := of_dec hc; omega
    have hok : RecOk (l.getD i default) := hr _ (by rw [getD_get hc']; exact List.getElem_mem _)
    have hstep := open_step (q := (s, 0)) rfl hc'
    rw [he] at hstep
    repeat refine S.seq ?_
    refine S.block ?_
    repeat refine S.seq ?_
    refine S.cut (ι := Nat) (fun b6 => [(0, recsA l), (2, .ptr 2 b2 0), (4, .ptr 4 b4 0), (5, .v (.int .i64 i)), (6, .ptr 6 b6 0), (7, .v (.int .i64 (applyR s (l.getD i default)).2))])
      (fun b6 => [(6, .blk b6 29 (applyR s (l.getD i default)).1.cells), (4, .blk b4 29 s.cells), (2, .blk b2 29 [.v (.bool false), .v (.int .i64 0), .v (.slice none 0 0), .v (.slice none 0 0), .v (.slice none 0 0)])]) ?_ ?_
    · refine S.draw [(0, [4])] mixed ?_
      (refine H.ts (T := tt) [0, 1, 2, 3, 4] tt_ok (by kernel_rfl) (by kernel_rfl) (by kernel_rfl) (by intro ch a a' w h; obtain ⟨_, _, _, _, _, h, _⟩ := h; cases h) rfl ?sd289 ?_; (try (case sd289 => (repeat' (first | exact trivial | with_reducible refine zI ?_ ?_ | rfl | exact zN rfl | omega)))))
      refine H.o2 5 9 rfl rfl (by kernel_rfl) (by kernel_rfl) (O.callP rfl rfl rfl rfl rfl rfl rfl ⟨trivial, by (repeat' (first | exact trivial | with_reducible refine zI ?_ ?_))⟩ rfl (by exact Imps.refl _) (rapply_p s (l.getD i default) hm.fine.small hok)) (O.alloc (T := tt) 6 tt_ok rfl rfl rfl rfl rfl) (.inr rfl) (.inr rfl) rfl rfl (fun _ => ?_) (fun b6 => ?_)
      · refine H.rebase ?_
        (refine H.ts (T := tt) [6, 7, 8] tt_ok (by kernel_rfl) (by kernel_rfl) (by kernel_rfl) (by intro ch a a' w h; obtain ⟨_, _, _, _, _, h, _⟩ := h; cases h) rfl ?sd290 ?_; (try (case sd290 => (repeat' (first | exact trivial | with_reducible refine zI ?_ ?_)))))
        refine H.o1 9 rfl (by kernel_rfl) (by kernel_rfl) (O.alloc (T := tt) 6 tt_ok rfl rfl rfl rfl rfl) (.inr rfl) rfl fun b6 => ?_
        (refine H.store (T := tt) 10 rfl (by kernel_rfl) (by kernel_rfl) tt_ok rfl rfl rfl rfl rfl rfl ?sd295 rfl (by kernel_rfl) ?_; (try (case sd295 => (repeat' (first | exact trivial | with_reducible refine zI ?_ ?_ | rfl | exact zN rfl)))))
        (refine H.ts (T := tt) [11] tt_ok (by kernel_rfl) (by kernel_rfl) (by kernel_rfl) (by intro ch a a' w h; obtain ⟨_, _, _, _, _, h, _⟩ := h; cases h) rfl ?sd291 ?_; (try (case sd291 => (repeat' (first | exact trivial | with_reducible refine zI ?_ ?_)))))
        refine H.done (by kernel_rfl) ?_
        exact fun a w hR => ⟨b6, hR.weakP (by (repeat' (first | exact True.intro | exact Imp.refl _ | refine ⟨?_, ?_⟩))) (by (repeat (first | exact Sub.refl _ | refine Sub.pick (by first | exact p0 | exact pS p0 | exact pS (pS p0) | exact pS (pS (pS p0)) | exact pS (pS (pS (pS p0))) | exact pS (pS (pS (pS (pS p0))))) ?_)))⟩
      · refine H.callP 5 rfl (by kernel_rfl) (by kernel_rfl) rfl rfl rfl rfl rfl rfl rfl ⟨trivial, by (repeat' (first | exact trivial | with_reducible refine zI ?_ ?_))⟩ rfl (by exact Imps.refl _) ((rapply_p s (l.getD i default) hm.fine.small hok)) ?_
        refine H.rebase ?_
        (refine H.ts (T := tt) [6, 7, 8] tt_ok (by kernel_rfl) (by kernel_rfl) (by kernel_rfl) (by intro ch a a' w h; obtain ⟨_, _, _, _, _, h, _⟩ := h; cases h) rfl ?sd292 ?_; (try (case sd292 => (repeat' (first | exact trivial | with_reducible refine zI ?_ ?_)))))
        (refine H.store (T := tt) 10 rfl (by kernel_rfl) (by kernel_rfl) tt_ok rfl rfl rfl rfl rfl rfl ?sd296 rfl (by kernel_rfl) ?_; (try (case sd296 => (repeat' (first | exact trivial | with_reducible refine zI ?_ ?_ | rfl | exact zN rfl)))))
        (refine H.ts (T := tt) [11] tt_ok (by kernel_rfl) (by kernel_rfl) (by kernel_rfl) (by intro ch a a' w h; obtain ⟨_, _, _, _, _, h, _⟩ := h; cases h) rfl ?sd293 ?_; (try (case sd293 => (repeat' (first | exact trivial | with_reducible refine zI ?_ ?_)))))
        refine H.done (by kernel_rfl) ?_
        exact fun a w hR => ⟨b6, hR.weakP (by (repeat' (first | exact True.intro | exact Imp.refl _ | refine ⟨?_, ?_⟩))) (by (repeat (first | exact Sub.refl _ | refine Sub.pick (by first | exact p0 | exact pS p0 | exact pS (pS p0) | exact pS (pS (pS p0)) | exact pS (pS (pS (pS p0))) | exact pS (pS (pS (pS (pS p0))))) ?_)))⟩
    intro b6
    ((repeat refine S.seq ?_); refine S.region (L.go (T := tt) tt_ok rfl rfl ?sd270 ?_); (try (case sd270 => (repeat' (first | exact trivial | with_reducible refine zI ?_ ?_)))); try (refine L.nil ?_))
    ((repeat refine S.seq ?_); refine S.cond rfl (fun h3 => ?_) (fun h3 => ?_) <;> (try first | refine S.skip ?_ | refine S.exit ?_))
    · have hz : (applyR s (l.getD i default)).2 ≠ 0 := by simpa using h3
      have he' : openG openF (sNew, 0) (l.drop 0) = applyR s (l.getD i default) := by
        rw [hstep]
        exact if_neg hz
      rw [he']
      ((repeat refine S.seq ?_); refine S.region (L.go (T := tt) tt_ok rfl rfl ?sd271 ?_); (try (case sd271 => (repeat' (first | exact trivial | with_reducible refine zI ?_ ?_ | rfl | exact zN rfl)))); try (refine L.nil ?_))
      (refine L.store (T := tt) tt_ok rfl rfl rfl rfl rfl rfl ?sd283 ?_; (try (case sd283 => (repeat' (first | exact trivial | with_reducible refine zI ?_ ?_ | rfl | exact zN rfl)))))
      (refine L.go (T := tt) tt_ok rfl rfl ?sd278 ?_; (try (case sd278 => (repeat' (first | exact trivial | with_reducible refine zI ?_ ?_)))); try (refine L.nil ?_))
      ((repeat refine S.seq ?_); refine S.ret ?_)
      exact E.retP (T := tt) tt_ok rfl rfl (by (repeat' (first | exact trivial | with_reducible refine zI ?_ ?_ | rfl | exact zN rfl))) (Imp.of_eq (by rw [apply_err hz]; rfl))
    have hz : (applyR s (l.getD i default)).2 = 0 := by simpa using h3
    ((repeat refine S.seq ?_); refine S.region (L.go (T := tt) tt_ok rfl rfl ?sd272 ?_); (try (case sd272 => (repeat' (first | exact trivial | with_reducible refine zI ?_ ?_ | rfl | exact zN rfl)))); try (refine L.nil ?_))
    (refine L.store (T := tt) tt_ok rfl rfl rfl rfl rfl rfl ?sd284 ?_; (try (case sd284 => (repeat' (first | exact trivial | with_reducible refine zI ?_ ?_ | rfl | exact zN rfl)))))
    refine L.nil ?_
    ((repeat refine S.seq ?_); refine S.region (L.go (T := tt) tt_ok rfl rfl ?sd273 ?_); (try (case sd273 => (repeat' (first | exact trivial | with_reducible refine zI ?_ ?_ | (unfold fits; omega))))); try (refine L.nil ?_))
    refine fun a w hR => ⟨⟨(i + 1, (applyR s (l.getD i default)).1), by show i + 1 ≤ _; omega, may_apply hm _, ?_⟩, by show l.length - (i + 1) < l.length - i; omega, hR.weakP (by (repeat' (first | exact True.intro | exact Imp.refl _ | refine ⟨?_, ?_⟩))) (by (repeat (first | exact Sub.refl _ | refine Sub.pick (by first | exact p0 | exact pS p0 | exact pS (pS p0) | exact pS (pS (pS p0)) | exact pS (pS (pS (pS p0))) | exact pS (pS (pS (pS (pS p0))))) ?_)))⟩
    show openG openF ((applyR s (l.getD i default)).1, 0) (l.drop (i + 1)) = _
    rw [hstep]
    exact congrArg (fun z => openG openF ((applyR s (l.getD i default)).1, z) (l.drop (i + 1))) hz.symm
  have hc' : ¬ (i < l.length ∧ (0 : Int) = 0) := by
    have := of_dec' hc
    omega
  rw [open_end (q := (s, 0)) hc'] at he
  rw [← he]
  ((repeat refine S.seq ?_); refine S.region (L.go (T := tt) tt_ok rfl rfl ?sd274 ?_); (try (case sd274 => (repeat' (first | exact trivial | with_reducible refine zI ?_ ?_ | rfl | exact zN rfl)))); try (refine L.nil ?_))
  (refine L.store (T := tt) tt_ok rfl rfl rfl rfl rfl rfl ?sd285 ?_; (try (case sd285 => (repeat' (first | exact trivial | with_reducible refine zI ?_ ?_ | rfl | exact zN rfl)))))
  (refine L.go (T := tt) tt_ok rfl rfl ?sd279 ?_; (try (case sd279 => (repeat' (first | exact trivial | with_reducible refine zI ?_ ?_)))); try (refine L.nil ?_))
  ((repeat refine S.seq ?_); refine S.ret ?_)
  exact E.retP (T := tt) tt_ok rfl rfl (by (repeat' (first | exact trivial | with_reducible refine zI ?_ ?_ | rfl | exact zN rfl))) (Imp.refl _)
end Go.Proofs.Ytlbbcjlhnjnkeaa

/- A log out of plays. -/
namespace Go.Proofs.Ytlbbcjlhnjnkeaa
set_option linter.unusedVariables false
set_option linter.unusedSimpArgs false
set_option maxHeartbeats 8000000
open Go.RowKit
set_option maxRecDepth 4000

theorem tmod_bd (a b : Int) (hb : 0 < b) : -b < a.tmod b ∧ a.tmod b < b := by
  have h1 := Int.emod_nonneg a (show b ≠ 0 by omega)
  have h2 := Int.emod_lt_of_pos a hb
  rw [Int.tmod_eq_emod]
  split <;> omega
theorem last_bound {s : Shard} (m : May s) (p : Int) (k : ByteArray) : 0 ≤ lastOf s.marks p k ∧ lastOf s.marks p k ≤ 1073741824 := by
  rw [lastOf_eq m.apart]
  rcases lastSeq_cases s.marks p k with ⟨h1, -⟩ | ⟨x, h1, -, h3⟩
  · omega
  · have := mayMsg_le (m.marks x h1)
    have e : (markMsg x).seq = x.seq := rfl
    omega
theorem same_self (s : Shard) : same s s = true := by rw [same_eq]; simp

def opsA (l : List OpD) : AV := .lst 6 l.length (gOf OpD.cells l)
def k9 (o : OpD) : Int := (o.kind.tmod 9 + 9).tmod 9
def pickT (s : Shard) (o : OpD) : Int := if (s.held.length : Int) > 0 then (s.held.getD (IntKind.i64.wrap ((IntKind.u64.wrap o.n).tmod (IntKind.u64.wrap s.held.length))).toNat default).tag else 1
def pickR (s : Shard) (o : OpD) : RecD :=
  if k9 o < 3 then ⟨1, 0, false, nextL s o, shard0⟩ else if k9 o < 5 then ⟨2, s.next, false, [], shard0⟩ else if k9 o = 5 then ⟨3, pickT s o, false, [], shard0⟩
  else if k9 o = 6 then ⟨4, pickT s o, false, [], shard0⟩ else if k9 o = 7 then ⟨5, 0, false, [], shard0⟩ else ⟨6, 0, false, [], shard0⟩
theorem pickR_ok (s : Shard) (o : OpD) : RecOk (pickR s o) ∧ (pickR s o).kind ≠ 7 := by
  have h : ∀ k t, k ≠ 1 → k ≠ 7 → RecOk ⟨k, t, false, [], shard0⟩ ∧ RecD.kind ⟨k, t, false, [], shard0⟩ ≠ 7 := fun k t h1 h7 => ⟨⟨rfl, fun _ => rfl, fun _ => rfl, shard0_small⟩, h7⟩
  unfold pickR
  split
  · exact ⟨⟨rfl, fun _ => rfl, fun h => absurd rfl h, shard0_small⟩, show (1 : Int) ≠ 7 by decide⟩
  split
  · exact h _ _ (by decide) (by decide)
  split
  · exact h _ _ (by decide) (by decide)
  split
  · exact h _ _ (by decide) (by decide)
  split
  · exact h _ _ (by decide) (by decide)
  · exact h _ _ (by decide) (by decide)

def logS (l : List OpD) : Nat → Shard × List RecD
  | 0 => (sNew, [])
  | k + 1 => if (applyR (logS l k).1 (pickR (logS l k).1 (l.getD k default))).2 = 0 then ((applyR (logS l k).1 (pickR (logS l k).1 (l.getD k default))).1, (logS l k).2 ++ [pickR (logS l k).1 (l.getD k default)]) else logS l k
theorem openF_app : ∀ (l m : List RecD) (s : Shard), openF s (l ++ m) = openG openF (openF s l) m
  | [], m, s => by rw [List.nil_append, openF, openG, if_pos rfl]
  | r :: t, m, s => by
    rw [List.cons_append, openF, openF]
    split
    · exact openF_app t m _
    · rename_i h
      rw [openG, if_neg h]
theorem openF_one (s : Shard) (r : RecD) : openF s [r] = applyR s r := by
  rw [openF]
  split
  · rename_i h
    rw [openF]
    exact Prod.ext rfl h.symm
  · rfl
structure LogOk (q : Shard × List RecD) (k : Nat) : Prop where
  may : May q.1
  ok : ∀ r ∈ q.2, RecOk r ∧ r.kind ≠ 7
  op : openF sNew q.2 = (q.1, 0)
  len : q.2.length ≤ k
theorem logS_ok (l : List OpD) : ∀ k, LogOk (logS l k) k
  | 0 => ⟨may_new, by simp [logS], rfl, Nat.le_refl _⟩
  | k + 1 => by
    have h := logS_ok l k
    rw [logS]
    generalize logS l k = q at *
    generalize l.getD k default = o
    split
    · rename_i hz
      refine ⟨may_apply h.may _, fun r hr => ?_, ?_, ?_⟩
      · rcases List.mem_append.1 hr with hr | hr
        · exact h.ok r hr
        · rw [List.mem_singleton.1 hr]
          exact pickR_ok _ _
      · show openF sNew (q.2 ++ [_]) = _
        rw [openF_app, h.op, openG, if_pos rfl, openF_one]
        exact Prod.ext rfl hz
      · show (q.2 ++ [_]).length ≤ _
        rw [List.length_append]
        have := h.len
        simp only [List.length_singleton]
        omega
    · exact ⟨h.may, h.ok, h.op, by have := h.len; omega⟩

def shZ : List AV := [.v (.bool false), .v (.int .i64 0), .v (.slice none 0 0), .v (.slice none 0 0), .v (.slice none 0 0)]
theorem log_p (l : List OpD) (hl : l.length ≤ 1000) : PFn Try.prog 6 [opsA l] (.tup [recsA (logS l l.length).2, (logS l l.length).1.av]) := by
  refine FnC.intro Try.func6 rfl Try.ntmps6 rfl ?_; intro off w0
  repeat refine S.seq ?_
  refine S.region ?_
  (refine L.go (T := tt) tt_ok rfl rfl ?sd318 ?_; (try (case sd318 => (repeat' (first | exact trivial | with_reducible refine zI ?_ ?_)))); try (refine L.nil ?_))
  refine L.alloc (T := tt) 3 tt_ok rfl rfl rfl rfl rfl fun b3 => ?_
  refine L.nil ?_
  repeat refine S.seq ?_
  refine S.region ?_
  refine L.callP rfl rfl rfl rfl rfl rfl rfl ⟨trivial, by (repeat' (first | exact trivial))⟩ rfl (Imps.refl _) rnew_p ?_
  refine L.alloc (T := tt) 4 tt_ok rfl rfl rfl rfl rfl fun b4 => ?_
  (refine L.store (T := tt) tt_ok rfl rfl rfl rfl rfl rfl ?sd327 ?_; (try (case sd327 => (repeat' (first | exact trivial | with_reducible refine zI ?_ ?_ | rfl | exact zN rfl)))))
  refine L.nil ?_
  ((repeat refine S.seq ?_); refine S.region (L.go (T := tt) tt_ok rfl rfl ?sd297 ?_); (try (case sd297 => (repeat' (first | exact trivial | with_reducible refine zI ?_ ?_)))); try (refine L.nil ?_))
  refine nilRow 5 37 9 (gOf RecD.cells []) ?_
  refine slotAs 5 (.ref 5 (.slice none 0 0)) rfl (Imp.vref rfl) ?_
  ((repeat refine S.seq ?_); refine S.region (L.go (T := tt) tt_ok rfl rfl ?sd298 ?_); (try (case sd298 => (repeat' (first | exact trivial | with_reducible refine zI ?_ ?_)))); try (refine L.nil ?_))
  repeat refine S.seq ?_
  refine S.cut (ι := Value) (fun y => [(3, .ptr 3 b3 0), (4, .ptr 4 b4 0), (5, .ref 5 y)])
    (fun y => [(5, .own y 37 9 (logS l l.length).2.length (gOf RecD.cells (logS l l.length).2)), (4, .blk b4 29 (logS l l.length).1.cells), (3, .blk b3 29 shZ)]) ?_ ?_
  · refine S.block (S.loop (ι := { p : Nat × Value // p.1 ≤ l.length })
      (fun p => [(0, opsA l), (3, .ptr 3 b3 0), (4, .ptr 4 b4 0), (5, .ref 5 p.1.2), (6, .v (.int .i64 p.1.1))])
      (fun p => [(5, .own p.1.2 37 9 (logS l p.1.1).2.length (gOf RecD.cells (logS l p.1.1).2)), (4, .blk b4 29 (logS l p.1.1).1.cells), (3, .blk b3 29 shZ)]) (fun p => l.length - p.1.1) ?_ ?_)
    · exact fun a w hR => ⟨⟨(0, .slice none 0 0), Nat.zero_le _⟩, hR.weakP (by (repeat' (first | exact True.intro | exact Imp.refl _ | refine ⟨?_, ?_⟩))) (by (repeat (first | exact Sub.refl _ | refine Sub.pick (by first | exact p0 | exact pS p0 | exact pS (pS p0) | exact pS (pS (pS p0)) | exact pS (pS (pS (pS p0))) | exact pS (pS (pS (pS (pS p0))))) ?_)))⟩
    rintro ⟨⟨k, y⟩, hk⟩
    dsimp only at hk ⊢
    ((repeat refine S.seq ?_); refine S.region (L.go (T := tt) tt_ok rfl rfl ?sd299 ?_); (try (case sd299 => (repeat' (first | exact trivial | with_reducible refine zI ?_ ?_)))); try (refine L.nil ?_))
    ((repeat refine S.seq ?_); refine S.cond rfl (fun hc => ?_) (fun hc => ?_) <;> (try first | refine S.skip ?_ | refine S.exit ?_))
    · have hc' : k < l.length := by have := of_dec hc; omega
      have hq := logS_ok l k
      have hnext : logS l (k + 1) = if (applyR (logS l k).1 (pickR (logS l k).1 (l.getD k default))).2 = 0 then ((applyR (logS l k).1 (pickR (logS l k).1 (l.getD k default))).1, (logS l k).2 ++ [pickR (logS l k).1 (l.getD k default)]) else logS l k := rfl
      obtain ⟨q, hqe⟩ : ∃ q, q = logS l k := ⟨_, rfl⟩
      rw [← hqe] at hq hnext ⊢
      obtain ⟨s, q⟩ := q
      have hm : May s := hq.may
      have hlen : q.length ≤ k := hq.len
      dsimp only at hnext ⊢
      obtain ⟨o, ho⟩ : ∃ o, o = l.getD k default := ⟨_, rfl⟩
      rw [← ho] at hnext
      have hkd := tmod_bd o.kind 9 (by decide)
      have hlb := last_bound hm (uM o.pub 4) (nameK (uM o.key 6))
      repeat refine S.seq ?_
      refine S.block ?_
      repeat refine S.seq ?_
      refine S.region ?_
      (refine L.go (T := tt) tt_ok rfl rfl ?sd319 ?_; (try (case sd319 => (repeat' (first | exact trivial | with_reducible refine zI ?_ ?_)))); try (refine L.nil ?_))
      refine L.alloc (T := tt) 7 tt_ok rfl rfl rfl rfl rfl fun b7 => ?_
      (refine L.store (T := tt) tt_ok rfl rfl rfl rfl rfl rfl ?sd328 ?_; (try (case sd328 => (repeat' (first | exact trivial | with_reducible refine zI ?_ ?_ | rfl | exact zN rfl)))))
      refine L.nil ?_
      refine blkAs 7 rec0.cells rfl recZ_imp ?_
      repeat refine S.seq ?_
      refine S.region ?_
      (refine L.go (T := tt) tt_ok rfl rfl ?sd320 ?_; (try (case sd320 => (repeat' (first | exact trivial | with_reducible refine zI ?_ ?_ | rfl | omega)))); try (refine L.nil ?_))
      refine L.alloc (T := tt) 8 tt_ok rfl rfl rfl rfl rfl fun b8 => ?_
      (refine L.store (T := tt) tt_ok rfl rfl rfl rfl rfl rfl ?sd329 ?_; (try (case sd329 => (repeat' (first | exact trivial | with_reducible refine zI ?_ ?_ | rfl | exact zN rfl)))))
      refine L.nil ?_
      refine blkAs 8 o.cells rfl (by rw [ho]; exact Imps.refl (l.getD k default).cells) ?_
      ((repeat refine S.seq ?_); refine S.region (L.go (T := tt) tt_ok rfl rfl ?sd300 ?_); (try (case sd300 => (repeat' (first | exact trivial | with_reducible refine zI ?_ ?_)))); try (refine L.nil ?_))
      ((repeat refine S.seq ?_); refine S.region (L.go (T := tt) tt_ok rfl rfl ?sd301 ?_); (try (case sd301 => (repeat' (first | exact trivial | with_reducible refine zI ?_ ?_ | rfl)))); try (refine L.nil ?_))
      repeat refine S.seq ?_
      refine S.cut (ι := Unit) (fun _ => [(0, opsA l), (3, .ptr 3 b3 0), (4, .ptr 4 b4 0), (5, .ref 5 y), (6, .v (.int .i64 k)), (7, .ptr 7 b7 0), (8, .ptr 8 b8 0), (9, .v (.int .i64 (pickT s o)))])
        (fun _ => [(8, .blk b8 51 o.cells), (7, .blk b7 37 rec0.cells), (5, .own y 37 9 q.length (gOf RecD.cells q)), (4, .blk b4 29 s.cells), (3, .blk b3 29 shZ)]) ?_ ?_
      · ((repeat refine S.seq ?_); refine S.cond rfl (fun h1 => ?_) (fun h1 => ?_) <;> (try first | refine S.skip ?_ | refine S.exit ?_))
        · have hlen2 : s.held.length ≤ 48 := by have := hm.all; omega
          have hpos : 0 < (s.held.length : Int) := of_dec h1
          have hwl : IntKind.u64.wrap (s.held.length : Int) = s.held.length := by simp [IntKind.wrap, IntKind.signed, IntKind.bits]; omega
          have hidx := uM_lt o.n s.held.length hpos (by omega)
          unfold uM at hidx
          repeat refine S.seq ?_
          refine S.draw [(1, [4]), (3, [8]), (6, [4])] mixed ?_
          (refine H.ts (T := tt) [0, 1, 2, 3, 4, 5, 6, 7, 8, 9, 10, 11, 12, 13, 14] tt_ok (by kernel_rfl) (by kernel_rfl) (by kernel_rfl) (by intro ch a a' w h; obtain ⟨_, _, _, _, _, h, _⟩ := h; cases h) rfl ?sd338 ?_; (try (case sd338 => (repeat' (first | exact trivial | with_reducible refine zI ?_ ?_ | rfl | omega | (simp_all; done))))))
          refine H.done (by kernel_rfl) ?_
          unfold pickT
          rw [if_pos hpos]
          exact fun a w hR => ⟨(), hR.weakP (by (repeat' (first | exact True.intro | exact Imp.refl _ | refine ⟨?_, ?_⟩))) (by (repeat (first | exact Sub.refl _ | refine Sub.pick (by first | exact p0 | exact pS p0 | exact pS (pS p0) | exact pS (pS (pS p0)) | exact pS (pS (pS (pS p0))) | exact pS (pS (pS (pS (pS p0))))) ?_)))⟩
        · have h1 := of_dec' h1
          unfold pickT
          rw [if_neg h1]
          exact fun a w hR => ⟨(), hR.weakP (by (repeat' (first | exact True.intro | exact Imp.refl _ | refine ⟨?_, ?_⟩))) (by (repeat (first | exact Sub.refl _ | refine Sub.pick (by first | exact p0 | exact pS p0 | exact pS (pS p0) | exact pS (pS (pS p0)) | exact pS (pS (pS (pS p0))) | exact pS (pS (pS (pS (pS p0))))) ?_)))⟩
      rintro ⟨⟩
      ((repeat refine S.seq ?_); refine S.region (L.go (T := tt) tt_ok rfl rfl ?sd302 ?_); (try (case sd302 => (repeat' (first | exact trivial | with_reducible refine zI ?_ ?_ | rfl | omega | (unfold fits; omega))))); try (refine L.nil ?_))
      refine slotAs 10 (.v (.int .i64 (k9 o))) rfl (Imp.of_eq rfl) ?_
      repeat refine S.seq ?_
      refine S.cut (ι := Unit) (fun _ => [(0, opsA l), (3, .ptr 3 b3 0), (4, .ptr 4 b4 0), (5, .ref 5 y), (6, .v (.int .i64 k)), (7, .ptr 7 b7 0)])
        (fun _ => [(7, .blk b7 37 (pickR s o).cells), (5, .own y 37 9 q.length (gOf RecD.cells q)), (4, .blk b4 29 s.cells), (3, .blk b3 29 shZ)]) ?_ ?_
      · refine S.block ?_
        ((repeat refine S.seq ?_); refine S.region (L.go (T := tt) tt_ok rfl rfl ?sd303 ?_); (try (case sd303 => (repeat' (first | exact trivial | with_reducible refine zI ?_ ?_)))); try (refine L.nil ?_))
        ((repeat refine S.seq ?_); refine S.cond rfl (fun h1 => ?_) (fun h1 => ?_) <;> (try first | refine S.skip ?_ | refine S.exit ?_))
        · have h1 := of_dec h1
          ((repeat refine S.seq ?_); refine S.region (L.go (T := tt) tt_ok rfl rfl ?sd304 ?_); (try (case sd304 => (repeat' (first | exact trivial | with_reducible refine zI ?_ ?_ | rfl | exact zN rfl)))); try (refine L.nil ?_))
          refine L.callP rfl rfl rfl rfl rfl rfl rfl ⟨trivial, by (repeat' (first | exact trivial | with_reducible refine zI ?_ ?_))⟩ rfl (Imps.refl _) (next_p s o ⟨by omega, by omega⟩) ?_
          (refine L.go (T := tt) tt_ok rfl rfl ?sd321 ?_; (try (case sd321 => (repeat' (first | exact trivial | with_reducible refine zI ?_ ?_ | rfl | exact zN rfl)))); try (refine L.nil ?_))
          (refine L.store (T := tt) tt_ok rfl rfl rfl rfl rfl rfl ?sd330 ?_; (try (case sd330 => (repeat' (first | exact trivial | with_reducible refine zI ?_ ?_ | rfl | exact zN rfl)))))
          refine L.nil ?_
          refine blkAs 7 (pickR s o).cells rfl (by rw [pickR, if_pos h1]; exact ⟨Imp.refl _, Imp.refl _, Imp.refl _, Imp.refl _, Imp.refl _, Imp.refl _, Imp.nil _ _, Imp.nil _ _, Imp.nil _ _, trivial⟩) ?_
          exact fun a w hR => ⟨(), hR.weakP (by (repeat' (first | exact True.intro | exact Imp.refl _ | refine ⟨?_, ?_⟩))) (by (repeat (first | exact Sub.refl _ | refine Sub.pick (by first | exact p0 | exact pS p0 | exact pS (pS p0) | exact pS (pS (pS p0)) | exact pS (pS (pS (pS p0))) | exact pS (pS (pS (pS (pS p0))))) ?_)))⟩
        have h1 := of_dec' h1
        ((repeat refine S.seq ?_); refine S.region (L.go (T := tt) tt_ok rfl rfl ?sd305 ?_); (try (case sd305 => (repeat' (first | exact trivial | with_reducible refine zI ?_ ?_)))); try (refine L.nil ?_))
        ((repeat refine S.seq ?_); refine S.cond rfl (fun h2 => ?_) (fun h2 => ?_) <;> (try first | refine S.skip ?_ | refine S.exit ?_))
        · have h2 := of_dec h2
          ((repeat refine S.seq ?_); refine S.region (L.go (T := tt) tt_ok rfl rfl ?sd306 ?_); (try (case sd306 => (repeat' (first | exact trivial | with_reducible refine zI ?_ ?_ | rfl | exact zN rfl)))); try (refine L.nil ?_))
          (refine L.store (T := tt) tt_ok rfl rfl rfl rfl rfl rfl ?sd331 ?_; (try (case sd331 => (repeat' (first | exact trivial | with_reducible refine zI ?_ ?_ | rfl | exact zN rfl)))))
          refine L.nil ?_
          refine blkAs 7 (pickR s o).cells rfl (by rw [pickR, if_neg h1, if_pos h2]; exact ⟨Imp.refl _, Imp.refl _, Imp.refl _, Imp.nil _ _, Imp.refl _, Imp.refl _, Imp.nil _ _, Imp.nil _ _, Imp.nil _ _, trivial⟩) ?_
          exact fun a w hR => ⟨(), hR.weakP (by (repeat' (first | exact True.intro | exact Imp.refl _ | refine ⟨?_, ?_⟩))) (by (repeat (first | exact Sub.refl _ | refine Sub.pick (by first | exact p0 | exact pS p0 | exact pS (pS p0) | exact pS (pS (pS p0)) | exact pS (pS (pS (pS p0))) | exact pS (pS (pS (pS (pS p0))))) ?_)))⟩
        have h2 := of_dec' h2
        ((repeat refine S.seq ?_); refine S.region (L.go (T := tt) tt_ok rfl rfl ?sd307 ?_); (try (case sd307 => (repeat' (first | exact trivial | with_reducible refine zI ?_ ?_)))); try (refine L.nil ?_))
        ((repeat refine S.seq ?_); refine S.cond rfl (fun h3 => ?_) (fun h3 => ?_) <;> (try first | refine S.skip ?_ | refine S.exit ?_))
        · have h3 := of_beq h3
          ((repeat refine S.seq ?_); refine S.region (L.go (T := tt) tt_ok rfl rfl ?sd308 ?_); (try (case sd308 => (repeat' (first | exact trivial | with_reducible refine zI ?_ ?_ | rfl | exact zN rfl)))); try (refine L.nil ?_))
          (refine L.store (T := tt) tt_ok rfl rfl rfl rfl rfl rfl ?sd332 ?_; (try (case sd332 => (repeat' (first | exact trivial | with_reducible refine zI ?_ ?_ | rfl | exact zN rfl)))))
          refine L.nil ?_
          refine blkAs 7 (pickR s o).cells rfl (by rw [pickR, if_neg h1, if_neg h2, if_pos h3]; exact ⟨Imp.refl _, Imp.refl _, Imp.refl _, Imp.nil _ _, Imp.refl _, Imp.refl _, Imp.nil _ _, Imp.nil _ _, Imp.nil _ _, trivial⟩) ?_
          exact fun a w hR => ⟨(), hR.weakP (by (repeat' (first | exact True.intro | exact Imp.refl _ | refine ⟨?_, ?_⟩))) (by (repeat (first | exact Sub.refl _ | refine Sub.pick (by first | exact p0 | exact pS p0 | exact pS (pS p0) | exact pS (pS (pS p0)) | exact pS (pS (pS (pS p0))) | exact pS (pS (pS (pS (pS p0))))) ?_)))⟩
        have h3 := of_nbeq h3
        ((repeat refine S.seq ?_); refine S.region (L.go (T := tt) tt_ok rfl rfl ?sd309 ?_); (try (case sd309 => (repeat' (first | exact trivial | with_reducible refine zI ?_ ?_)))); try (refine L.nil ?_))
        ((repeat refine S.seq ?_); refine S.cond rfl (fun h4 => ?_) (fun h4 => ?_) <;> (try first | refine S.skip ?_ | refine S.exit ?_))
        · have h4 := of_beq h4
          ((repeat refine S.seq ?_); refine S.region (L.go (T := tt) tt_ok rfl rfl ?sd310 ?_); (try (case sd310 => (repeat' (first | exact trivial | with_reducible refine zI ?_ ?_ | rfl | exact zN rfl)))); try (refine L.nil ?_))
          (refine L.store (T := tt) tt_ok rfl rfl rfl rfl rfl rfl ?sd333 ?_; (try (case sd333 => (repeat' (first | exact trivial | with_reducible refine zI ?_ ?_ | rfl | exact zN rfl)))))
          refine L.nil ?_
          refine blkAs 7 (pickR s o).cells rfl (by rw [pickR, if_neg h1, if_neg h2, if_neg h3, if_pos h4]; exact ⟨Imp.refl _, Imp.refl _, Imp.refl _, Imp.nil _ _, Imp.refl _, Imp.refl _, Imp.nil _ _, Imp.nil _ _, Imp.nil _ _, trivial⟩) ?_
          exact fun a w hR => ⟨(), hR.weakP (by (repeat' (first | exact True.intro | exact Imp.refl _ | refine ⟨?_, ?_⟩))) (by (repeat (first | exact Sub.refl _ | refine Sub.pick (by first | exact p0 | exact pS p0 | exact pS (pS p0) | exact pS (pS (pS p0)) | exact pS (pS (pS (pS p0))) | exact pS (pS (pS (pS (pS p0))))) ?_)))⟩
        have h4 := of_nbeq h4
        ((repeat refine S.seq ?_); refine S.region (L.go (T := tt) tt_ok rfl rfl ?sd311 ?_); (try (case sd311 => (repeat' (first | exact trivial | with_reducible refine zI ?_ ?_)))); try (refine L.nil ?_))
        ((repeat refine S.seq ?_); refine S.cond rfl (fun h5 => ?_) (fun h5 => ?_) <;> (try first | refine S.skip ?_ | refine S.exit ?_))
        · have h5 := of_beq h5
          ((repeat refine S.seq ?_); refine S.region (L.go (T := tt) tt_ok rfl rfl ?sd312 ?_); (try (case sd312 => (repeat' (first | exact trivial | with_reducible refine zI ?_ ?_ | rfl | exact zN rfl)))); try (refine L.nil ?_))
          (refine L.store (T := tt) tt_ok rfl rfl rfl rfl rfl rfl ?sd334 ?_; (try (case sd334 => (repeat' (first | exact trivial | with_reducible refine zI ?_ ?_ | rfl | exact zN rfl)))))
          refine L.nil ?_
          refine blkAs 7 (pickR s o).cells rfl (by rw [pickR, if_neg h1, if_neg h2, if_neg h3, if_neg h4, if_pos h5]; exact ⟨Imp.refl _, Imp.refl _, Imp.refl _, Imp.nil _ _, Imp.refl _, Imp.refl _, Imp.nil _ _, Imp.nil _ _, Imp.nil _ _, trivial⟩) ?_
          exact fun a w hR => ⟨(), hR.weakP (by (repeat' (first | exact True.intro | exact Imp.refl _ | refine ⟨?_, ?_⟩))) (by (repeat (first | exact Sub.refl _ | refine Sub.pick (by first | exact p0 | exact pS p0 | exact pS (pS p0) | exact pS (pS (pS p0)) | exact pS (pS (pS (pS p0))) | exact pS (pS (pS (pS (pS p0))))) ?_)))⟩
        have h5 := of_nbeq h5
        ((repeat refine S.seq ?_); refine S.region (L.go (T := tt) tt_ok rfl rfl ?sd313 ?_); (try (case sd313 => (repeat' (first | exact trivial | with_reducible refine zI ?_ ?_ | rfl | exact zN rfl)))); try (refine L.nil ?_))
        (refine L.store (T := tt) tt_ok rfl rfl rfl rfl rfl rfl ?sd335 ?_; (try (case sd335 => (repeat' (first | exact trivial | with_reducible refine zI ?_ ?_ | rfl | exact zN rfl)))))
        refine L.nil ?_
        refine blkAs 7 (pickR s o).cells rfl (by rw [pickR, if_neg h1, if_neg h2, if_neg h3, if_neg h4, if_neg h5]; exact ⟨Imp.refl _, Imp.refl _, Imp.refl _, Imp.nil _ _, Imp.refl _, Imp.refl _, Imp.nil _ _, Imp.nil _ _, Imp.nil _ _, trivial⟩) ?_
        exact fun a w hR => ⟨(), hR.weakP (by (repeat' (first | exact True.intro | exact Imp.refl _ | refine ⟨?_, ?_⟩))) (by (repeat (first | exact Sub.refl _ | refine Sub.pick (by first | exact p0 | exact pS p0 | exact pS (pS p0) | exact pS (pS (pS p0)) | exact pS (pS (pS (pS p0))) | exact pS (pS (pS (pS (pS p0))))) ?_)))⟩
      rintro ⟨⟩
      obtain ⟨r, hr⟩ : ∃ r, r = pickR s o := ⟨_, rfl⟩
      have hok : RecOk r := by rw [hr]; exact (pickR_ok s o).1
      rw [← hr] at hnext ⊢
      repeat refine S.seq ?_
      refine S.region ?_
      (refine L.go (T := tt) tt_ok rfl rfl ?sd322 ?_; (try (case sd322 => (repeat' (first | exact trivial | with_reducible refine zI ?_ ?_ | rfl | exact zN rfl)))); try (refine L.nil ?_))
      refine L.callP rfl rfl rfl rfl rfl rfl rfl ⟨trivial, by (repeat' (first | exact trivial | with_reducible refine zI ?_ ?_))⟩ rfl (Imps.refl _) (rapply_p s r hm.fine.small hok) ?_
      (refine L.go (T := tt) tt_ok rfl rfl ?sd323 ?_; (try (case sd323 => (repeat' (first | exact trivial | with_reducible refine zI ?_ ?_)))); try (refine L.nil ?_))
      refine L.alloc (T := tt) 11 tt_ok rfl rfl rfl rfl rfl fun b11 => ?_
      (refine L.store (T := tt) tt_ok rfl rfl rfl rfl rfl rfl ?sd336 ?_; (try (case sd336 => (repeat' (first | exact trivial | with_reducible refine zI ?_ ?_ | rfl | exact zN rfl)))))
      (refine L.go (T := tt) tt_ok rfl rfl ?sd324 ?_; (try (case sd324 => (repeat' (first | exact trivial | with_reducible refine zI ?_ ?_)))); try (refine L.nil ?_))
      ((repeat refine S.seq ?_); refine S.region (L.go (T := tt) tt_ok rfl rfl ?sd314 ?_); (try (case sd314 => (repeat' (first | exact trivial | with_reducible refine zI ?_ ?_)))); try (refine L.nil ?_))
      ((repeat refine S.seq ?_); refine S.cond rfl (fun h6 => ?_) (fun h6 => ?_) <;> (try first | refine S.skip ?_ | refine S.exit ?_))
      · have h6 := of_beq h6
        rw [if_pos h6] at hnext
        ((repeat refine S.seq ?_); refine S.region (L.go (T := tt) tt_ok rfl rfl ?sd315 ?_); (try (case sd315 => (repeat' (first | exact trivial | with_reducible refine zI ?_ ?_ | rfl | exact zN rfl)))); try (refine L.nil ?_))
        (refine L.store (T := tt) tt_ok rfl rfl rfl rfl rfl rfl ?sd337 ?_; (try (case sd337 => (repeat' (first | exact trivial | with_reducible refine zI ?_ ?_ | rfl | exact zN rfl)))))
        refine L.nil ?_
        repeat refine S.seq ?_
        refine S.region ?_
        (refine L.go (T := tt) tt_ok rfl rfl ?sd325 ?_; (try (case sd325 => (repeat' (first | exact trivial | with_reducible refine zI ?_ ?_ | rfl | exact zN rfl)))); try (refine L.nil ?_))
        refine L.buildSlice (T := tt) 12 tt_ok rfl rfl rfl rfl rfl rfl (by decide) (by decide) rfl rfl (by (repeat' (first | exact trivial | with_reducible refine zI ?_ ?_ | rfl | exact zN rfl))) fun x87 => ?_
        refine L.append (T := tt) tt_ok rfl rfl rfl rfl rfl rfl rfl rfl rfl rfl (by (repeat' (first | exact trivial | with_reducible refine zI ?_ ?_ | rfl))) ⟨rfl, by decide, by decide⟩ (by simp; omega) fun y88 => ?_
        refine ownAs 5 (gOf RecD.cells (q ++ [r])) rfl (show q.length + 1 = (q ++ [r]).length by simp) (fun i hi => app1_h RecD.cells q r _ rfl rfl hi) ?_
        (refine L.go (T := tt) tt_ok rfl rfl ?sd326 ?_; (try (case sd326 => (repeat' (first | exact trivial | with_reducible refine zI ?_ ?_)))); try (refine L.nil ?_))
        ((repeat refine S.seq ?_); refine S.region (L.go (T := tt) tt_ok rfl rfl ?sd316 ?_); (try (case sd316 => (repeat' (first | exact trivial | with_reducible refine zI ?_ ?_ | (unfold fits; omega))))); try (refine L.nil ?_))
        exact fun a w hR => ⟨⟨(k + 1, y88), by show k + 1 ≤ _; omega⟩, by show l.length - (k + 1) < l.length - k; omega, by rw [hnext]; exact hR.weakP (by (repeat' (first | exact True.intro | exact Imp.refl _ | refine ⟨?_, ?_⟩))) (by (repeat (first | exact Sub.refl _ | refine Sub.pick (by first | exact p0 | exact pS p0 | exact pS (pS p0) | exact pS (pS (pS p0)) | exact pS (pS (pS (pS p0))) | exact pS (pS (pS (pS (pS p0))))) ?_)))⟩
      have h6 := of_nbeq h6
      rw [if_neg h6, hqe] at hnext
      ((repeat refine S.seq ?_); refine S.region (L.go (T := tt) tt_ok rfl rfl ?sd317 ?_); (try (case sd317 => (repeat' (first | exact trivial | with_reducible refine zI ?_ ?_ | (unfold fits; omega))))); try (refine L.nil ?_))
      exact fun a w hR => ⟨⟨(k + 1, y), by show k + 1 ≤ _; omega⟩, by show l.length - (k + 1) < l.length - k; omega, by dsimp only; rw [hnext, ← hqe]; exact hR.weakP (by (repeat' (first | exact True.intro | exact Imp.refl _ | refine ⟨?_, ?_⟩))) (by (repeat (first | exact Sub.refl _ | refine Sub.pick (by first | exact p0 | exact pS p0 | exact pS (pS p0) | exact pS (pS (pS p0)) | exact pS (pS (pS (pS p0))) | exact pS (pS (pS (pS (pS p0))))) ?_)))⟩
    have hc' : k = l.length := by have := of_dec' hc; omega
    subst hc'
    exact fun a w hR => ⟨y, hR.weakP (by (repeat' (first | exact True.intro | exact Imp.refl _ | refine ⟨?_, ?_⟩))) (Sub.self _)⟩
  intro y
  have hq := logS_ok l l.length
  obtain ⟨q, hqe⟩ : ∃ q, q = logS l l.length := ⟨_, rfl⟩
  rw [← hqe]
  obtain ⟨s, q⟩ := q
  dsimp only
  repeat refine S.seq ?_
  refine S.draw [(1, [4])] mixed ?_
  (refine H.ts (T := tt) [0, 1, 2] tt_ok (by kernel_rfl) (by kernel_rfl) (by kernel_rfl) (by intro ch a a' w h; obtain ⟨_, _, _, _, _, h, _⟩ := h; cases h) rfl ?sd339 ?_; (try (case sd339 => (repeat' (first | exact trivial | with_reducible refine zI ?_ ?_ | rfl | exact zN rfl)))))
  (refine H.store (T := tt) 3 rfl (by kernel_rfl) (by kernel_rfl) tt_ok rfl rfl rfl rfl rfl rfl ?sd340 rfl (by kernel_rfl) ?_; (try (case sd340 => (repeat' (first | exact trivial | with_reducible refine zI ?_ ?_ | rfl | exact zN rfl)))))
  refine H.done (by kernel_rfl) ?_
  refine freezeSlot 2 5 rfl rfl rfl (slotAs 2 (recsA q) rfl (Imp.refl _) ?_)
  ((repeat refine S.seq ?_); refine S.ret ?_)
  exact E.retP (T := tt) tt_ok rfl rfl (by (repeat' (first | exact trivial | with_reducible refine zI ?_ ?_ | rfl | exact zN rfl))) (Imp.refl _)
end Go.Proofs.Ytlbbcjlhnjnkeaa

/- The few facts about records. -/
namespace Go.Proofs.Ytlbbcjlhnjnkeaa
set_option linter.unusedVariables false
set_option linter.unusedSimpArgs false
set_option maxHeartbeats 8000000
open Go.RowKit
set_option maxRecDepth 4000

def ka : RecD := ⟨1, 0, false, [⟨1, 2, ⟨#[107]⟩, ⟨#[98, 99]⟩, false⟩], shard0⟩
def kb : RecD := ⟨2, 1, false, [], shard0⟩
def kc : RecD := ⟨3, 1, false, [], shard0⟩
theorem ka_ok : RecOk ka := ⟨rfl, fun _ => rfl, fun h => absurd rfl h, shard0_small⟩
theorem kb_ok : RecOk kb := ⟨rfl, fun _ => rfl, fun _ => rfl, shard0_small⟩
theorem kc_ok : RecOk kc := ⟨rfl, fun _ => rfl, fun _ => rfl, shard0_small⟩
theorem rec0_ok : RecOk rec0 := ⟨rfl, fun _ => rfl, fun _ => rfl, shard0_small⟩
def kL : List RecD := [ka, kb, kc]
def kM : List RecD := [kb]
theorem kL_ok : ∀ r ∈ kL, RecOk r := by
  intro r h
  simp only [kL, List.mem_cons, List.not_mem_nil, or_false] at h
  rcases h with rfl | rfl | rfl
  · exact ka_ok
  · exact kb_ok
  · exact kc_ok
theorem kM_ok : ∀ r ∈ kM, RecOk r := by
  intro r h
  simp only [kM, List.mem_cons, List.not_mem_nil, or_false] at h
  rw [h]
  exact kb_ok
theorem k_facts : putC ka = 0 ∧ strL (putB ka) = ⟨#[1, 1, 1, 0, 0, 0, 2, 0, 1, 107, 2, 98, 99]⟩ ∧ rdK (putB ka) ≠ 7 ∧ (putB ka).length ≤ 1000000 ∧ slipG (putB ka) = (ka, 0) ∧ (slipG []).2 = 2 ∧ rdK [] ≠ 7 ∧ putC rec0 = 1 := by decide +kernel
theorem k_opens : (openF sNew kL).2 = 0 ∧ (openF sNew kL).1.next = 2 ∧ (openF sNew kL).1.ready = [] ∧ (openF sNew kL).1.marks.length = 1 ∧ (openF sNew kM).2 = 3 ∧ mayRec ka = true := by decide +kernel
theorem sameRec_self (r : RecD) : sameRec r r = true := by
  unfold sameRec
  rw [same_self]
  simp

theorem told14_p : PFn Try.prog 5 [] (.v (.bool true)) := by
  obtain ⟨f1, f2, f3, f4, f5, f6, f7, f8⟩ := k_facts
  obtain ⟨o1, o2, o3, o4, o5, o6⟩ := k_opens
  refine FnC.intro Try.func5 rfl Try.ntmps5 rfl ?_; intro off w0
  ((repeat refine S.seq ?_); refine S.region (L.go (T := tt) tt_ok rfl rfl ?sd341 ?_); (try (case sd341 => (repeat' (first | exact trivial | with_reducible refine zI ?_ ?_)))); try (refine L.nil ?_))
  repeat refine S.seq ?_
  refine S.region ?_
  (refine L.go (T := tt) tt_ok rfl rfl ?sd342 ?_; (try (case sd342 => (repeat' (first | exact trivial | with_reducible refine zI ?_ ?_ | rfl | exact zN rfl)))); try (refine L.nil ?_))
  refine L.buildSlice (T := tt) 32 tt_ok rfl rfl rfl rfl rfl rfl (by decide) (by decide) rfl rfl (by (repeat' (first | exact trivial | with_reducible refine zI ?_ ?_ | rfl | exact zN rfl))) fun x15 => ?_
  refine freezeSlot 15 32 rfl rfl rfl (slotAs 15 (msgs ka.batch) rfl (Imp.lst rfl fun i hi => by (obtain rfl : i = 0 := by omega); rfl) ?_)
  (refine L.go (T := tt) tt_ok rfl rfl ?sd343 ?_; (try (case sd343 => (repeat' (first | exact trivial | with_reducible refine zI ?_ ?_ | rfl | exact zN rfl)))); try (refine L.nil ?_))
  refine L.alloc (T := tt) 1 tt_ok rfl rfl rfl rfl rfl fun b1 => ?_
  (refine L.store (T := tt) tt_ok rfl rfl rfl rfl rfl rfl ?sd366 ?_; (try (case sd366 => (repeat' (first | exact trivial | with_reducible refine zI ?_ ?_ | rfl | exact zN rfl)))))
  refine L.nil ?_
  refine blkAs 1 ka.cells rfl ⟨Imp.refl _, Imp.refl _, Imp.refl _, Imp.refl _, Imp.refl _, Imp.refl _, Imp.nil _ _, Imp.nil _ _, Imp.nil _ _, trivial⟩ ?_
  repeat refine S.seq ?_
  refine S.region ?_
  (refine L.go (T := tt) tt_ok rfl rfl ?sd344 ?_; (try (case sd344 => (repeat' (first | exact trivial | with_reducible refine zI ?_ ?_ | rfl | exact zN rfl)))); try (refine L.nil ?_))
  refine L.callP rfl rfl rfl rfl rfl rfl rfl ⟨trivial, by (repeat' (first | exact trivial | with_reducible refine zI ?_ ?_))⟩ rfl (Imps.refl _) (slipput_p ka ka_ok (by decide)) ?_
  (refine L.go (T := tt) tt_ok rfl rfl ?sd345 ?_; (try (case sd345 => (repeat' (first | exact trivial | with_reducible refine zI ?_ ?_)))); try (refine L.nil ?_))
  refine slotAs 3 (.v (.int .i64 0)) rfl (Imp.of_eq (by rw [f1])) ?_
  repeat refine S.seq ?_
  refine S.region ?_
  (refine L.go (T := tt) tt_ok rfl rfl ?sd346 ?_; (try (case sd346 => (repeat' (first | exact trivial | with_reducible refine zI ?_ ?_)))); try (refine L.nil ?_))
  refine L.callP rfl rfl rfl rfl rfl rfl rfl ⟨trivial, by (repeat' (first | exact trivial | with_reducible refine zI ?_ ?_))⟩ rfl (Imps.refl _) (slipget_p (putB ka) f4 f3) ?_
  rw [f5]
  (refine L.go (T := tt) tt_ok rfl rfl ?sd347 ?_; (try (case sd347 => (repeat' (first | exact trivial | with_reducible refine zI ?_ ?_)))); try (refine L.nil ?_))
  refine L.alloc (T := tt) 4 tt_ok rfl rfl rfl rfl rfl fun b4 => ?_
  (refine L.store (T := tt) tt_ok rfl rfl rfl rfl rfl rfl ?sd367 ?_; (try (case sd367 => (repeat' (first | exact trivial | with_reducible refine zI ?_ ?_ | rfl | exact zN rfl)))))
  (refine L.go (T := tt) tt_ok rfl rfl ?sd348 ?_; (try (case sd348 => (repeat' (first | exact trivial | with_reducible refine zI ?_ ?_)))); try (refine L.nil ?_))
  repeat refine S.seq ?_
  refine S.region ?_
  (refine L.go (T := tt) tt_ok rfl rfl ?sd349 ?_; (try (case sd349 => (repeat' (first | exact trivial)))); try (refine L.nil ?_))
  refine L.callP rfl rfl rfl rfl rfl rfl rfl ⟨trivial, by (repeat' (first | exact trivial | with_reducible refine zI ?_ ?_))⟩ rfl (Bs := [bytesL []]) (by exact ⟨Imp.nil _ _, trivial⟩) (slipget_p [] (by decide) f7) ?_
  (refine L.go (T := tt) tt_ok rfl rfl ?sd350 ?_; (try (case sd350 => (repeat' (first | exact trivial | with_reducible refine zI ?_ ?_)))); try (refine L.nil ?_))
  refine L.alloc (T := tt) 6 tt_ok rfl rfl rfl rfl rfl fun b6 => ?_
  (refine L.store (T := tt) tt_ok rfl rfl rfl rfl rfl rfl ?sd368 ?_; (try (case sd368 => (repeat' (first | exact trivial | with_reducible refine zI ?_ ?_ | rfl | exact zN rfl)))))
  (refine L.go (T := tt) tt_ok rfl rfl ?sd351 ?_; (try (case sd351 => (repeat' (first | exact trivial | with_reducible refine zI ?_ ?_)))); try (refine L.nil ?_))
  refine slotAs 7 (.v (.int .i64 2)) rfl (Imp.of_eq (by rw [f6])) ?_
  repeat refine S.seq ?_
  refine S.region ?_
  (refine L.go (T := tt) tt_ok rfl rfl ?sd352 ?_; (try (case sd352 => (repeat' (first | exact trivial | with_reducible refine zI ?_ ?_)))); try (refine L.nil ?_))
  refine L.callP rfl rfl rfl rfl rfl rfl rfl ⟨trivial, by (repeat' (first | exact trivial | with_reducible refine zI ?_ ?_))⟩ rfl (Bs := [rec0.av]) (by exact ⟨Imp.agg recZ_imp, trivial⟩) (slipput_p rec0 rec0_ok (by decide)) ?_
  (refine L.go (T := tt) tt_ok rfl rfl ?sd353 ?_; (try (case sd353 => (repeat' (first | exact trivial | with_reducible refine zI ?_ ?_)))); try (refine L.nil ?_))
  refine slotAs 9 (.v (.int .i64 1)) rfl (Imp.of_eq (by rw [f8])) ?_
  repeat refine S.seq ?_
  refine S.region ?_
  (refine L.go (T := tt) tt_ok rfl rfl ?sd354 ?_; (try (case sd354 => (repeat' (first | exact trivial | with_reducible refine zI ?_ ?_ | rfl | exact zN rfl)))); try (refine L.nil ?_))
  refine L.buildSlice (T := tt) 33 tt_ok rfl rfl rfl rfl rfl rfl (by decide) (by decide) rfl rfl (by (repeat' (first | exact trivial | with_reducible refine zI ?_ ?_ | rfl | exact zN rfl))) fun x40 => ?_
  refine rowSay 33 (.own x40 37 9 3 (gOf RecD.cells kL)) rfl rfl (fun own w h => ownSay rfl (fun i hi => ?_) h) ?_
  · have : i = 0 ∨ i = 1 ∨ i = 2 := by omega
    rcases this with rfl | rfl | rfl
    · exact Imps.refl ka.cells
    · exact ⟨Imp.refl _, Imp.refl _, Imp.refl _, Imp.nil _ _, Imp.refl _, Imp.refl _, Imp.nil _ _, Imp.nil _ _, Imp.nil _ _, trivial⟩
    · exact ⟨Imp.refl _, Imp.refl _, Imp.refl _, Imp.nil _ _, Imp.refl _, Imp.refl _, Imp.nil _ _, Imp.nil _ _, Imp.nil _ _, trivial⟩
  refine freezeSlot 40 33 rfl rfl rfl (slotAs 40 (recsA kL) rfl (Imp.refl _) ?_)
  (refine L.go (T := tt) tt_ok rfl rfl ?sd355 ?_; (try (case sd355 => (repeat' (first | exact trivial)))); try (refine L.nil ?_))
  refine L.callP rfl rfl rfl rfl rfl rfl rfl ⟨trivial, by (repeat' (first | exact trivial | with_reducible refine zI ?_ ?_))⟩ rfl (Imps.refl _) (slipopen_p kL kL_ok) ?_
  (refine L.go (T := tt) tt_ok rfl rfl ?sd356 ?_; (try (case sd356 => (repeat' (first | exact trivial | with_reducible refine zI ?_ ?_)))); try (refine L.nil ?_))
  refine L.alloc (T := tt) 10 tt_ok rfl rfl rfl rfl rfl fun b10 => ?_
  (refine L.store (T := tt) tt_ok rfl rfl rfl rfl rfl rfl ?sd369 ?_; (try (case sd369 => (repeat' (first | exact trivial | with_reducible refine zI ?_ ?_ | rfl | exact zN rfl)))))
  (refine L.go (T := tt) tt_ok rfl rfl ?sd357 ?_; (try (case sd357 => (repeat' (first | exact trivial | with_reducible refine zI ?_ ?_)))); try (refine L.nil ?_))
  refine slotAs 11 (.v (.int .i64 0)) rfl (Imp.of_eq (by rw [o1])) ?_
  repeat refine S.seq ?_
  refine S.region ?_
  (refine L.go (T := tt) tt_ok rfl rfl ?sd358 ?_; (try (case sd358 => (repeat' (first | exact trivial | with_reducible refine zI ?_ ?_ | rfl | exact zN rfl)))); try (refine L.nil ?_))
  refine L.buildSlice (T := tt) 34 tt_ok rfl rfl rfl rfl rfl rfl (by decide) (by decide) rfl rfl (by (repeat' (first | exact trivial | with_reducible refine zI ?_ ?_ | rfl | exact zN rfl))) fun x46 => ?_
  refine rowSay 34 (.own x46 37 9 1 (gOf RecD.cells kM)) rfl rfl (fun own w h => ownSay rfl (fun i hi => ?_) h) ?_
  · obtain rfl : i = 0 := by omega
    exact ⟨Imp.refl _, Imp.refl _, Imp.refl _, Imp.nil _ _, Imp.refl _, Imp.refl _, Imp.nil _ _, Imp.nil _ _, Imp.nil _ _, trivial⟩
  refine freezeSlot 46 34 rfl rfl rfl (slotAs 46 (recsA kM) rfl (Imp.refl _) ?_)
  (refine L.go (T := tt) tt_ok rfl rfl ?sd359 ?_; (try (case sd359 => (repeat' (first | exact trivial)))); try (refine L.nil ?_))
  refine L.callP rfl rfl rfl rfl rfl rfl rfl ⟨trivial, by (repeat' (first | exact trivial | with_reducible refine zI ?_ ?_))⟩ rfl (Imps.refl _) (slipopen_p kM kM_ok) ?_
  (refine L.go (T := tt) tt_ok rfl rfl ?sd360 ?_; (try (case sd360 => (repeat' (first | exact trivial | with_reducible refine zI ?_ ?_)))); try (refine L.nil ?_))
  refine L.alloc (T := tt) 12 tt_ok rfl rfl rfl rfl rfl fun b12 => ?_
  (refine L.store (T := tt) tt_ok rfl rfl rfl rfl rfl rfl ?sd370 ?_; (try (case sd370 => (repeat' (first | exact trivial | with_reducible refine zI ?_ ?_ | rfl | exact zN rfl)))))
  (refine L.go (T := tt) tt_ok rfl rfl ?sd361 ?_; (try (case sd361 => (repeat' (first | exact trivial | with_reducible refine zI ?_ ?_)))); try (refine L.nil ?_))
  refine slotAs 13 (.v (.int .i64 3)) rfl (Imp.of_eq (by rw [o5])) ?_
  repeat refine S.seq ?_
  refine S.region ?_
  (refine L.go (T := tt) tt_ok rfl rfl ?sd362 ?_; (try (case sd362 => (repeat' (first | exact trivial | exact zA | with_reducible refine zI ?_ ?_)))); try (refine L.nil ?_))
  refine L.toStrG (T := tt) (m := (putB ka).length) (g2 := gOf u8C (putB ka)) tt_ok rfl rfl rfl rfl rfl rfl rfl rfl rfl (by intro hb; (repeat' (first | exact trivial | with_reducible refine zI ?_ ?_ | rfl))) (strL_size _).symm (fun i hi => strL_g (putB ka) hi) ?_
  (refine L.go (T := tt) tt_ok rfl rfl ?sd363 ?_; (try (case sd363 => (repeat' (first | exact trivial | exact zA | with_reducible refine zI ?_ ?_ | exact zB | exact zE | rfl | exact zN rfl | intro _)))); try (refine L.nil ?_))
  refine L.callG rfl rfl rfl rfl rfl rfl rfl (fun hb => ⟨trivial, hb, hb, trivial⟩) rfl (by exact Imps.refl [ka.av, ka.av]) (fun _ => slipsame_p ka ka) ?_
  (refine L.go (T := tt) tt_ok rfl rfl ?sd364 ?_; (try (case sd364 => (repeat' (first | exact trivial | exact zA | with_reducible refine zI ?_ ?_ | exact zB | exact zC | exact zE | rfl | exact zN rfl | (simp; done) | intro _)))); try (refine L.nil ?_))
  refine L.callG rfl rfl rfl rfl rfl rfl rfl (fun hb => ⟨trivial, hb, trivial⟩) rfl (by exact Imps.refl [ka.av]) (fun _ => slipmay_p ka ka_ok) ?_
  (refine L.go (T := tt) tt_ok rfl rfl ?sd365 ?_; (try (case sd365 => (repeat' (first | exact trivial | with_reducible refine zI ?_ ?_ | exact zB)))); try (refine L.nil ?_))
  ((repeat refine S.seq ?_); refine S.ret ?_)
  refine E.retP (T := tt) tt_ok rfl rfl (by (repeat' (first | exact trivial | with_reducible refine zI ?_ ?_))) (Imp.of_eq ?_)
  rw [f2, o6, sameRec_self, o2, o3, o4]
  rfl
end Go.Proofs.Ytlbbcjlhnjnkeaa

/- Law 14. -/
namespace Go.Proofs.Ytlbbcjlhnjnkeaa
set_option linter.unusedVariables false
set_option linter.unusedSimpArgs false
set_option maxHeartbeats 8000000
open Go.RowKit
set_option maxRecDepth 4000

theorem rd_op : RdP Try.prog 51 OpD.cells (fun _ => True) :=
  (rd_struct (T := tt) tt_ok rfl rfl rfl (rdf_cons r_int (rdf_cons r_int (rdf_cons r_int (rdf_cons r_int (rdf_cons r_int (rdf_cons rd_msgs rdf_nil))))))).map (fun d => ⟨d.1, d.2.1, d.2.2.1, d.2.2.2.1, d.2.2.2.2.1, d.2.2.2.2.2.1⟩) (fun _ => rfl) fun d h => trivial
theorem rd_ops : RdP Try.prog 22 (fun l : List OpD => [opsA l]) (fun l => l.length ≤ maxLen ∧ ∀ m ∈ l, True) := rd_slice (sz := 6) (by kernel_rfl) (by kernel_rfl) (fun _ => rfl) rd_op

theorem open_pre {l m : List RecD} {s : Shard} (h : openF sNew (l ++ m) = (s, 0)) : (openF sNew l).2 = 0 := by
  rw [openF_app, openG] at h
  split at h
  · assumption
  · rename_i hz
    exact absurd (congrArg Prod.snd h) hz

theorem slipOpens_p (l : List OpD) (n : Int) : PFn Try.prog 3 [opsA l, .v (.int .i64 n)] (.v (.bool true)) := by
  refine FnC.intro Try.func3 rfl Try.ntmps3 rfl ?_; intro off w0
  ((repeat refine S.seq ?_); refine S.region (L.go (T := tt) tt_ok rfl rfl ?sd371 ?_); (try (case sd371 => (repeat' (first | exact trivial | with_reducible refine zI ?_ ?_)))); try (refine L.nil ?_))
  ((repeat refine S.seq ?_); refine S.region (L.go (T := tt) tt_ok rfl rfl ?sd372 ?_); (try (case sd372 => (repeat' (first | exact trivial | with_reducible refine zI ?_ ?_)))); try (refine L.nil ?_))
  ((repeat refine S.seq ?_); refine S.cond rfl (fun h0 => ?_) (fun h0 => ?_) <;> (try first | refine S.skip ?_ | refine S.exit ?_))
  · ((repeat refine S.seq ?_); refine S.region (L.go (T := tt) tt_ok rfl rfl ?sd373 ?_); (try (case sd373 => (repeat' (first | exact trivial)))); try (refine L.nil ?_))
    refine L.callP rfl rfl rfl rfl rfl rfl rfl ⟨trivial, by (repeat' (first | exact trivial))⟩ rfl (Imps.refl _) told14_p ?_
    (refine L.go (T := tt) tt_ok rfl rfl ?sd380 ?_; (try (case sd380 => (repeat' (first | exact trivial | with_reducible refine zI ?_ ?_)))); try (refine L.nil ?_))
    ((repeat refine S.seq ?_); refine S.ret ?_)
    exact E.retP (T := tt) tt_ok rfl rfl (by (repeat' (first | exact trivial | with_reducible refine zI ?_ ?_))) (Imp.refl _)
  have hl : l.length ≤ 100 := by have := of_dec' h0; omega
  have hq := logS_ok l l.length
  repeat refine S.seq ?_
  refine S.region ?_
  (refine L.go (T := tt) tt_ok rfl rfl ?sd381 ?_; (try (case sd381 => (repeat' (first | exact trivial | with_reducible refine zI ?_ ?_)))); try (refine L.nil ?_))
  refine L.callP rfl rfl rfl rfl rfl rfl rfl ⟨trivial, by (repeat' (first | exact trivial | with_reducible refine zI ?_ ?_))⟩ rfl (Imps.refl _) (log_p l (by omega)) ?_
  obtain ⟨z, hz⟩ : ∃ z, z = logS l l.length := ⟨_, rfl⟩
  rw [← hz] at hq ⊢
  obtain ⟨s, q⟩ := z
  have hm : May s := hq.may
  have hop : openF sNew q = (s, 0) := hq.op
  have hok : ∀ r ∈ q, RecOk r ∧ r.kind ≠ 7 := hq.ok
  have hlen : q.length ≤ 100 := Nat.le_trans hq.len hl
  dsimp only
  (refine L.go (T := tt) tt_ok rfl rfl ?sd382 ?_; (try (case sd382 => (repeat' (first | exact trivial | with_reducible refine zI ?_ ?_)))); try (refine L.nil ?_))
  refine L.alloc (T := tt) 6 tt_ok rfl rfl rfl rfl rfl fun b6 => ?_
  (refine L.go (T := tt) tt_ok rfl rfl ?sd383 ?_; (try (case sd383 => (repeat' (first | exact trivial | with_reducible refine zI ?_ ?_)))); try (refine L.nil ?_))
  (refine L.store (T := tt) tt_ok rfl rfl rfl rfl rfl rfl ?sd420 ?_; (try (case sd420 => (repeat' (first | exact trivial | with_reducible refine zI ?_ ?_ | rfl | exact zN rfl)))))
  refine L.nil ?_
  repeat refine S.seq ?_
  refine S.region ?_
  (refine L.go (T := tt) tt_ok rfl rfl ?sd384 ?_; (try (case sd384 => (repeat' (first | exact trivial | with_reducible refine zI ?_ ?_)))); try (refine L.nil ?_))
  refine L.callP rfl rfl rfl rfl rfl rfl rfl ⟨trivial, by (repeat' (first | exact trivial | with_reducible refine zI ?_ ?_))⟩ rfl (Imps.refl _) (slipopen_p q fun r hr => (hok r hr).1) ?_
  rw [hop]
  (refine L.go (T := tt) tt_ok rfl rfl ?sd385 ?_; (try (case sd385 => (repeat' (first | exact trivial | with_reducible refine zI ?_ ?_)))); try (refine L.nil ?_))
  refine L.alloc (T := tt) 7 tt_ok rfl rfl rfl rfl rfl fun b7 => ?_
  (refine L.store (T := tt) tt_ok rfl rfl rfl rfl rfl rfl ?sd421 ?_; (try (case sd421 => (repeat' (first | exact trivial | with_reducible refine zI ?_ ?_ | rfl | exact zN rfl)))))
  (refine L.go (T := tt) tt_ok rfl rfl ?sd386 ?_; (try (case sd386 => (repeat' (first | exact trivial | with_reducible refine zI ?_ ?_)))); try (refine L.nil ?_))
  have hwl : IntKind.u64.wrap ((q.length : Int) + 1) = (q.length : Int) + 1 := by simp [IntKind.wrap, IntKind.signed, IntKind.bits]; omega
  have hcut := uM_lt n ((q.length : Int) + 1) (by omega) (by omega)
  obtain ⟨i, hi⟩ : ∃ i, i = (uM n ((q.length : Int) + 1)).toNat := ⟨_, rfl⟩
  have hiv : uM n ((q.length : Int) + 1) = (i : Int) := by omega
  have hil : i ≤ q.length := by omega
  repeat refine S.seq ?_
  refine S.region (L.go (T := tt) tt_ok rfl rfl ?sdq ?_)
  case sdq =>
    exact ⟨trivial, ⟨trivial, trivial⟩, trivial, ⟨trivial, trivial⟩, ⟨trivial, trivial, by unfold fits; omega⟩, ⟨trivial, trivial⟩, ⟨trivial, trivial, by rw [hwl]; omega⟩, ⟨trivial, trivial⟩, trivial, trivial⟩
  refine L.nil ?_
  refine slotAs 9 (.v (.int .i64 i)) rfl (Imp.of_eq (by rw [← hiv, uM, hwl])) ?_
  clear hiv hi hcut hwl hz
  obtain ⟨P, hP⟩ : ∃ P, P = q.take i := ⟨_, rfl⟩
  have hPl : P.length = i := by rw [hP, List.length_take]; omega
  have hPok : ∀ r ∈ P, RecOk r := fun r hr => (hok r (List.mem_of_mem_take (by rw [← hP]; exact hr))).1
  have hPop : (openF sNew P).2 = 0 := open_pre (m := q.drop i) (s := s) (by rw [hP, List.take_append_drop, hop])
  have hcutI : Imp (.lst 9 (i : Int).toNat (gOf RecD.cells q)) (recsA P) := Imp.lst (by omega) fun j hj => by rw [hP]; exact take_gg RecD.cells q (by omega)
  repeat refine S.seq ?_
  refine S.region ?_
  (refine L.go (T := tt) tt_ok rfl rfl ?sd387 ?_; (try (case sd387 => (repeat' (first | exact trivial | with_reducible refine zI ?_ ?_ | omega)))); try (refine L.nil ?_))
  refine slotAs 44 (recsA P) rfl (Imp.lst (by omega) fun j hj => by rw [hP]; exact take_gg RecD.cells q (by omega)) ?_
  refine L.callP rfl rfl rfl rfl rfl rfl rfl ⟨trivial, by (repeat' (first | exact trivial | with_reducible refine zI ?_ ?_))⟩ rfl (Imps.refl _) (slipopen_p P hPok) ?_
  (refine L.go (T := tt) tt_ok rfl rfl ?sd388 ?_; (try (case sd388 => (repeat' (first | exact trivial | with_reducible refine zI ?_ ?_)))); try (refine L.nil ?_))
  refine L.alloc (T := tt) 10 tt_ok rfl rfl rfl rfl rfl fun b10 => ?_
  (refine L.store (T := tt) tt_ok rfl rfl rfl rfl rfl rfl ?sd422 ?_; (try (case sd422 => (repeat' (first | exact trivial | with_reducible refine zI ?_ ?_ | rfl | exact zN rfl)))))
  (refine L.go (T := tt) tt_ok rfl rfl ?sd389 ?_; (try (case sd389 => (repeat' (first | exact trivial | with_reducible refine zI ?_ ?_)))); try (refine L.nil ?_))
  refine slotAs 11 (.v (.int .i64 0)) rfl (Imp.of_eq (by rw [hPop])) ?_
  repeat refine S.seq ?_
  refine S.region ?_
  (refine L.go (T := tt) tt_ok rfl rfl ?sd390 ?_; (try (case sd390 => (repeat' (first | exact trivial | with_reducible refine zI ?_ ?_ | omega)))); try (refine L.nil ?_))
  refine slotAs 51 (recsA P) rfl (Imp.lst (by omega) fun j hj => by rw [hP]; exact take_gg RecD.cells q (by omega)) ?_
  refine L.callP rfl rfl rfl rfl rfl rfl rfl ⟨trivial, by (repeat' (first | exact trivial | with_reducible refine zI ?_ ?_))⟩ rfl (Imps.refl _) (refopen_p P hPok) ?_
  (refine L.go (T := tt) tt_ok rfl rfl ?sd391 ?_; (try (case sd391 => (repeat' (first | exact trivial | with_reducible refine zI ?_ ?_)))); try (refine L.nil ?_))
  refine L.alloc (T := tt) 12 tt_ok rfl rfl rfl rfl rfl fun b12 => ?_
  (refine L.store (T := tt) tt_ok rfl rfl rfl rfl rfl rfl ?sd423 ?_; (try (case sd423 => (repeat' (first | exact trivial | with_reducible refine zI ?_ ?_ | rfl | exact zN rfl)))))
  (refine L.go (T := tt) tt_ok rfl rfl ?sd392 ?_; (try (case sd392 => (repeat' (first | exact trivial | with_reducible refine zI ?_ ?_)))); try (refine L.nil ?_))
  refine slotAs 13 (.v (.int .i64 0)) rfl (Imp.of_eq (by rw [hPop])) ?_
  ((repeat refine S.seq ?_); refine S.region (L.go (T := tt) tt_ok rfl rfl ?sd374 ?_); (try (case sd374 => (repeat' (first | exact trivial | exact zA | with_reducible refine zI ?_ ?_ | exact zB | exact zE | rfl | exact zN rfl | intro _)))); try (refine L.nil ?_))
  refine L.callG rfl rfl rfl rfl rfl rfl rfl (fun hb => ⟨trivial, hb, hb, trivial⟩) rfl (by exact Imps.refl [s.av, s.av]) (fun _ => same_p s s) ?_
  (refine L.go (T := tt) tt_ok rfl rfl ?sd393 ?_; (try (case sd393 => (repeat' (first | exact trivial | with_reducible refine zI ?_ ?_ | exact zB | exact zC | rfl | exact zN rfl | intro _)))); try (refine L.nil ?_))
  refine L.callG rfl rfl rfl rfl rfl rfl rfl (fun hb => ⟨trivial, hb, hb, trivial⟩) rfl (by exact Imps.refl [(openF sNew P).1.av, (openF sNew P).1.av]) (fun _ => rsame_p (openF sNew P).1 (openF sNew P).1) ?_
  (refine L.go (T := tt) tt_ok rfl rfl ?sd394 ?_; (try (case sd394 => (repeat' (first | exact trivial | with_reducible refine zI ?_ ?_ | exact zB | exact zC)))); try (refine L.nil ?_))
  rw [same_self, same_self]
  ((repeat refine S.seq ?_); refine S.cond rfl (fun h1 => ?_) (fun h1 => ?_) <;> (try first | refine S.skip ?_ | refine S.exit ?_))
  · cases h1
  ((repeat refine S.seq ?_); refine S.region (L.go (T := tt) tt_ok rfl rfl ?sd375 ?_); (try (case sd375 => (repeat' (first | exact trivial | exact zA | with_reducible refine zI ?_ ?_ | exact zB | exact zC | exact zE | (simp; omega) | (unfold fits; simp_all; omega))))); try (refine L.nil ?_))
  ((repeat refine S.seq ?_); refine S.cond rfl (fun h2 => ?_) (fun h2 => ?_) <;> (try first | refine S.skip ?_ | refine S.exit ?_))
  · ((repeat refine S.seq ?_); refine S.region (L.go (T := tt) tt_ok rfl rfl ?sd376 ?_); (try (case sd376 => (repeat' (first | exact trivial)))); try (refine L.nil ?_))
    refine L.callP rfl rfl rfl rfl rfl rfl rfl ⟨trivial, by (repeat' (first | exact trivial))⟩ rfl (Imps.refl _) told14_p ?_
    (refine L.go (T := tt) tt_ok rfl rfl ?sd395 ?_; (try (case sd395 => (repeat' (first | exact trivial | with_reducible refine zI ?_ ?_)))); try (refine L.nil ?_))
    ((repeat refine S.seq ?_); refine S.ret ?_)
    exact E.retP (T := tt) tt_ok rfl rfl (by (repeat' (first | exact trivial | with_reducible refine zI ?_ ?_))) (Imp.refl _)
  have hi1 : 1 ≤ i := by
    rw [Bool.or_eq_false_iff] at h2
    have := of_nbeq h2.1
    omega
  obtain ⟨r, hr⟩ : ∃ r, r = q.getD (i - 1) default := ⟨_, rfl⟩
  have hrok : RecOk r := (hok r (by rw [hr, getD_get (show i - 1 < q.length by omega)]; exact List.getElem_mem _)).1
  have hrI : Imp (.agg (gOf RecD.cells q ((i : Int) - 1).toNat)) r.av := Imp.of_eq (by rw [hr, show ((i : Int) - 1).toNat = i - 1 by omega]; rfl)
  have hgok : ∀ x ∈ P ++ [r], RecOk x := fun x hx => by
    rcases List.mem_append.1 hx with hx | hx
    · exact hPok x hx
    · rw [List.mem_singleton.1 hx]
      exact hrok
  have hP100 : P.length ≤ 100 := by omega
  repeat refine S.seq ?_
  refine S.cut (ι := Unit) (fun _ => [(14, recsA (P ++ [r]))]) (fun _ => []) ?_ ?_
  · refine S.draw [] mixed ?_
    (refine H.ts (T := tt) [1, 2, 3, 5, 6, 7, 8, 9] tt_ok (by kernel_rfl) (by kernel_rfl) (by kernel_rfl) (by intro ch a a' w h; obtain ⟨_, _, _, _, _, h, _⟩ := h; cases h) rfl ?sd430 ?_; (try (case sd430 => (repeat' (first | exact trivial | with_reducible refine zI ?_ ?_ | rfl | omega | (unfold fits; omega))))))
    refine H.tell 92 (recsA P) rfl hcutI ?_
    refine H.tell 98 r.av rfl hrI ?_
    refine H.o2 0 10 rfl rfl (by kernel_rfl) (by kernel_rfl) (O.buildSlice (T := tt) 51 tt_ok rfl rfl rfl rfl rfl rfl (by decide) (by decide) rfl rfl (by (repeat' (first | exact trivial | with_reducible refine zI ?_ ?_)))) (O.buildSlice (T := tt) 52 tt_ok rfl rfl rfl rfl rfl rfl (by decide) (by decide) rfl rfl (by (repeat' (first | exact trivial | with_reducible refine zI ?_ ?_ | rfl | exact zN rfl)))) (.inr rfl) (.inr rfl) rfl rfl (fun x51 => ?_) (fun x52 => ?_)
    · refine H.o2 4 10 rfl rfl (by kernel_rfl) (by kernel_rfl) (O.append (T := tt) tt_ok rfl rfl rfl rfl rfl rfl rfl rfl rfl rfl (by (repeat' (first | exact trivial | with_reducible refine zI ?_ ?_ | rfl))) ⟨rfl, by decide, by decide⟩ (by simp; omega)) (O.buildSlice (T := tt) 52 tt_ok rfl rfl rfl rfl rfl rfl (by decide) (by decide) rfl rfl (by (repeat' (first | exact trivial | with_reducible refine zI ?_ ?_ | rfl | exact zN rfl)))) (.inl (by kernel_rfl)) (.inr rfl) (by kernel_rfl) rfl (fun y51 => ?_) (fun x52 => ?_)
      · refine H.o1 10 rfl (by kernel_rfl) (by kernel_rfl) (O.buildSlice (T := tt) 52 tt_ok rfl rfl rfl rfl rfl rfl (by decide) (by decide) rfl rfl (by (repeat' (first | exact trivial | with_reducible refine zI ?_ ?_ | rfl | exact zN rfl)))) (.inr rfl) rfl fun x52 => ?_
        refine H.o1 11 rfl (by kernel_rfl) (by kernel_rfl) (O.append (T := tt) tt_ok rfl rfl rfl rfl rfl rfl rfl rfl rfl rfl (by (repeat' (first | exact trivial | with_reducible refine zI ?_ ?_ | rfl))) ⟨rfl, by decide, by decide⟩ (by simp; omega)) (.inl (by kernel_rfl)) (by kernel_rfl) fun z51 => ?_
        (refine H.ts (T := tt) [12] tt_ok (by kernel_rfl) (by kernel_rfl) (by kernel_rfl) (by intro ch a a' w h; obtain ⟨_, _, _, _, _, h, _⟩ := h; cases h) rfl ?sd431 ?_; (try (case sd431 => (repeat' (first | exact trivial | with_reducible refine zI ?_ ?_)))))
        refine H.done (by kernel_rfl) ?_
        refine freezeSlot 14 51 rfl rfl rfl (slotAs 14 (recsA (P ++ [r])) rfl (Imp.lst (by simp) fun j hj => app1_g RecD.cells P r _ _ rfl (by omega)) ?_)
        exact fun a w hR => ⟨(), hR.weakP (by (repeat' (first | exact True.intro | exact Imp.refl _ | refine ⟨?_, ?_⟩))) (by (repeat (first | exact Sub.refl _ | refine Sub.pick (by first | exact p0 | exact pS p0 | exact pS (pS p0) | exact pS (pS (pS p0)) | exact pS (pS (pS (pS p0))) | exact pS (pS (pS (pS (pS p0))))) ?_)))⟩
      · refine H.o1 4 rfl (by kernel_rfl) (by kernel_rfl) (O.append (T := tt) tt_ok rfl rfl rfl rfl rfl rfl rfl rfl rfl rfl (by (repeat' (first | exact trivial | with_reducible refine zI ?_ ?_ | rfl))) ⟨rfl, by decide, by decide⟩ (by simp; omega)) (.inl (by kernel_rfl)) (by kernel_rfl) fun y51 => ?_
        refine H.o1 11 rfl (by kernel_rfl) (by kernel_rfl) (O.append (T := tt) tt_ok rfl rfl rfl rfl rfl rfl rfl rfl rfl rfl (by (repeat' (first | exact trivial | with_reducible refine zI ?_ ?_ | rfl))) ⟨rfl, by decide, by decide⟩ (by simp; omega)) (.inl (by kernel_rfl)) (by kernel_rfl) fun z51 => ?_
        (refine H.ts (T := tt) [12] tt_ok (by kernel_rfl) (by kernel_rfl) (by kernel_rfl) (by intro ch a a' w h; obtain ⟨_, _, _, _, _, h, _⟩ := h; cases h) rfl ?sd432 ?_; (try (case sd432 => (repeat' (first | exact trivial | with_reducible refine zI ?_ ?_)))))
        refine H.done (by kernel_rfl) ?_
        refine freezeSlot 14 51 rfl rfl rfl (slotAs 14 (recsA (P ++ [r])) rfl (Imp.lst (by simp) fun j hj => app1_g RecD.cells P r _ _ rfl (by omega)) ?_)
        exact fun a w hR => ⟨(), hR.weakP (by (repeat' (first | exact True.intro | exact Imp.refl _ | refine ⟨?_, ?_⟩))) (by (repeat (first | exact Sub.refl _ | refine Sub.pick (by first | exact p0 | exact pS p0 | exact pS (pS p0) | exact pS (pS (pS p0)) | exact pS (pS (pS (pS p0))) | exact pS (pS (pS (pS (pS p0))))) ?_)))⟩
    · refine H.o1 0 rfl (by kernel_rfl) (by kernel_rfl) (O.buildSlice (T := tt) 51 tt_ok rfl rfl rfl rfl rfl rfl (by decide) (by decide) rfl rfl (by (repeat' (first | exact trivial | with_reducible refine zI ?_ ?_)))) (.inr rfl) rfl fun x51 => ?_
      refine H.o1 4 rfl (by kernel_rfl) (by kernel_rfl) (O.append (T := tt) tt_ok rfl rfl rfl rfl rfl rfl rfl rfl rfl rfl (by (repeat' (first | exact trivial | with_reducible refine zI ?_ ?_ | rfl))) ⟨rfl, by decide, by decide⟩ (by simp; omega)) (.inl (by kernel_rfl)) (by kernel_rfl) fun y51 => ?_
      refine H.o1 11 rfl (by kernel_rfl) (by kernel_rfl) (O.append (T := tt) tt_ok rfl rfl rfl rfl rfl rfl rfl rfl rfl rfl (by (repeat' (first | exact trivial | with_reducible refine zI ?_ ?_ | rfl))) ⟨rfl, by decide, by decide⟩ (by simp; omega)) (.inl (by kernel_rfl)) (by kernel_rfl) fun z51 => ?_
      (refine H.ts (T := tt) [12] tt_ok (by kernel_rfl) (by kernel_rfl) (by kernel_rfl) (by intro ch a a' w h; obtain ⟨_, _, _, _, _, h, _⟩ := h; cases h) rfl ?sd433 ?_; (try (case sd433 => (repeat' (first | exact trivial | with_reducible refine zI ?_ ?_)))))
      refine H.done (by kernel_rfl) ?_
      refine freezeSlot 14 51 rfl rfl rfl (slotAs 14 (recsA (P ++ [r])) rfl (Imp.lst (by simp) fun j hj => app1_g RecD.cells P r _ _ rfl (by omega)) ?_)
      exact fun a w hR => ⟨(), hR.weakP (by (repeat' (first | exact True.intro | exact Imp.refl _ | refine ⟨?_, ?_⟩))) (by (repeat (first | exact Sub.refl _ | refine Sub.pick (by first | exact p0 | exact pS p0 | exact pS (pS p0) | exact pS (pS (pS p0)) | exact pS (pS (pS (pS p0))) | exact pS (pS (pS (pS (pS p0))))) ?_)))⟩
  rintro ⟨⟩
  obtain ⟨G, hG⟩ : ∃ G, G = P ++ [r] := ⟨_, rfl⟩
  rw [← hG] at hgok ⊢
  repeat refine S.seq ?_
  refine S.region ?_
  (refine L.go (T := tt) tt_ok rfl rfl ?sd396 ?_; (try (case sd396 => (repeat' (first | exact trivial | with_reducible refine zI ?_ ?_)))); try (refine L.nil ?_))
  refine L.callP rfl rfl rfl rfl rfl rfl rfl ⟨trivial, by (repeat' (first | exact trivial | with_reducible refine zI ?_ ?_))⟩ rfl (Imps.refl _) (slipopen_p G hgok) ?_
  (refine L.go (T := tt) tt_ok rfl rfl ?sd397 ?_; (try (case sd397 => (repeat' (first | exact trivial | with_reducible refine zI ?_ ?_)))); try (refine L.nil ?_))
  refine L.alloc (T := tt) 15 tt_ok rfl rfl rfl rfl rfl fun b15 => ?_
  (refine L.store (T := tt) tt_ok rfl rfl rfl rfl rfl rfl ?sd424 ?_; (try (case sd424 => (repeat' (first | exact trivial | with_reducible refine zI ?_ ?_ | rfl | exact zN rfl)))))
  (refine L.go (T := tt) tt_ok rfl rfl ?sd398 ?_; (try (case sd398 => (repeat' (first | exact trivial | with_reducible refine zI ?_ ?_)))); try (refine L.nil ?_))
  repeat refine S.seq ?_
  refine S.region ?_
  (refine L.go (T := tt) tt_ok rfl rfl ?sd399 ?_; (try (case sd399 => (repeat' (first | exact trivial | with_reducible refine zI ?_ ?_)))); try (refine L.nil ?_))
  refine L.callP rfl rfl rfl rfl rfl rfl rfl ⟨trivial, by (repeat' (first | exact trivial | with_reducible refine zI ?_ ?_))⟩ rfl (Imps.refl _) (refopen_p G hgok) ?_
  (refine L.go (T := tt) tt_ok rfl rfl ?sd400 ?_; (try (case sd400 => (repeat' (first | exact trivial | with_reducible refine zI ?_ ?_)))); try (refine L.nil ?_))
  refine L.alloc (T := tt) 17 tt_ok rfl rfl rfl rfl rfl fun b17 => ?_
  (refine L.store (T := tt) tt_ok rfl rfl rfl rfl rfl rfl ?sd425 ?_; (try (case sd425 => (repeat' (first | exact trivial | with_reducible refine zI ?_ ?_ | rfl | exact zN rfl)))))
  (refine L.go (T := tt) tt_ok rfl rfl ?sd401 ?_; (try (case sd401 => (repeat' (first | exact trivial | with_reducible refine zI ?_ ?_)))); try (refine L.nil ?_))
  repeat refine S.seq ?_
  refine S.region ?_
  refine L.callP rfl rfl rfl rfl rfl rfl rfl ⟨trivial, by (repeat' (first | exact trivial))⟩ rfl (Imps.refl _) told14_p ?_
  (refine L.go (T := tt) tt_ok rfl rfl ?sd402 ?_; (try (case sd402 => (repeat' (first | exact trivial | exact zA | with_reducible refine zI ?_ ?_ | exact zB | exact zD | rfl | exact zN rfl | intro _)))); try (refine L.nil ?_))
  refine L.callG rfl rfl rfl rfl rfl rfl rfl (fun hb => ⟨trivial, hb, hb, trivial⟩) rfl (by exact Imps.refl [(openF sNew G).1.av, (openF sNew G).1.av]) (fun _ => rsame_p (openF sNew G).1 (openF sNew G).1) ?_
  (refine L.go (T := tt) tt_ok rfl rfl ?sd403 ?_; (try (case sd403 => (repeat' (first | exact trivial | with_reducible refine zI ?_ ?_ | exact zB)))); try (refine L.nil ?_))
  ((repeat refine S.seq ?_); refine S.ret ?_)
  refine E.retP (T := tt) tt_ok rfl rfl (by (repeat' (first | exact trivial | with_reducible refine zI ?_ ?_))) (Imp.of_eq ?_)
  rw [same_self]
  simp [oneOf]

theorem slipStates_p (l m : List OpD) : PFn Try.prog 4 [opsA l, opsA m] (.v (.bool true)) := by
  refine FnC.intro Try.func4 rfl Try.ntmps4 rfl ?_; intro off w0
  ((repeat refine S.seq ?_); refine S.region (L.go (T := tt) tt_ok rfl rfl ?sd377 ?_); (try (case sd377 => (repeat' (first | exact trivial | with_reducible refine zI ?_ ?_)))); try (refine L.nil ?_))
  ((repeat refine S.seq ?_); refine S.region (L.go (T := tt) tt_ok rfl rfl ?sd378 ?_); (try (case sd378 => (repeat' (first | exact trivial | exact zA | with_reducible refine zI ?_ ?_ | exact zB | exact zC | exact zE)))); try (refine L.nil ?_))
  ((repeat refine S.seq ?_); refine S.cond rfl (fun h0 => ?_) (fun h0 => ?_) <;> (try first | refine S.skip ?_ | refine S.exit ?_))
  · ((repeat refine S.seq ?_); refine S.region (L.go (T := tt) tt_ok rfl rfl ?sd379 ?_); (try (case sd379 => (repeat' (first | exact trivial)))); try (refine L.nil ?_))
    refine L.callP rfl rfl rfl rfl rfl rfl rfl ⟨trivial, by (repeat' (first | exact trivial))⟩ rfl (Imps.refl _) told14_p ?_
    (refine L.go (T := tt) tt_ok rfl rfl ?sd404 ?_; (try (case sd404 => (repeat' (first | exact trivial | with_reducible refine zI ?_ ?_)))); try (refine L.nil ?_))
    ((repeat refine S.seq ?_); refine S.ret ?_)
    exact E.retP (T := tt) tt_ok rfl rfl (by (repeat' (first | exact trivial | with_reducible refine zI ?_ ?_))) (Imp.refl _)
  have hl : l.length ≤ 60 ∧ m.length ≤ 40 := by
    simp only [Bool.or_eq_false_iff, decide_eq_false_iff_not] at h0
    omega
  have hq := logS_ok l l.length
  have hq2 := logS_ok m m.length
  repeat refine S.seq ?_
  refine S.region ?_
  (refine L.go (T := tt) tt_ok rfl rfl ?sd405 ?_; (try (case sd405 => (repeat' (first | exact trivial | with_reducible refine zI ?_ ?_)))); try (refine L.nil ?_))
  refine L.callP rfl rfl rfl rfl rfl rfl rfl ⟨trivial, by (repeat' (first | exact trivial | with_reducible refine zI ?_ ?_))⟩ rfl (Imps.refl _) (log_p l (by omega)) ?_
  obtain ⟨z, hz⟩ : ∃ z, z = logS l l.length := ⟨_, rfl⟩
  rw [← hz] at hq ⊢
  obtain ⟨s, q⟩ := z
  have hm : May s := hq.may
  have hop : openF sNew q = (s, 0) := hq.op
  have hok : ∀ r ∈ q, RecOk r ∧ r.kind ≠ 7 := hq.ok
  dsimp only
  (refine L.go (T := tt) tt_ok rfl rfl ?sd406 ?_; (try (case sd406 => (repeat' (first | exact trivial | with_reducible refine zI ?_ ?_)))); try (refine L.nil ?_))
  refine L.alloc (T := tt) 6 tt_ok rfl rfl rfl rfl rfl fun b6 => ?_
  (refine L.go (T := tt) tt_ok rfl rfl ?sd407 ?_; (try (case sd407 => (repeat' (first | exact trivial | with_reducible refine zI ?_ ?_)))); try (refine L.nil ?_))
  (refine L.store (T := tt) tt_ok rfl rfl rfl rfl rfl rfl ?sd426 ?_; (try (case sd426 => (repeat' (first | exact trivial | with_reducible refine zI ?_ ?_ | rfl | exact zN rfl)))))
  refine L.nil ?_
  repeat refine S.seq ?_
  refine S.region ?_
  (refine L.go (T := tt) tt_ok rfl rfl ?sd408 ?_; (try (case sd408 => (repeat' (first | exact trivial | with_reducible refine zI ?_ ?_)))); try (refine L.nil ?_))
  refine L.callP rfl rfl rfl rfl rfl rfl rfl ⟨trivial, by (repeat' (first | exact trivial | with_reducible refine zI ?_ ?_))⟩ rfl (Imps.refl _) (log_p m (by omega)) ?_
  obtain ⟨z, hz2⟩ : ∃ z, z = logS m m.length := ⟨_, rfl⟩
  rw [← hz2] at hq2 ⊢
  obtain ⟨t, P⟩ := z
  have hop2 : openF sNew P = (t, 0) := hq2.op
  have hok2 : ∀ r ∈ P, RecOk r ∧ r.kind ≠ 7 := hq2.ok
  have hP100 : P.length ≤ 100 := by have : P.length ≤ m.length := hq2.len; omega
  dsimp only
  (refine L.go (T := tt) tt_ok rfl rfl ?sd409 ?_; (try (case sd409 => (repeat' (first | exact trivial | with_reducible refine zI ?_ ?_)))); try (refine L.nil ?_))
  refine L.alloc (T := tt) 8 tt_ok rfl rfl rfl rfl rfl fun b8 => ?_
  (refine L.go (T := tt) tt_ok rfl rfl ?sd410 ?_; (try (case sd410 => (repeat' (first | exact trivial | with_reducible refine zI ?_ ?_)))); try (refine L.nil ?_))
  (refine L.store (T := tt) tt_ok rfl rfl rfl rfl rfl rfl ?sd427 ?_; (try (case sd427 => (repeat' (first | exact trivial | with_reducible refine zI ?_ ?_ | rfl | exact zN rfl)))))
  refine L.nil ?_
  obtain ⟨r, hr⟩ : ∃ r : RecD, r = ⟨7, 0, false, [], s⟩ := ⟨_, rfl⟩
  have hrok : RecOk r := by rw [hr]; exact ⟨rfl, fun h => absurd rfl h, fun _ => rfl, hm.fine.small⟩
  have hgok : ∀ x ∈ P ++ [r], RecOk x := fun x hx => by
    rcases List.mem_append.1 hx with hx | hx
    · exact (hok2 x hx).1
    · rw [List.mem_singleton.1 hx]
      exact hrok
  have hmr : mayRec r = true := by rw [hr, mayRec]; simp [(may_iff s).2 hm]
  have hgo : openF sNew (P ++ [r]) = (s, 0) := by
    rw [openF_app, hop2, openG, if_pos rfl, openF_one, applyR, hmr, hr]
    simp
  clear hz hz2 hq hq2
  repeat refine S.seq ?_
  refine S.cut (ι := Unit) (fun _ => [(5, recsA q), (6, .ptr 6 b6 0), (9, recsA (P ++ [r]))]) (fun _ => [(6, .blk b6 29 s.cells)]) ?_ ?_
  · refine S.draw [(3, [6])] mixed ?_
    (refine H.ts (T := tt) [1, 3, 4] tt_ok (by kernel_rfl) (by kernel_rfl) (by kernel_rfl) (by intro ch a a' w h; obtain ⟨_, _, _, _, _, h, _⟩ := h; cases h) rfl ?sd434 ?_; (try (case sd434 => (repeat' (first | exact trivial | with_reducible refine zI ?_ ?_ | rfl | exact zN rfl)))))
    refine H.tell 37 r.av rfl (by rw [hr]; exact Imp.agg ⟨Imp.refl _, Imp.refl _, Imp.refl _, Imp.nil _ _, Imp.refl _, Imp.refl _, Imp.refl _, Imp.refl _, Imp.refl _, trivial⟩) ?_
    refine H.o2 0 5 rfl rfl (by kernel_rfl) (by kernel_rfl) (O.buildSlice (T := tt) 51 tt_ok rfl rfl rfl rfl rfl rfl (by decide) (by decide) rfl rfl (by (repeat' (first | exact trivial | with_reducible refine zI ?_ ?_)))) (O.buildSlice (T := tt) 52 tt_ok rfl rfl rfl rfl rfl rfl (by decide) (by decide) rfl rfl (by (repeat' (first | exact trivial | with_reducible refine zI ?_ ?_ | rfl | exact zN rfl)))) (.inr rfl) (.inr rfl) rfl rfl (fun x51 => ?_) (fun x52 => ?_)
    · refine H.o2 2 5 rfl rfl (by kernel_rfl) (by kernel_rfl) (O.append (T := tt) tt_ok rfl rfl rfl rfl rfl rfl rfl rfl rfl rfl (by (repeat' (first | exact trivial | with_reducible refine zI ?_ ?_ | rfl))) ⟨rfl, by decide, by decide⟩ (by simp; omega)) (O.buildSlice (T := tt) 52 tt_ok rfl rfl rfl rfl rfl rfl (by decide) (by decide) rfl rfl (by (repeat' (first | exact trivial | with_reducible refine zI ?_ ?_ | rfl | exact zN rfl)))) (.inl (by kernel_rfl)) (.inr rfl) (by kernel_rfl) rfl (fun y51 => ?_) (fun x52 => ?_)
      · refine H.o1 5 rfl (by kernel_rfl) (by kernel_rfl) (O.buildSlice (T := tt) 52 tt_ok rfl rfl rfl rfl rfl rfl (by decide) (by decide) rfl rfl (by (repeat' (first | exact trivial | with_reducible refine zI ?_ ?_ | rfl | exact zN rfl)))) (.inr rfl) rfl fun x52 => ?_
        refine H.o1 6 rfl (by kernel_rfl) (by kernel_rfl) (O.append (T := tt) tt_ok rfl rfl rfl rfl rfl rfl rfl rfl rfl rfl (by (repeat' (first | exact trivial | with_reducible refine zI ?_ ?_ | rfl))) ⟨rfl, by decide, by decide⟩ (by simp; omega)) (.inl (by kernel_rfl)) (by kernel_rfl) fun z51 => ?_
        (refine H.ts (T := tt) [7] tt_ok (by kernel_rfl) (by kernel_rfl) (by kernel_rfl) (by intro ch a a' w h; obtain ⟨_, _, _, _, _, h, _⟩ := h; cases h) rfl ?sd435 ?_; (try (case sd435 => (repeat' (first | exact trivial | with_reducible refine zI ?_ ?_)))))
        refine H.done (by kernel_rfl) ?_
        refine freezeSlot 9 51 rfl rfl rfl (slotAs 9 (recsA (P ++ [r])) rfl (Imp.lst (by simp) fun j hj => app1_g RecD.cells P r _ _ rfl (by omega)) ?_)
        exact fun a w hR => ⟨(), hR.weakP (by (repeat' (first | exact True.intro | exact Imp.refl _ | refine ⟨?_, ?_⟩))) (by (repeat (first | exact Sub.refl _ | refine Sub.pick (by first | exact p0 | exact pS p0 | exact pS (pS p0) | exact pS (pS (pS p0)) | exact pS (pS (pS (pS p0))) | exact pS (pS (pS (pS (pS p0))))) ?_)))⟩
      · refine H.o1 2 rfl (by kernel_rfl) (by kernel_rfl) (O.append (T := tt) tt_ok rfl rfl rfl rfl rfl rfl rfl rfl rfl rfl (by (repeat' (first | exact trivial | with_reducible refine zI ?_ ?_ | rfl))) ⟨rfl, by decide, by decide⟩ (by simp; omega)) (.inl (by kernel_rfl)) (by kernel_rfl) fun y51 => ?_
        refine H.o1 6 rfl (by kernel_rfl) (by kernel_rfl) (O.append (T := tt) tt_ok rfl rfl rfl rfl rfl rfl rfl rfl rfl rfl (by (repeat' (first | exact trivial | with_reducible refine zI ?_ ?_ | rfl))) ⟨rfl, by decide, by decide⟩ (by simp; omega)) (.inl (by kernel_rfl)) (by kernel_rfl) fun z51 => ?_
        (refine H.ts (T := tt) [7] tt_ok (by kernel_rfl) (by kernel_rfl) (by kernel_rfl) (by intro ch a a' w h; obtain ⟨_, _, _, _, _, h, _⟩ := h; cases h) rfl ?sd436 ?_; (try (case sd436 => (repeat' (first | exact trivial | with_reducible refine zI ?_ ?_)))))
        refine H.done (by kernel_rfl) ?_
        refine freezeSlot 9 51 rfl rfl rfl (slotAs 9 (recsA (P ++ [r])) rfl (Imp.lst (by simp) fun j hj => app1_g RecD.cells P r _ _ rfl (by omega)) ?_)
        exact fun a w hR => ⟨(), hR.weakP (by (repeat' (first | exact True.intro | exact Imp.refl _ | refine ⟨?_, ?_⟩))) (by (repeat (first | exact Sub.refl _ | refine Sub.pick (by first | exact p0 | exact pS p0 | exact pS (pS p0) | exact pS (pS (pS p0)) | exact pS (pS (pS (pS p0))) | exact pS (pS (pS (pS (pS p0))))) ?_)))⟩
    · refine H.o1 0 rfl (by kernel_rfl) (by kernel_rfl) (O.buildSlice (T := tt) 51 tt_ok rfl rfl rfl rfl rfl rfl (by decide) (by decide) rfl rfl (by (repeat' (first | exact trivial | with_reducible refine zI ?_ ?_)))) (.inr rfl) rfl fun x51 => ?_
      refine H.o1 2 rfl (by kernel_rfl) (by kernel_rfl) (O.append (T := tt) tt_ok rfl rfl rfl rfl rfl rfl rfl rfl rfl rfl (by (repeat' (first | exact trivial | with_reducible refine zI ?_ ?_ | rfl))) ⟨rfl, by decide, by decide⟩ (by simp; omega)) (.inl (by kernel_rfl)) (by kernel_rfl) fun y51 => ?_
      refine H.o1 6 rfl (by kernel_rfl) (by kernel_rfl) (O.append (T := tt) tt_ok rfl rfl rfl rfl rfl rfl rfl rfl rfl rfl (by (repeat' (first | exact trivial | with_reducible refine zI ?_ ?_ | rfl))) ⟨rfl, by decide, by decide⟩ (by simp; omega)) (.inl (by kernel_rfl)) (by kernel_rfl) fun z51 => ?_
      (refine H.ts (T := tt) [7] tt_ok (by kernel_rfl) (by kernel_rfl) (by kernel_rfl) (by intro ch a a' w h; obtain ⟨_, _, _, _, _, h, _⟩ := h; cases h) rfl ?sd437 ?_; (try (case sd437 => (repeat' (first | exact trivial | with_reducible refine zI ?_ ?_)))))
      refine H.done (by kernel_rfl) ?_
      refine freezeSlot 9 51 rfl rfl rfl (slotAs 9 (recsA (P ++ [r])) rfl (Imp.lst (by simp) fun j hj => app1_g RecD.cells P r _ _ rfl (by omega)) ?_)
      exact fun a w hR => ⟨(), hR.weakP (by (repeat' (first | exact True.intro | exact Imp.refl _ | refine ⟨?_, ?_⟩))) (by (repeat (first | exact Sub.refl _ | refine Sub.pick (by first | exact p0 | exact pS p0 | exact pS (pS p0) | exact pS (pS (pS p0)) | exact pS (pS (pS (pS p0))) | exact pS (pS (pS (pS (pS p0))))) ?_)))⟩
  rintro ⟨⟩
  repeat refine S.seq ?_
  refine S.region ?_
  (refine L.go (T := tt) tt_ok rfl rfl ?sd411 ?_; (try (case sd411 => (repeat' (first | exact trivial | with_reducible refine zI ?_ ?_)))); try (refine L.nil ?_))
  refine L.callP rfl rfl rfl rfl rfl rfl rfl ⟨trivial, by (repeat' (first | exact trivial | with_reducible refine zI ?_ ?_))⟩ rfl (Imps.refl _) (slipopen_p (P ++ [r]) hgok) ?_
  rw [hgo]
  (refine L.go (T := tt) tt_ok rfl rfl ?sd412 ?_; (try (case sd412 => (repeat' (first | exact trivial | with_reducible refine zI ?_ ?_)))); try (refine L.nil ?_))
  refine L.alloc (T := tt) 10 tt_ok rfl rfl rfl rfl rfl fun b10 => ?_
  (refine L.store (T := tt) tt_ok rfl rfl rfl rfl rfl rfl ?sd428 ?_; (try (case sd428 => (repeat' (first | exact trivial | with_reducible refine zI ?_ ?_ | rfl | exact zN rfl)))))
  (refine L.go (T := tt) tt_ok rfl rfl ?sd413 ?_; (try (case sd413 => (repeat' (first | exact trivial | with_reducible refine zI ?_ ?_)))); try (refine L.nil ?_))
  repeat refine S.seq ?_
  refine S.region ?_
  (refine L.go (T := tt) tt_ok rfl rfl ?sd414 ?_; (try (case sd414 => (repeat' (first | exact trivial | with_reducible refine zI ?_ ?_)))); try (refine L.nil ?_))
  refine L.callP rfl rfl rfl rfl rfl rfl rfl ⟨trivial, by (repeat' (first | exact trivial | with_reducible refine zI ?_ ?_))⟩ rfl (Imps.refl _) (slipopen_p q fun r hr => (hok r hr).1) ?_
  rw [hop]
  (refine L.go (T := tt) tt_ok rfl rfl ?sd415 ?_; (try (case sd415 => (repeat' (first | exact trivial | with_reducible refine zI ?_ ?_)))); try (refine L.nil ?_))
  refine L.alloc (T := tt) 12 tt_ok rfl rfl rfl rfl rfl fun b12 => ?_
  (refine L.store (T := tt) tt_ok rfl rfl rfl rfl rfl rfl ?sd429 ?_; (try (case sd429 => (repeat' (first | exact trivial | with_reducible refine zI ?_ ?_ | rfl | exact zN rfl)))))
  (refine L.go (T := tt) tt_ok rfl rfl ?sd416 ?_; (try (case sd416 => (repeat' (first | exact trivial | with_reducible refine zI ?_ ?_)))); try (refine L.nil ?_))
  repeat refine S.seq ?_
  refine S.region ?_
  refine L.callP rfl rfl rfl rfl rfl rfl rfl ⟨trivial, by (repeat' (first | exact trivial))⟩ rfl (Imps.refl _) told14_p ?_
  (refine L.go (T := tt) tt_ok rfl rfl ?sd417 ?_; (try (case sd417 => (repeat' (first | exact trivial | exact zA | with_reducible refine zI ?_ ?_ | exact zB | exact zE | rfl | exact zN rfl | intro _)))); try (refine L.nil ?_))
  refine L.callG rfl rfl rfl rfl rfl rfl rfl (fun hb => ⟨trivial, hb, hb, trivial⟩) rfl (by exact Imps.refl [s.av, s.av]) (fun _ => same_p s s) ?_
  (refine L.go (T := tt) tt_ok rfl rfl ?sd418 ?_; (try (case sd418 => (repeat' (first | exact trivial | with_reducible refine zI ?_ ?_ | exact zB | rfl | exact zN rfl | intro _)))); try (refine L.nil ?_))
  refine L.callG rfl rfl rfl rfl rfl rfl rfl (fun hb => ⟨trivial, hb, hb, trivial⟩) rfl (by exact Imps.refl [s.av, s.av]) (fun _ => same_p s s) ?_
  (refine L.go (T := tt) tt_ok rfl rfl ?sd419 ?_; (try (case sd419 => (repeat' (first | exact trivial | with_reducible refine zI ?_ ?_ | exact zB)))); try (refine L.nil ?_))
  ((repeat refine S.seq ?_); refine S.ret ?_)
  refine E.retP (T := tt) tt_ok rfl rfl (by (repeat' (first | exact trivial | with_reducible refine zI ?_ ?_))) (Imp.of_eq ?_)
  rw [same_self]
  rfl
end Go.Proofs.Ytlbbcjlhnjnkeaa
