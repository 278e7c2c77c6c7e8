/- Texts of this proof, laid together: RBody, JrA, JrB, JrC, JrD. -/
import Derived.Test.YtfdneepgpekmiaaDoorMjD
import Derived.Test.YtfdneepgpekmiaaDoorMjC
import Derived.Test.YtfdneepgpekmiaaDoorMjG
/- The reference's bodies. -/
namespace Go.Proofs.YtfdneepgpekmiaaDoor
set_option linter.unusedVariables false
set_option linter.unusedSimpArgs false
set_option maxHeartbeats 8000000
open Go.RowKit
set_option maxRecDepth 4000

def e10 : ByteArray := ⟨#[48, 49, 50, 51, 52, 53, 54, 55, 56, 57]⟩
theorem e10_at {i : Int} (h0 : 0 ≤ i) (h1 : i < 10) : e10.extract i.toNat (IntKind.u64.wrap (i + 1)).toNat ++ ByteArray.empty = numT i ∧ (e10.extract i.toNat (IntKind.u64.wrap (i + 1)).toNat).size = 1 ∧ IntKind.u64.wrap (i + 1) = i + 1 ∧ IntKind.u64.wrap i = i := by
  have : i = 0 ∨ i = 1 ∨ i = 2 ∨ i = 3 ∨ i = 4 ∨ i = 5 ∨ i = 6 ∨ i = 7 ∨ i = 8 ∨ i = 9 := by omega
  rcases this with rfl | rfl | rfl | rfl | rfl | rfl | rfl | rfl | rfl | rfl <;> decide +kernel
theorem rdec_p (i : Int) (h0 : 0 ≤ i) (h1 : i < 10) : PFn Tryd.prog 63 [.v (.int .i64 i)] (.v (.string (numT i))) := by
  obtain ⟨e1, e2, e3, e4⟩ := e10_at h0 h1
  unfold e10 at e1 e2
  have s10 : (⟨#[48, 49, 50, 51, 52, 53, 54, 55, 56, 57]⟩ : ByteArray).size = 10 := rfl
  have s0 : ByteArray.empty.size = 0 := rfl
  refine FnC.intro Tryd.func63 rfl Tryd.ntmps63 rfl ?_; intro off w0
  ((repeat refine S.seq ?_); refine S.region (L.go (T := tt) tt_ok rfl rfl ?sd1 ?_); (try (case sd1 => (repeat' (first | exact trivial | with_reducible refine zI ?_ ?_)))); try (refine L.nil ?_))
  ((repeat refine S.seq ?_); refine S.region (L.go (T := tt) tt_ok rfl rfl ?sd2 ?_); (try (case sd2 => (repeat' (first | exact trivial | with_reducible refine zI ?_ ?_)))); try (refine L.nil ?_))
  ((repeat refine S.seq ?_); refine S.region (L.go (T := tt) tt_ok rfl rfl ?sd3 ?_); (try (case sd3 => (repeat' (first | exact trivial | with_reducible refine zI ?_ ?_)))); try (refine L.nil ?_))
  ((repeat refine S.seq ?_); refine S.region (L.go (T := tt) tt_ok rfl rfl ?sd4 ?_); (try (case sd4 => (repeat' (first | exact trivial | with_reducible refine zI ?_ ?_)))); try (refine L.nil ?_))
  refine S.cut (ι := Unit) (fun _ => [(3, .v (.string ByteArray.empty)), (4, .v (.bool false)), (5, .v (.int .u64 i))]) (fun _ => []) ?_ ?_
  · ((repeat refine S.seq ?_); refine S.cond rfl (fun h2 => ?_) (fun h2 => ?_) <;> (try first | refine S.skip ?_ | refine S.exit ?_))
    · exfalso
      have := of_dec h2
      omega
    refine slotAs 5 (.v (.int .u64 i)) rfl (Imp.of_eq (by rw [e4])) ?_
    refine slotAs 4 (.v (.bool false)) rfl (Imp.of_eq (by rw [h2])) ?_
    exact fun a w hR => ⟨(), hR.weak (by (repeat' (first | exact True.intro | exact Imp.refl _ | refine ⟨?_, ?_⟩))) (by (repeat (first | exact List.nil_sublist _ | refine List.Sublist.cons_cons _ ?_ | refine List.Sublist.cons _ ?_)))⟩
  rintro ⟨⟩
  try dsimp only
  repeat refine S.seq ?_
  refine S.block (S.loop (ι := Unit) (fun _ => [(3, .v (.string ByteArray.empty)), (4, .v (.bool false)), (5, .v (.int .u64 i))]) (fun _ => []) (fun _ => 0) ?_ ?_)
  · exact fun a w hR => ⟨(), hR.weak (by (repeat' (first | exact True.intro | exact Imp.refl _ | refine ⟨?_, ?_⟩))) (by (repeat (first | exact List.nil_sublist _ | refine List.Sublist.cons_cons _ ?_ | refine List.Sublist.cons _ ?_)))⟩
  rintro ⟨⟩
  try dsimp only
  ((repeat refine S.seq ?_); refine S.region (L.go (T := tt) tt_ok rfl rfl ?sd5 ?_); (try (case sd5 => (repeat' (first | exact trivial | with_reducible refine zI ?_ ?_)))); try (refine L.nil ?_))
  ((repeat refine S.seq ?_); refine S.cond rfl (fun h3 => ?_) (fun h3 => ?_) <;> (try first | refine S.skip ?_ | refine S.exit ?_))
  · exfalso
    have := of_dec h3
    omega
  ((repeat refine S.seq ?_); refine S.region (L.go (T := tt) tt_ok rfl rfl ?sd6 ?_); (try (case sd6 => (repeat' (first | exact trivial | with_reducible refine zI ?_ ?_ | omega)))); try (refine L.nil ?_))
  ((repeat refine S.seq ?_); refine S.region (L.go (T := tt) tt_ok rfl rfl ?sd7 ?_); (try (case sd7 => (repeat' (first | exact trivial | with_reducible refine zI ?_ ?_)))); try (refine L.nil ?_))
  ((repeat refine S.seq ?_); refine S.cond rfl (fun h4 => ?_) (fun h4 => ?_) <;> (try first | refine S.skip ?_ | refine S.exit ?_))
  · cases h4
  ((repeat refine S.seq ?_); refine S.region (L.go (T := tt) tt_ok rfl rfl ?sd8 ?_); (try (case sd8 => (repeat' (first | exact trivial | with_reducible refine zI ?_ ?_)))); try (refine L.nil ?_))
  (((repeat refine S.seq ?_); refine S.ret ?_); refine E.retP (T := tt) tt_ok rfl rfl (by (repeat' (first | exact trivial | with_reducible refine zI ?_ ?_))) (Imp.of_eq ?_))
  rw [← e1]
  rfl
theorem rbody_p (body : ByteArray) (many i : Int) (hb : body.size ≤ 1000) (h0 : 0 ≤ i) (h1 : i < 10) : PFn Tryd.prog 43 [.v (.string body), .v (.int .i64 many), .v (.int .i64 i)] (.v (.string (if many > 1 then body ++ numT i else body))) := by
  have hn := numT_size h0 (show i < 100 by omega)
  refine FnC.intro Tryd.func43 rfl Tryd.ntmps43 rfl ?_; intro off w0
  ((repeat refine S.seq ?_); refine S.region (L.go (T := tt) tt_ok rfl rfl ?sd9 ?_); (try (case sd9 => (repeat' (first | exact trivial | with_reducible refine zI ?_ ?_)))); try (refine L.nil ?_))
  ((repeat refine S.seq ?_); refine S.region (L.go (T := tt) tt_ok rfl rfl ?sd10 ?_); (try (case sd10 => (repeat' (first | exact trivial | with_reducible refine zI ?_ ?_)))); try (refine L.nil ?_))
  ((repeat refine S.seq ?_); refine S.cond rfl (fun h2 => ?_) (fun h2 => ?_) <;> (try first | refine S.skip ?_ | refine S.exit ?_))
  · have h2n : many > 1 := of_dec h2
    repeat refine S.seq ?_
    refine S.region ?_
    (refine L.go (T := tt) tt_ok rfl rfl ?sd12 ?_; (try (case sd12 => (repeat' (first | exact trivial | with_reducible refine zI ?_ ?_)))); try (refine L.nil ?_))
    refine L.callP rfl rfl rfl rfl rfl rfl rfl ⟨trivial, by (repeat' (first | exact trivial | with_reducible refine zI ?_ ?_))⟩ rfl (Imps.refl _) (rdec_p i h0 h1) ?_
    (refine L.go (T := tt) tt_ok rfl rfl ?sd13 ?_; (try (case sd13 => (repeat' (first | exact trivial | with_reducible refine zI ?_ ?_ | omega)))); try (refine L.nil ?_))
    (((repeat refine S.seq ?_); refine S.ret ?_); refine E.retP (T := tt) tt_ok rfl rfl (by (repeat' (first | exact trivial | with_reducible refine zI ?_ ?_))) (Imp.of_eq ?_))
    rw [if_pos h2n]
    rfl
  have h2n : ¬ many > 1 := of_dec' h2
  ((repeat refine S.seq ?_); refine S.region (L.go (T := tt) tt_ok rfl rfl ?sd11 ?_); (try (case sd11 => (repeat' (first | exact trivial | with_reducible refine zI ?_ ?_)))); try (refine L.nil ?_))
  (((repeat refine S.seq ?_); refine S.ret ?_); refine E.retP (T := tt) tt_ok rfl rfl (by (repeat' (first | exact trivial | with_reducible refine zI ?_ ?_))) (Imp.of_eq ?_))
  rw [if_neg h2n]
  rfl

end Go.Proofs.YtfdneepgpekmiaaDoor

/- The reference's judge: what it does. -/
namespace Go.Proofs.YtfdneepgpekmiaaDoor
set_option linter.unusedVariables false
set_option linter.unusedSimpArgs false
set_option maxHeartbeats 8000000
open Go.RowKit
set_option maxRecDepth 4000

structure PostD where
  cl : Int
  q : Int
  key : ByteArray
  fst : Int
  many : Int
  st : Int
  deriving DecidableEq
instance : Inhabited PostD := ⟨⟨0, 0, ByteArray.empty, 0, 0, 0⟩⟩
def PostD.cells (p : PostD) : List AV := [.v (.int .i64 p.cl), .v (.int .i64 p.q), .v (.string p.key), .v (.int .i64 p.fst), .v (.int .i64 p.many), .v (.int .i64 p.st)]
def PostD.line (p : PostD) : LineK := ⟨p.cl, p.q, p.key⟩
structure SeenD where
  q : Int
  post : Nat
  m : Msg
  del : Bool
  held : Bool
  ack : Bool
  fin : Bool
  deriving DecidableEq
instance : Inhabited SeenD := ⟨⟨0, 0, default, false, false, false, false⟩⟩
def SeenD.cells (x : SeenD) : List AV := [.v (.int .i64 x.q), .v (.int .i64 x.post), .v (.int .i64 x.m.pub), .v (.int .i64 x.m.seq), .v (.string x.m.key), .v (.string x.m.body), .v (.bool x.m.again), .v (.bool x.del), .v (.bool x.held), .v (.bool x.ack), .v (.bool x.fin)]
def SeenD.line (x : SeenD) : LineK := ⟨x.m.pub, x.q, x.m.key⟩
def SeenD.lock (x : SeenD) : LockK := ⟨x.q, x.m.key⟩
structure GotD where
  cl : Int
  q : Int
  tag : Int
  m : Nat
  st : Int
  deriving DecidableEq
instance : Inhabited GotD := ⟨⟨0, 0, 0, 0, 0⟩⟩
def GotD.cells (g : GotD) : List AV := [.v (.int .i64 g.cl), .v (.int .i64 g.q), .v (.int .i64 g.tag), .v (.int .i64 g.m), .v (.int .i64 g.st)]
def GotD.tagk (g : GotD) : TagK := ⟨g.cl, g.q, g.tag⟩
structure RJ where
  wait : List PostD
  ms : List SeenD
  t0 : Int
  t1 : Int
  t2 : Int
  t3 : Int
  tags : List GotD
def rj0 : RJ := ⟨[], [], 0, 0, 0, 0, []⟩
def RJ.post (r : RJ) (x : SeenD) : PostD := r.wait.getD x.post default
def RJ.at (r : RJ) (i : Nat) : SeenD := r.ms.getD i default

noncomputable def rjR (b : Nat) (xw xm xt : Value) (r : RJ) : Rows := [(40, .blk b 102 [.v (.slice none 0 0), .ref 41 xw, .ref 42 xm, .v (.int .i64 r.t0), .v (.int .i64 r.t1), .v (.int .i64 r.t2), .v (.int .i64 r.t3), .ref 43 xt]),
  (41, .own xw 118 6 r.wait.length (gOf PostD.cells r.wait)), (42, .own xm 120 11 r.ms.length (gOf SeenD.cells r.ms)), (43, .own xt 143 5 r.tags.length (gOf GotD.cells r.tags))]

def lastN (w : List PostD) (k : LineK) : Int := w.foldl (fun n p => if p.line = k then p.fst + p.many - 1 else n) 0
theorem lastN_app (w : List PostD) (p : PostD) (k : LineK) : lastN (w ++ [p]) k = if p.line = k then p.fst + p.many - 1 else lastN w k := by
  unfold lastN
  rw [List.foldl_append]
  rfl
theorem take_s {α : Type} [Inhabited α] {l : List α} {k : Nat} (h : k < l.length) : l.take (k + 1) = l.take k ++ [l.getD k default] := by
  rw [List.take_add_one, List.getElem?_eq_getElem h, getD_get h]
  rfl

/-- Publishing. -/
def rpubNo (r : RJ) (a : ActD) : Bool := (decide (a.many < 1) || decide (a.many > 8)) || (a.seq != lastN r.wait a.line + 1)
def rnewM (r : RJ) (a : ActD) (i : Nat) : SeenD := ⟨a.q, r.wait.length, ⟨a.cl, a.seq + i, a.key, bodyJ a i, false⟩, false, false, false, false⟩
def rnewMs (r : RJ) (a : ActD) (n : Nat) : List SeenD := (List.range n).map (rnewM r a)
def rpubS (r : RJ) (a : ActD) : RJ := if rpubNo r a then r else { r with ms := r.ms ++ rnewMs r a a.many.toNat, wait := r.wait ++ [⟨a.cl, a.q, a.key, a.seq, a.many, 0⟩] }

/-- Answers. -/
def rAnsP (r : RJ) (a : ActD) (i : Nat) : Bool := decide ((r.wait.getD i default).line = a.line) && ((r.wait.getD i default).st == 0)
def rAns (r : RJ) (a : ActD) : Int := pidx (rAnsP r a) r.wait.length
def rAnsB (r : RJ) (a : ActD) : Bool := !decide (rAns r a < 0) && ((r.wait.getD (rAns r a).toNat default).fst + (r.wait.getD (rAns r a).toNat default).many - 1 == a.seq)
def rAnsS (r : RJ) (a : ActD) (st : Int) : RJ := if rAnsB r a then { r with wait := r.wait.set (rAns r a).toNat { r.wait.getD (rAns r a).toNat default with st := st } } else r

/-- Handing out. -/
def rTop (r : RJ) (c : Int) : Int := if c = 0 then r.t0 else if c = 1 then r.t1 else if c = 2 then r.t2 else r.t3
def rSetTop (r : RJ) (c t : Int) : RJ := { r with t0 := if c = 0 then t else r.t0, t1 := if c = 1 then t else r.t1, t2 := if c = 2 then t else r.t2, t3 := if c = 3 then t else r.t3 }
def rHit (r : RJ) (a : ActD) (i : Nat) : Bool := (((r.at i).q == a.q) && decide ((r.at i).m = bare a.m)) && ((r.post (r.at i)).st != 2)
def rHeld (r : RJ) (a : ActD) (i : Nat) : Bool := (((r.at i).q == a.q) && ((r.at i).m.key == a.m.key)) && (r.at i).held
def rAhead (r : RJ) (a : ActD) (i : Nat) : Bool := ((((((r.at i).q == a.q) && ((r.at i).m.pub == a.m.pub)) && ((r.at i).m.key == a.m.key)) && decide ((r.at i).m.seq < a.m.seq)) && ((r.post (r.at i)).st != 2)) && !(r.at i).del
def rLast (p : Nat → Bool) : Nat → Int
  | 0 => -1
  | n + 1 => if p n then n else rLast p n
def rK (r : RJ) (a : ActD) : Int := rLast (rHit r a) r.ms.length
def rD1 (r : RJ) (a : ActD) : Bool := decide (a.tag < 1) || decide (a.tag ≤ rTop r a.cl)
def rD2 (r : RJ) (a : ActD) : Bool := (List.range r.ms.length).any (rHeld r a)
def rD3 (r : RJ) (a : ActD) : Bool := (decide (rK r a < 0) || (r.at (rK r a).toNat).fin) || (a.m.again != (r.at (rK r a).toNat).del)
def rD4 (r : RJ) (a : ActD) : Bool := !a.m.again && (List.range r.ms.length).any (rAhead r a)
def rDelB (r : RJ) (a : ActD) : Bool := !rD1 r a && !rD2 r a && !rD3 r a && !rD4 r a
def rDelM (r : RJ) (a : ActD) : SeenD := { r.at (rK r a).toNat with del := true, held := true, ack := false }
def rDelS (r : RJ) (a : ActD) : RJ := if rDelB r a then { rSetTop r a.cl a.tag with ms := r.ms.set (rK r a).toNat (rDelM r a), tags := r.tags ++ [⟨a.cl, a.q, a.tag, (rK r a).toNat, 0⟩] } else r

/-- Settling. -/
def rGotP (r : RJ) (a : ActD) (fr : Int) (i : Nat) : Bool := decide ((r.tags.getD i default).tagk = a.tagk) && ((r.tags.getD i default).st == fr)
def rGot (r : RJ) (a : ActD) (fr : Int) : Int := pidx (rGotP r a fr) r.tags.length
def rGo (x : SeenD) (to : Int) : SeenD := if to = 1 then { x with held := false, ack := true } else if to = 2 then { x with held := false } else { x with fin := true }
def rGotG (r : RJ) (a : ActD) (fr : Int) : GotD := r.tags.getD (rGot r a fr).toNat default
def rSetB (r : RJ) (a : ActD) (fr : Int) : Bool := !decide (rGot r a fr < 0)
def rSetS (r : RJ) (a : ActD) (fr to : Int) : RJ := if rSetB r a fr then { r with tags := r.tags.set (rGot r a fr).toNat { rGotG r a fr with st := to }, ms := r.ms.set (rGotG r a fr).m (rGo (r.at (rGotG r a fr).m) to) } else r

/-- One act. -/
def addJ (r : RJ) (a : ActD) : Bool × RJ :=
  if argNoJ a then (false, r) else if a.kind = 1 then (!rpubNo r a, rpubS r a) else if a.kind = 2 then (rAnsB r a, rAnsS r a 1) else if a.kind = 3 then (rAnsB r a, rAnsS r a 2)
  else if a.kind = 4 then (rDelB r a, rDelS r a) else if a.kind = 5 then (rSetB r a 0, rSetS r a 0 1) else if a.kind = 7 ∨ a.kind = 8 then (rSetB r a 0, rSetS r a 0 2) else if a.kind = 6 then (rSetB r a 1, rSetS r a 1 3) else (a.kind == 9, r)

/-- What may be said of the reference's judge. -/
structure RjOk (r : RJ) (n : Nat) : Prop where
  wl : r.wait.length ≤ n
  ml : r.ms.length ≤ 8 * r.wait.length
  tl : r.tags.length ≤ n
  n1 : n ≤ 1000
  wait : ∀ p ∈ r.wait, 0 ≤ p.fst ∧ p.fst ≤ 10000 ∧ 0 ≤ p.many ∧ p.many ≤ 8
  wl2 : ∀ k, 0 ≤ lastN r.wait k ∧ lastN r.wait k ≤ r.ms.length
  post : ∀ x ∈ r.ms, x.post < r.wait.length
  gm : ∀ g ∈ r.tags, g.m < r.ms.length

end Go.Proofs.YtfdneepgpekmiaaDoor

/- The reference's judge: answers. -/
namespace Go.Proofs.YtfdneepgpekmiaaDoor
set_option linter.unusedVariables false
set_option linter.unusedSimpArgs false
set_option maxHeartbeats 8000000
open Go.RowKit
set_option maxRecDepth 4000

def lineB (p : PostD) (a : ActD) : Bool := ((p.cl == a.cl) && (p.q == a.q)) && (p.key == a.key)
theorem lineB_eq (p : PostD) (a : ActD) : lineB p a = decide (p.line = a.line) := by
  unfold lineB PostD.line ActD.line
  rw [Bool.eq_iff_iff]
  simp [and_assoc]

theorem ranswer_p (b : Nat) (xw xm xt : Value) (r : RJ) (a : ActD) (st : Int) (n : Nat) (ok : RjOk r n) : FnC Tryd.prog 66 [.ptr 40 b 0, a.av, .v (.int .i64 st)] (rjR b xw xm xt r)
    (fun v F' => v = .v (.bool (rAnsB r a)) ∧ F' = rjR b xw xm xt (rAnsS r a st)) := by
  have hwl := ok.wl
  have hn := ok.n1
  unfold rjR
  refine FnC.intro Tryd.func66 rfl Tryd.ntmps66 rfl ?_; intro off w0
  repeat refine S.seq ?_
  refine S.region ?_
  refine L.box 91 rfl rfl rfl rfl rfl trivial rfl fun b4 => ?_
  (refine L.go (T := tt) tt_ok rfl rfl ?sd24 ?_; (try (case sd24 => (repeat' (first | exact trivial | with_reducible refine zI ?_ ?_)))); try (refine L.nil ?_))
  refine freezeBlk 4 91 rfl rfl rfl ?_
  ((repeat refine S.seq ?_); refine S.region (L.go (T := tt) tt_ok rfl rfl ?sd14 ?_); (try (case sd14 => (repeat' (first | exact trivial | with_reducible refine zI ?_ ?_)))); try (refine L.nil ?_))
  repeat refine S.seq ?_
  refine S.block (S.loop (ι := { k : Nat // k ≤ r.wait.length ∧ ∀ j, j < k → rAnsP r a j = false }) (fun k => [(0, .ptr 40 b 0), (2, .v (.int .i64 st)), (4, .pel 14 a.cells), (7, .v (.int .i64 k.1))])
    (fun k => rjR b xw xm xt r) (fun k => r.wait.length - k.1) ?_ ?_)
  · exact fun a w h => ⟨⟨0, Nat.zero_le _, fun j hj => absurd hj (by omega)⟩, h.weakP (by (repeat' (first | exact True.intro | exact Imp.refl _ | refine ⟨?_, ?_⟩))) (by first | (unfold rjR; (repeat (first | exact Sub.refl _ | refine Sub.pick (by first | exact p0 | exact pS p0 | exact pS (pS p0) | exact pS (pS (pS p0)) | exact pS (pS (pS (pS p0))) | exact pS (pS (pS (pS (pS p0))))) ?_))) | (repeat (first | exact Sub.refl _ | refine Sub.pick (by first | exact p0 | exact pS p0 | exact pS (pS p0) | exact pS (pS (pS p0)) | exact pS (pS (pS (pS p0))) | exact pS (pS (pS (pS (pS p0))))) ?_)))⟩
  rintro ⟨i, hi, ik⟩
  dsimp only
  unfold rjR
  ((repeat refine S.seq ?_); refine S.region (L.go (T := tt) tt_ok rfl rfl ?sd15 ?_); (try (case sd15 => (repeat' (first | exact trivial | with_reducible refine zI ?_ ?_ | rfl)))); try (refine L.nil ?_))
  ((repeat refine S.seq ?_); refine S.cond rfl (fun h1 => ?_) (fun h1 => ?_) <;> (try first | refine S.skip ?_ | refine S.exit ?_))
  · have h1n : i < r.wait.length := by have := of_dec h1; omega
    obtain ⟨p, hp⟩ : ∃ p, p = r.wait.getD i default := ⟨_, rfl⟩
    obtain ⟨o1, o2, o3, o4⟩ := ok.wait p (by rw [hp, getD_get h1n]; exact List.getElem_mem _)
    repeat refine S.seq ?_
    refine S.block ?_
    ((repeat refine S.seq ?_); refine S.region (L.go (T := tt) tt_ok rfl rfl ?sd16 ?_); (try (case sd16 => (repeat' (first | exact trivial | with_reducible refine zI ?_ ?_ | rfl | omega)))); try (refine L.nil ?_))
    refine L.alloc (T := tt) 58 tt_ok rfl rfl rfl rfl rfl fun b8 => ?_
    (refine L.store (T := tt) tt_ok rfl rfl rfl rfl rfl rfl ?sd25 ?_; (try (case sd25 => (repeat' (first | exact trivial | with_reducible refine zI ?_ ?_ | rfl | exact zN rfl)))))
    refine L.nil ?_
    refine freezeBlk 8 58 rfl rfl rfl ?_
    refine slotAs 8 (.pel 6 p.cells) rfl (Imp.of_eq (by rw [hp]; rfl)) ?_
    ((repeat refine S.seq ?_); refine S.region (L.go (T := tt) tt_ok rfl rfl ?sd17 ?_); (try (case sd17 => (repeat' (first | exact trivial | exact zA | with_reducible refine zI ?_ ?_ | exact zB | exact zC | exact zD | exact zE)))); try (refine L.nil ?_))
    refine slotAs 48 (.v (.bool (rAnsP r a i))) rfl (Imp.of_eq (by rw [rAnsP, ← hp, ← lineB_eq]; rfl)) ?_
    ((repeat refine S.seq ?_); refine S.cond rfl (fun h2 => ?_) (fun h2 => ?_) <;> (try first | refine S.skip ?_ | refine S.exit ?_))
    · have hat : rAns r a = i := pidx_some h1n h2 ik
      ((repeat refine S.seq ?_); refine S.region (L.go (T := tt) tt_ok rfl rfl ?sd18 ?_); (try (case sd18 => (repeat' (first | exact trivial | with_reducible refine zI ?_ ?_ | (unfold fits; omega))))); try (refine L.nil ?_))
      ((repeat refine S.seq ?_); refine S.cond rfl (fun h3 => ?_) (fun h3 => ?_) <;> (try first | refine S.skip ?_ | refine S.exit ?_))
      · have e1 : rAnsB r a = false := by
          have h3' : ((p.fst + p.many - 1) != a.seq) = true := h3
          rw [rAnsB, hat, Int.toNat_natCast, ← hp]
          simp only [bne, Bool.not_eq_true'] at h3'
          rw [h3', Bool.and_false]
        have e2 : rAnsS r a st = r := by rw [rAnsS, e1]; rfl
        ((repeat refine S.seq ?_); refine S.region (L.go (T := tt) tt_ok rfl rfl ?sd19 ?_); (try (case sd19 => (repeat' (first | exact trivial | with_reducible refine zI ?_ ?_)))); try (refine L.nil ?_))
        ((repeat refine S.seq ?_); refine S.ret ?_)
        rw [e1, e2]
        exact E.ret (T := tt) tt_ok rfl rfl (by (repeat' (first | exact trivial | with_reducible refine zI ?_ ?_))) (F' := rjR b xw xm xt r) (Imp.refl _) (by unfold rjR; (repeat (first | exact List.nil_sublist _ | refine List.Sublist.cons_cons _ ?_ | refine List.Sublist.cons _ ?_))) ⟨rfl, rfl⟩
      have e1 : rAnsB r a = true := by
        have h3' : ((p.fst + p.many - 1) != a.seq) = false := h3
        rw [rAnsB, hat, Int.toNat_natCast, ← hp]
        simp only [bne, Bool.not_eq_false'] at h3'
        rw [h3', Bool.and_true, decide_eq_false (by omega)]
        rfl
      have e2 : rAnsS r a st = { r with wait := r.wait.set i { p with st := st } } := by rw [rAnsS, e1, hat, Int.toNat_natCast, ← hp]; rfl
      rw [e1, e2]
      ((repeat refine S.seq ?_); refine S.region (L.go (T := tt) tt_ok rfl rfl ?sd20 ?_); (try (case sd20 => (repeat' (first | exact trivial | with_reducible refine zI ?_ ?_ | rfl | omega)))); try (refine L.nil ?_))
      (refine L.store (T := tt) tt_ok rfl rfl rfl rfl rfl rfl ?sd26 ?_; (try (case sd26 => (repeat' (first | exact trivial | with_reducible refine zI ?_ ?_ | rfl | exact zN rfl | omega)))))
      refine L.nil ?_
      refine ownAs 41 (gOf PostD.cells (r.wait.set i { p with st := st })) rfl (show r.wait.length = (r.wait.set i { p with st := st }).length by rw [List.length_set]) (fun j hj => set_g PostD.cells h1n (by rw [← hp]; rfl) hj) ?_
      ((repeat refine S.seq ?_); refine S.region (L.go (T := tt) tt_ok rfl rfl ?sd21 ?_); (try (case sd21 => (repeat' (first | exact trivial | with_reducible refine zI ?_ ?_)))); try (refine L.nil ?_))
      ((repeat refine S.seq ?_); refine S.ret ?_)
      exact E.ret (T := tt) tt_ok rfl rfl (by (repeat' (first | exact trivial | with_reducible refine zI ?_ ?_))) (F' := rjR b xw xm xt { r with wait := r.wait.set i { p with st := st } }) (Imp.refl _) (by unfold rjR; (repeat (first | exact List.nil_sublist _ | refine List.Sublist.cons_cons _ ?_ | refine List.Sublist.cons _ ?_))) ⟨rfl, rfl⟩
    ((repeat refine S.seq ?_); refine S.region (L.go (T := tt) tt_ok rfl rfl ?sd22 ?_); (try (case sd22 => (repeat' (first | exact trivial | with_reducible refine zI ?_ ?_ | (unfold fits; omega))))); try (refine L.nil ?_))
    exact fun a w h => ⟨⟨i + 1, by omega, upto_succ ik h2⟩, by show r.wait.length - (i + 1) < r.wait.length - i; omega, h.weakP (by (repeat' (first | exact True.intro | exact Imp.refl _ | refine ⟨?_, ?_⟩))) (by first | (unfold rjR; (repeat (first | exact Sub.refl _ | refine Sub.pick (by first | exact p0 | exact pS p0 | exact pS (pS p0) | exact pS (pS (pS p0)) | exact pS (pS (pS (pS p0))) | exact pS (pS (pS (pS (pS p0))))) ?_))) | (repeat (first | exact Sub.refl _ | refine Sub.pick (by first | exact p0 | exact pS p0 | exact pS (pS p0) | exact pS (pS (pS p0)) | exact pS (pS (pS (pS p0))) | exact pS (pS (pS (pS (pS p0))))) ?_)))⟩
  have h1n : i = r.wait.length := by have := of_dec' h1; omega
  subst h1n
  have hat : rAns r a = -1 := pidx_none ik
  have e1 : rAnsB r a = false := by rw [rAnsB, hat]; rfl
  have e2 : rAnsS r a st = r := by rw [rAnsS, e1]; rfl
  ((repeat refine S.seq ?_); refine S.region (L.go (T := tt) tt_ok rfl rfl ?sd23 ?_); (try (case sd23 => (repeat' (first | exact trivial | with_reducible refine zI ?_ ?_)))); try (refine L.nil ?_))
  ((repeat refine S.seq ?_); refine S.ret ?_)
  rw [e1, e2]
  exact E.ret (T := tt) tt_ok rfl rfl (by (repeat' (first | exact trivial | with_reducible refine zI ?_ ?_))) (F' := rjR b xw xm xt r) (Imp.refl _) (by unfold rjR; (repeat (first | exact List.nil_sublist _ | refine List.Sublist.cons_cons _ ?_ | refine List.Sublist.cons _ ?_))) ⟨rfl, rfl⟩
end Go.Proofs.YtfdneepgpekmiaaDoor

/- The reference's judge: settling. -/
namespace Go.Proofs.YtfdneepgpekmiaaDoor
set_option linter.unusedVariables false
set_option linter.unusedSimpArgs false
set_option maxHeartbeats 8000000
open Go.RowKit
set_option maxRecDepth 4000

def tagB (g : GotD) (a : ActD) (fr : Int) : Bool := (((g.cl != a.cl) || (g.q != a.q)) || (g.tag != a.tag)) || (g.st != fr)
theorem tagB_eq (g : GotD) (a : ActD) (fr : Int) : tagB g a fr = !(decide (g.tagk = a.tagk) && (g.st == fr)) := by
  unfold tagB GotD.tagk ActD.tagk
  rw [Bool.eq_iff_iff]
  simp only [Bool.or_eq_true, bne_iff_ne, Bool.not_eq_true', Bool.and_eq_false_iff, decide_eq_false_iff_not, TagK.mk.injEq, beq_eq_false_iff_ne, ne_eq]
  constructor
  · rintro (((h | h) | h) | h)
    · exact .inl fun e => h e.1
    · exact .inl fun e => h e.2.1
    · exact .inl fun e => h e.2.2
    · exact .inr h
  · rintro (h | h)
    · by_cases h1 : g.cl = a.cl
      · by_cases h2 : g.q = a.q
        · exact .inl (.inr fun h3 => h ⟨h1, h2, h3⟩)
        · exact .inl (.inl (.inr h2))
      · exact .inl (.inl (.inl h1))
    · exact .inr h

theorem rsettle_p (b : Nat) (xw xm xt : Value) (r : RJ) (a : ActD) (fr to : Int) (n : Nat) (ok : RjOk r n) : FnC Tryd.prog 68 [.ptr 40 b 0, a.av, .v (.int .i64 fr), .v (.int .i64 to)] (rjR b xw xm xt r)
    (fun v F' => v = .v (.bool (rSetB r a fr)) ∧ F' = rjR b xw xm xt (rSetS r a fr to)) := by
  have hwl := ok.wl
  have htl := ok.tl
  have hml := ok.ml
  have hn := ok.n1
  unfold rjR
  refine FnC.intro Tryd.func68 rfl Tryd.ntmps68 rfl ?_; intro off w0
  repeat refine S.seq ?_
  refine S.region ?_
  refine L.box 91 rfl rfl rfl rfl rfl trivial rfl fun b5 => ?_
  (refine L.go (T := tt) tt_ok rfl rfl ?sd38 ?_; (try (case sd38 => (repeat' (first | exact trivial | with_reducible refine zI ?_ ?_)))); try (refine L.nil ?_))
  refine freezeBlk 5 91 rfl rfl rfl ?_
  ((repeat refine S.seq ?_); refine S.region (L.go (T := tt) tt_ok rfl rfl ?sd27 ?_); (try (case sd27 => (repeat' (first | exact trivial | with_reducible refine zI ?_ ?_)))); try (refine L.nil ?_))
  repeat refine S.seq ?_
  refine S.block (S.loop (ι := { k : Nat // k ≤ r.tags.length ∧ ∀ j, j < k → rGotP r a fr j = false }) (fun k => [(0, .ptr 40 b 0), (2, .v (.int .i64 fr)), (3, .v (.int .i64 to)), (5, .pel 14 a.cells), (9, .v (.int .i64 k.1))])
    (fun k => rjR b xw xm xt r) (fun k => r.tags.length - k.1) ?_ ?_)
  · exact fun a w h => ⟨⟨0, Nat.zero_le _, fun j hj => absurd hj (by omega)⟩, h.weakP (by (repeat' (first | exact True.intro | exact Imp.refl _ | refine ⟨?_, ?_⟩))) (by first | (unfold rjR; (repeat (first | exact Sub.refl _ | refine Sub.pick (by first | exact p0 | exact pS p0 | exact pS (pS p0) | exact pS (pS (pS p0)) | exact pS (pS (pS (pS p0))) | exact pS (pS (pS (pS (pS p0))))) ?_))) | (repeat (first | exact Sub.refl _ | refine Sub.pick (by first | exact p0 | exact pS p0 | exact pS (pS p0) | exact pS (pS (pS p0)) | exact pS (pS (pS (pS p0))) | exact pS (pS (pS (pS (pS p0))))) ?_)))⟩
  rintro ⟨i, hi, ik⟩
  dsimp only
  unfold rjR
  ((repeat refine S.seq ?_); refine S.region (L.go (T := tt) tt_ok rfl rfl ?sd28 ?_); (try (case sd28 => (repeat' (first | exact trivial | with_reducible refine zI ?_ ?_ | rfl)))); try (refine L.nil ?_))
  ((repeat refine S.seq ?_); refine S.cond rfl (fun h1 => ?_) (fun h1 => ?_) <;> (try first | refine S.skip ?_ | refine S.exit ?_))
  · have h1n : i < r.tags.length := by have := of_dec h1; omega
    obtain ⟨g, hg⟩ : ∃ g, g = r.tags.getD i default := ⟨_, rfl⟩
    have hgm : g.m < r.ms.length := ok.gm g (by rw [hg, getD_get h1n]; exact List.getElem_mem _)
    repeat refine S.seq ?_
    refine S.block ?_
    ((repeat refine S.seq ?_); refine S.region (L.go (T := tt) tt_ok rfl rfl ?sd29 ?_); (try (case sd29 => (repeat' (first | exact trivial | with_reducible refine zI ?_ ?_ | rfl | omega)))); try (refine L.nil ?_))
    refine L.alloc (T := tt) 58 tt_ok rfl rfl rfl rfl rfl fun b10 => ?_
    (refine L.store (T := tt) tt_ok rfl rfl rfl rfl rfl rfl ?sd39 ?_; (try (case sd39 => (repeat' (first | exact trivial | with_reducible refine zI ?_ ?_ | rfl | exact zN rfl)))))
    refine L.nil ?_
    refine freezeBlk 10 58 rfl rfl rfl ?_
    refine slotAs 10 (.pel 5 g.cells) rfl (Imp.of_eq (by rw [hg]; rfl)) ?_
    ((repeat refine S.seq ?_); refine S.region (L.go (T := tt) tt_ok rfl rfl ?sd30 ?_); (try (case sd30 => (repeat' (first | exact trivial | exact zA | with_reducible refine zI ?_ ?_ | exact zB | exact zC | exact zD)))); try (refine L.nil ?_))
    refine slotAs 51 (.v (.bool (!rGotP r a fr i))) rfl (Imp.of_eq (by rw [rGotP, ← hg, ← tagB_eq]; rfl)) ?_
    ((repeat refine S.seq ?_); refine S.cond rfl (fun h2 => ?_) (fun h2 => ?_) <;> (try first | refine S.skip ?_ | refine S.exit ?_))
    · have h2n : rGotP r a fr i = false := by simpa using h2
      ((repeat refine S.seq ?_); refine S.region (L.go (T := tt) tt_ok rfl rfl ?sd31 ?_); (try (case sd31 => (repeat' (first | exact trivial | with_reducible refine zI ?_ ?_ | (unfold fits; omega))))); try (refine L.nil ?_))
      exact fun a w h => ⟨⟨i + 1, by omega, upto_succ ik h2n⟩, by show r.tags.length - (i + 1) < r.tags.length - i; omega, h.weakP (by (repeat' (first | exact True.intro | exact Imp.refl _ | refine ⟨?_, ?_⟩))) (by first | (unfold rjR; (repeat (first | exact Sub.refl _ | refine Sub.pick (by first | exact p0 | exact pS p0 | exact pS (pS p0) | exact pS (pS (pS p0)) | exact pS (pS (pS (pS p0))) | exact pS (pS (pS (pS (pS p0))))) ?_))) | (repeat (first | exact Sub.refl _ | refine Sub.pick (by first | exact p0 | exact pS p0 | exact pS (pS p0) | exact pS (pS (pS p0)) | exact pS (pS (pS (pS p0))) | exact pS (pS (pS (pS (pS p0))))) ?_)))⟩
    have h2n : rGotP r a fr i = true := by simpa using h2
    have hat : rGot r a fr = i := pidx_some h1n h2n ik
    have e1 : rSetB r a fr = true := by rw [rSetB, hat, decide_eq_false (by omega)]; rfl
    have e2 : rSetS r a fr to = { r with tags := r.tags.set i { g with st := to }, ms := r.ms.set g.m (rGo (r.at g.m) to) } := by rw [rSetS, e1]; simp only [rGotG, hat, Int.toNat_natCast, ← hg]; rfl
    rw [e1, e2]
    ((repeat refine S.seq ?_); refine S.region (L.go (T := tt) tt_ok rfl rfl ?sd32 ?_); (try (case sd32 => (repeat' (first | exact trivial | with_reducible refine zI ?_ ?_ | rfl | omega)))); try (refine L.nil ?_))
    (refine L.store (T := tt) tt_ok rfl rfl rfl rfl rfl rfl ?sd40 ?_; (try (case sd40 => (repeat' (first | exact trivial | with_reducible refine zI ?_ ?_ | rfl | exact zN rfl | omega)))))
    refine L.nil ?_
    refine ownAs 43 (gOf GotD.cells (r.tags.set i { g with st := to })) rfl (show r.tags.length = (r.tags.set i { g with st := to }).length by rw [List.length_set]) (fun j hj => set_g GotD.cells h1n (by rw [← hg]; rfl) hj) ?_
    ((repeat refine S.seq ?_); refine S.region (L.go (T := tt) tt_ok rfl rfl ?sd33 ?_); (try (case sd33 => (repeat' (first | exact trivial | with_reducible refine zI ?_ ?_)))); try (refine L.nil ?_))
    repeat refine S.seq ?_
    refine S.cut (ι := Unit) (fun _ => []) (fun _ => rjR b xw xm xt { r with tags := r.tags.set i { g with st := to }, ms := r.ms.set g.m (rGo (r.at g.m) to) }) ?_ ?_
    · repeat refine S.seq ?_
      refine S.block ?_
      ((repeat refine S.seq ?_); refine S.region (L.go (T := tt) tt_ok rfl rfl ?sd34 ?_); (try (case sd34 => (repeat' (first | exact trivial | with_reducible refine zI ?_ ?_)))); try (refine L.nil ?_))
      ((repeat refine S.seq ?_); refine S.cond rfl (fun h3 => ?_) (fun h3 => ?_) <;> (try first | refine S.skip ?_ | refine S.exit ?_))
      · have h3n : to = 1 := by simpa using h3
        repeat refine S.seq ?_
        refine S.draw [(3, [40]), (9, [40])] mixed ?_
        (refine H.ts (T := tt) [0, 1, 2, 3, 4, 5, 6, 7, 8, 9, 10, 11, 12, 13] tt_ok (by kernel_rfl) (by kernel_rfl) (by kernel_rfl) (by intro ch a a' w h; obtain ⟨_, _, _, _, _, h, _⟩ := h; cases h) rfl ?sd41 ?_; (try (case sd41 => (repeat' (first | exact trivial | with_reducible refine zI ?_ ?_ | rfl | omega)))))
        (refine H.store (T := tt) 14 rfl (by kernel_rfl) (by kernel_rfl) tt_ok rfl rfl rfl rfl rfl rfl ?sd45 rfl (by kernel_rfl) ?_; (try (case sd45 => (repeat' (first | exact trivial | with_reducible refine zI ?_ ?_ | rfl | exact zN rfl | omega)))))
        (refine H.ts (T := tt) [15, 16] tt_ok (by kernel_rfl) (by kernel_rfl) (by kernel_rfl) (by intro ch a a' w h; obtain ⟨_, _, _, _, _, h, _⟩ := h; cases h) rfl ?sd42 ?_; (try (case sd42 => (repeat' (first | exact trivial | with_reducible refine zI ?_ ?_ | rfl | omega)))))
        (refine H.store (T := tt) 17 rfl (by kernel_rfl) (by kernel_rfl) tt_ok rfl rfl rfl rfl rfl rfl ?sd46 rfl (by kernel_rfl) ?_; (try (case sd46 => (repeat' (first | exact trivial | with_reducible refine zI ?_ ?_ | rfl | exact zN rfl | omega)))))
        refine H.done (by kernel_rfl) ?_
        refine ownAs 42 (gOf SeenD.cells (r.ms.set g.m (rGo (r.at g.m) to))) rfl (show r.ms.length = (r.ms.set g.m (rGo (r.at g.m) to)).length by rw [List.length_set]) (fun j hj => set_g2 SeenD.cells hgm (by rw [rGo, if_pos h3n]; rfl) hj) ?_
        exact fun a w h => ⟨(), h.weakP (by (repeat' (first | exact True.intro | exact Imp.refl _ | refine ⟨?_, ?_⟩))) (by first | (unfold rjR; (repeat (first | exact Sub.refl _ | refine Sub.pick (by first | exact p0 | exact pS p0 | exact pS (pS p0) | exact pS (pS (pS p0)) | exact pS (pS (pS (pS p0))) | exact pS (pS (pS (pS (pS p0))))) ?_))) | (repeat (first | exact Sub.refl _ | refine Sub.pick (by first | exact p0 | exact pS p0 | exact pS (pS p0) | exact pS (pS (pS p0)) | exact pS (pS (pS (pS p0))) | exact pS (pS (pS (pS (pS p0))))) ?_)))⟩
      have h3n : ¬ to = 1 := by simpa using h3
      ((repeat refine S.seq ?_); refine S.region (L.go (T := tt) tt_ok rfl rfl ?sd35 ?_); (try (case sd35 => (repeat' (first | exact trivial | with_reducible refine zI ?_ ?_)))); try (refine L.nil ?_))
      ((repeat refine S.seq ?_); refine S.cond rfl (fun h4 => ?_) (fun h4 => ?_) <;> (try first | refine S.skip ?_ | refine S.exit ?_))
      · have h4n : to = 2 := by simpa using h4
        repeat refine S.seq ?_
        refine S.draw [(3, [40])] mixed ?_
        (refine H.ts (T := tt) [0, 1, 2, 3, 4, 5, 6, 7] tt_ok (by kernel_rfl) (by kernel_rfl) (by kernel_rfl) (by intro ch a a' w h; obtain ⟨_, _, _, _, _, h, _⟩ := h; cases h) rfl ?sd43 ?_; (try (case sd43 => (repeat' (first | exact trivial | with_reducible refine zI ?_ ?_ | rfl | omega)))))
        (refine H.store (T := tt) 8 rfl (by kernel_rfl) (by kernel_rfl) tt_ok rfl rfl rfl rfl rfl rfl ?sd47 rfl (by kernel_rfl) ?_; (try (case sd47 => (repeat' (first | exact trivial | with_reducible refine zI ?_ ?_ | rfl | exact zN rfl | omega)))))
        refine H.done (by kernel_rfl) ?_
        refine ownAs 42 (gOf SeenD.cells (r.ms.set g.m (rGo (r.at g.m) to))) rfl (show r.ms.length = (r.ms.set g.m (rGo (r.at g.m) to)).length by rw [List.length_set]) (fun j hj => set_g SeenD.cells hgm (by rw [rGo, if_neg h3n, if_pos h4n]; rfl) hj) ?_
        exact fun a w h => ⟨(), h.weakP (by (repeat' (first | exact True.intro | exact Imp.refl _ | refine ⟨?_, ?_⟩))) (by first | (unfold rjR; (repeat (first | exact Sub.refl _ | refine Sub.pick (by first | exact p0 | exact pS p0 | exact pS (pS p0) | exact pS (pS (pS p0)) | exact pS (pS (pS (pS p0))) | exact pS (pS (pS (pS (pS p0))))) ?_))) | (repeat (first | exact Sub.refl _ | refine Sub.pick (by first | exact p0 | exact pS p0 | exact pS (pS p0) | exact pS (pS (pS p0)) | exact pS (pS (pS (pS p0))) | exact pS (pS (pS (pS (pS p0))))) ?_)))⟩
      have h4n : ¬ to = 2 := by simpa using h4
      repeat refine S.seq ?_
      refine S.draw [(3, [40])] mixed ?_
      (refine H.ts (T := tt) [0, 1, 2, 3, 4, 5, 6, 7] tt_ok (by kernel_rfl) (by kernel_rfl) (by kernel_rfl) (by intro ch a a' w h; obtain ⟨_, _, _, _, _, h, _⟩ := h; cases h) rfl ?sd44 ?_; (try (case sd44 => (repeat' (first | exact trivial | with_reducible refine zI ?_ ?_ | rfl | omega)))))
      (refine H.store (T := tt) 8 rfl (by kernel_rfl) (by kernel_rfl) tt_ok rfl rfl rfl rfl rfl rfl ?sd48 rfl (by kernel_rfl) ?_; (try (case sd48 => (repeat' (first | exact trivial | with_reducible refine zI ?_ ?_ | rfl | exact zN rfl | omega)))))
      refine H.done (by kernel_rfl) ?_
      refine ownAs 42 (gOf SeenD.cells (r.ms.set g.m (rGo (r.at g.m) to))) rfl (show r.ms.length = (r.ms.set g.m (rGo (r.at g.m) to)).length by rw [List.length_set]) (fun j hj => set_g SeenD.cells hgm (by rw [rGo, if_neg h3n, if_neg h4n]; rfl) hj) ?_
      exact fun a w h => ⟨(), h.weakP (by (repeat' (first | exact True.intro | exact Imp.refl _ | refine ⟨?_, ?_⟩))) (by first | (unfold rjR; (repeat (first | exact Sub.refl _ | refine Sub.pick (by first | exact p0 | exact pS p0 | exact pS (pS p0) | exact pS (pS (pS p0)) | exact pS (pS (pS (pS p0))) | exact pS (pS (pS (pS (pS p0))))) ?_))) | (repeat (first | exact Sub.refl _ | refine Sub.pick (by first | exact p0 | exact pS p0 | exact pS (pS p0) | exact pS (pS (pS p0)) | exact pS (pS (pS (pS p0))) | exact pS (pS (pS (pS (pS p0))))) ?_)))⟩
    rintro ⟨⟩
    ((repeat refine S.seq ?_); refine S.region (L.go (T := tt) tt_ok rfl rfl ?sd36 ?_); (try (case sd36 => (repeat' (first | exact trivial | with_reducible refine zI ?_ ?_)))); try (refine L.nil ?_))
    ((repeat refine S.seq ?_); refine S.ret ?_)
    exact E.ret (T := tt) tt_ok rfl rfl (by (repeat' (first | exact trivial | with_reducible refine zI ?_ ?_))) (F' := rjR b xw xm xt { r with tags := r.tags.set i { g with st := to }, ms := r.ms.set g.m (rGo (r.at g.m) to) }) (Imp.refl _) (List.Sublist.refl _) ⟨rfl, rfl⟩
  have h1n : i = r.tags.length := by have := of_dec' h1; omega
  subst h1n
  have hat : rGot r a fr = -1 := pidx_none ik
  have e1 : rSetB r a fr = false := by rw [rSetB, hat]; rfl
  have e2 : rSetS r a fr to = r := by rw [rSetS, e1]; rfl
  ((repeat refine S.seq ?_); refine S.region (L.go (T := tt) tt_ok rfl rfl ?sd37 ?_); (try (case sd37 => (repeat' (first | exact trivial | with_reducible refine zI ?_ ?_)))); try (refine L.nil ?_))
  ((repeat refine S.seq ?_); refine S.ret ?_)
  rw [e1, e2]
  exact E.ret (T := tt) tt_ok rfl rfl (by (repeat' (first | exact trivial | with_reducible refine zI ?_ ?_))) (F' := rjR b xw xm xt r) (Imp.refl _) (by unfold rjR; (repeat (first | exact List.nil_sublist _ | refine List.Sublist.cons_cons _ ?_ | refine List.Sublist.cons _ ?_))) ⟨rfl, rfl⟩
end Go.Proofs.YtfdneepgpekmiaaDoor

/- The reference's judge: a message is handed out. -/
namespace Go.Proofs.YtfdneepgpekmiaaDoor
set_option linter.unusedVariables false
set_option linter.unusedSimpArgs false
set_option maxHeartbeats 8000000
open Go.RowKit
set_option maxRecDepth 4000

theorem rLast_lt (p : Nat → Bool) : ∀ n, rLast p n < n ∧ -1 ≤ rLast p n
  | 0 => ⟨by show (-1 : Int) < _; omega, by show (-1 : Int) ≤ -1; omega⟩
  | n + 1 => by
    have := rLast_lt p n
    unfold rLast
    split <;> omega
theorem any_succ (p : Nat → Bool) (n : Nat) : (List.range (n + 1)).any p = ((List.range n).any p || p n) := by
  rw [List.range_succ, List.any_append]
  simp
theorem any_lt {p : Nat → Bool} {n i : Nat} (h : i < n) (hp : p i = true) : (List.range n).any p = true := List.any_eq_true.2 ⟨i, List.mem_range.2 h, hp⟩

theorem rdeliver_p (b : Nat) (xw xm xt : Value) (r : RJ) (a : ActD) (n : Nat) (ok : RjOk r n) (hcl : a.cl = 0 ∨ a.cl = 1 ∨ a.cl = 2 ∨ a.cl = 3) : FnC Tryd.prog 67 [.ptr 40 b 0, a.av] (rjR b xw xm xt r)
    (fun v F' => ∃ xt', v = .v (.bool (rDelB r a)) ∧ F' = rjR b xw xm xt' (rDelS r a)) := by
  have hwl := ok.wl
  have htl := ok.tl
  have hml := ok.ml
  have hn := ok.n1
  unfold rjR
  refine FnC.intro Tryd.func67 rfl Tryd.ntmps67 rfl ?_; intro off w0
  repeat refine S.seq ?_
  refine S.region ?_
  refine L.box 91 rfl rfl rfl rfl rfl trivial rfl fun b3 => ?_
  (refine L.go (T := tt) tt_ok rfl rfl ?sd67 ?_; (try (case sd67 => (repeat' (first | exact trivial | with_reducible refine zI ?_ ?_)))); try (refine L.nil ?_))
  refine freezeBlk 3 91 rfl rfl rfl ?_
  refine slotAs 3 (.pel 14 a.cells) rfl (Imp.refl _) ?_
  repeat refine S.seq ?_
  refine S.cut (ι := Unit) (fun i => [(0, .ptr 40 b 0), (3, .pel 14 a.cells), (25, .v (.bool (rD1 r a)))]) (fun i => rjR b xw xm xt r) ?_ ?_
  · rcases hcl with h | h | h | h
    · have hla : rTop r a.cl = r.t0 := by rw [h]; rfl
      refine slotAs 3 (.pel 14 (a.cellsC 0)) rfl (Imp.of_eq (by rw [← cellsC_eq h])) ?_
      refine S.draw [(12, [40])] mixed ?_
      (refine H.ts (T := tt) [0, 1, 2, 3, 4, 5, 6, 7, 8, 9, 10, 11, 12, 13, 14] tt_ok (by kernel_rfl) (by kernel_rfl) (by kernel_rfl) (by intro ch a a' w h; obtain ⟨_, _, _, _, _, h, _⟩ := h; cases h) rfl ?sd72 ?_; (try (case sd72 => (repeat' (first | exact trivial | exact zA | with_reducible refine zI ?_ ?_ | exact zB | exact zC | exact zD | (simp; done))))))
      refine H.done (by kernel_rfl) ?_
      refine slotAs 25 (.v (.bool (rD1 r a))) rfl (Imp.of_eq (by rw [rD1, hla])) ?_
      refine slotAs 3 (.pel 14 a.cells) rfl (Imp.of_eq (by rw [← cellsC_eq h])) ?_
      exact fun a w h => ⟨(), h.weakP (by (repeat' (first | exact True.intro | exact Imp.refl _ | refine ⟨?_, ?_⟩))) (by unfold rjR; (repeat (first | exact Sub.refl _ | refine Sub.pick (by first | exact p0 | exact pS p0 | exact pS (pS p0) | exact pS (pS (pS p0)) | exact pS (pS (pS (pS p0))) | exact pS (pS (pS (pS (pS p0))))) ?_)))⟩
    · have hla : rTop r a.cl = r.t1 := by rw [h]; rfl
      refine slotAs 3 (.pel 14 (a.cellsC 1)) rfl (Imp.of_eq (by rw [← cellsC_eq h])) ?_
      refine S.draw [(12, [40])] mixed ?_
      (refine H.ts (T := tt) [0, 1, 2, 3, 4, 5, 6, 7, 8, 9, 10, 11, 12, 13, 14] tt_ok (by kernel_rfl) (by kernel_rfl) (by kernel_rfl) (by intro ch a a' w h; obtain ⟨_, _, _, _, _, h, _⟩ := h; cases h) rfl ?sd73 ?_; (try (case sd73 => (repeat' (first | exact trivial | exact zA | with_reducible refine zI ?_ ?_ | exact zB | exact zC | exact zD | (simp; done))))))
      refine H.done (by kernel_rfl) ?_
      refine slotAs 25 (.v (.bool (rD1 r a))) rfl (Imp.of_eq (by rw [rD1, hla])) ?_
      refine slotAs 3 (.pel 14 a.cells) rfl (Imp.of_eq (by rw [← cellsC_eq h])) ?_
      exact fun a w h => ⟨(), h.weakP (by (repeat' (first | exact True.intro | exact Imp.refl _ | refine ⟨?_, ?_⟩))) (by unfold rjR; (repeat (first | exact Sub.refl _ | refine Sub.pick (by first | exact p0 | exact pS p0 | exact pS (pS p0) | exact pS (pS (pS p0)) | exact pS (pS (pS (pS p0))) | exact pS (pS (pS (pS (pS p0))))) ?_)))⟩
    · have hla : rTop r a.cl = r.t2 := by rw [h]; rfl
      refine slotAs 3 (.pel 14 (a.cellsC 2)) rfl (Imp.of_eq (by rw [← cellsC_eq h])) ?_
      refine S.draw [(12, [40])] mixed ?_
      (refine H.ts (T := tt) [0, 1, 2, 3, 4, 5, 6, 7, 8, 9, 10, 11, 12, 13, 14] tt_ok (by kernel_rfl) (by kernel_rfl) (by kernel_rfl) (by intro ch a a' w h; obtain ⟨_, _, _, _, _, h, _⟩ := h; cases h) rfl ?sd74 ?_; (try (case sd74 => (repeat' (first | exact trivial | exact zA | with_reducible refine zI ?_ ?_ | exact zB | exact zC | exact zD | (simp; done))))))
      refine H.done (by kernel_rfl) ?_
      refine slotAs 25 (.v (.bool (rD1 r a))) rfl (Imp.of_eq (by rw [rD1, hla])) ?_
      refine slotAs 3 (.pel 14 a.cells) rfl (Imp.of_eq (by rw [← cellsC_eq h])) ?_
      exact fun a w h => ⟨(), h.weakP (by (repeat' (first | exact True.intro | exact Imp.refl _ | refine ⟨?_, ?_⟩))) (by unfold rjR; (repeat (first | exact Sub.refl _ | refine Sub.pick (by first | exact p0 | exact pS p0 | exact pS (pS p0) | exact pS (pS (pS p0)) | exact pS (pS (pS (pS p0))) | exact pS (pS (pS (pS (pS p0))))) ?_)))⟩
    · have hla : rTop r a.cl = r.t3 := by rw [h]; rfl
      refine slotAs 3 (.pel 14 (a.cellsC 3)) rfl (Imp.of_eq (by rw [← cellsC_eq h])) ?_
      refine S.draw [(12, [40])] mixed ?_
      (refine H.ts (T := tt) [0, 1, 2, 3, 4, 5, 6, 7, 8, 9, 10, 11, 12, 13, 14] tt_ok (by kernel_rfl) (by kernel_rfl) (by kernel_rfl) (by intro ch a a' w h; obtain ⟨_, _, _, _, _, h, _⟩ := h; cases h) rfl ?sd75 ?_; (try (case sd75 => (repeat' (first | exact trivial | exact zA | with_reducible refine zI ?_ ?_ | exact zB | exact zC | exact zD | (simp; done))))))
      refine H.done (by kernel_rfl) ?_
      refine slotAs 25 (.v (.bool (rD1 r a))) rfl (Imp.of_eq (by rw [rD1, hla])) ?_
      refine slotAs 3 (.pel 14 a.cells) rfl (Imp.of_eq (by rw [← cellsC_eq h])) ?_
      exact fun a w h => ⟨(), h.weakP (by (repeat' (first | exact True.intro | exact Imp.refl _ | refine ⟨?_, ?_⟩))) (by unfold rjR; (repeat (first | exact Sub.refl _ | refine Sub.pick (by first | exact p0 | exact pS p0 | exact pS (pS p0) | exact pS (pS (pS p0)) | exact pS (pS (pS (pS p0))) | exact pS (pS (pS (pS (pS p0))))) ?_)))⟩
  rintro ⟨⟩
  have hno : ∀ σ : Slots, ∀ c : Ctx, True := fun _ _ => trivial
  unfold rjR
  ((repeat refine S.seq ?_); refine S.cond rfl (fun h1 => ?_) (fun h1 => ?_) <;> (try first | refine S.skip ?_ | refine S.exit ?_))
  · have e1 : rDelB r a = false := by rw [rDelB, show rD1 r a = true from h1]; rfl
    have e2 : rDelS r a = r := by rw [rDelS, e1]; rfl
    ((repeat refine S.seq ?_); refine S.region (L.go (T := tt) tt_ok rfl rfl ?sd49 ?_); (try (case sd49 => (repeat' (first | exact trivial | with_reducible refine zI ?_ ?_)))); try (refine L.nil ?_))
    ((repeat refine S.seq ?_); refine S.ret ?_)
    rw [e1, e2]
    exact E.ret (T := tt) tt_ok rfl rfl (by (repeat' (first | exact trivial | with_reducible refine zI ?_ ?_))) (F' := rjR b xw xm xt r) (Imp.refl _) (by unfold rjR; (repeat (first | exact List.nil_sublist _ | refine List.Sublist.cons_cons _ ?_ | refine List.Sublist.cons _ ?_))) ⟨xt, rfl, rfl⟩
  have h1n : rD1 r a = false := h1
  ((repeat refine S.seq ?_); refine S.region (L.go (T := tt) tt_ok rfl rfl ?sd50 ?_); (try (case sd50 => (repeat' (first | exact trivial | with_reducible refine zI ?_ ?_ | rfl)))); try (refine L.nil ?_))
  refine L.alloc (T := tt) 58 tt_ok rfl rfl rfl rfl rfl fun b5 => ?_
  (refine L.store (T := tt) tt_ok rfl rfl rfl rfl rfl rfl ?sd68 ?_; (try (case sd68 => (repeat' (first | exact trivial | with_reducible refine zI ?_ ?_ | rfl | exact zN rfl)))))
  refine L.nil ?_
  ((repeat refine S.seq ?_); refine S.region (L.go (T := tt) tt_ok rfl rfl ?sd51 ?_); (try (case sd51 => (repeat' (first | exact trivial | with_reducible refine zI ?_ ?_)))); try (refine L.nil ?_))
  (refine L.store (T := tt) tt_ok rfl rfl rfl rfl rfl rfl ?sd69 ?_; (try (case sd69 => (repeat' (first | exact trivial | with_reducible refine zI ?_ ?_ | rfl | exact zN rfl)))))
  refine L.nil ?_
  refine freezeBlk 5 58 rfl rfl rfl ?_
  refine slotAs 5 (.pel 5 (bareC a.m)) rfl (Imp.refl _) ?_
  ((repeat refine S.seq ?_); refine S.region (L.go (T := tt) tt_ok rfl rfl ?sd52 ?_); (try (case sd52 => (repeat' (first | exact trivial | with_reducible refine zI ?_ ?_)))); try (refine L.nil ?_))
  ((repeat refine S.seq ?_); refine S.region (L.go (T := tt) tt_ok rfl rfl ?sd53 ?_); (try (case sd53 => (repeat' (first | exact trivial | with_reducible refine zI ?_ ?_)))); try (refine L.nil ?_))
  repeat refine S.seq ?_
  refine S.block (S.loop (ι := { k : Nat // k ≤ r.ms.length ∧ (List.range k).any (rHeld r a) = false }) (fun k => [(0, .ptr 40 b 0), (3, .pel 14 a.cells), (5, .pel 5 (bareC a.m)), (6, .v (.int .i64 (rLast (rHit r a) k.1))), (7, .v (.int .i64 k.1))])
    (fun k => rjR b xw xm xt r) (fun k => r.ms.length - k.1) ?_ ?_)
  · exact fun a w h => ⟨⟨0, Nat.zero_le _, rfl⟩, h.weakP (by (repeat' (first | exact True.intro | exact Imp.refl _ | refine ⟨?_, ?_⟩))) (by first | (unfold rjR; (repeat (first | exact Sub.refl _ | refine Sub.pick (by first | exact p0 | exact pS p0 | exact pS (pS p0) | exact pS (pS (pS p0)) | exact pS (pS (pS (pS p0))) | exact pS (pS (pS (pS (pS p0))))) ?_))) | (repeat (first | exact Sub.refl _ | refine Sub.pick (by first | exact p0 | exact pS p0 | exact pS (pS p0) | exact pS (pS (pS p0)) | exact pS (pS (pS (pS p0))) | exact pS (pS (pS (pS (pS p0))))) ?_)))⟩
  rintro ⟨i, hi, ik⟩
  dsimp only
  unfold rjR
  ((repeat refine S.seq ?_); refine S.region (L.go (T := tt) tt_ok rfl rfl ?sd54 ?_); (try (case sd54 => (repeat' (first | exact trivial | with_reducible refine zI ?_ ?_ | rfl)))); try (refine L.nil ?_))
  ((repeat refine S.seq ?_); refine S.cond rfl (fun h2 => ?_) (fun h2 => ?_) <;> (try first | refine S.skip ?_ | refine S.exit ?_))
  · have h2n : i < r.ms.length := by have := of_dec h2; omega
    obtain ⟨x, hx⟩ : ∃ x, x = r.at i := ⟨_, rfl⟩
    have hpo : x.post < r.wait.length := ok.post x (by rw [hx, RJ.at, getD_get h2n]; exact List.getElem_mem _)
    repeat refine S.seq ?_
    refine S.block ?_
    ((repeat refine S.seq ?_); refine S.region (L.go (T := tt) tt_ok rfl rfl ?sd55 ?_); (try (case sd55 => (repeat' (first | exact trivial | with_reducible refine zI ?_ ?_ | rfl | omega)))); try (refine L.nil ?_))
    refine L.alloc (T := tt) 58 tt_ok rfl rfl rfl rfl rfl fun b8 => ?_
    (refine L.store (T := tt) tt_ok rfl rfl rfl rfl rfl rfl ?sd70 ?_; (try (case sd70 => (repeat' (first | exact trivial | with_reducible refine zI ?_ ?_ | rfl | exact zN rfl)))))
    refine L.nil ?_
    refine freezeBlk 8 58 rfl rfl rfl ?_
    refine slotAs 8 (.pel 11 x.cells) rfl (Imp.of_eq (by rw [hx]; rfl)) ?_
    repeat refine S.seq ?_
    refine S.draw [(15, [40]), (20, [41])] mixed ?_
    (refine H.ts (T := tt) [0, 1, 2, 3, 4, 5, 6, 7, 8, 9, 10, 11, 12, 13, 14, 15, 16, 17, 18, 19, 20, 21, 22] tt_ok (by kernel_rfl) (by kernel_rfl) (by kernel_rfl) (by intro ch a a' w h; obtain ⟨_, _, _, _, _, h, _⟩ := h; cases h) rfl ?sd76 ?_; (try (case sd76 => (repeat' (first | exact trivial | exact zA | with_reducible refine zI ?_ ?_ | exact zB | exact zC | exact zD | exact zE | rfl | exact zN rfl | omega | (simp; done) | (simp_all; done) | intro _)))))
    refine H.done (by kernel_rfl) ?_
    refine slotAs 67 (.v (.bool (rHit r a i))) rfl (Imp.of_eq (by rw [rHit, ← hx, ← eqMsg]; rfl)) ?_
    refine S.cut (ι := Unit) (fun k => [(0, .ptr 40 b 0), (3, .pel 14 a.cells), (5, .pel 5 (bareC a.m)), (6, .v (.int .i64 (rLast (rHit r a) (i + 1)))), (7, .v (.int .i64 i)), (8, .pel 11 x.cells)]) (fun k => rjR b xw xm xt r) ?_ ?_
    · ((repeat refine S.seq ?_); refine S.cond rfl (fun h3 => ?_) (fun h3 => ?_) <;> (try first | refine S.skip ?_ | refine S.exit ?_))
      · ((repeat refine S.seq ?_); refine S.region (L.go (T := tt) tt_ok rfl rfl ?sd56 ?_); (try (case sd56 => (repeat' (first | exact trivial | with_reducible refine zI ?_ ?_)))); try (refine L.nil ?_))
        refine slotAs 6 (.v (.int .i64 (rLast (rHit r a) (i + 1)))) rfl (Imp.of_eq (by rw [rLast, if_pos h3])) ?_
        exact fun a w h => ⟨(), h.weakP (by (repeat' (first | exact True.intro | exact Imp.refl _ | refine ⟨?_, ?_⟩))) (by first | (unfold rjR; (repeat (first | exact Sub.refl _ | refine Sub.pick (by first | exact p0 | exact pS p0 | exact pS (pS p0) | exact pS (pS (pS p0)) | exact pS (pS (pS (pS p0))) | exact pS (pS (pS (pS (pS p0))))) ?_))) | (repeat (first | exact Sub.refl _ | refine Sub.pick (by first | exact p0 | exact pS p0 | exact pS (pS p0) | exact pS (pS (pS p0)) | exact pS (pS (pS (pS p0))) | exact pS (pS (pS (pS (pS p0))))) ?_)))⟩
      · refine slotAs 6 (.v (.int .i64 (rLast (rHit r a) (i + 1)))) rfl (Imp.of_eq (by rw [rLast, if_neg (by rw [h3]; decide)])) ?_
        exact fun a w h => ⟨(), h.weakP (by (repeat' (first | exact True.intro | exact Imp.refl _ | refine ⟨?_, ?_⟩))) (by first | (unfold rjR; (repeat (first | exact Sub.refl _ | refine Sub.pick (by first | exact p0 | exact pS p0 | exact pS (pS p0) | exact pS (pS (pS p0)) | exact pS (pS (pS (pS p0))) | exact pS (pS (pS (pS (pS p0))))) ?_))) | (repeat (first | exact Sub.refl _ | refine Sub.pick (by first | exact p0 | exact pS p0 | exact pS (pS p0) | exact pS (pS (pS p0)) | exact pS (pS (pS (pS p0))) | exact pS (pS (pS (pS (pS p0))))) ?_)))⟩
    rintro ⟨⟩
    unfold rjR
    ((repeat refine S.seq ?_); refine S.region (L.go (T := tt) tt_ok rfl rfl ?sd57 ?_); (try (case sd57 => (repeat' (first | exact trivial | exact zA | with_reducible refine zI ?_ ?_ | exact zB | exact zC | exact zD)))); try (refine L.nil ?_))
    refine slotAs 86 (.v (.bool (rHeld r a i))) rfl (Imp.of_eq (by rw [rHeld, ← hx])) ?_
    ((repeat refine S.seq ?_); refine S.cond rfl (fun h4 => ?_) (fun h4 => ?_) <;> (try first | refine S.skip ?_ | refine S.exit ?_))
    · have e1 : rDelB r a = false := by
        have : rD2 r a = true := any_lt h2n h4
        rw [rDelB, this]
        simp
      have e2 : rDelS r a = r := by rw [rDelS, e1]; rfl
      ((repeat refine S.seq ?_); refine S.region (L.go (T := tt) tt_ok rfl rfl ?sd58 ?_); (try (case sd58 => (repeat' (first | exact trivial | with_reducible refine zI ?_ ?_)))); try (refine L.nil ?_))
      ((repeat refine S.seq ?_); refine S.ret ?_)
      rw [e1, e2]
      exact E.ret (T := tt) tt_ok rfl rfl (by (repeat' (first | exact trivial | with_reducible refine zI ?_ ?_))) (F' := rjR b xw xm xt r) (Imp.refl _) (by unfold rjR; (repeat (first | exact List.nil_sublist _ | refine List.Sublist.cons_cons _ ?_ | refine List.Sublist.cons _ ?_))) ⟨xt, rfl, rfl⟩
    have h4n : rHeld r a i = false := h4
    ((repeat refine S.seq ?_); refine S.region (L.go (T := tt) tt_ok rfl rfl ?sd59 ?_); (try (case sd59 => (repeat' (first | exact trivial | with_reducible refine zI ?_ ?_ | (unfold fits; omega))))); try (refine L.nil ?_))
    exact fun a w h => ⟨⟨i + 1, by omega, by rw [any_succ, ik, h4n]; rfl⟩, by show r.ms.length - (i + 1) < r.ms.length - i; omega, h.weakP (by (repeat' (first | exact True.intro | exact Imp.refl _ | refine ⟨?_, ?_⟩))) (by first | (unfold rjR; (repeat (first | exact Sub.refl _ | refine Sub.pick (by first | exact p0 | exact pS p0 | exact pS (pS p0) | exact pS (pS (pS p0)) | exact pS (pS (pS (pS p0))) | exact pS (pS (pS (pS (pS p0))))) ?_))) | (repeat (first | exact Sub.refl _ | refine Sub.pick (by first | exact p0 | exact pS p0 | exact pS (pS p0) | exact pS (pS (pS p0)) | exact pS (pS (pS (pS p0))) | exact pS (pS (pS (pS (pS p0))))) ?_)))⟩
  have h2n : i = r.ms.length := by have := of_dec' h2; omega
  subst h2n
  have hD2 : rD2 r a = false := ik
  obtain ⟨k, hk⟩ : ∃ k, k = rK r a := ⟨_, rfl⟩
  have hkl := rLast_lt (rHit r a) r.ms.length
  rw [show rLast (rHit r a) r.ms.length = k from hk.symm] at hkl ⊢
  have hmem : 0 ≤ k → k.toNat < r.ms.length := fun h => by omega
  repeat refine S.seq ?_
  refine S.draw [(6, [40]), (10, [42]), (19, [40]), (23, [42])] mixed ?_
  (refine H.ts (T := tt) [0, 1, 2, 3, 4, 5, 6, 7, 8, 9, 10, 11, 12, 13, 14, 15, 16, 17, 18, 19, 20, 21, 22, 23, 24, 25] tt_ok (by kernel_rfl) (by kernel_rfl) (by kernel_rfl) (by intro ch a a' w h; obtain ⟨_, _, _, _, _, h, _⟩ := h; cases h) rfl ?sd77 ?_; (try (case sd77 => (repeat' (first | exact trivial | exact zA | with_reducible refine zI ?_ ?_ | exact zB | exact zC | exact zD | rfl | omega | (simp; done) | (simp; omega) | (simp_all; done) | intro _)))))
  refine H.done (by kernel_rfl) ?_
  refine slotAs 112 (.v (.bool (rD3 r a))) rfl (Imp.of_eq (by rw [rD3, ← hk]; rfl)) ?_
  ((repeat refine S.seq ?_); refine S.cond rfl (fun h5 => ?_) (fun h5 => ?_) <;> (try first | refine S.skip ?_ | refine S.exit ?_))
  · have e1 : rDelB r a = false := by
      rw [rDelB, show rD3 r a = true from h5]
      simp
    have e2 : rDelS r a = r := by rw [rDelS, e1]; rfl
    ((repeat refine S.seq ?_); refine S.region (L.go (T := tt) tt_ok rfl rfl ?sd60 ?_); (try (case sd60 => (repeat' (first | exact trivial | with_reducible refine zI ?_ ?_)))); try (refine L.nil ?_))
    ((repeat refine S.seq ?_); refine S.ret ?_)
    rw [e1, e2]
    exact E.ret (T := tt) tt_ok rfl rfl (by (repeat' (first | exact trivial | with_reducible refine zI ?_ ?_))) (F' := rjR b xw xm xt r) (Imp.refl _) (by unfold rjR; (repeat (first | exact List.nil_sublist _ | refine List.Sublist.cons_cons _ ?_ | refine List.Sublist.cons _ ?_))) ⟨xt, rfl, rfl⟩
  have hD3 : rD3 r a = false := h5
  have hk0 : 0 ≤ k := by
    have := hD3
    rw [rD3, ← hk] at this
    simp only [Bool.or_eq_false_iff, decide_eq_false_iff_not] at this
    omega
  have hkm := hmem hk0
  ((repeat refine S.seq ?_); refine S.region (L.go (T := tt) tt_ok rfl rfl ?sd61 ?_); (try (case sd61 => (repeat' (first | exact trivial | with_reducible refine zI ?_ ?_)))); try (refine L.nil ?_))
  repeat refine S.seq ?_
  refine S.cut (ι := { u : Unit // rD4 r a = false }) (fun _ => [(0, .ptr 40 b 0), (3, .pel 14 a.cells), (6, .v (.int .i64 k))]) (fun k => rjR b xw xm xt r) ?_ ?_
  · repeat refine S.seq ?_
    refine S.block (S.loop (ι := { k : Nat // k ≤ r.ms.length ∧ (k ≠ 0 → a.m.again = false) ∧ (List.range k).any (rAhead r a) = false }) (fun j => [(0, .ptr 40 b 0), (3, .pel 14 a.cells), (6, .v (.int .i64 k)), (9, .v (.int .i64 j.1))])
      (fun k => rjR b xw xm xt r) (fun k => r.ms.length - k.1) ?_ ?_)
    · exact fun a w h => ⟨⟨0, Nat.zero_le _, fun h => absurd rfl h, rfl⟩, h.weakP (by (repeat' (first | exact True.intro | exact Imp.refl _ | refine ⟨?_, ?_⟩))) (by first | (unfold rjR; (repeat (first | exact Sub.refl _ | refine Sub.pick (by first | exact p0 | exact pS p0 | exact pS (pS p0) | exact pS (pS (pS p0)) | exact pS (pS (pS (pS p0))) | exact pS (pS (pS (pS (pS p0))))) ?_))) | (repeat (first | exact Sub.refl _ | refine Sub.pick (by first | exact p0 | exact pS p0 | exact pS (pS p0) | exact pS (pS (pS p0)) | exact pS (pS (pS (pS p0))) | exact pS (pS (pS (pS (pS p0))))) ?_)))⟩
    rintro ⟨j, hj, jz, jk⟩
    dsimp only
    unfold rjR
    ((repeat refine S.seq ?_); refine S.region (L.go (T := tt) tt_ok rfl rfl ?sd62 ?_); (try (case sd62 => (repeat' (first | exact trivial | exact zA | with_reducible refine zI ?_ ?_ | exact zB | exact zC | rfl)))); try (refine L.nil ?_))
    ((repeat refine S.seq ?_); refine S.cond rfl (fun h6 => ?_) (fun h6 => ?_) <;> (try first | refine S.skip ?_ | refine S.exit ?_))
    · have h6n : j < r.ms.length ∧ a.m.again = false := by
        have : (decide ((j : Int) < (r.ms.length : Int)) && !a.m.again) = true := h6
        simpa using this
      obtain ⟨x, hx⟩ : ∃ x, x = r.at j := ⟨_, rfl⟩
      have hpo : x.post < r.wait.length := ok.post x (by rw [hx, RJ.at, getD_get h6n.1]; exact List.getElem_mem _)
      repeat refine S.seq ?_
      refine S.block ?_
      ((repeat refine S.seq ?_); refine S.region (L.go (T := tt) tt_ok rfl rfl ?sd63 ?_); (try (case sd63 => (repeat' (first | exact trivial | with_reducible refine zI ?_ ?_ | rfl | omega)))); try (refine L.nil ?_))
      refine L.alloc (T := tt) 58 tt_ok rfl rfl rfl rfl rfl fun b10 => ?_
      (refine L.store (T := tt) tt_ok rfl rfl rfl rfl rfl rfl ?sd71 ?_; (try (case sd71 => (repeat' (first | exact trivial | with_reducible refine zI ?_ ?_ | rfl | exact zN rfl)))))
      refine L.nil ?_
      refine freezeBlk 10 58 rfl rfl rfl ?_
      refine slotAs 10 (.pel 11 x.cells) rfl (Imp.of_eq (by rw [hx]; rfl)) ?_
      repeat refine S.seq ?_
      refine S.draw [(36, [40]), (41, [41])] mixed ?_
      (refine H.ts (T := tt) [0, 1, 2, 3, 4, 5, 6, 7, 8, 9, 10, 11, 12, 13, 14, 15, 16, 17, 18, 19, 20, 21, 22, 23, 24, 25, 26, 27, 28, 29, 30, 31, 32, 33, 34, 35, 36, 37, 38, 39, 40, 41, 42, 43, 44, 45, 46, 47, 48] tt_ok (by kernel_rfl) (by kernel_rfl) (by kernel_rfl) (by intro ch a a' w h; obtain ⟨_, _, _, _, _, h, _⟩ := h; cases h) rfl ?sd78 ?_; (try (case sd78 => (repeat' (first | exact trivial | exact zA | with_reducible refine zI ?_ ?_ | exact zB | exact zC | exact zD | exact zE | (simp; done) | (simp_all; done))))))
      refine H.done (by kernel_rfl) ?_
      refine slotAs 183 (.v (.bool (rAhead r a j))) rfl (Imp.of_eq (by rw [rAhead, ← hx]; rfl)) ?_
      ((repeat refine S.seq ?_); refine S.cond rfl (fun h7 => ?_) (fun h7 => ?_) <;> (try first | refine S.skip ?_ | refine S.exit ?_))
      · have e1 : rDelB r a = false := by
          have : rD4 r a = true := by rw [rD4, h6n.2, any_lt h6n.1 h7]; rfl
          rw [rDelB, this]
          simp
        have e2 : rDelS r a = r := by rw [rDelS, e1]; rfl
        ((repeat refine S.seq ?_); refine S.region (L.go (T := tt) tt_ok rfl rfl ?sd64 ?_); (try (case sd64 => (repeat' (first | exact trivial | with_reducible refine zI ?_ ?_)))); try (refine L.nil ?_))
        ((repeat refine S.seq ?_); refine S.ret ?_)
        rw [e1, e2]
        exact E.ret (T := tt) tt_ok rfl rfl (by (repeat' (first | exact trivial | with_reducible refine zI ?_ ?_))) (F' := rjR b xw xm xt r) (Imp.refl _) (by unfold rjR; (repeat (first | exact List.nil_sublist _ | refine List.Sublist.cons_cons _ ?_ | refine List.Sublist.cons _ ?_))) ⟨xt, rfl, rfl⟩
      have h7n : rAhead r a j = false := h7
      ((repeat refine S.seq ?_); refine S.region (L.go (T := tt) tt_ok rfl rfl ?sd65 ?_); (try (case sd65 => (repeat' (first | exact trivial | with_reducible refine zI ?_ ?_ | (unfold fits; omega))))); try (refine L.nil ?_))
      exact fun a' w h => ⟨⟨j + 1, by omega, fun _ => h6n.2, by rw [any_succ, jk, h7n]; rfl⟩, by show r.ms.length - (j + 1) < r.ms.length - j; omega, h.weakP (by (repeat' (first | exact True.intro | exact Imp.refl _ | refine ⟨?_, ?_⟩))) (by first | (unfold rjR; (repeat (first | exact Sub.refl _ | refine Sub.pick (by first | exact p0 | exact pS p0 | exact pS (pS p0) | exact pS (pS (pS p0)) | exact pS (pS (pS (pS p0))) | exact pS (pS (pS (pS (pS p0))))) ?_))) | (repeat (first | exact Sub.refl _ | refine Sub.pick (by first | exact p0 | exact pS p0 | exact pS (pS p0) | exact pS (pS (pS p0)) | exact pS (pS (pS (pS p0))) | exact pS (pS (pS (pS (pS p0))))) ?_)))⟩
    have hD4 : rD4 r a = false := by
      have : (decide ((j : Int) < (r.ms.length : Int)) && !a.m.again) = false := h6
      rw [rD4]
      cases hag : a.m.again with
      | true => rfl
      | false =>
        rw [hag] at this
        have hje : j = r.ms.length := by
          simp at this
          omega
        rw [← hje, jk]
        rfl
    exact fun a w h => ⟨⟨(), hD4⟩, h.weakP (by (repeat' (first | exact True.intro | exact Imp.refl _ | refine ⟨?_, ?_⟩))) (by first | (unfold rjR; (repeat (first | exact Sub.refl _ | refine Sub.pick (by first | exact p0 | exact pS p0 | exact pS (pS p0) | exact pS (pS (pS p0)) | exact pS (pS (pS (pS p0))) | exact pS (pS (pS (pS (pS p0))))) ?_))) | (repeat (first | exact Sub.refl _ | refine Sub.pick (by first | exact p0 | exact pS p0 | exact pS (pS p0) | exact pS (pS (pS p0)) | exact pS (pS (pS (pS p0))) | exact pS (pS (pS (pS (pS p0))))) ?_)))⟩
  rintro ⟨-, hD4⟩
  have e1 : rDelB r a = true := by rw [rDelB, h1n, hD2, hD3, hD4]; rfl
  have e2 : rDelS r a = { rSetTop r a.cl a.tag with ms := r.ms.set k.toNat (rDelM r a), tags := r.tags ++ [⟨a.cl, a.q, a.tag, k.toNat, 0⟩] } := by rw [rDelS, e1, ← hk]; rfl
  rw [e1, e2]
  obtain ⟨r2, hr2⟩ : ∃ r2, r2 = rSetTop r a.cl a.tag := ⟨_, rfl⟩
  rw [← hr2]
  have hm2 : r2.ms = r.ms := by rw [hr2]; rfl
  have ht2 : r2.tags = r.tags := by rw [hr2]; rfl
  have ht3 : r2.tags.length ≤ n := by rw [ht2]; exact htl
  repeat refine S.seq ?_
  refine S.cut (ι := Unit) (fun _ => [(0, .ptr 40 b 0), (3, .pel 14 a.cells), (6, .v (.int .i64 k))]) (fun i => rjR b xw xm xt r2) ?_ ?_
  · unfold rjR
    rcases hcl with h | h | h | h
    · refine slotAs 3 (.pel 14 (a.cellsC 0)) rfl (Imp.of_eq (by rw [← cellsC_eq h])) ?_
      repeat refine S.seq ?_
      refine S.draw [] mixed ?_
      (refine H.ts (T := tt) [0, 1, 2, 3, 4, 5, 6, 7] tt_ok (by kernel_rfl) (by kernel_rfl) (by kernel_rfl) (by intro ch a a' w h; obtain ⟨_, _, _, _, _, h, _⟩ := h; cases h) rfl ?sd79 ?_; (try (case sd79 => (repeat' (first | exact trivial | with_reducible refine zI ?_ ?_ | omega)))))
      (refine H.store (T := tt) 8 rfl (by kernel_rfl) (by kernel_rfl) tt_ok rfl rfl rfl rfl rfl rfl ?sd88 rfl (by kernel_rfl) ?_; (try (case sd88 => (repeat' (first | exact trivial | with_reducible refine zI ?_ ?_ | rfl | exact zN rfl)))))
      refine H.done (by kernel_rfl) ?_
      refine slotAs 3 (.pel 14 a.cells) rfl (Imp.of_eq (by rw [← cellsC_eq h])) ?_
      refine rowsEq (rjR b xw xm xt r2) (by rw [hr2, h]; rfl) ?_
      exact fun a w h => ⟨(), h.weakP (by (repeat' (first | exact True.intro | exact Imp.refl _ | refine ⟨?_, ?_⟩))) (by unfold rjR; (repeat (first | exact Sub.refl _ | refine Sub.pick (by first | exact p0 | exact pS p0 | exact pS (pS p0) | exact pS (pS (pS p0)) | exact pS (pS (pS (pS p0))) | exact pS (pS (pS (pS (pS p0))))) ?_)))⟩
    · refine slotAs 3 (.pel 14 (a.cellsC 1)) rfl (Imp.of_eq (by rw [← cellsC_eq h])) ?_
      repeat refine S.seq ?_
      refine S.draw [] mixed ?_
      (refine H.ts (T := tt) [0, 1, 2, 3, 4, 5, 6, 7] tt_ok (by kernel_rfl) (by kernel_rfl) (by kernel_rfl) (by intro ch a a' w h; obtain ⟨_, _, _, _, _, h, _⟩ := h; cases h) rfl ?sd80 ?_; (try (case sd80 => (repeat' (first | exact trivial | with_reducible refine zI ?_ ?_ | omega)))))
      (refine H.store (T := tt) 8 rfl (by kernel_rfl) (by kernel_rfl) tt_ok rfl rfl rfl rfl rfl rfl ?sd89 rfl (by kernel_rfl) ?_; (try (case sd89 => (repeat' (first | exact trivial | with_reducible refine zI ?_ ?_ | rfl | exact zN rfl)))))
      refine H.done (by kernel_rfl) ?_
      refine slotAs 3 (.pel 14 a.cells) rfl (Imp.of_eq (by rw [← cellsC_eq h])) ?_
      refine rowsEq (rjR b xw xm xt r2) (by rw [hr2, h]; rfl) ?_
      exact fun a w h => ⟨(), h.weakP (by (repeat' (first | exact True.intro | exact Imp.refl _ | refine ⟨?_, ?_⟩))) (by unfold rjR; (repeat (first | exact Sub.refl _ | refine Sub.pick (by first | exact p0 | exact pS p0 | exact pS (pS p0) | exact pS (pS (pS p0)) | exact pS (pS (pS (pS p0))) | exact pS (pS (pS (pS (pS p0))))) ?_)))⟩
    · refine slotAs 3 (.pel 14 (a.cellsC 2)) rfl (Imp.of_eq (by rw [← cellsC_eq h])) ?_
      repeat refine S.seq ?_
      refine S.draw [] mixed ?_
      (refine H.ts (T := tt) [0, 1, 2, 3, 4, 5, 6, 7] tt_ok (by kernel_rfl) (by kernel_rfl) (by kernel_rfl) (by intro ch a a' w h; obtain ⟨_, _, _, _, _, h, _⟩ := h; cases h) rfl ?sd81 ?_; (try (case sd81 => (repeat' (first | exact trivial | with_reducible refine zI ?_ ?_ | omega)))))
      (refine H.store (T := tt) 8 rfl (by kernel_rfl) (by kernel_rfl) tt_ok rfl rfl rfl rfl rfl rfl ?sd90 rfl (by kernel_rfl) ?_; (try (case sd90 => (repeat' (first | exact trivial | with_reducible refine zI ?_ ?_ | rfl | exact zN rfl)))))
      refine H.done (by kernel_rfl) ?_
      refine slotAs 3 (.pel 14 a.cells) rfl (Imp.of_eq (by rw [← cellsC_eq h])) ?_
      refine rowsEq (rjR b xw xm xt r2) (by rw [hr2, h]; rfl) ?_
      exact fun a w h => ⟨(), h.weakP (by (repeat' (first | exact True.intro | exact Imp.refl _ | refine ⟨?_, ?_⟩))) (by unfold rjR; (repeat (first | exact Sub.refl _ | refine Sub.pick (by first | exact p0 | exact pS p0 | exact pS (pS p0) | exact pS (pS (pS p0)) | exact pS (pS (pS (pS p0))) | exact pS (pS (pS (pS (pS p0))))) ?_)))⟩
    · refine slotAs 3 (.pel 14 (a.cellsC 3)) rfl (Imp.of_eq (by rw [← cellsC_eq h])) ?_
      repeat refine S.seq ?_
      refine S.draw [] mixed ?_
      (refine H.ts (T := tt) [0, 1, 2, 3, 4, 5, 6, 7] tt_ok (by kernel_rfl) (by kernel_rfl) (by kernel_rfl) (by intro ch a a' w h; obtain ⟨_, _, _, _, _, h, _⟩ := h; cases h) rfl ?sd82 ?_; (try (case sd82 => (repeat' (first | exact trivial | with_reducible refine zI ?_ ?_ | omega)))))
      (refine H.store (T := tt) 8 rfl (by kernel_rfl) (by kernel_rfl) tt_ok rfl rfl rfl rfl rfl rfl ?sd91 rfl (by kernel_rfl) ?_; (try (case sd91 => (repeat' (first | exact trivial | with_reducible refine zI ?_ ?_ | rfl | exact zN rfl)))))
      refine H.done (by kernel_rfl) ?_
      refine slotAs 3 (.pel 14 a.cells) rfl (Imp.of_eq (by rw [← cellsC_eq h])) ?_
      refine rowsEq (rjR b xw xm xt r2) (by rw [hr2, h]; rfl) ?_
      exact fun a w h => ⟨(), h.weakP (by (repeat' (first | exact True.intro | exact Imp.refl _ | refine ⟨?_, ?_⟩))) (by unfold rjR; (repeat (first | exact Sub.refl _ | refine Sub.pick (by first | exact p0 | exact pS p0 | exact pS (pS p0) | exact pS (pS (pS p0)) | exact pS (pS (pS (pS p0))) | exact pS (pS (pS (pS (pS p0))))) ?_)))⟩
  rintro ⟨⟩
  unfold rjR
  rw [← hm2] at hkm
  rw [← hm2, ← ht2]
  repeat refine S.seq ?_
  refine S.draw [(3, [40]), (8, [40]), (13, [40])] mixed ?_
  (refine H.ts (T := tt) [0, 1, 2, 3, 4, 5, 6, 7, 8, 9, 10, 11, 12, 13, 14, 15, 16] tt_ok (by kernel_rfl) (by kernel_rfl) (by kernel_rfl) (by intro ch a a' w h; obtain ⟨_, _, _, _, _, h, _⟩ := h; cases h) rfl ?sd83 ?_; (try (case sd83 => (repeat' (first | exact trivial | with_reducible refine zI ?_ ?_ | rfl | omega)))))
  (refine H.store (T := tt) 17 rfl (by kernel_rfl) (by kernel_rfl) tt_ok rfl rfl rfl rfl rfl rfl ?sd92 rfl (by kernel_rfl) ?_; (try (case sd92 => (repeat' (first | exact trivial | with_reducible refine zI ?_ ?_ | rfl | exact zN rfl | omega)))))
  (refine H.ts (T := tt) [18, 19] tt_ok (by kernel_rfl) (by kernel_rfl) (by kernel_rfl) (by intro ch a a' w h; obtain ⟨_, _, _, _, _, h, _⟩ := h; cases h) rfl ?sd84 ?_; (try (case sd84 => (repeat' (first | exact trivial | with_reducible refine zI ?_ ?_ | rfl | omega)))))
  (refine H.store (T := tt) 20 rfl (by kernel_rfl) (by kernel_rfl) tt_ok rfl rfl rfl rfl rfl rfl ?sd93 rfl (by kernel_rfl) ?_; (try (case sd93 => (repeat' (first | exact trivial | with_reducible refine zI ?_ ?_ | rfl | exact zN rfl | omega)))))
  (refine H.ts (T := tt) [21, 22] tt_ok (by kernel_rfl) (by kernel_rfl) (by kernel_rfl) (by intro ch a a' w h; obtain ⟨_, _, _, _, _, h, _⟩ := h; cases h) rfl ?sd85 ?_; (try (case sd85 => (repeat' (first | exact trivial | with_reducible refine zI ?_ ?_ | rfl | omega)))))
  (refine H.store (T := tt) 23 rfl (by kernel_rfl) (by kernel_rfl) tt_ok rfl rfl rfl rfl rfl rfl ?sd94 rfl (by kernel_rfl) ?_; (try (case sd94 => (repeat' (first | exact trivial | with_reducible refine zI ?_ ?_ | rfl | exact zN rfl | omega)))))
  refine H.done (by kernel_rfl) ?_
  refine ownAs 42 (gOf SeenD.cells (r2.ms.set k.toNat (rDelM r a))) rfl (show r2.ms.length = (r2.ms.set k.toNat (rDelM r a)).length by rw [List.length_set]) (fun j hj => set_g3 SeenD.cells hkm (by rw [rDelM, ← hk, RJ.at, hm2]; rfl) hj) ?_
  repeat refine S.seq ?_
  refine S.draw [(4, [40])] mixed ?_
  (refine H.ts (T := tt) [0, 1, 2, 3, 4, 5, 6, 7, 8, 9, 10, 11, 12] tt_ok (by kernel_rfl) (by kernel_rfl) (by kernel_rfl) (by intro ch a a' w h; obtain ⟨_, _, _, _, _, h, _⟩ := h; cases h) rfl ?sd86 ?_; (try (case sd86 => (repeat' (first | exact trivial | with_reducible refine zI ?_ ?_ | rfl | exact zN rfl)))))
  refine H.o1 13 rfl (by kernel_rfl) (by kernel_rfl) (O.buildSlice (T := tt) 57 tt_ok rfl rfl rfl rfl rfl rfl (by decide) (by decide) rfl rfl (by (repeat' (first | exact trivial | with_reducible refine zI ?_ ?_ | rfl | exact zN rfl)))) (.inr rfl) rfl fun x226 => ?_
  refine H.o1 14 rfl (by kernel_rfl) (by kernel_rfl) (O.append (T := tt) tt_ok rfl rfl rfl rfl rfl rfl rfl rfl rfl rfl (by (repeat' (first | exact trivial | with_reducible refine zI ?_ ?_ | rfl))) ⟨rfl, by decide, by decide⟩ (by simp; omega)) (.inl (by kernel_rfl)) (by kernel_rfl) fun y227 => ?_
  (refine H.ts (T := tt) [15, 16] tt_ok (by kernel_rfl) (by kernel_rfl) (by kernel_rfl) (by intro ch a a' w h; obtain ⟨_, _, _, _, _, h, _⟩ := h; cases h) rfl ?sd87 ?_; (try (case sd87 => (repeat' (first | exact trivial | with_reducible refine zI ?_ ?_)))))
  (refine H.store (T := tt) 17 rfl (by kernel_rfl) (by kernel_rfl) tt_ok rfl rfl rfl rfl rfl rfl ?sd95 rfl (by kernel_rfl) ?_; (try (case sd95 => (repeat' (first | exact trivial | with_reducible refine zI ?_ ?_ | rfl | exact zN rfl)))))
  refine H.done (by kernel_rfl) ?_
  refine ownAs 43 (gOf GotD.cells (r2.tags ++ [(⟨a.cl, a.q, a.tag, k.toNat, 0⟩ : GotD)])) rfl (show r2.tags.length + 1 = (r2.tags ++ [(⟨a.cl, a.q, a.tag, k.toNat, 0⟩ : GotD)]).length by simp) (fun i hi => ?_) ?_
  · exact app1_h GotD.cells r2.tags (⟨a.cl, a.q, a.tag, k.toNat, 0⟩ : GotD) _ rfl (by rw [GotD.cells, Int.toNat_of_nonneg hk0]; rfl) hi
  ((repeat refine S.seq ?_); refine S.region (L.go (T := tt) tt_ok rfl rfl ?sd66 ?_); (try (case sd66 => (repeat' (first | exact trivial | with_reducible refine zI ?_ ?_)))); try (refine L.nil ?_))
  ((repeat refine S.seq ?_); refine S.ret ?_)
  exact E.ret (T := tt) tt_ok rfl rfl (by (repeat' (first | exact trivial | with_reducible refine zI ?_ ?_))) (F' := rjR b xw xm y227 { r2 with ms := r2.ms.set k.toNat (rDelM r a), tags := r2.tags ++ [⟨a.cl, a.q, a.tag, k.toNat, 0⟩] }) (Imp.refl _) (by unfold rjR; (repeat (first | exact List.nil_sublist _ | refine List.Sublist.cons_cons _ ?_ | refine List.Sublist.cons _ ?_))) ⟨y227, rfl, rfl⟩
end Go.Proofs.YtfdneepgpekmiaaDoor
