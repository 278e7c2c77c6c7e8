/- Texts of this proof, laid together: ApiRd, JrM, JrN. -/
import Derived.Test.YtfdneepgpekmiaaDoorMjC
import Derived.Test.YtfdneepgpekmiaaDoorMjD
import Derived.Test.YtfdneepgpekmiaaDoorMjJ
import Derived.Test.YtfdneepgpekmiaaDoorMjG
/- Messages, marks, shards that come in. -/
namespace Go.Proofs.YtfdneepgpekmiaaDoor
set_option linter.unusedVariables false
set_option linter.unusedSimpArgs false
set_option maxHeartbeats 8000000
open Go.RowKit

theorem u_int : Tryd.prog.underlying 3 = some (.int .i64) := by kernel_rfl
theorem u_str : Tryd.prog.underlying 9 = some .string := by kernel_rfl
theorem u_bool : Tryd.prog.underlying 4 = some .bool := by kernel_rfl
theorem r_int : RdP Tryd.prog 3 (fun z : Int => [.v (.int .i64 z)]) fitI := (rd_int u_int).map id (fun _ => rfl) fun _ h => wf_fit h
theorem r_str : RdP Tryd.prog 9 (fun z : ByteArray => [.v (.string z)]) fitS := (rd_str u_str).map id (fun _ => rfl) fun d h => by have h : d.size ≤ 2 ^ 63 - 1 := h; unfold fitS; simp only [id]; omega
theorem r_bool : RdP Tryd.prog 4 (fun z : Bool => [.v (.bool z)]) (fun _ => True) := rd_bool u_bool

theorem rd_msg : RdP Tryd.prog 42 Msg.cells Msg.ok :=
  (rd_struct (T := tt) tt_ok rfl rfl rfl (rdf_cons r_int (rdf_cons r_int (rdf_cons r_str (rdf_cons r_str (rdf_cons r_bool rdf_nil)))))).map (fun d => ⟨d.1, d.2.1, d.2.2.1, d.2.2.2.1, d.2.2.2.2.1⟩) (fun _ => rfl) fun d h => ⟨h.1, h.2.1, h.2.2.1, h.2.2.2.1⟩
theorem rd_mark : RdP Tryd.prog 127 Mark.cells Mark.ok :=
  (rd_struct (T := tt) tt_ok rfl rfl rfl (rdf_cons r_int (rdf_cons r_str (rdf_cons r_int rdf_nil)))).map (fun d => ⟨d.1, d.2.1, d.2.2.1⟩) (fun _ => rfl) fun d h => ⟨h.1, h.2.1, h.2.2.1⟩
theorem rd_held : RdP Tryd.prog 130 Held.cells Held.ok :=
  (rd_struct (T := tt) tt_ok rfl rfl rfl (rdf_cons r_int (rdf_cons rd_msg rdf_nil))).map (fun d => ⟨d.1, d.2.1⟩) (fun _ => rfl) fun d h => ⟨h.1, h.2.1⟩
theorem rd_msgs : RdP Tryd.prog 37 (fun l : List Msg => [msgs l]) (fun l => l.length ≤ maxLen ∧ ∀ m ∈ l, m.ok) := rd_slice (sz := 5) (by kernel_rfl) (by kernel_rfl) (fun _ => rfl) rd_msg
theorem rd_shard : RdP Tryd.prog 71 Shard.cells Shard.ok :=
  (rd_struct (T := tt) tt_ok rfl rfl rfl (rdf_cons r_bool (rdf_cons r_int (rdf_cons rd_msgs (rdf_cons (rd_slice (sz := 6) (by kernel_rfl) (by kernel_rfl) (fun _ => rfl) rd_held) (rdf_cons (rd_slice (sz := 3) (by kernel_rfl) (by kernel_rfl) (fun _ => rfl) rd_mark) rdf_nil)))))).map
    (fun d => ⟨d.1, d.2.1, d.2.2.1, d.2.2.2.1, d.2.2.2.2.1⟩) (fun _ => rfl) fun d h => ⟨h.2.1, h.2.2.1.2, h.2.2.2.1.2, h.2.2.2.2.1.2⟩

end Go.Proofs.YtfdneepgpekmiaaDoor

/- JudgeAsks. -/
namespace Go.Proofs.YtfdneepgpekmiaaDoor
set_option linter.unusedVariables false
set_option linter.unusedSimpArgs false
set_option maxHeartbeats 8000000
open Go.RowKit
set_option maxRecDepth 8000

def bigA (a : ActD) : Bool := ((decide ((a.key.size : Int) > 100) || decide ((a.body.size : Int) > 300)) || decide ((a.m.key.size : Int) > 100)) || decide ((a.m.body.size : Int) > 300)
def fewJ (l : List ActD) : Bool := !l.any bigA && decide (l.length ≤ 80)
/-- What comes in. -/
structure ActIn (a : ActD) : Prop where
  kind : fitI a.kind
  cl : fitI a.cl
  q : fitI a.q
  seq : fitI a.seq
  tag : fitI a.tag
  many : fitI a.many
  mpub : fitI a.m.pub
  mseq : fitI a.m.seq
  key : fitS a.key
  body : fitS a.body
  mkey : fitS a.m.key
  mbody : fitS a.m.body
theorem ActIn.ok {a : ActD} (h : ActIn a) (hb : bigA a = false) : ActOk a := by
  simp only [bigA, Bool.or_eq_false_iff, decide_eq_false_iff_not] at hb
  exact ⟨h.kind, h.cl, h.q, h.seq, h.tag, h.many, by omega, by omega, h.mpub, h.mseq, by omega, by omega⟩
theorem any_take {l : List ActD} {k : Nat} (hk : k < l.length) (h : (l.take k).any bigA = false) : (l.take (k + 1)).any bigA = bigA (l.getD k default) := by
  rw [take_s hk, List.any_append, h]
  simp

theorem few21_p (l : List ActD) (hin : ∀ a ∈ l, ActIn a) : PFn Tryd.prog 25 [actsA l] (.v (.bool (fewJ l))) := by
  refine FnC.intro Tryd.func25 rfl Tryd.ntmps25 rfl ?_; intro off w0
  refine lenAt (sz := 14) (n := l.length) (g := gOf ActD.cells l) 0 rfl fun hn => ?_
  ((repeat refine S.seq ?_); refine S.region (L.go (T := tt) tt_ok rfl rfl ?sd174 ?_); (try (case sd174 => (repeat' (first | exact trivial | with_reducible refine zI ?_ ?_)))); try (refine L.nil ?_))
  ((repeat refine S.seq ?_); refine S.region (L.go (T := tt) tt_ok rfl rfl ?sd175 ?_); (try (case sd175 => (repeat' (first | exact trivial | with_reducible refine zI ?_ ?_)))); try (refine L.nil ?_))
  repeat refine S.seq ?_
  refine S.block (S.loop (ι := { k : Nat // k ≤ l.length ∧ (l.take k).any bigA = false }) (fun k => [(0, actsA l), (3, .v (.int .i64 k.1))]) (fun _ => []) (fun k => l.length - k.1) ?_ ?_)
  · exact fun a' w h => ⟨⟨0, Nat.zero_le _, rfl⟩, h.weakP (by (repeat' (first | exact True.intro | exact Imp.refl _ | refine ⟨?_, ?_⟩))) (Sub.self _)⟩
  rintro ⟨k, hk, hz⟩
  dsimp only
  ((repeat refine S.seq ?_); refine S.region (L.go (T := tt) tt_ok rfl rfl ?sd176 ?_); (try (case sd176 => (repeat' (first | exact trivial | with_reducible refine zI ?_ ?_)))); try (refine L.nil ?_))
  ((repeat refine S.seq ?_); refine S.cond rfl (fun hc => ?_) (fun hc => ?_) <;> (try first | refine S.skip ?_ | refine S.exit ?_))
  · have hkl : k < l.length := by have := of_dec hc; omega
    obtain ⟨a, ha⟩ : ∃ a, a = l.getD k default := ⟨_, rfl⟩
    have ai := hin a (by rw [ha, getD_get hkl]; exact List.getElem_mem _)
    have hs := any_take hkl hz
    rw [← ha] at hs
    have z1 := ai.key
    have z2 := ai.body
    have z3 := ai.mkey
    have z4 := ai.mbody
    unfold fitS at z1 z2 z3 z4
    rw [ha] at z1 z2 z3 z4
    repeat refine S.seq ?_
    refine S.block ?_
    ((repeat refine S.seq ?_); refine S.region (L.go (T := tt) tt_ok rfl rfl ?sd177 ?_); (try (case sd177 => (repeat' (first | exact trivial | exact zA | with_reducible refine zI ?_ ?_ | exact zB | exact zC | exact zE | omega | (simp; omega))))); try (refine L.nil ?_))
    refine slotAs 45 (.v (.bool (bigA a))) rfl (Imp.of_eq (by rw [ha]; rfl)) ?_
    ((repeat refine S.seq ?_); refine S.cond rfl (fun hb => ?_) (fun hb => ?_) <;> (try first | refine S.skip ?_ | refine S.exit ?_))
    · have hb' : bigA a = true := hb
      have e : fewJ l = false := by
        have : l.any bigA = true := by
          rw [List.any_eq_true]
          exact ⟨a, by rw [ha, getD_get hkl]; exact List.getElem_mem _, hb'⟩
        rw [fewJ, this]; rfl
      ((repeat refine S.seq ?_); refine S.region (L.go (T := tt) tt_ok rfl rfl ?sd178 ?_); (try (case sd178 => (repeat' (first | exact trivial | with_reducible refine zI ?_ ?_)))); try (refine L.nil ?_))
      (((repeat refine S.seq ?_); refine S.ret ?_); refine E.retP (T := tt) tt_ok rfl rfl (by (repeat' (first | exact trivial | with_reducible refine zI ?_ ?_))) (Imp.of_eq ?_))
      rw [e]
      rfl
    have hb' : bigA a = false := hb
    ((repeat refine S.seq ?_); refine S.region (L.go (T := tt) tt_ok rfl rfl ?sd179 ?_); (try (case sd179 => (repeat' (first | exact trivial | with_reducible refine zI ?_ ?_ | (unfold fits; omega))))); try (refine L.nil ?_))
    exact fun a' w h => ⟨⟨k + 1, by omega, by rw [hs, hb']⟩, by show l.length - (k + 1) < l.length - k; omega, h.weakP (by (repeat' (first | exact True.intro | exact Imp.refl _ | refine ⟨?_, ?_⟩))) (Sub.self _)⟩
  have hkl : k = l.length := by have := of_dec' hc; omega
  subst hkl
  rw [List.take_length] at hz
  ((repeat refine S.seq ?_); refine S.region (L.go (T := tt) tt_ok rfl rfl ?sd180 ?_); (try (case sd180 => (repeat' (first | exact trivial | with_reducible refine zI ?_ ?_)))); try (refine L.nil ?_))
  (((repeat refine S.seq ?_); refine S.ret ?_); refine E.retP (T := tt) tt_ok rfl rfl (by (repeat' (first | exact trivial | with_reducible refine zI ?_ ?_))) (Imp.of_eq ?_))
  have e : decide ((l.length : Int) ≤ 80) = decide (l.length ≤ 80) := decide_eq_decide.2 (by omega)
  rw [fewJ, hz, ← e]
  rfl

theorem messages_p (l : List Msg) : PFn Tryd.prog 29 [.lst 5 l.length (gOf Msg.cells l), .lst 5 l.length (gOf Msg.cells l)] (.v (.bool true)) := by
  refine FnC.intro Tryd.func29 rfl Tryd.ntmps29 rfl ?_; intro off w0
  refine lenAt (sz := 5) (n := l.length) (g := gOf Msg.cells l) 0 rfl fun hn => ?_
  ((repeat refine S.seq ?_); refine S.region (L.go (T := tt) tt_ok rfl rfl ?sd181 ?_); (try (case sd181 => (repeat' (first | exact trivial | with_reducible refine zI ?_ ?_)))); try (refine L.nil ?_))
  ((repeat refine S.seq ?_); refine S.region (L.go (T := tt) tt_ok rfl rfl ?sd182 ?_); (try (case sd182 => (repeat' (first | exact trivial | with_reducible refine zI ?_ ?_)))); try (refine L.nil ?_))
  ((repeat refine S.seq ?_); refine S.cond rfl (fun h0 => ?_) (fun h0 => ?_) <;> (try first | refine S.skip ?_ | refine S.exit ?_))
  · simp at h0
  ((repeat refine S.seq ?_); refine S.region (L.go (T := tt) tt_ok rfl rfl ?sd183 ?_); (try (case sd183 => (repeat' (first | exact trivial | with_reducible refine zI ?_ ?_)))); try (refine L.nil ?_))
  repeat refine S.seq ?_
  refine S.block (S.loop (ι := { k : Nat // k ≤ l.length }) (fun k => [(0, .lst 5 l.length (gOf Msg.cells l)), (1, .lst 5 l.length (gOf Msg.cells l)), (5, .v (.int .i64 k.1))]) (fun _ => []) (fun k => l.length - k.1) ?_ ?_)
  · exact fun a' w h => ⟨⟨0, Nat.zero_le _⟩, h.weakP (by (repeat' (first | exact True.intro | exact Imp.refl _ | refine ⟨?_, ?_⟩))) (Sub.self _)⟩
  rintro ⟨k, hk⟩
  dsimp only
  ((repeat refine S.seq ?_); refine S.region (L.go (T := tt) tt_ok rfl rfl ?sd184 ?_); (try (case sd184 => (repeat' (first | exact trivial | with_reducible refine zI ?_ ?_)))); try (refine L.nil ?_))
  ((repeat refine S.seq ?_); refine S.cond rfl (fun hc => ?_) (fun hc => ?_) <;> (try first | refine S.skip ?_ | refine S.exit ?_))
  · have hkl : k < l.length := by have := of_dec hc; omega
    repeat refine S.seq ?_
    refine S.block ?_
    repeat refine S.seq ?_
    refine S.draw [] mixed ?_
    (refine H.ts (T := tt) [0, 1, 2, 3, 4, 5, 6, 7, 8] tt_ok (by kernel_rfl) (by kernel_rfl) (by kernel_rfl) (by intro ch a a' w h; obtain ⟨_, _, _, _, _, h, _⟩ := h; cases h) rfl ?sd203 ?_; (try (case sd203 => (repeat' (first | exact trivial | with_reducible refine zI ?_ ?_ | rfl | omega)))))
    refine H.done (by kernel_rfl) ?_
    refine slotAs 25 (.v (.bool false)) rfl (Imp.of_eq ?_) ?_
    · have := eqMsg (l.getD k default) (l.getD k default)
      rw [decide_eq_true rfl] at this
      show AV.v (Value.bool (!((l.getD k default).pub == (l.getD k default).pub && ((l.getD k default).seq == (l.getD k default).seq && ((l.getD k default).key == (l.getD k default).key && ((l.getD k default).body == (l.getD k default).body && ((l.getD k default).again == (l.getD k default).again && true))))))) = _
      rw [this]
      rfl
    ((repeat refine S.seq ?_); refine S.cond rfl (fun hb => ?_) (fun hb => ?_) <;> (try first | refine S.skip ?_ | refine S.exit ?_))
    · cases hb
    ((repeat refine S.seq ?_); refine S.region (L.go (T := tt) tt_ok rfl rfl ?sd185 ?_); (try (case sd185 => (repeat' (first | exact trivial | with_reducible refine zI ?_ ?_ | (unfold fits; omega))))); try (refine L.nil ?_))
    exact fun a' w h => ⟨⟨k + 1, by omega⟩, by show l.length - (k + 1) < l.length - k; omega, h.weakP (by (repeat' (first | exact True.intro | exact Imp.refl _ | refine ⟨?_, ?_⟩))) (Sub.self _)⟩
  ((repeat refine S.seq ?_); refine S.region (L.go (T := tt) tt_ok rfl rfl ?sd186 ?_); (try (case sd186 => (repeat' (first | exact trivial | with_reducible refine zI ?_ ?_)))); try (refine L.nil ?_))
  (((repeat refine S.seq ?_); refine S.ret ?_); refine E.retP (T := tt) tt_ok rfl rfl (by (repeat' (first | exact trivial | with_reducible refine zI ?_ ?_))) (Imp.of_eq ?_))
  rfl

theorem cnt_s {l : List ActD} {k : Nat} (hkl : k < l.length) : (l.take (k + 1)).countP (fun a => a.kind == 1) = (l.take k).countP (fun a => a.kind == 1) + (if (l.getD k default).kind == 1 then 1 else 0) := by
  rw [List.take_add_one, List.getElem?_eq_getElem hkl, List.countP_append, getD_get hkl]
  simp [List.countP_cons]

theorem rcheck_eq (l : List ActD) (hl : l.length ≤ 900) (ao : ∀ a ∈ l, ActOk a) : PFn Tryd.prog 28 [actsA l] (.v (.int .i64 (checkJ l))) := by
  rw [check_same]
  exact rcheck_p l hl ao
theorem judgeAsks_p (l : List ActD) (hin : ∀ a ∈ l, ActIn a) : PFn Tryd.prog 6 [actsA l] (.v (.bool true)) := by
  refine FnC.intro Tryd.func6 rfl Tryd.ntmps6 rfl ?_; intro off w0
  ((repeat refine S.seq ?_); refine S.region (L.go (T := tt) tt_ok rfl rfl ?sd187 ?_); (try (case sd187 => (repeat' (first | exact trivial | with_reducible refine zI ?_ ?_)))); try (refine L.nil ?_))
  repeat refine S.seq ?_
  refine S.region ?_
  (refine L.go (T := tt) tt_ok rfl rfl ?sd194 ?_; (try (case sd194 => (repeat' (first | exact trivial | with_reducible refine zI ?_ ?_)))); try (refine L.nil ?_))
  refine L.callP rfl rfl rfl rfl rfl rfl rfl ⟨trivial, by (repeat' (first | exact trivial | with_reducible refine zI ?_ ?_))⟩ rfl (Imps.refl _) (few21_p l hin) ?_
  (refine L.go (T := tt) tt_ok rfl rfl ?sd195 ?_; (try (case sd195 => (repeat' (first | exact trivial | with_reducible refine zI ?_ ?_)))); try (refine L.nil ?_))
  ((repeat refine S.seq ?_); refine S.cond rfl (fun h0 => ?_) (fun h0 => ?_) <;> (try first | refine S.skip ?_ | refine S.exit ?_))
  · repeat refine S.seq ?_
    refine S.region ?_
    refine L.callP rfl rfl rfl rfl rfl rfl rfl ⟨trivial, by (repeat' (first | exact trivial))⟩ rfl (Imps.refl _) told21_p ?_
    (refine L.go (T := tt) tt_ok rfl rfl ?sd196 ?_; (try (case sd196 => (repeat' (first | exact trivial | with_reducible refine zI ?_ ?_)))); try (refine L.nil ?_))
    (((repeat refine S.seq ?_); refine S.ret ?_); refine E.retP (T := tt) tt_ok rfl rfl (by (repeat' (first | exact trivial | with_reducible refine zI ?_ ?_))) ?_)
    exact Imp.refl _
  have hf : fewJ l = true := by simpa using h0
  have hf2 : l.any bigA = false ∧ l.length ≤ 80 := by
    unfold fewJ at hf
    rw [Bool.and_eq_true, Bool.not_eq_true', decide_eq_true_eq] at hf
    exact hf
  have ao : ∀ a ∈ l, ActOk a := fun a ha => (hin a ha).ok (by
    have := hf2.1
    rw [List.any_eq_false] at this
    simpa using this a ha)
  have hl : l.length ≤ 900 := by omega
  ((repeat refine S.seq ?_); refine S.region (L.go (T := tt) tt_ok rfl rfl ?sd188 ?_); (try (case sd188 => (repeat' (first | exact trivial | with_reducible refine zI ?_ ?_)))); try (refine L.nil ?_))
  ((repeat refine S.seq ?_); refine S.region (L.go (T := tt) tt_ok rfl rfl ?sd189 ?_); (try (case sd189 => (repeat' (first | exact trivial | with_reducible refine zI ?_ ?_)))); try (refine L.nil ?_))
  repeat refine S.seq ?_
  refine S.block (S.loop (ι := { k : Nat // k ≤ l.length }) (fun k => [(0, actsA l), (3, .v (.int .i64 (((l.take k.1).countP fun a => a.kind == 1 : Nat) : Int))), (4, .v (.int .i64 k.1))]) (fun _ => []) (fun k => l.length - k.1) ?_ ?_)
  · exact fun a' w h => ⟨⟨0, Nat.zero_le _⟩, h.weakP (by (repeat' (first | exact True.intro | exact Imp.refl _ | refine ⟨?_, ?_⟩))) (Sub.self _)⟩
  rintro ⟨k, hk⟩
  dsimp only
  ((repeat refine S.seq ?_); refine S.region (L.go (T := tt) tt_ok rfl rfl ?sd190 ?_); (try (case sd190 => (repeat' (first | exact trivial | with_reducible refine zI ?_ ?_)))); try (refine L.nil ?_))
  ((repeat refine S.seq ?_); refine S.cond rfl (fun hc => ?_) (fun hc => ?_) <;> (try first | refine S.skip ?_ | refine S.exit ?_))
  · have hkl : k < l.length := by have := of_dec hc; omega
    have hcp : (l.take k).countP (fun a => a.kind == 1) ≤ k := Nat.le_trans List.countP_le_length (by rw [List.length_take]; omega)
    have hs := cnt_s hkl
    repeat refine S.seq ?_
    refine S.block ?_
    ((repeat refine S.seq ?_); refine S.region (L.go (T := tt) tt_ok rfl rfl ?sd191 ?_); (try (case sd191 => (repeat' (first | exact trivial | with_reducible refine zI ?_ ?_ | omega)))); try (refine L.nil ?_))
    repeat refine S.seq ?_
    refine S.cut (ι := Unit) (fun _ => [(0, actsA l), (3, .v (.int .i64 (((l.take (k + 1)).countP fun a => a.kind == 1 : Nat) : Int))), (4, .v (.int .i64 k))]) (fun _ => []) ?_ ?_
    · ((repeat refine S.seq ?_); refine S.cond rfl (fun h1 => ?_) (fun h1 => ?_) <;> (try first | refine S.skip ?_ | refine S.exit ?_))
      · have h1' : ((l.getD k default).kind == 1) = true := h1
        rw [if_pos h1'] at hs
        ((repeat refine S.seq ?_); refine S.region (L.go (T := tt) tt_ok rfl rfl ?sd192 ?_); (try (case sd192 => (repeat' (first | exact trivial | with_reducible refine zI ?_ ?_ | (unfold fits; omega))))); try (refine L.nil ?_))
        refine slotAs 3 (.v (.int .i64 (((l.take (k + 1)).countP fun a => a.kind == 1 : Nat) : Int))) rfl (Imp.of_eq (by rw [hs]; rfl)) ?_
        exact fun a w h => ⟨(), h.weakP (by (repeat' (first | exact True.intro | exact Imp.refl _ | refine ⟨?_, ?_⟩))) (Sub.refl _)⟩
      · have h1' : ((l.getD k default).kind == 1) = false := h1
        rw [if_neg (by rw [h1']; decide)] at hs
        refine slotAs 3 (.v (.int .i64 (((l.take (k + 1)).countP fun a => a.kind == 1 : Nat) : Int))) rfl (Imp.of_eq (by rw [hs]; rfl)) ?_
        exact fun a w h => ⟨(), h.weakP (by (repeat' (first | exact True.intro | exact Imp.refl _ | refine ⟨?_, ?_⟩))) (Sub.refl _)⟩
    rintro ⟨⟩
    ((repeat refine S.seq ?_); refine S.region (L.go (T := tt) tt_ok rfl rfl ?sd193 ?_); (try (case sd193 => (repeat' (first | exact trivial | with_reducible refine zI ?_ ?_ | (unfold fits; omega))))); try (refine L.nil ?_))
    exact fun a' w h => ⟨⟨k + 1, by omega⟩, by show l.length - (k + 1) < l.length - k; omega, h.weakP (by (repeat' (first | exact True.intro | exact Imp.refl _ | refine ⟨?_, ?_⟩))) (Sub.self _)⟩
  have hkl : k = l.length := by have := of_dec' hc; omega
  subst hkl
  rw [List.take_length]
  repeat refine S.seq ?_
  refine S.region ?_
  refine L.callP rfl rfl rfl rfl rfl rfl rfl ⟨trivial, by (repeat' (first | exact trivial))⟩ rfl (Imps.refl _) told21_p ?_
  (refine L.go (T := tt) tt_ok rfl rfl ?sd197 ?_; (try (case sd197 => (repeat' (first | exact trivial | exact zA | with_reducible refine zI ?_ ?_)))); try (refine L.nil ?_))
  refine L.callG rfl rfl rfl rfl rfl rfl rfl (fun _ => ⟨trivial, by (repeat' (first | exact trivial | with_reducible refine zI ?_ ?_ | rfl))⟩) rfl (Imps.refl _) (fun _ => (jcheck_p l hl ao)) ?_
  (refine L.go (T := tt) tt_ok rfl rfl ?sd198 ?_; (try (case sd198 => (repeat' (first | exact trivial | exact zA | with_reducible refine zI ?_ ?_)))); try (refine L.nil ?_))
  refine L.callG rfl rfl rfl rfl rfl rfl rfl (fun _ => ⟨trivial, by (repeat' (first | exact trivial | with_reducible refine zI ?_ ?_ | rfl))⟩) rfl (Imps.refl _) (fun _ => (rcheck_eq l hl ao)) ?_
  (refine L.go (T := tt) tt_ok rfl rfl ?sd199 ?_; (try (case sd199 => (repeat' (first | exact trivial | exact zA | with_reducible refine zI ?_ ?_ | exact zB | exact zD)))); try (refine L.nil ?_))
  refine slotAs 31 (.v (.bool true)) rfl (Imp.of_eq (show AV.v (.bool (true && (checkJ l == checkJ l))) = AV.v (.bool true) from by rw [beq_self_eq_true]; rfl)) ?_
  refine L.callT (G := []) (H := []) rfl rfl rfl rfl rfl rfl rfl rfl ⟨trivial, by (repeat' (first | exact trivial | with_reducible refine zI ?_ ?_ | (simp; done)))⟩ rfl (by exact Imps.refl [actsA l]) (List.Perm.refl _) (jopen_p l hl ao) ?_
  rintro r F' ⟨y, rfl, rfl⟩
  refine freezeSlot 33 70 rfl rfl rfl ?_
  (refine L.go (T := tt) tt_ok rfl rfl ?sd200 ?_; (try (case sd200 => (repeat' (first | exact trivial | exact zA | with_reducible refine zI ?_ ?_)))); try (refine L.nil ?_))
  refine L.callT (G := []) (H := []) rfl rfl rfl rfl rfl rfl rfl rfl ⟨trivial, by (repeat' (first | exact trivial | with_reducible refine zI ?_ ?_ | rfl))⟩ rfl (by exact Imps.refl [actsA l]) (List.Perm.refl _) (ropen_p l hl ao) ?_
  rintro r F' ⟨y2, rfl, rfl⟩
  refine freezeSlot 35 70 rfl rfl rfl ?_
  refine slotAs 35 (.lst 5 (openJ l).length (gOf Msg.cells (openJ l))) rfl (Imp.of_eq (by rw [open_same])) ?_
  refine L.callG rfl rfl rfl rfl rfl rfl rfl (fun _ => ⟨trivial, by (repeat' (first | exact trivial | with_reducible refine zI ?_ ?_))⟩) rfl (Imps.refl _) (fun _ => (messages_p (openJ l))) ?_
  (refine L.go (T := tt) tt_ok rfl rfl ?sd201 ?_; (try (case sd201 => (repeat' (first | exact trivial | exact zA | with_reducible refine zI ?_ ?_ | exact zB)))); try (refine L.nil ?_))
  refine L.callG rfl rfl rfl rfl rfl rfl rfl (fun _ => ⟨trivial, by (repeat' (first | exact trivial | with_reducible refine zI ?_ ?_ | rfl))⟩) rfl (Imps.refl _) (fun _ => (jbatches_p l)) ?_
  (refine L.go (T := tt) tt_ok rfl rfl ?sd202 ?_; (try (case sd202 => (repeat' (first | exact trivial | exact zA | with_reducible refine zI ?_ ?_ | exact zB | exact zD)))); try (refine L.nil ?_))
  (((repeat refine S.seq ?_); refine S.ret ?_); refine E.retP (T := tt) tt_ok rfl rfl (by (repeat' (first | exact trivial | with_reducible refine zI ?_ ?_))) ?_)
  exact Imp.of_eq (by simp [oneOf])
end Go.Proofs.YtfdneepgpekmiaaDoor

/- Acts that come in. -/
namespace Go.Proofs.YtfdneepgpekmiaaDoor
set_option linter.unusedVariables false
set_option linter.unusedSimpArgs false
set_option maxHeartbeats 8000000
open Go.RowKit

theorem rd_act : RdP Tryd.prog 56 ActD.cells ActIn :=
  (rd_struct (T := tt) tt_ok rfl rfl rfl (rdf_cons r_int (rdf_cons r_int (rdf_cons r_int (rdf_cons r_int (rdf_cons r_int (rdf_cons r_int (rdf_cons r_str (rdf_cons r_str (rdf_cons r_int (rdf_cons rd_msg rdf_nil))))))))))).map
    (fun d => ⟨d.1, d.2.1, d.2.2.1, d.2.2.2.1, d.2.2.2.2.1, d.2.2.2.2.2.1, d.2.2.2.2.2.2.1, d.2.2.2.2.2.2.2.1, d.2.2.2.2.2.2.2.2.1, d.2.2.2.2.2.2.2.2.2.1⟩) (fun _ => rfl)
    fun d h => by
      obtain ⟨h1, h2, h3, h4, h5, h6, h7, h8, h9, h10, -⟩ := h
      exact ⟨h1, h2, h3, h4, h5, h9, h10.pub, h10.seq, h7, h8, h10.key, h10.body⟩
theorem rd_acts : RdP Tryd.prog 53 (fun l : List ActD => [actsA l]) (fun l => l.length ≤ maxLen ∧ ∀ m ∈ l, ActIn m) := rd_slice (sz := 14) (by kernel_rfl) (by kernel_rfl) (fun _ => rfl) rd_act
end Go.Proofs.YtfdneepgpekmiaaDoor
