/- Bytes: a string out of them, a string appended to them. -/
import Derived.Test.YtlgdjmmjconbfaaDoorMeC
import Derived.Lib.AppendStr
import Derived.Laws.BytesString
namespace Go.Proofs.YtlgdjmmjconbfaaDoor
set_option linter.unusedVariables false
set_option linter.unusedSimpArgs false
set_option maxHeartbeats 8000000
open Go.RowKit
set_option maxRecDepth 4000

def byteG (b : ByteArray) (i : Nat) : List AV := [.v (.int .u8 ((b.data.getD i 0).toNat : Int))]
def bytesA (b : ByteArray) : AV := .lst 1 b.size (byteG b)
theorem fold_push (l : List UInt8) (r : ByteArray) : (l.map fun b => (b.toNat : Int)).foldl (fun r n => r.push (UInt8.ofNat n.toNat)) r = ⟨r.data ++ l.toArray⟩ := by
  induction l generalizing r with
  | nil => simp
  | cons a t ih =>
    rw [List.map_cons, List.foldl_cons, ih]
    simp [ByteArray.push]
theorem byteG_app (b s : ByteArray) {i : Nat} (hi : i < b.size + s.size) : joinG b.size (byteG b) (byteG s) i = byteG (b ++ s) i := by
  have ha : (b ++ s).data = b.data ++ s.data := ByteArray.data_append
  have e : ∀ (x : ByteArray) (i : Nat), byteG x i = [.v (.int .u8 ((x.data[i]?.getD 0).toNat : Int))] := fun x i => by
    rw [byteG, Array.getD_eq_getD_getElem?]
  unfold joinG
  rw [e, e, e, ha, Array.getElem?_append, show b.size = b.data.size from rfl]
  by_cases h : i < b.data.size
  · rw [if_pos h, if_pos h]
  · rw [if_neg h, if_neg h]

section
variable {P : Program} {T : Types} {c : Ctx} {σ : Slots} {F : Rows} {Q : Exit → Act → World → Prop} {ops : Array Oper} {rest : List Oper} {o : Oper}
theorem bytes_news {own : Nat → Prop} {w : World} {u : Value} {m : Nat} {g : Nat → List AV} {news : List Value} {str : ByteArray} (h : Reads own w u 1 m g news) (hm : m = str.size) (hg : ∀ i, i < m → g i = byteG str i) : news = (str.data.toList.map fun b => (b.toNat : Int)).map (Value.int .u8) := by
  obtain ⟨A, cap, hu, hnil, hnl, hc, h1, hlen, hr⟩ := h
  apply List.ext_getElem?
  intro j
  by_cases hj : j < m
  · have h2 := hr j hj 0 (.v (.int .u8 ((str.data.getD j 0).toNat : Int))) (by rw [hg j hj]; rfl)
    obtain ⟨v, hv, hrep⟩ := h2
    cases hrep
    rw [Nat.mul_one, Nat.add_zero] at hv
    rw [hv, List.map_map, List.getElem?_map]
    have hjs : j < str.data.size := by rw [← show str.size = str.data.size from rfl]; omega
    rw [Array.getElem?_toList, Array.getElem?_eq_getElem hjs, Array.getD_eq_getD_getElem?, Array.getElem?_eq_getElem hjs]
    rfl
  · rw [List.getElem?_eq_none (by omega), List.getElem?_eq_none]
    simp only [List.length_map, Array.length_toList]
    rw [← show str.size = str.data.size from rfl]
    omega

/-- string(bytes). -/
theorem O.toStr {s dt e : TypeId} {x : Operand} {d m : Nat} {g2 : Nat → List AV} {B : AV} {q C : Prop} {str : ByteArray} (hT : TOk P T) (ho : o.op = .convert s dt x) (hg : o.guard = none) (hd : o.dst = some d) (hdN : Nat.blt d c.N = true)
    (hs : tdOf T s = some (.slice e)) (he : tdOf T e = some (.int .u8)) (hdt : tdOf T dt = some .str) (hx : evalS σ x = some (B, q)) (hsrc : srcA F 1 B = some (m, g2, C)) (hC : q ∧ C) (hm : m = str.size) (hg2 : ∀ i, i < m → g2 i = byteG str i) :
    O P ops c o σ F Q [] Unit (fun _ => (d, .v (.string str)) :: σ) (fun _ => F) := by
  intro a w hR K hK
  refine Op1.plain hg ?_
  obtain ⟨news, hnews⟩ := src_sound hR.sat hsrc hC.2 (hR.evals hx hC.1)
  have hn := bytes_news hnews hm hg2
  obtain ⟨A, cap, hu, hnil, hnl, hc, h1, -⟩ := hnews
  obtain ⟨i1, hi1, hd1⟩ := tdOf_some hs
  obtain ⟨i2, hi2, hd2⟩ := tdOf_some he
  obtain ⟨i3, hi3, hd3⟩ := tdOf_some hdt
  have r1 := (hT.told hi1).slice hd1
  have r2 := (hT.told hi2).int hd2
  have r3 := (hT.told hi3).str hd3
  have hrun : (convert s dt (a.eval x)).run P w = .ok (.string str) w := by
    rw [hu, run_convert_bytes_string w s dt e A m cap r1 r2 r3]
    cases A with
    | none =>
      obtain ⟨rfl, rfl⟩ := hnil rfl
      have : str = ByteArray.empty := by
        have : str.data = #[] := Array.eq_empty_of_size_eq_zero hm.symm
        cases str
        simp only at this
        rw [this]
        rfl
      rw [this]
      simp [Conv.bytesToString, Sem.run_pure]
    | some ad =>
      have hl := run_loadCells_list (P := P) (w := w) ad news (hc ad rfl)
      rw [hnl, Nat.mul_one, hn] at hl
      rw [run_bytesToString w ad m cap _ hl, fold_push]
      simp
  have hgive : (execOp a.eval o).run P w = .ok (.value (.string str)) w := by
    simp [execOp, ho, hrun]
  simp only [Oper.wp]
  rw [hgive, Oper.upon_value, hd]
  exact hK () _ _ (hR.pure (of_blt hdN) (.v _)) ⟨Ext.refl _ _, fun _ _ _ _ _ => rfl, fun s hs _ => hs⟩ ⟨_, by rw [hd]⟩

def u8I (P : Program) (e : TypeId) : Bool := match P.info? e with | some j => j.size == 1 && j.bytes == 1 && (match j.zero with | some (.int .u8 0) => true | _ => false) | none => false
theorem u8I_ok {e : TypeId} (h : u8I P e = true) : ∃ j, P.info? e = some j ∧ j.size = 1 ∧ j.bytes = 1 ∧ j.zero = some (.int .u8 0) := by
  unfold u8I at h
  split at h
  · rename_i j hj
    simp only [Bool.and_eq_true, beq_iff_eq] at h
    refine ⟨j, hj, h.1.1, h.1.2, ?_⟩
    have h3 := h.2
    split at h3
    · assumption
    · cases h3
  · cases h

/-- append(bytes, string...). -/
theorem O.appStr {s x : Operand} {t u e : TypeId} {id : Nat} {x0 x0' : Value} {n d : Nat} {g : Nat → List AV} {str : ByteArray} {p q : Prop} (hT : TOk P T) (ho : o.op = .call { callee := .builtin .append, args := #[s, x], argTypes := #[t, u] }) (hg : o.guard = none) (hd : o.dst = some d) (hdN : Nat.blt d c.N = true)
    (ht : tdOf T t = some (.slice e)) (hut : tdOf T u = some .str) (he : u8I P e = true) (hs : evalS σ s = some (.ref id x0, p)) (hrow : F.lookup id = some (.own x0' e 1 n g)) (hx : evalS σ x = some (.v (.string str), q))
    (hC : x0 = x0' ∧ p ∧ q) (hl : n + str.size ≤ 140737488355328)
    : O P ops c o σ F Q [id] Value (fun x1 => (d, .ref id x1) :: σ) (fun x1 => setF id id (.own x1 e 1 (n + str.size) (joinG n g (byteG str))) F) := by
  intro a w hR K hK
  refine Op1.plain hg ?_
  obtain ⟨rfl, hp, hq⟩ := hC
  have hA := hR.evals hs hp
  have hA' : a.eval s = x0 := by generalize a.eval s = v at hA; cases hA; rfl
  have hB := hR.evals hx hq
  have hB' : a.eval x = .string str := by generalize a.eval x = v at hB; cases hB; rfl
  obtain ⟨us, hown, hlen, h1, hr⟩ := hR.sat.at hrow
  obtain ⟨i1, hi1, hd1⟩ := tdOf_some ht
  obtain ⟨i3, hi3, hd3⟩ := tdOf_some hut
  obtain ⟨j, j1, j2, j3, j4⟩ := u8I_ok he
  obtain ⟨v1, w1, r1, r2, r3, -⟩ := Lib.run_append_own_string (P := P) w 0 t u o.type e j ((hT.told hi1).slice hd1) ((hT.told hi3).str hd3) j1 j4 j2 j3 x0 n us hown str (by simp only [maxLen]; omega) hl (Nat.zero_le _)
  have hxl : us.length = n := by simpa using hown.1
  have r4 : v1.ownBlock = x0.ownBlock ∨ v1.ownBlock = some w.heap.size := by
    have same : ∀ {v2 : Value} {w2 : World}, (Builtin.append_ #[t, u] o.type #[x0, .string str]).run P w = .ok v2 w2 → v1 = v2 := fun h => by
      rw [r1] at h
      cases h
      rfl
    rcases hown.2 with ⟨rfl, rfl⟩ | ⟨g', cap, cur, rfl, hbg, hh, hnc, hcm, hcs, htk⟩
    · by_cases hm : str.size = 0
      · have hf := Lib.run_firstCells_string (P := P) w 1 str
        rw [hm] at hf
        have hz : Lib.strCells str = [] := List.eq_nil_of_length_eq_zero (by rw [Lib.strCells_length]; exact hm)
        have := same (v2 := .slice none 0 0) (w2 := w) (by simp [Builtin.append_, run_underlying ((hT.told hi1).slice hd1), run_underlying ((hT.told hi3).str hd3), sizeOf, typeInfo, j1, j2, Builtin.lenOf, hm, hf])
        rw [this]
        exact .inl rfl
      · have := same (run_append_nil_string (P := P) w t u o.type e j (.int .u8 0) ((hT.told hi1).slice hd1) ((hT.told hi3).str hd3) j1 j4 str (by omega) (by omega) (by rw [j3]; omega))
        rw [this]
        exact .inr rfl
    · by_cases hroom : n + str.size ≤ cap
      · have hcs' : cur.size = cap := by simpa using hcs
        have := same (Lib.run_append_room_string (P := P) w t u o.type e j ((hT.told hi1).slice hd1) ((hT.told hi3).str hd3) j1 j2 g' n cap cur hh str hroom (by omega))
        rw [this]
        exact .inl rfl
      · have holds : ∀ j u, us[j]? = some u → w.cell? ((⟨g', 0, none⟩ : Addr).add j) = some u := hown.cells (g := g') rfl
        have := same (Lib.run_append_grow_string (P := P) w t u o.type e j (.int .u8 0) ((hT.told hi1).slice hd1) ((hT.told hi3).str hd3) j1 j4 ⟨g', 0, none⟩ n cap us (by rw [j2]; simpa using hxl) holds str (by omega) (by omega) (by rw [j3]; exact growslice_fits (by omega) (by omega)))
        rw [this]
        exact .inr rfl
  obtain ⟨k1, k2, k3, k4⟩ := hR.write (i' := id) (r' := .own v1 e 1 (n + str.size) (joinG n g (byteG str))) hrow (w' := w1) r3.size r3.os r3.tape r3.output
    (fun b hlt hne => r3.block b hlt fun e => hne e.symm) (fun b hb => by
      rcases r4 with h | h
      · left; exact h.symm.trans hb
      · right; have e := h.symm.trans hb; cases e; exact Nat.le_refl _) (fun hext => by
      obtain ⟨j1, j2⟩ := join_rep (g2 := byteG str) (m := str.size) (news := Lib.strCells str) hext hown.1 hlen hr (fun i hi => rfl) (fun i hi j A hA => by
        have hj : j = 0 := by
          have := (List.getElem?_eq_some_iff.1 hA).1
          have e : (byteG str i).length = 1 := rfl
          omega
        subst hj
        cases hA
        have his : i < str.data.size := hi
        refine ⟨_, ?_, .v _⟩
        rw [Nat.mul_one, Nat.add_zero, Lib.strCells, List.getElem?_map, Array.getElem?_toList, Array.getElem?_eq_getElem his, Array.getD_eq_getD_getElem?, Array.getElem?_eq_getElem his]
        rfl)
      exact ⟨us ++ Lib.strCells str, r2, j1, fun u hu => by rcases List.mem_append.1 hu with h | h; exact h1 u h; exact Lib.strCells_oneCell str u h, j2⟩)
  have hgive : (execOp a.eval o).run P w = .ok (.value v1) w1 := by
    simp [execOp, ho, resolve, invoke, builtin, hA', hB', r1]
  simp only [Oper.wp]
  rw [hgive, Oper.upon_value, hd]
  have hone : v1.oneCell' = true := by
    obtain ⟨A, cap, rfl, -⟩ := own_form0 r2; rfl
  exact hK v1 _ _ (hR.step (of_blt hdN) k1 k2 k3 k4.ext (.ref _ _ hone)) k4 ⟨_, by rw [hd]⟩

theorem L.toStr {s dt e : TypeId} {x : Operand} {d m : Nat} {g2 : Nat → List AV} {B : AV} {q C : Prop} {str : ByteArray} (hT : TOk P T) (ho : o.op = .convert s dt x) (hg : o.guard = none) (hd : o.dst = some d) (hdN : Nat.blt d c.N = true)
    (hs : tdOf T s = some (.slice e)) (he : tdOf T e = some (.int .u8)) (hdt : tdOf T dt = some .str) (hx : evalS σ x = some (B, q)) (hsrc : srcA F 1 B = some (m, g2, C)) (hC : q ∧ C) (hm : m = str.size) (hg2 : ∀ i, i < m → g2 i = byteG str i)
    (next : L P ops c rest ((d, .v (.string str)) :: σ) F Q) : L P ops c (o :: rest) σ F Q := L.of (O.toStr hT ho hg hd hdN hs he hdt hx hsrc hC hm hg2) fun _ => next
theorem L.appStr {s x : Operand} {t u e : TypeId} {id : Nat} {x0 x0' : Value} {n d : Nat} {g : Nat → List AV} {str : ByteArray} {p q : Prop} (hT : TOk P T) (ho : o.op = .call { callee := .builtin .append, args := #[s, x], argTypes := #[t, u] }) (hg : o.guard = none) (hd : o.dst = some d) (hdN : Nat.blt d c.N = true)
    (ht : tdOf T t = some (.slice e)) (hut : tdOf T u = some .str) (he : u8I P e = true) (hs : evalS σ s = some (.ref id x0, p)) (hrow : F.lookup id = some (.own x0' e 1 n g)) (hx : evalS σ x = some (.v (.string str), q))
    (hC : x0 = x0' ∧ p ∧ q) (hl : n + str.size ≤ 140737488355328)
    (next : ∀ x1 : Value, L P ops c rest ((d, .ref id x1) :: σ) (setF id id (.own x1 e 1 (n + str.size) (joinG n g (byteG str))) F) Q) : L P ops c (o :: rest) σ F Q := L.of (O.appStr hT ho hg hd hdN ht hut he hs hrow hx hC hl) next
end
end Go.Proofs.YtlgdjmmjconbfaaDoor
