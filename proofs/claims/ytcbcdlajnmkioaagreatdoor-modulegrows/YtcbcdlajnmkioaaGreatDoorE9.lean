/- A part of the proof of the statement ModuleGrows of isagogelaw19: rules by which code is walked. -/
import Derived.Test.YtcbcdlajnmkioaaGreatDoorE8
import Derived.Maps.Range
import Derived.Laws.StructEq
namespace Go.Proofs.YtcbcdlajnmkioaaGreatDoor
open Go
set_option linter.unusedVariables false
set_option linter.unusedSimpArgs false

theorem cong2 {α β : Type} (f : α → β → Value) {a a' : α} {b b' : β} (h : a = a') (k : b = b') : f a b = f a' b' := by rw [h, k]
theorem cong3 {α β γ : Type} (f : α → β → γ → Value) {a a' : α} {b b' : β} {c c' : γ} (h : a = a') (k : b = b') (l : c = c') : f a b c = f a' b' c' := by rw [h, k, l]
/-! ## 10. Maps of our own that are sets -/

theorem beq_bytes (a b : ByteArray) : (a == b) = decide (a = b) := by rw [beq_toListBytes, toList_inj]
/-- How keys are values. -/
structure KeyK (κ : Type) where
  enc : κ → Value
  desc : TypeDesc → Bool
  same : ∀ d a b, desc d = true → ∃ t : Bool, Instr.sameNow d (enc a) (enc b) = some t ∧ (t = true ↔ a = b)
  bits : ∀ a, Instr.sameBits 10000 (enc a) (enc a) = true
  flat : ∀ d a w (P : Program) (e : Bool) t, P.underlying t = some d → desc d = true → (Instr.checkKey e 10000 t (enc a)).run P w = .ok () w

def keyI : KeyK Int := ⟨fun a => .int .i64 a, fun d => match d with | .int _ => true | _ => false,
  fun d a b h => by cases d <;> first | (simp at h; done) | exact ⟨a == b, by simp [Instr.sameNow], by simp⟩,
  fun a => (by show ((IntKind.i64 == IntKind.i64) && (a == a)) = true; simp),
  fun d a w P e t hu hd => by
    unfold Instr.checkKey
    rw [run_bind_ok (run_underlying hu w)]
    cases d <;> first | (simp at hd; done) | rfl⟩
def keyS : KeyK ByteArray := ⟨fun a => .string a, fun d => match d with | .string => true | _ => false,
  fun d a b h => by cases d <;> first | (simp at h; done) | exact ⟨decide (a = b), by simp [Instr.sameNow, beq_bytes], by simp⟩,
  fun a => (by show (a == a) = true; rw [beq_bytes]; simp),
  fun d a w P e t hu hd => by
    unfold Instr.checkKey
    rw [run_bind_ok (run_underlying hu w)]
    cases d <;> first | (simp at hd; done) | rfl⟩

/-- A map type with bool elements. -/
def mapInfo {κ : Type} (K : KeyK κ) (P : Program) (t : TypeId) : Bool :=
  match P.underlying t with
  | some (.map k e) => (match P.underlying k with | some d => K.desc d | none => false) && (match (P.info? e).bind (·.zero) with | some (.bool b) => !b | _ => false)
  | _ => false
theorem mapInfo_spec {κ : Type} {K : KeyK κ} {P : Program} {t : TypeId} (h : mapInfo K P t = true) : ∃ k e d, P.underlying t = some (.map k e) ∧ P.underlying k = some d ∧ K.desc d = true ∧ ∀ w, (zeroValue e).run P w = .ok (.bool false) w := by
  unfold mapInfo at h
  split at h
  · rename_i k e hu
    simp only [Bool.and_eq_true] at h
    obtain ⟨h1, h2⟩ := h
    split at h1
    · rename_i d hd
      split at h2
      · rename_i b hz
        simp only [Bool.not_eq_true'] at h2
        subst h2
        obtain ⟨inf, hi, hz⟩ := Option.bind_eq_some_iff.1 hz
        exact ⟨k, e, d, hu, hd, h1, fun w => by unfold zeroValue; rw [run_bind_ok (run_typeInfo hi), hz]; rfl⟩
      · cases h2
    · cases h1
  · cases h

def mkE {κ : Type} (enc : κ → Value) : Nat → List κ → List MapEntry
  | _, [] => []
  | i, k :: ks => { key := enc k, val := .bool true, born := i } :: mkE enc (i + 1) ks
theorem mkE_length {κ : Type} (enc : κ → Value) : ∀ (i : Nat) (ks : List κ), (mkE enc i ks).length = ks.length
  | _, [] => rfl
  | i, k :: ks => by simp [mkE, mkE_length enc (i + 1) ks]
theorem mkE_get {κ : Type} (enc : κ → Value) : ∀ (i : Nat) (ks : List κ) (j : Nat), (mkE enc i ks)[j]? = (ks[j]?).map fun k => ⟨enc k, .bool true, i + j⟩
  | _, [], j => by simp [mkE]
  | i, k :: ks, 0 => by simp [mkE]
  | i, k :: ks, j + 1 => by
    simp only [mkE, List.getElem?_cons_succ, mkE_get enc (i + 1) ks j]
    congr 1; funext k; congr 1; omega
theorem mkE_append {κ : Type} (enc : κ → Value) : ∀ (i : Nat) (ks : List κ) (k : κ), mkE enc i (ks ++ [k]) = mkE enc i ks ++ [{ key := enc k, val := .bool true, born := i + ks.length }]
  | _, [], k => rfl
  | i, x :: ks, k => by
    simp only [List.cons_append, mkE, mkE_append enc (i + 1) ks k, List.length_cons]
    congr 4; omega

/-- A set of ours. -/
def Res.set {κ : Type} (K : KeyK κ) (b : Nat) (ks : List κ) : Res := .raw b (.map (mkE K.enc 0 ks).toArray ks.length)

/-- A set with one element more. -/
def insK {κ : Type} [DecidableEq κ] (ks : List κ) (k : κ) : List κ := if k ∈ ks then ks else ks ++ [k]
theorem insK_mem {κ : Type} [DecidableEq κ] {ks : List κ} {k x : κ} : x ∈ insK ks k ↔ x ∈ ks ∨ x = k := by
  unfold insK; split
  · rename_i h; constructor
    · exact .inl
    · rintro (h' | rfl)
      · exact h'
      · exact h
  · simp
theorem insK_nodup {κ : Type} [DecidableEq κ] {ks : List κ} {k : κ} (h : ks.Nodup) : (insK ks k).Nodup := by
  unfold insK; split
  · exact h
  · rename_i hk
    rw [List.nodup_append]
    refine ⟨h, by simp, fun a ha b hb => ?_⟩
    simp at hb
    subst hb
    exact fun e => hk (e ▸ ha)
theorem insK_length {κ : Type} [DecidableEq κ] {ks : List κ} {k : κ} : (insK ks k).length ≤ ks.length + 1 := by
  unfold insK; split <;> simp

theorem findNow_mkE {κ : Type} [DecidableEq κ] (K : KeyK κ) {d : TypeDesc} (hd : K.desc d = true) (k : κ) : ∀ (ks : List κ) (i0 i : Nat), Instr.findNow d (K.enc k) (mkE K.enc i0 ks) i = some ((ks.findIdx? (fun x => decide (k = x))).map fun j => (i + j, .bool true))
  | [], _, _ => by simp [mkE, Instr.findNow]
  | x :: ks, i0, i => by
    obtain ⟨t, h1, h2⟩ := K.same d k x hd
    unfold mkE Instr.findNow
    rw [h1]
    cases t with
    | true =>
      have : k = x := h2.1 rfl
      simp [List.findIdx?_cons, this]
    | false =>
      have : ¬ k = x := fun e => by have := h2.2 e; cases this
      simp only [findNow_mkE K hd k ks (i0 + 1) (i + 1), List.findIdx?_cons, decide_eq_true_eq, this, if_false, Option.map_map, Bool.false_eq_true, decide_false]
      congr 2
      funext j
      simp; omega
theorem findIdx_mem {κ : Type} [DecidableEq κ] {ks : List κ} {k : κ} : (ks.findIdx? (fun x => decide (k = x))).isSome = decide (k ∈ ks) := by
  rw [List.findIdx?_isSome]
  rw [Bool.eq_iff_iff]
  simp

section
variable {P : Program} {n : Nat} {D : List Deferred} {env env' : List (Nat × Value)} {R : RO} {G G' : List Res} {Q : Exit → Act → World → Prop} {ops : Array Oper} {rest : List Oper} {o : Oper}

theorem v_negd {x d ty pos af t} {p : Prop} [Decidable p] (hx : ev env x = some (.bool (decide p))) : VAL P n D env R G ⟨some d, .unOp .not t x, ty, pos, af, none⟩ (.bool (decide (¬ p))) := by
  have := v_neg (P := P) (n := n) (D := D) (R := R) (G := G) (d := d) (ty := ty) (pos := pos) (af := af) (t := t) hx
  rwa [← decide_not] at this
theorem Own.newRaw {w : World} (h : Own w R G) (o : Obj) : Own { w with heap := w.heap.push o } R (.raw w.heap.size o :: G) := by
  refine h.emp.step rfl rfl rfl (fun b hb _ => by simp [Array.getElem?_push, Nat.ne_of_lt hb]) ?_ (fun b hb => .inr ?_)
  · show ({ w with heap := w.heap.push o } : World).heap[w.heap.size]? = some o
    simp
  · have : b = w.heap.size := hb
    omega

theorem tl_makeMap {κ : Type} (K : KeyK κ) {t d : Nat} {ty pos af} (hn : Nat.blt d n = true) (k : ∀ b, TL P ops Q rest n D ((d, .map (some b)) :: env) R (.set K b [] :: G)) : TL P ops Q (⟨some d, .makeMap t none, ty, pos, af, none⟩ :: rest) n D env R G := by
  intro a w ha hw
  refine wpList_plain rfl fun K' hK => ?_
  unfold Oper.wp
  have e : (execOp a.eval ⟨some d, .makeMap t none, ty, pos, af, none⟩).run P w = .ok (.value (.map (some w.heap.size))) { w with heap := w.heap.push (.map #[] 0) } := by
    simp [execOp, Instr.makeMap, newObj, Sem.run, pure, bind, Sem.bind]
  rw [e]
  exact hK _ _ (k _ _ _ (ha.put (Nat.le_of_ble_eq_true hn)) (hw.newRaw _))

theorem run_findKey {κ : Type} [DecidableEq κ] {K : KeyK κ} {kt d} {w : World} (hu : P.underlying kt = some d) (hd : K.desc d = true) (k : κ) (ks : List κ) : (Instr.findKey kt (K.enc k) (mkE K.enc 0 ks)).run P w = .ok ((ks.findIdx? (fun x => decide (k = x))).map fun j => (0 + j, .bool true)) w := by
  unfold Instr.findKey
  rw [run_bind_ok (run_underlying hu w), findNow_mkE K hd]
  rfl
/-- m[k] -/
theorem v_lookup {κ : Type} [DecidableEq κ] {K : KeyK κ} {t x y d b ty pos af} {ks : List κ} {k : κ} (i : Nat) (ht : mapInfo K P t = true) (hG : G[i]? = some (.set K b ks)) (hx : ev env x = some (.map (some b))) (hy : ev env y = some (K.enc k)) :
    VAL P n D env R G ⟨some d, .lookup t x y false, ty, pos, af, none⟩ (.bool (decide (k ∈ ks))) := fun a w ha hw => by
  obtain ⟨kt, e, ds, h1, h2, h3, h4⟩ := mapInfo_spec ht
  have hh : w.heap[b]? = some (.map (mkE K.enc 0 ks).toArray ks.length) := hw.holds _ (List.mem_of_getElem? hG)
  show ((do let z ← Instr.lookup t (a.eval x) (a.eval y) false; pure (Next.value z) : Sem Next)).run P w = _
  rw [ha.eval hx, ha.eval hy]
  have e1 : (Instr.lookup t (.map (some b)) (K.enc k) false).run P w = .ok (.bool (decide (k ∈ ks))) w := by
    unfold Instr.lookup
    rw [run_bind_ok (run_underlying h1 w)]
    have hf := run_findKey (w := w) h2 h3 k ks
    have hm := findIdx_mem (ks := ks) (k := k)
    cases hfi : ks.findIdx? (fun x => decide (k = x)) with
    | none =>
      rw [hfi] at hm
      rw [← hm]
      rw [hfi] at hf
      simp [MapKept.run_getObj_map hh, K.flat _ _ _ _ _ _ h2 h3, hf, h4]
    | some j =>
      rw [hfi] at hm
      rw [← hm]
      rw [hfi] at hf
      simp [MapKept.run_getObj_map hh, K.flat _ _ _ _ _ _ h2 h3, hf]
  rw [run_bind_ok e1]; rfl

theorem mkE_self {κ : Type} [DecidableEq κ] {K : KeyK κ} {ks : List κ} {k : κ} {j : Nat} (h : ks.findIdx? (fun x => decide (k = x)) = some j) : ((mkE K.enc 0 ks).toArray.modify j fun e => { e with key := K.enc k, val := .bool true }) = (mkE K.enc 0 ks).toArray := by
  rw [List.findIdx?_eq_some_iff_getElem] at h
  obtain ⟨hj, hk, -⟩ := h
  have hk : k = ks[j] := by simpa using hk
  apply Array.ext'
  rw [Array.toList_modify]
  apply List.ext_getElem?
  intro i
  rw [List.getElem?_modify]
  by_cases hij : j = i
  · subst hij
    simp [mkE_get, List.getElem?_eq_getElem hj, ← hk]
  · simp only [if_neg hij]; simp

/-- m[k] = true -/
theorem tl_mapset {κ : Type} [DecidableEq κ] {K : KeyK κ} {t x y b ty pos af} {ks : List κ} {k : κ} (i : Nat) (ht : mapInfo K P t = true) (hG : G[i]? = some (.set K b ks)) (hx : ev env x = some (.map (some b))) (hy : ev env y = some (K.enc k))
    (kont : TL P ops Q rest n D env R (G.set i (.set K b (insK ks k)))) : TL P ops Q (⟨none, .mapUpdate t x y (.const (.bool true)), ty, pos, af, none⟩ :: rest) n D env R G := by
  intro a w ha hw
  obtain ⟨kt, e, ds, h1, h2, h3, h4⟩ := mapInfo_spec ht
  have hh : w.heap[b]? = some (.map (mkE K.enc 0 ks).toArray ks.length) := hw.holds _ (List.mem_of_getElem? hG)
  have hf := run_findKey (P := P) (w := w) h2 h3 k ks
  have hset := MapKept.heap_set (o' := .map (mkE K.enc 0 (insK ks k)).toArray (insK ks k).length) hh
  refine wpList_plain rfl fun K' hK => ?_
  have hrun : (Instr.mapUpdate t (.map (some b)) (K.enc k) (.bool true)).run P w = .ok () { w with heap := w.heap.setIfInBounds b (.map (mkE K.enc 0 (insK ks k)).toArray (insK ks k).length) } := by
    have hm := findIdx_mem (ks := ks) (k := k)
    unfold Instr.mapUpdate
    rw [run_bind_ok (run_underlying h1 w)]
    cases hfi : ks.findIdx? (fun x => decide (k = x)) with
    | none =>
      rw [hfi] at hf hm
      have hk : ¬ k ∈ ks := by simpa using hm
      have he : insK ks k = ks ++ [k] := by unfold insK; rw [if_neg hk]
      simp [MapKept.run_getObj_map hh, K.flat _ _ _ _ _ _ h2 h3, hf, MapKept.run_setObj_map _ hh, he, mkE_append]
    | some j =>
      rw [hfi] at hf hm
      have hk : k ∈ ks := by simpa using hm
      have he : insK ks k = ks := by unfold insK; rw [if_pos hk]
      have hkey : ((mkE K.enc 0 ks)[j]?).map (·.key) = some (K.enc k) := by
        rw [List.findIdx?_eq_some_iff_getElem] at hfi
        obtain ⟨hj, hk', -⟩ := hfi
        have hk' : k = ks[j] := by simpa using hk'
        rw [mkE_get, List.getElem?_eq_getElem hj, ← hk']; rfl
      have hself := mkE_self (K := K) hfi
      have hst : (Instr.keyThatStays (K.enc k) (K.enc k)).run P w = .ok (K.enc k) w := by
        unfold Instr.keyThatStays
        rw [if_pos (K.bits k)]; rfl
      simp [MapKept.run_getObj_map hh, K.flat _ _ _ _ _ _ h2 h3, hf, hkey, hst, MapKept.run_setObj_map _ hh, he]
      rw [← hself]; simp
  have e : (execOp a.eval ⟨none, .mapUpdate t x y (.const (.bool true)), ty, pos, af, none⟩).run P w = .ok .skip { w with heap := w.heap.setIfInBounds b (.map (mkE K.enc 0 (insK ks k)).toArray (insK ks k).length) } := by
    show ((do Instr.mapUpdate t (a.eval x) (a.eval y) (a.eval (.const (.bool true))); pure Next.skip : Sem Next)).run P w = _
    rw [ha.eval hx, ha.eval hy, show a.eval (.const (.bool true)) = .bool true from rfl, run_bind_ok hrun]; rfl
  unfold Oper.wp
  rw [e]
  exact hK _ _ (kont _ _ ha (hw.stepAt hG rfl rfl rfl (fun x _ hx => hset.2 x hx) hset.1 fun x hx => .inl hx))

/-- range m -/
theorem tl_range {κ : Type} {K : KeyK κ} {t x d b ty pos af} {ks : List κ} (i : Nat) (ht : mapInfo K P t = true) (hG : G[i]? = some (.set K b ks)) (hx : ev env x = some (.map (some b))) (hn : Nat.blt d n = true)
    (kont : ∀ r, TL P ops Q rest n D ((d, .pointer (some ⟨r, 0, none⟩)) :: env) R (.raw r (.mapIter (some b) ks.length #[] ks.length) :: G)) : TL P ops Q (⟨some d, .range t x, ty, pos, af, none⟩ :: rest) n D env R G := by
  intro a w ha hw
  obtain ⟨kt, e, ds, h1, h2, h3, h4⟩ := mapInfo_spec ht
  have hh : w.heap[b]? = some (.map (mkE K.enc 0 ks).toArray ks.length) := hw.holds _ (List.mem_of_getElem? hG)
  refine wpList_plain rfl fun K' hK => ?_
  have e : (execOp a.eval ⟨some d, .range t x, ty, pos, af, none⟩).run P w = .ok (.value (.pointer (some ⟨w.heap.size, 0, none⟩))) { w with heap := w.heap.push (.mapIter (some b) ks.length #[] ks.length) } := by
    show ((do let z ← Instr.range t (a.eval x); pure (Next.value z) : Sem Next)).run P w = _
    rw [ha.eval hx]
    have : (Instr.range t (.map (some b))).run P w = .ok (.pointer (some ⟨w.heap.size, 0, none⟩)) { w with heap := w.heap.push (.mapIter (some b) ks.length #[] ks.length) } := by
      unfold Instr.range
      rw [run_bind_ok (run_underlying h1 w)]
      simp [MapKept.run_getObj_map hh]
    rw [run_bind_ok this]; rfl
  unfold Oper.wp
  rw [e]
  exact hK _ _ (kont _ _ _ (ha.put (Nat.le_of_ble_eq_true hn)) (hw.newRaw _))

/-- next of a range over a set: it is over, or one that has not come up yet comes up. -/
theorem tl_next {κ : Type} {K : KeyK κ} {x d b r ty pos af} {ks : List κ} {seen : List Nat} (i j : Nat) (hG : G[i]? = some (.set K b ks)) (hJ : G[j]? = some (.raw r (.mapIter (some b) ks.length seen.toArray ks.length))) (hx : ev env x = some (.pointer (some ⟨r, 0, none⟩))) (hn : Nat.blt d n = true)
    (k1 : (∀ q, q < ks.length → q ∈ seen) → TL P ops Q rest n D ((d, .tuple #[.bool false]) :: env) R G)
    (k2 : ∀ q k, ks[q]? = some k → ¬ q ∈ seen → TL P ops Q rest n D ((d, .tuple #[.bool true, K.enc k, .bool true]) :: env) R (G.set j (.raw r (.mapIter (some b) ks.length (seen ++ [q]).toArray ks.length)))) : TL P ops Q (⟨some d, .next x false, ty, pos, af, none⟩ :: rest) n D env R G := by
  intro a w ha hw
  have hh : w.heap[b]? = some (.map (mkE K.enc 0 ks).toArray ks.length) := hw.holds _ (List.mem_of_getElem? hG)
  have hr : w.heap[r]? = some (.mapIter (some b) ks.length seen.toArray ks.length) := hw.holds _ (List.mem_of_getElem? hJ)
  have hborn : ∀ y ∈ (mkE K.enc 0 ks), ∃ q k, ks[q]? = some k ∧ y = ⟨K.enc k, .bool true, q⟩ := fun y hy => by
    obtain ⟨q, hq⟩ := List.mem_iff_getElem?.1 hy
    rw [mkE_get] at hq
    cases hk : ks[q]? with
    | none => rw [hk] at hq; cases hq
    | some k => rw [hk] at hq; simp at hq; exact ⟨q, k, hk, hq.symm⟩
  refine wpList_plain rfl fun K' hK => ?_
  have hex : ∀ v w', (Instr.next (.pointer (some ⟨r, 0, none⟩)) false ty).run P w = .ok v w' → (execOp a.eval ⟨some d, .next x false, ty, pos, af, none⟩).run P w = .ok (.value v) w' := fun v w' h => by
    show ((do let z ← Instr.next (a.eval x) false ty; pure (Next.value z) : Sem Next)).run P w = _
    rw [ha.eval hx, run_bind_ok h]; rfl
  rcases run_next_at (P := P) w ty r b ks.length ks.length seen.toArray (mkE K.enc 0 ks).toArray ks.length hr hh (fun y hy => by
      obtain ⟨q, k, hk, rfl⟩ := hborn y (by simpa using hy)
      exact (List.getElem?_eq_some_iff.1 hk).1) (Nat.le_refl _) with ⟨h0, hrun⟩ | ⟨e, he, w1, hal, hrun⟩
  · unfold Oper.wp
    rw [hex _ _ hrun]
    refine hK _ _ (k1 (fun q hq => ?_) _ _ (ha.put (Nat.le_of_ble_eq_true hn)) hw)
    have := all_seen _ _ h0 ⟨K.enc ks[q], .bool true, q⟩ (by
      apply List.mem_iff_getElem?.2
      exact ⟨q, by simp [mkE_get, List.getElem?_eq_getElem hq]⟩)
    simpa using this
  · obtain ⟨hem, hes⟩ := mem_left he
    obtain ⟨q, k, hk, rfl⟩ := hborn e (by simpa using hem)
    have hw1 : Own w1 R G := by
      rcases hal with rfl | rfl
      · exact hw
      · exact hw.drew _
    have hr1 : w1.heap[r]? = some (.mapIter (some b) ks.length seen.toArray ks.length) := hw1.holds _ (List.mem_of_getElem? hJ)
    have hset := MapKept.heap_set (o' := .mapIter (some b) ks.length (seen.toArray.push q) ks.length) hr1
    unfold Oper.wp
    rw [hex _ _ hrun]
    refine hK _ _ (k2 q k hk (by simpa using hes) _ _ (ha.put (Nat.le_of_ble_eq_true hn)) (hw1.stepAt hJ rfl rfl rfl (fun x _ hx => hset.2 x hx) ?_ fun x hx => .inl hx))
    show (w1.heap.setIfInBounds r _)[r]? = _
    have := hset.1
    simpa using this

/-- the entry that has come up -/
theorem v_entry {κ : Type} {K : KeyK κ} {x d b r ty pos af} {ks : List κ} {seen : List Nat} {q : Nat} {k : κ} (i j : Nat) (hG : G[i]? = some (.set K b ks)) (hJ : G[j]? = some (.raw r (.mapIter (some b) ks.length (seen ++ [q]).toArray ks.length))) (hx : ev env x = some (.pointer (some ⟨r, 0, none⟩))) (hq : ks[q]? = some k) :
    VAL P n D env R G ⟨some d, .entry x, ty, pos, af, none⟩ (.tuple #[K.enc k, .bool true]) := fun a w ha hw => by
  have hh : w.heap[b]? = some (.map (mkE K.enc 0 ks).toArray ks.length) := hw.holds _ (List.mem_of_getElem? hG)
  have hr : w.heap[r]? = some (.mapIter (some b) ks.length (seen ++ [q]).toArray ks.length) := hw.holds _ (List.mem_of_getElem? hJ)
  have hn : ∀ (i : Nat) (ks : List κ), ((mkE K.enc i ks).map (·.born)) = List.range' i ks.length := by
    intro i ks
    induction ks generalizing i with
    | nil => rfl
    | cons y ys ih => simp [mkE, ih, List.range'_succ]
  have h := run_entry_at (P := P) w r b ks.length seen.toArray (mkE K.enc 0 ks).toArray ks.length ⟨K.enc k, .bool true, q⟩ (by simpa using hr) hh (by
    apply List.mem_iff_getElem?.2
    exact ⟨q, by simp [mkE_get, hq]⟩) (by
    show ((mkE K.enc 0 ks).map (·.born)).Nodup
    rw [hn]
    exact List.nodup_range')
  show ((do let z ← Instr.entry (a.eval x); pure (Next.value z) : Sem Next)).run P w = _
  rw [ha.eval hx, run_bind_ok h]; rfl
end
end Go.Proofs.YtcbcdlajnmkioaaGreatDoor
