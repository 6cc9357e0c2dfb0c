/- A part of the proof of the statement ModuleModules of isagogelaw19: what the arguments hold. -/
import Derived.Test.YtcbcdlajnmkioaaGreatDoorE7
import Derived.ChangeArms
import Derived.DataReads
import Derived.SizedLaws
import Derived.Below
namespace Go.Proofs.YtcbcdlajnmkioaaGreatDoor
open Go Go.Proofs Go.RowKit
set_option linter.unusedVariables false
set_option linter.unusedSimpArgs false


def RW (W : World) : RO := ⟨W.os, W.tape, W.output, fun b => W.heap[b]?⟩
theorem own_RW (W : World) : Own W (RW W) [] := ⟨rfl, rfl, rfl, fun _ _ h => h, fun r h => by simp at h, fun r h => by simp at h, .nil⟩
theorem oE {W w' : World} (h : Own w' (RW W) []) : Below W.heap.size W w' := by
  refine ⟨h.os, h.tape, h.output, ?_, fun k hk => ?_⟩
  · rcases Nat.eq_zero_or_pos W.heap.size with e | e
    · omega
    · have h1 := h.ro (W.heap.size - 1) W.heap[W.heap.size - 1] (by show W.heap[W.heap.size - 1]? = _; exact Array.getElem?_eq_getElem (by omega))
      have h2 := (Array.getElem?_eq_some_iff.1 h1).1
      omega
  · have h1 := h.ro k W.heap[k] (by show W.heap[k]? = _; exact Array.getElem?_eq_getElem hk)
    rw [h1]; exact (Array.getElem?_eq_getElem hk).symm

theorem oF (a : Addr) (n : Nat) : (a.add n).block = a.block := by unfold Addr.add; split <;> rfl
theorem qJ6 (a : Addr) (n : Nat) : (a.add n).off = a.off + n := by unfold Addr.add; split <;> simp [*]
theorem mU {W : World} {a : Addr} {v : Value} (h : W.cell? a = some v) : a.spot = none ∧ ∃ c T fz, W.heap[a.block]? = some (.cells c T fz) ∧ c[a.off]? = some v := by
  unfold World.cell? at h
  split at h
  · rename_i c T fz hc
    split at h
    · cases h
    · rename_i hs
      exact ⟨by simpa using hs, c, T, fz, hc, h⟩
  · cases h
theorem cells_at {W : World} {a : Addr} {m n : Nat} {cs : List Value} (h : W.cells? 0 (a.add m) n = some cs) : (RW W).at a.block (a.off + m) cs := by
  obtain ⟨_, hl, hc⟩ := World.cells?_some h
  intro j v hj
  have hjn : j < n := by rw [← hl]; exact (List.getElem?_eq_some_iff.1 hj).1
  obtain ⟨_, c, T, fz, h1, h2⟩ := mU ((hc j hjn).trans hj)
  rw [oF, oF] at h1
  rw [qJ6, qJ6] at h2
  exact ⟨c, T, fz, h1, h2⟩
theorem qE9 {W : World} {a : Addr} {n : Nat} {cs : List Value} (h : W.cells? 0 (a.add 0) n = some cs) (hn : 0 < n) : a.spot = none := by
  obtain ⟨_, hl, hc⟩ := World.cells?_some h
  have h0 := hc 0 hn
  rw [List.getElem?_eq_getElem (by omega)] at h0
  have := (mU h0).1
  simpa [Addr.add] using this

theorem iD {α : Type} {p : Nat → α → Prop} : ∀ (n : Nat), (∀ i, i < n → ∃ a, p i a) → ∃ l : List α, l.length = n ∧ ∀ i a, l[i]? = some a → p i a
  | 0, _ => ⟨[], rfl, fun i a h => by simp at h⟩
  | n + 1, h => by
    obtain ⟨l, hl, hp⟩ := iD n fun i hi => h i (by omega)
    obtain ⟨a, ha⟩ := h n (by omega)
    refine ⟨l ++ [a], by simp [hl], fun i x hx => ?_⟩
    rcases Nat.lt_or_ge i n with hi | hi
    · rw [List.getElem?_append_left (by omega)] at hx; exact hp i x hx
    · have e : i = n := by have := (List.getElem?_eq_some_iff.1 hx).1; simp at this; omega
      subst e
      rw [List.getElem?_append_right (by omega), hl, Nat.sub_self] at hx
      simp at hx; exact hx ▸ ha

theorem bQ {H : Type} {P : Program} {e : TypeId} {p : Nat → Bool} : ∀ {ds : List (DataW H)}, (DataW.weightsAll P e ds).all p = true → ∀ d ∈ ds, (d.weights P e).all p = true
  | [], _, d, hd => by simp at hd
  | x :: xs, h, d, hd => by
    simp only [DataW.weightsAll, List.all_append, Bool.and_eq_true] at h
    rcases List.mem_cons.1 hd with rfl | hd
    · exact h.1
    · exact bQ h.2 d hd
theorem pX {H : Type} {P : Program} {ts : List TypeId} {ds : List (DataW H)} {p : Nat → Bool} (h : (DataW.weightsEach P ts ds).all p = true) {j : Nat} {t : TypeId} {d : DataW H} (ht : ts[j]? = some t) (hd : ds[j]? = some d) : (d.weights P t).all p = true :=
  List.all_eq_true.2 fun n hn => List.all_eq_true.1 h n (DataW.weights_mem_each ht hd n hn)

def gE {α : Type} (P : Program) (W : World) (n : Nat) (t : TypeId) (k : Kd α) : Prop :=
  ∀ (H : Type) (enc : TypeId × Value → H) (fuel : Nat) (cs : List Value) (x : DataW H × List MemPlace), fuel ≤ n → DataW.trod enc P W 0 (fun _ => true) true fuel t cs = some x → (x.1.weights P t).all (· ≤ reachBytes) = true → ∃ a, k.rep (RW W) a cs

def zP (P : Program) (t : TypeId) : Option (List (TypeId × Nat × Nat)) := match P.underlying t with
  | some (.struct fs) => some (fs.toList.map fun f => (f.type, f.offset, P.cellsOf f.type))
  | _ => none
def cY (P : Program) (t : TypeId) : Option (TypeId × Nat × Nat) := match P.underlying t with
  | some (.slice e) => some (e, P.cellsOf e, P.bytesOf e)
  | _ => none
def oG (P : Program) (t : TypeId) : Bool := match P.underlying t with
  | some (.int .i64) => true
  | _ => false
def qB2 (P : Program) (t : TypeId) : Bool := match P.underlying t with
  | some .string => true
  | _ => false

theorem wf_i64 {x : Int} (h : (Lit.int .i64 x).wf = true) : i64 x := by
  simp only [Lit.wf, Bool.and_eq_true, decide_eq_true_eq] at h
  have h1 : IntKind.i64.min = -9223372036854775808 := by decide
  have h2 : IntKind.i64.max = 9223372036854775807 := by decide
  rw [h1, h2] at h
  exact h
theorem zL {P : Program} {W : World} {n : Nat} {t : TypeId} (ht : oG P t = true) : gE P W n t kInt := by
  have hu : P.underlying t = some (.int .i64) := by
    unfold oG at ht
    split at ht
    · assumption
    · cases ht
  intro H enc fuel cs x _ h _
  obtain ⟨m, rfl, _, hw⟩ := DataW.trod_int hu h
  exact ⟨m, rfl, wf_i64 hw⟩
theorem iE {P : Program} {W : World} {n : Nat} {t : TypeId} (ht : qB2 P t = true) : gE P W n t kStr := by
  have hu : P.underlying t = some .string := by
    unfold qB2 at ht
    split at ht
    · assumption
    · cases ht
  intro H enc fuel cs x _ h hw
  obtain ⟨s, rfl, rfl, _⟩ := DataW.trod_string hu h
  simp only [DataW.weights, List.all_cons, List.all_nil, Bool.and_true, decide_eq_true_eq] at hw
  rw [Array.length_toList] at hw
  refine ⟨s, rfl, ?_⟩
  have : s.size = s.data.size := rfl
  unfold big reachBytes at *
  omega
theorem gS {α : Type} {k : Kd α} {P : Program} {W : World} {n : Nat} {t e : TypeId} {by_ : Nat} (ht : cY P t = some (e, k.sz, by_)) (hk : 0 < k.sz) (hb : 0 < by_) (he : gE P W n e k) : gE P W (n + 1) t k.sl := by
  obtain ⟨hu, hc, hy⟩ : P.underlying t = some (.slice e) ∧ P.cellsOf e = k.sz ∧ P.bytesOf e = by_ := by
    unfold cY at ht
    split at ht
    · rename_i e' hu
      simp only [Option.some.injEq, Prod.mk.injEq] at ht
      obtain ⟨rfl, h1, h2⟩ := ht
      exact ⟨hu, h1, h2⟩
    · cases ht
  intro H enc fuel cs x hf h hw
  rcases DataW.trod_slice hu h with ⟨rfl, rfl⟩ | ⟨a, len, cap, elems, rest, m, rfl, rfl, rfl, _, hlc, _, hlen, hel, _, _⟩
  · exact ⟨[], none, 0, rfl, SlAt.nil _ _ _⟩
  · simp only [DataW.weights, hu, List.all_cons, List.all_append, Bool.and_eq_true, decide_eq_true_eq, List.length_map] at hw
    have each : ∀ i, i < len → ∃ a', (∃ cs', k.rep (RW W) a' cs' ∧ (RW W).at a.block (a.off + i * k.sz) cs') ∧ (i = 0 → a.spot = none) := by
      intro i hi
      have h1 := hel i hi
      rw [List.getElem?_eq_getElem (by omega), Option.bind_eq_some_iff, hc] at h1
      obtain ⟨cs', h2, h3⟩ := h1
      obtain ⟨a', ha'⟩ := he H enc m cs' elems[i] (by omega) h3 (bQ hw.2.1 _ (List.mem_map.2 ⟨_, List.getElem_mem _, rfl⟩))
      exact ⟨a', ⟨cs', ha', cells_at h2⟩, fun e0 => by subst e0; rw [Nat.zero_mul] at h2; exact qE9 h2 hk⟩
    obtain ⟨l, hl, hp⟩ := iD len each
    refine ⟨l, some a, cap, by rw [hl], ⟨?_, fun hne => ?_, fun i y hy => ?_⟩⟩
    · have : len ≤ (elems.length + rest.length) * P.bytesOf e := by
        rw [hy, hlen]
        calc len ≤ len + rest.length := by omega
          _ = (len + rest.length) * 1 := by omega
          _ ≤ _ := Nat.mul_le_mul_left _ hb
      unfold big reachBytes at *
      omega
    · have h0 : 0 < l.length := List.length_pos_iff.2 hne
      have := (hp 0 l[0] (List.getElem?_eq_getElem h0)).2 rfl
      exact ⟨a.block, a.off, by cases a; simp_all⟩
    · exact (hp i y hy).1
theorem yQ {H : Type} {enc : TypeId × Value → H} {P : Program} {W : World} {t : TypeId} {fuel : Nat} {cs : List Value} {x : DataW H × List MemPlace} {fl : List (TypeId × Nat × Nat)} (ht : zP P t = some fl) (h : DataW.trod enc P W 0 (fun _ => true) true fuel t cs = some x) (hw : (x.1.weights P t).all (· ≤ reachBytes) = true) :
    ∃ m, fuel = m + 1 ∧ cs.length = P.cellsOf t ∧ ∀ (i : Nat) (u : TypeId) (o z : Nat), fl[i]? = some (u, o, z) → ∃ y, DataW.trod enc P W 0 (fun _ => true) true m u ((cs.drop o).take z) = some y ∧ (y.1.weights P u).all (· ≤ reachBytes) = true := by
  unfold zP at ht
  split at ht
  · rename_i fs hu
    obtain rfl := Option.some.inj ht
    obtain ⟨xs, m, rfl, rfl, hl, hlen, hf⟩ := DataW.trod_struct hu h
    refine ⟨m, rfl, hl, fun i u o z hi => ?_⟩
    rw [List.getElem?_map, Option.map_eq_some_iff] at hi
    obtain ⟨f, hfi, hfe⟩ := hi
    simp only [Prod.mk.injEq] at hfe
    obtain ⟨rfl, rfl, rfl⟩ := hfe
    have hfi' : fs[i]? = some f := by simpa using hfi
    have h1 := hf i f hfi'
    have hil : i < xs.length := by rw [hlen]; exact (Array.getElem?_eq_some_iff.1 hfi').1
    rw [List.getElem?_eq_getElem hil] at h1
    refine ⟨_, h1, ?_⟩
    simp only [DataW.weights, hu] at hw
    exact pX hw (j := i) (by rw [List.getElem?_map, hfi]; rfl) (by rw [List.getElem?_map, List.getElem?_eq_getElem hil]; rfl)
  · cases ht

theorem glue3 {cs : List Value} {a b c : Value} (hl : cs.length = 3) (h0 : (cs.drop 0).take 1 = [a]) (h1 : (cs.drop 1).take 1 = [b]) (h2 : (cs.drop 2).take 1 = [c]) : cs = [a, b, c] := by
  match cs, hl with
  | [x, y, z], _ => simp_all
theorem glue2 {cs : List Value} {a b : Value} (hl : cs.length = 2) (h0 : (cs.drop 0).take 1 = [a]) (h1 : (cs.drop 1).take 1 = [b]) : cs = [a, b] := by
  match cs, hl with
  | [x, y], _ => simp_all
theorem glue6 {cs : List Value} (hl : cs.length = 6) : cs = (cs.drop 0).take 3 ++ (cs.drop 3).take 3 := by
  match cs, hl with
  | [_, _, _, _, _, _], _ => rfl
theorem glue4 {cs : List Value} {a : Value} (hl : cs.length = 4) (h : (cs.drop 0).take 1 = [a]) : cs = a :: (cs.drop 1).take 3 := by
  match cs, hl with
  | [_, _, _, _], _ => simp_all
theorem glue7 {cs : List Value} {a b c d : Value} (hl : cs.length = 7) (h3 : (cs.drop 3).take 1 = [a]) (h4 : (cs.drop 4).take 1 = [b]) (h5 : (cs.drop 5).take 1 = [c]) (h6 : (cs.drop 6).take 1 = [d]) : cs = (cs.drop 0).take 3 ++ [a, b, c, d] := by
  match cs, hl with
  | [_, _, _, _, _, _, _], _ => simp_all

section
variable {P : Program} {W : World}
theorem mV {t s i : TypeId} {by_ : Nat} (hi : oG P i = true) (hs : cY P s = some (t, 3, by_)) (hb : 0 < by_) (ht : zP P t = some [(i, 0, 1), (i, 1, 1), (s, 2, 1)]) (hc : P.cellsOf t = 3) : ∀ n, gE P W n t kConcept := by
  intro n
  induction n with
  | zero => intro H enc fuel cs x hf h _; obtain rfl : fuel = 0 := by omega
            simp [DataW.trod] at h
  | succ n ih =>
    intro H enc fuel cs x hf h hw
    obtain ⟨m, rfl, hl, hfl⟩ := yQ ht h hw
    obtain ⟨y0, h0, w0⟩ := hfl 0 _ _ _ rfl
    obtain ⟨y1, h1, w1⟩ := hfl 1 _ _ _ rfl
    obtain ⟨y2, h2, w2⟩ := hfl 2 _ _ _ rfl
    obtain ⟨a, e0, i0⟩ := zL (n := m) hi H enc m _ y0 (Nat.le_refl _) h0 w0
    obtain ⟨b, e1, i1⟩ := zL (n := m) hi H enc m _ y1 (Nat.le_refl _) h1 w1
    obtain ⟨l, A, c, e2, hA⟩ := gS (k := kConcept) hs (by decide) hb ih H enc m _ y2 (by omega) h2 w2
    rw [glue3 (hl.trans hc) e0 e1 e2]
    exact ⟨.mk a b l, tW (x := .mk a b l) i0 i1 hA⟩
theorem qJ7 {t s i : TypeId} {by_ : Nat} (hi : oG P i = true) (hs : cY P s = some (i, 1, by_)) (hb : 0 < by_) (ht : zP P t = some [(s, 0, 1), (s, 1, 1)]) (hc : P.cellsOf t = 2) : ∀ n, gE P W n t kSig := by
  intro n H enc fuel cs x hf h hw
  obtain ⟨m, rfl, hl, hfl⟩ := yQ ht h hw
  obtain ⟨y0, h0, w0⟩ := hfl 0 _ _ _ rfl
  obtain ⟨y1, h1, w1⟩ := hfl 1 _ _ _ rfl
  obtain ⟨l0, A0, c0, e0, hA0⟩ := gS (k := kInt) hs (by decide) hb (zL (n := m) hi) H enc m _ y0 (by omega) h0 w0
  obtain ⟨l1, A1, c1, e1, hA1⟩ := gS (k := kInt) hs (by decide) hb (zL (n := m) hi) H enc m _ y1 (by omega) h1 w1
  rw [glue2 (hl.trans hc) e0 e1]
  exact ⟨⟨l0, l1⟩, A0, c0, A1, c1, rfl, hA0, hA1⟩
theorem rN {t s i : TypeId} {by_ : Nat} (hi : qB2 P i = true) (hs : cY P s = some (i, 1, by_)) (hb : 0 < by_) (ht : zP P t = some [(s, 0, 1), (s, 1, 1), (s, 2, 1)]) (hc : P.cellsOf t = 3) : ∀ n, gE P W n t kNames := by
  intro n H enc fuel cs x hf h hw
  obtain ⟨m, rfl, hl, hfl⟩ := yQ ht h hw
  obtain ⟨y0, h0, w0⟩ := hfl 0 _ _ _ rfl
  obtain ⟨y1, h1, w1⟩ := hfl 1 _ _ _ rfl
  obtain ⟨y2, h2, w2⟩ := hfl 2 _ _ _ rfl
  obtain ⟨l0, A0, c0, e0, hA0⟩ := gS (k := kStr) hs (by decide) hb (iE (n := m) hi) H enc m _ y0 (by omega) h0 w0
  obtain ⟨l1, A1, c1, e1, hA1⟩ := gS (k := kStr) hs (by decide) hb (iE (n := m) hi) H enc m _ y1 (by omega) h1 w1
  obtain ⟨l2, A2, c2, e2, hA2⟩ := gS (k := kStr) hs (by decide) hb (iE (n := m) hi) H enc m _ y2 (by omega) h2 w2
  rw [glue3 (hl.trans hc) e0 e1 e2]
  exact ⟨⟨l0, l1, l2⟩, A0, c0, A1, c1, A2, c2, rfl, hA0, hA1, hA2⟩
theorem qF0 {t c : TypeId} (hcn : ∀ n, gE P W n c kConcept) (ht : zP P t = some [(c, 0, 3), (c, 3, 3)]) (hc : P.cellsOf t = 6) : ∀ n, gE P W n t kIncl := by
  intro n H enc fuel cs x hf h hw
  obtain ⟨m, rfl, hl, hfl⟩ := yQ ht h hw
  obtain ⟨y0, h0, w0⟩ := hfl 0 _ _ _ rfl
  obtain ⟨y1, h1, w1⟩ := hfl 1 _ _ _ rfl
  obtain ⟨a, ha⟩ := hcn m H enc m _ y0 (Nat.le_refl _) h0 w0
  obtain ⟨b, hb⟩ := hcn m H enc m _ y1 (Nat.le_refl _) h1 w1
  exact ⟨⟨a, b⟩, _, _, glue6 (hl.trans hc), ha, hb⟩
theorem qF1 {t i : TypeId} (hi : oG P i = true) (ht : zP P t = some [(i, 0, 1), (i, 1, 1)]) (hc : P.cellsOf t = 2) : ∀ n, gE P W n t kRoleIncl := by
  intro n H enc fuel cs x hf h hw
  obtain ⟨m, rfl, hl, hfl⟩ := yQ ht h hw
  obtain ⟨y0, h0, w0⟩ := hfl 0 _ _ _ rfl
  obtain ⟨y1, h1, w1⟩ := hfl 1 _ _ _ rfl
  obtain ⟨a, e0, i0⟩ := zL (n := m) hi H enc m _ y0 (Nat.le_refl _) h0 w0
  obtain ⟨b, e1, i1⟩ := zL (n := m) hi H enc m _ y1 (Nat.le_refl _) h1 w1
  rw [glue2 (hl.trans hc) e0 e1]
  exact ⟨⟨a, b⟩, rfl, i0, i1⟩
theorem qF2 {t i : TypeId} (hi : oG P i = true) (ht : zP P t = some [(i, 0, 1), (i, 1, 1), (i, 2, 1)]) (hc : P.cellsOf t = 3) : ∀ n, gE P W n t kLink := by
  intro n H enc fuel cs x hf h hw
  obtain ⟨m, rfl, hl, hfl⟩ := yQ ht h hw
  obtain ⟨y0, h0, w0⟩ := hfl 0 _ _ _ rfl
  obtain ⟨y1, h1, w1⟩ := hfl 1 _ _ _ rfl
  obtain ⟨y2, h2, w2⟩ := hfl 2 _ _ _ rfl
  obtain ⟨a, e0, i0⟩ := zL (n := m) hi H enc m _ y0 (Nat.le_refl _) h0 w0
  obtain ⟨b, e1, i1⟩ := zL (n := m) hi H enc m _ y1 (Nat.le_refl _) h1 w1
  obtain ⟨c, e2, i2⟩ := zL (n := m) hi H enc m _ y2 (Nat.le_refl _) h2 w2
  rw [glue3 (hl.trans hc) e0 e1 e2]
  exact ⟨⟨a, b, c⟩, rfl, i0, i1, i2⟩
theorem qF3 {t i c : TypeId} (hi : oG P i = true) (hcn : ∀ n, gE P W n c kConcept) (ht : zP P t = some [(i, 0, 1), (c, 1, 3)]) (hc : P.cellsOf t = 4) : ∀ n, gE P W n t kFact := by
  intro n H enc fuel cs x hf h hw
  obtain ⟨m, rfl, hl, hfl⟩ := yQ ht h hw
  obtain ⟨y0, h0, w0⟩ := hfl 0 _ _ _ rfl
  obtain ⟨y1, h1, w1⟩ := hfl 1 _ _ _ rfl
  obtain ⟨a, e0, i0⟩ := zL (n := m) hi H enc m _ y0 (Nat.le_refl _) h0 w0
  obtain ⟨b, hb⟩ := hcn m H enc m _ y1 (Nat.le_refl _) h1 w1
  exact ⟨⟨a, b⟩, _, glue4 (hl.trans hc) e0, i0, hb⟩
theorem qF4 {t n_ s1 s2 s3 s4 e1 e2 e3 e4 : TypeId} {b1 b2 b3 b4 : Nat} (hn : ∀ n, gE P W n n_ kNames) (h1 : ∀ n, gE P W n e1 kIncl) (h2 : ∀ n, gE P W n e2 kRoleIncl) (h3 : ∀ n, gE P W n e3 kFact) (h4 : ∀ n, gE P W n e4 kLink)
    (hs1 : cY P s1 = some (e1, 6, b1)) (hs2 : cY P s2 = some (e2, 2, b2)) (hs3 : cY P s3 = some (e3, 4, b3)) (hs4 : cY P s4 = some (e4, 3, b4)) (hb : 0 < b1 ∧ 0 < b2 ∧ 0 < b3 ∧ 0 < b4)
    (ht : zP P t = some [(n_, 0, 3), (s1, 3, 1), (s2, 4, 1), (s3, 5, 1), (s4, 6, 1)]) (hc : P.cellsOf t = 7) : ∀ n, gE P W n t kBase := by
  intro n H enc fuel cs x hf h hw
  obtain ⟨m, rfl, hl, hfl⟩ := yQ ht h hw
  obtain ⟨y0, g0, w0⟩ := hfl 0 _ _ _ rfl
  obtain ⟨y1, g1, w1⟩ := hfl 1 _ _ _ rfl
  obtain ⟨y2, g2, w2⟩ := hfl 2 _ _ _ rfl
  obtain ⟨y3, g3, w3⟩ := hfl 3 _ _ _ rfl
  obtain ⟨y4, g4, w4⟩ := hfl 4 _ _ _ rfl
  obtain ⟨nm, hnm⟩ := hn m H enc m _ y0 (Nat.le_refl _) g0 w0
  obtain ⟨l1, A1, c1, q1, hA1⟩ := gS (k := kIncl) hs1 (by decide) hb.1 (h1 m) H enc m _ y1 (by omega) g1 w1
  obtain ⟨l2, A2, c2, q2, hA2⟩ := gS (k := kRoleIncl) hs2 (by decide) hb.2.1 (h2 m) H enc m _ y2 (by omega) g2 w2
  obtain ⟨l3, A3, c3, q3, hA3⟩ := gS (k := kFact) hs3 (by decide) hb.2.2.1 (h3 m) H enc m _ y3 (by omega) g3 w3
  obtain ⟨l4, A4, c4, q4, hA4⟩ := gS (k := kLink) hs4 (by decide) hb.2.2.2 (h4 m) H enc m _ y4 (by omega) g4 w4
  exact ⟨⟨nm, l1, l2, l3, l4⟩, _, A1, c1, A2, c2, A3, c3, A4, c4, glue7 (hl.trans hc) q1 q2 q3 q4, hnm, hA1, hA2, hA3, hA4⟩
end
end Go.Proofs.YtcbcdlajnmkioaaGreatDoor
