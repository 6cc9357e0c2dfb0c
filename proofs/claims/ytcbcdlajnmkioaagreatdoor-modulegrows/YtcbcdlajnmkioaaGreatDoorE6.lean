/- A part of the proof of the statement ModuleGrows of isagogelaw19: rules by which code is walked. -/
import Derived.Test.YtcbcdlajnmkioaaGreatDoorE5
import Derived.Laws.MakeOwn
namespace Go.Proofs.YtcbcdlajnmkioaaGreatDoor
open Go
set_option linter.unusedVariables false
set_option linter.unusedSimpArgs false

/-! ## 7. Slices of the call's own -/

def Kd.reps {α : Type} (k : Kd α) (R : RO) : List α → List Value → Prop
  | [], cs => cs = []
  | x :: xs, cs => ∃ c1 c2, cs = c1 ++ c2 ∧ k.rep R x c1 ∧ k.reps R xs c2

theorem Kd.reps_mono {α} {k : Kd α} {R R' : RO} (h : R.le R') : ∀ {l : List α} {cs}, k.reps R l cs → k.reps R' l cs
  | [], _, e => e
  | x :: xs, _, ⟨c1, c2, e, h1, h2⟩ => ⟨c1, c2, e, k.mono _ _ _ _ h h1, Kd.reps_mono h h2⟩
theorem Kd.reps_length {α} {k : Kd α} {R : RO} : ∀ {l : List α} {cs}, k.reps R l cs → cs.length = l.length * k.sz
  | [], _, e => by rw [show _ = [] from e]; simp
  | x :: xs, _, ⟨c1, c2, e, h1, h2⟩ => by
    rw [e, List.length_append, k.len _ _ _ h1, Kd.reps_length h2, List.length_cons, Nat.add_mul]; omega
theorem Kd.reps_append {α} {k : Kd α} {R : RO} : ∀ {l m : List α} {cs ds}, k.reps R l cs → k.reps R m ds → k.reps R (l ++ m) (cs ++ ds)
  | [], _, _, _, e, h => by rw [show _ = [] from e]; simpa using h
  | x :: xs, m, _, ds, ⟨c1, c2, e, h1, h2⟩, h => ⟨c1, c2 ++ ds, by rw [e, List.append_assoc], h1, Kd.reps_append h2 h⟩
theorem Kd.reps_one {α} {k : Kd α} {R : RO} {x : α} {cs} (h : k.rep R x cs) : k.reps R [x] cs := ⟨cs, [], by simp, h, rfl⟩
theorem Kd.reps_get {α} {k : Kd α} {R : RO} : ∀ {l : List α} {cs}, k.reps R l cs → ∀ i x, l[i]? = some x → ∃ c, k.rep R x c ∧ ∀ j v, c[j]? = some v → cs[i * k.sz + j]? = some v
  | [], _, _, i, x, h => by simp at h
  | y :: ys, cs, ⟨c1, c2, e, h1, h2⟩, 0, x, h => by
    simp only [List.getElem?_cons_zero, Option.some.injEq] at h
    subst h
    refine ⟨c1, h1, fun j v hj => ?_⟩
    rw [e, Nat.zero_mul, Nat.zero_add, List.getElem?_append_left (List.getElem?_eq_some_iff.1 hj).1]; exact hj
  | y :: ys, cs, ⟨c1, c2, e, h1, h2⟩, i + 1, x, h => by
    obtain ⟨c, h3, h4⟩ := Kd.reps_get h2 i x (by simpa using h)
    refine ⟨c, h3, fun j v hj => ?_⟩
    have := k.len _ _ _ h1
    rw [e, List.getElem?_append_right (by rw [this, Nat.add_mul]; omega), this, show (i + 1) * k.sz + j - k.sz = i * k.sz + j by rw [Nat.add_mul]; omega]
    exact h4 j v hj

/-- A slice that the call owns: nil, or the head of a block of its own. -/
def Res.vec (v : Value) (n : Nat) (T : TypeId) (sz : Nat) (l : List Value) : Res :=
  ⟨fun b => v.ownBlock = some b, fun w => w.ownsRow 0 T sz v n l,
   fun w w' h k => by
    obtain ⟨h1, h2⟩ := k
    refine ⟨h1, ?_⟩
    rcases h2 with h2 | ⟨g, cap, cur, hv, hg, hh, r⟩
    · exact .inl h2
    · exact .inr ⟨g, cap, cur, hv, hg, (h g (by rw [hv]; rfl)).trans hh, r⟩,
   fun w k b hb => by
    rcases k.2 with ⟨h2, _⟩ | ⟨g, cap, cur, hv, hg, hh, r⟩
    · rw [h2] at hb; simp [Value.ownBlock] at hb
    · rw [hv] at hb
      have : g = b := by simpa [Value.ownBlock] using hb
      exact this ▸ lt_of_some hh⟩

theorem Own.vecnil {w R G} (h : Own w R G) (T : TypeId) (sz : Nat) : Own w R (.vec (.slice none 0 0) 0 T sz [] :: G) :=
  h.new rfl rfl rfl (fun _ _ => rfl) ⟨by simp, .inl ⟨rfl, rfl⟩⟩ fun b hb => by simp [Res.vec, Value.ownBlock] at hb

/-- What is owned becomes what is read. -/
theorem Own.retireVec {α} {k : Kd α} {w R G A cap T} {l : List α} {cs : List Value} (h : Own w R (.vec (.slice A l.length cap) l.length T k.sz cs :: G)) (hr : k.reps R l cs) (hsz : 0 < k.sz) (hb : l.length ≤ big) :
    ∃ R', R.le R' ∧ Own w R' G ∧ SlAt k R' A l ∧ (∀ w', Own w' R' G → Own w' R (.vec (.slice A l.length cap) l.length T k.sz cs :: G)) := by
  have hv : w.ownsRow 0 T k.sz (.slice A l.length cap) l.length cs := h.holds _ (.head _)
  rcases hv.2 with ⟨h2, h3⟩ | ⟨g, cap', cur, hv', hg, hh, r1, r2, r3, r4⟩
  · have : l = [] := List.eq_nil_of_length_eq_zero h3
    subst this
    refine ⟨R, .refl R, h.tail, SlAt.nil _ _ _, fun w' hw' => ?_⟩
    have e : cs = [] := hr
    rw [h2]
    subst e
    exact hw'.vecnil T k.sz
  · obtain ⟨rfl, -, rfl⟩ : A = some ⟨g, 0, none⟩ ∧ l.length = l.length ∧ cap = cap' := by simpa using hv'
    have h0 : R.heap g = none := h.away _ (.head _) g rfl
    have hblk : Own w R (.blk g cur.toList T :: G) := by
      refine ⟨h.os, h.tape, h.output, h.ro, fun s hs => ?_, fun s hs => ?_, List.pairwise_cons.2 ⟨fun s hs b hb => ?_, h.tail.apart⟩⟩
      · rcases List.mem_cons.1 hs with rfl | hs
        · simpa [Res.blk] using hh
        · exact h.holds s (.tail _ hs)
      · rcases List.mem_cons.1 hs with rfl | hs
        · intro b hb; have : b = g := hb; exact this ▸ h0
        · exact h.away s (.tail _ hs)
      · have : b = g := hb
        exact (List.pairwise_cons.1 h.apart).1 s hs b (by rw [this]; rfl)
    obtain ⟨h1, h2⟩ := hblk.retire
    refine ⟨_, h1, h2, ⟨hb, fun _ => ⟨g, 0, rfl⟩, fun i x hi => ?_⟩, fun w' hw' => ?_⟩
    · obtain ⟨c, hc1, hc2⟩ := Kd.reps_get hr i x hi
      refine ⟨c, k.mono _ _ _ _ h1 hc1, fun j v hj => ⟨cur, T, (0, 0), by simp [RO.add, ablk], ?_⟩⟩
      have := hc2 j v hj
      rw [← r4, List.getElem?_take] at this
      split at this
      · simpa [aoff] using this
      · cases this
    · have hg' : w'.heap[g]? = some (.cells cur T (0, 0)) := by
        have := hw'.ro g (.cells cur.toList.toArray T (0, 0)) (by simp [RO.add])
        simpa using this
      have hlow := hw'.weaken h1
      refine ⟨hlow.os, hlow.tape, hlow.output, hlow.ro, fun s hs => ?_, fun s hs => ?_, List.pairwise_cons.2 ⟨fun s hs b hb hc => ?_, hw'.apart⟩⟩
      · rcases List.mem_cons.1 hs with rfl | hs
        · exact ⟨hv.1, .inr ⟨g, cap, cur, rfl, hg, hg', r1, r2, r3, r4⟩⟩
        · exact hw'.holds s hs
      · rcases List.mem_cons.1 hs with rfl | hs
        · intro b hb
          have : g = b := by simpa [Res.vec, Value.ownBlock] using hb
          exact this ▸ h0
        · exact hlow.away s hs
      · have e : g = b := by simpa [Res.vec, Value.ownBlock] using hb
        have := hw'.away s hs b hc
        rw [← e] at this
        simp [RO.add] at this

section
variable {P : Program} {n : Nat} {D : List Deferred} {env env' : List (Nat × Value)} {R : RO} {G G' : List Res} {Q : Exit → Act → World → Prop} {ops : Array Oper} {rest : List Oper} {o : Oper}

theorem tl_own (h : ∀ w, Own w R G → Own w R G') (k : TL P ops Q rest n D env R G') : TL P ops Q rest n D env R G := fun a w ha hw => k a w ha (h w hw)
theorem tc_own {c : Code} (h : ∀ w, Own w R G → Own w R G') (k : TC P c Q n D env R G') : TC P c Q n D env R G := fun a w ha hw => k a w ha (h w hw)

/-- What the element type of a slice type is like: its cells, its bytes, its zero. -/
def apInfo (P : Program) (t : TypeId) : Option (TypeId × Nat × Nat × List Value) :=
  match P.underlying t with
  | some (.slice e) => match P.info? e with
    | some i => match i.zero with
      | some z => if z.cells.size = i.size ∧ 0 < i.size then some (e, i.size, i.bytes, z.cells.toList) else none
      | none => none
    | none => none
  | _ => none

theorem apInfo_spec {t e s by_ zs} (h : apInfo P t = some (e, s, by_, zs)) : P.underlying t = some (.slice e) ∧ ∃ i z, P.info? e = some i ∧ i.zero = some z ∧ i.size = s ∧ i.bytes = by_ ∧ z.cells.size = s ∧ 0 < s := by
  unfold apInfo at h
  split at h
  · rename_i e' hu
    split at h
    · rename_i i hi
      split at h
      · rename_i z hz
        split at h
        · rename_i hc
          simp only [Option.some.injEq, Prod.mk.injEq] at h
          obtain ⟨rfl, rfl, rfl, -⟩ := h
          exact ⟨hu, i, z, hi, hz, rfl, rfl, hc.1, hc.2⟩
        · cases h
      · cases h
    · cases h
  · cases h

theorem run_append2 {w : World} {t ty e : TypeId} {i : TypeInfo} {z : Value} (ht : P.underlying t = some (.slice e)) (hi : P.info? e = some i) (hz : i.zero = some z)
    (hzs : z.cells.size = i.size) (hsz : 0 < i.size) (v : Value) (n : Nat) (xs : List Value) (hown : w.ownsRow 0 e i.size v n xs)
    (b o m c : Nat) (news : List Value) (hl : news.length = m * i.size) (hnews : ∀ j u, news[j]? = some u → w.cell? ⟨b, o + j, none⟩ = some u) (h1 : ∀ u ∈ news, u.oneCell' = true)
    (h63 : n + m ≤ 9223372036854775807) (hbytes : (n + m) * i.bytes ≤ 140737488355328) :
    ∃ v' w', (Builtin.append_ #[t, t] ty #[v, .slice (some ⟨b, o, none⟩) m c]).run P w = .ok v' w' ∧ w'.ownsRow 0 e i.size v' (n + m) (xs ++ news) ∧ w.grownBy w' v.ownBlock ∧
      ∀ g, v'.ownBlock = some g → v.ownBlock = some g ∨ w.heap.size ≤ g := by
  have hnews' : ∀ j u, news[j]? = some u → w.cell? ((⟨b, o, none⟩ : Addr).add j) = some u := fun j u h => by rw [add_mk]; exact hnews j u h
  obtain ⟨v', w', hr, ho, hg, -⟩ := run_append_own (P := P) w 0 t ty e i z i.size i.bytes ht hi hz rfl rfl hzs hsz v n xs hown ⟨b, o, none⟩ m c news hl hnews' h1 (by simpa [maxLen] using h63) hbytes (Nat.zero_le _)
  refine ⟨v', w', hr, ho, hg, fun g hgv => ?_⟩
  rcases hown.2 with ⟨rfl, rfl⟩ | ⟨g0, cap, cur, rfl, hbg, hg0, hnc, hcm, hcs, htake⟩
  · have hx : xs = [] := List.eq_nil_of_length_eq_zero (by simpa using hown.1)
    subst hx
    obtain ⟨v2, w2, hr2, ho2, -, -⟩ := run_append_own (P := P) w w.heap.size t ty e i z i.size i.bytes ht hi hz rfl rfl hzs hsz (.slice none 0 0) 0 [] (World.ownsRow_nil w _ e i.size) ⟨b, o, none⟩ m c news hl hnews' h1 (by simpa [maxLen] using h63) hbytes (Nat.le_refl _)
    rw [hr] at hr2
    simp only [Result.ok.injEq] at hr2
    obtain ⟨rfl, rfl⟩ := hr2
    exact .inr (ho2.lt g hgv).1
  · by_cases hroom : n + m ≤ cap
    · have hfit : n * i.size + news.length ≤ cur.size := by rw [hl, hcs, ← Nat.add_mul]; exact Nat.mul_le_mul_right _ hroom
      have hr2 := run_append_room (P := P) w t ty e i ht hi g0 n cap cur hg0 ⟨b, o, none⟩ m c news hl hnews' h1 hroom hfit
      rw [hr] at hr2
      simp only [Result.ok.injEq] at hr2
      rw [hr2.1] at hgv
      exact .inl hgv
    · have hr2 := run_append_grow (P := P) w t ty e i z ht hi hz ⟨g0, 0, none⟩ n cap xs hown.1 (hown.cells (g := g0) rfl) ⟨b, o, none⟩ m c news hl hnews' (by omega) (by omega) (growslice_fits (by omega) hbytes)
      rw [hr] at hr2
      simp only [Result.ok.injEq] at hr2
      rw [hr2.1] at hgv
      have : w.heap.size = g := by simpa [Value.ownBlock] using hgv
      exact .inr (by omega)

/-- append(s, x) of cells that lie somewhere. -/
theorem tl_append {t e sz by_ : Nat} {zs : List Value} {d : Nat} {ty pos af} {s x : Operand} {A : Option Addr} {cap len : Nat} {l news : List Value} {b oo m c : Nat} (i : Nat) (hi : apInfo P t = some (e, sz, by_, zs)) (hs : ev env s = some (.slice A len cap)) (hG : G[i]? = some (.vec (.slice A len cap) len e sz l))
    (hx : ev env x = some (.slice (some ⟨b, oo, none⟩) m c)) (hl : news.length = m * sz) (hnews : ∀ w, Own w R G → ∀ j u, news[j]? = some u → w.cell? ⟨b, oo + j, none⟩ = some u) (h1 : ∀ u ∈ news, u.oneCell' = true)
    (h63 : len + m ≤ 9223372036854775807) (hby : (len + m) * by_ ≤ 140737488355328) (hn : Nat.blt d n = true)
    (k : ∀ A' c', TL P ops Q rest n D ((d, .slice A' (len + m) c') :: env) R (G.set i (.vec (.slice A' (len + m) c') (len + m) e sz (l ++ news)))) : TL P ops Q (⟨some d, .call { callee := .builtin .append, args := #[s, x], argTypes := #[t, t] }, ty, pos, af, none⟩ :: rest) n D env R G := by
  intro a w ha hw
  obtain ⟨hu, inf, z, hinf, hz, hsz, hbytes, hzs, h0⟩ := apInfo_spec hi
  subst hsz
  subst hbytes
  have hv : w.ownsRow 0 e inf.size (.slice A len cap) len l := hw.holds _ (List.mem_of_getElem? hG)
  refine wpList_plain rfl fun K hK => ?_
  obtain ⟨v', w', hr, ho, hg, hnew⟩ := run_append2 (ty := ty) hu hinf hz hzs h0 _ len l hv b oo m c news hl (hnews w hw) h1 h63 hby
  obtain ⟨A', c', rfl⟩ : ∃ A' c', v' = .slice A' (len + m) c' := by
    rcases ho.2 with ⟨h2, h3⟩ | ⟨g, cap', cur, hv', _⟩
    · exact ⟨none, 0, by rw [h2, h3]⟩
    · exact ⟨_, _, hv'⟩
  have hrun : (execOp a.eval ⟨some d, .call { callee := .builtin .append, args := #[s, x], argTypes := #[t, t] }, ty, pos, af, none⟩).run P w = .ok (.value (.slice A' (len + m) c')) w' := by
    simp [execOp, resolve, invoke, builtin, ha.eval hs, ha.eval hx, hr]
  unfold Oper.wp
  rw [hrun]
  exact hK _ _ (k A' c' _ _ (ha.put (Nat.le_of_ble_eq_true hn)) (hw.stepAt hG hg.os hg.tape hg.output (fun x hx hf => hg.block x hx fun e => hf e.symm) ho fun x hx => hnew x hx))

theorem all_one {l : List Value} (h : l.all one = true) : ∀ u ∈ l, u.oneCell' = true := fun u hu => by
  have := List.all_eq_true.1 h u hu
  cases u <;> first | rfl | (simp [one] at this)

/-- append(s, e): one element, which lies in a block of its own. -/
theorem tl_app {α : Type} {k : Kd α} {l : List α} {e : α} {t eT by_ : Nat} {zs : List Value} {d : Nat} {ty pos af} {s x : Operand} {A : Option Addr} {cap : Nat} {cs ds : List Value} {b Tb : Nat} (i j : Nat) (hv : k.reps R l cs) (he : k.rep R e ds) (hi : apInfo P t = some (eT, k.sz, by_, zs)) (hs : ev env s = some (.slice A l.length cap)) (hG : G[i]? = some (.vec (.slice A l.length cap) l.length eT k.sz cs))
    (hx : ev env x = some (.slice (some ⟨b, 0, none⟩) 1 1)) (hB : G[j]? = some (.blk b ds Tb)) (h1 : ds.all one = true) (hlen : l.length ≤ 1000000000) (hby : Nat.ble by_ 1000 = true) (hn : Nat.blt d n = true)
    (kont : ∀ A' c' cs', k.reps R (l ++ [e]) cs' → TL P ops Q rest n D ((d, .slice A' (l ++ [e]).length c') :: env) R (G.set i (.vec (.slice A' (l ++ [e]).length c') (l ++ [e]).length eT k.sz cs'))) : TL P ops Q (⟨some d, .call { callee := .builtin .append, args := #[s, x], argTypes := #[t, t] }, ty, pos, af, none⟩ :: rest) n D env R G := by
  have hd := k.len _ _ _ he
  have hb2 := Nat.le_of_ble_eq_true hby
  have hmul : (l.length + 1) * by_ ≤ (l.length + 1) * 1000 := Nat.mul_le_mul_left _ hb2
  refine tl_append i hi hs hG hx (news := ds) (by rw [hd]; omega) (fun w hw j u hj => blk_cell hw hB (by simpa using hj)) (all_one h1) (by omega) (by omega) hn fun A' c' => ?_
  have := kont A' c' (cs ++ ds) (Kd.reps_append hv (Kd.reps_one he))
  simpa using this

theorem tl_vecnil (T sz : Nat) (k : TL P ops Q rest n D env R (.vec (.slice none 0 0) 0 T sz [] :: G)) : TL P ops Q rest n D env R G := tl_own (fun w hw => hw.vecnil T sz) k

theorem splice_eq (vs : List Value) : ∀ (l : List Value) (o : Nat), o + vs.length ≤ l.length → splice l o vs = l.take o ++ vs ++ l.drop (o + vs.length) := by
  induction vs with
  | nil => intro l o h; simp [splice]
  | cons v vs ih =>
    intro l o h
    simp only [List.length_cons] at h
    unfold splice
    rw [ih _ _ (by simp; omega)]
    rw [List.take_add_one, List.getElem?_set_self (by omega), List.take_set_of_le (by omega), List.drop_set_of_lt (by omega)]
    simp [Nat.add_assoc, Nat.add_comm 1]
theorem foldl_splice (off : Nat) : ∀ (l : List Value) (k : Nat) (cs : Array Value), ((l.zipIdx k).foldl (fun (cs : Array Value) (p : Value × Nat) => cs.setIfInBounds (off + p.2) p.1) cs) = (splice cs.toList (off + k) l).toArray
  | [], k, cs => by simp [splice]
  | v :: l, k, cs => by
    rw [List.zipIdx_cons, List.foldl_cons, foldl_splice off l (k + 1)]
    simp only [splice, Array.toList_setIfInBounds, Nat.add_assoc]
theorem fill_seq (sz : Nat) : ∀ (vs : List Value) (k : Nat) (pre tail : List Value), pre.length = k * sz → tail.length = vs.length * sz → (∀ v ∈ vs, v.cells.size = sz) →
    Instr.fill (fun i => some (i * sz, sz)) (pre ++ tail).toArray ((List.range' k vs.length).zip vs) = some (pre ++ vs.flatMap fun v => v.cells.toList).toArray
  | [], k, pre, tail, h1, h2, _ => by
    have : tail = [] := List.eq_nil_of_length_eq_zero (by simpa using h2)
    subst this
    simp [Instr.fill]
  | v :: vs, k, pre, tail, h1, h2, h3 => by
    have hv : v.cells.size = sz := h3 v (by simp)
    simp only [List.length_cons, Nat.add_mul, Nat.one_mul] at h2
    simp only [List.length_cons, List.range'_succ, List.zip_cons_cons]
    unfold Instr.fill
    simp only []
    have hc : (decide (v.cells.size ≠ sz) || decide (k * sz + v.cells.size > (pre ++ tail).toArray.size)) = false := by
      simp [hv, h1]; omega
    rw [hc]
    simp only [Bool.false_eq_true, if_false]
    have hl : v.cells.toList.length = sz := by simpa using hv
    have e1 : v.cells.zipIdx.foldl (fun (cs : Array Value) (x : Value × Nat) => match x with | (c, j) => cs.setIfInBounds (k * sz + j) c) (pre ++ tail).toArray = ((pre ++ v.cells.toList) ++ tail.drop sz).toArray := by
      have e2 := foldl_splice (k * sz) v.cells.toList 0 (pre ++ tail).toArray
      rw [Nat.add_zero, splice_eq _ _ _ (by simp [hv, h1]; omega)] at e2
      have e3 : v.cells.zipIdx.foldl (fun (cs : Array Value) (p : Value × Nat) => cs.setIfInBounds (k * sz + p.2) p.1) (pre ++ tail).toArray = (v.cells.toList.zipIdx 0).foldl (fun (cs : Array Value) (p : Value × Nat) => cs.setIfInBounds (k * sz + p.2) p.1) (pre ++ tail).toArray := by
        rw [← Array.foldl_toList]; simp
      refine Eq.trans e3 (e2.trans ?_)
      rw [hl, ← h1]
      simp [List.take_left', List.drop_append]
    rw [e1, fill_seq sz vs (k + 1) (pre ++ v.cells.toList) (tail.drop sz) (by simp [h1, hv, Nat.add_mul]) (by simp; omega) fun u hu => h3 u (by simp [hu])]
    simp

/-- buildSlice: a block of the call's own. -/
theorem tl_bslice {t e sz by_ len : Nat} {zs vs : List Value} {d : Nat} {ty pos af} {ps : List (Nat × Operand)} (cells : List Value) (hi : apInfo P t = some (e, sz, by_, zs)) (hv : evs env (ps.map Prod.snd) = some vs) (hl : Nat.ble (len * sz) 16777216 = true)
    (hidx : ps.map Prod.fst = List.range' 0 len) (hlen : vs.length = len) (hsz1 : (vs.all fun v => Nat.beq v.cells.size sz) = true) (hcells : (vs.flatMap fun v => v.cells.toList) = cells) (hn : Nat.blt d n = true)
    (k : ∀ b, TL P ops Q rest n D ((d, .slice (some ⟨b, 0, none⟩) len len) :: env) R (.blk b cells e :: G)) : TL P ops Q (⟨some d, .buildSlice t len ps.toArray, ty, pos, af, none⟩ :: rest) n D env R G := by
  have hgen : ∀ za : Array Value, Instr.fill (fun i => some (i * sz, sz)) ((Array.range (len * sz)).map (za[· % za.size]!)) ((ps.map Prod.fst).zip vs) = some cells.toArray := fun za => by
    have h := fill_seq sz vs 0 [] ((Array.range (len * sz)).map (za[· % za.size]!)).toList (by simp) (by simp [hlen]) fun v hv' => Nat.eq_of_beq_eq_true (List.all_eq_true.1 hsz1 v hv')
    rw [List.nil_append, List.nil_append, hcells, hlen, Array.toArray_toList] at h
    rw [hidx]
    exact h
  obtain ⟨za, hza, hf⟩ : ∃ za, (if len * sz = 0 then #[] else zs.toArray) = za ∧ Instr.fill (fun i => some (i * sz, sz)) ((Array.range (len * sz)).map (za[· % za.size]!)) ((ps.map Prod.fst).zip vs) = some cells.toArray := ⟨_, rfl, hgen _⟩
  clear hgen hidx hlen hsz1 hcells
  intro a w ha hw
  obtain ⟨hu, inf, z, hinf, hz, hsz, hbytes, hzs, h0⟩ := apInfo_spec hi
  have hzc : z.cells.toList = zs := by
    unfold apInfo at hi
    rw [hu] at hi
    simp only [hinf, hz] at hi
    split at hi
    · simp only [Option.some.injEq, Prod.mk.injEq] at hi; exact hi.2.2.2
    · cases hi
  have hzz : (zeroValue e).run P w = .ok z w := by unfold zeroValue; rw [run_bind_ok (run_typeInfo hinf), hz]; rfl
  have hso : (sizeOf e).run P w = .ok sz w := by unfold sizeOf; rw [run_bind_ok (run_typeInfo hinf), ← hsz]; rfl
  have hparts : (ps.toArray.map fun (p : Nat × Operand) => (p.1, a.eval p.2)).toList = (ps.map Prod.fst).zip vs := by
    rw [← evs_map ha hv]
    simp only [List.map_toArray]
    clear hv hf
    induction ps with
    | nil => rfl
    | cons p ps ih => simpa using ih
  have hrun : (execOp a.eval ⟨some d, .buildSlice t len ps.toArray, ty, pos, af, none⟩).run P w = .ok (.value (.slice (some ⟨w.heap.size, 0, none⟩) len len)) { w with heap := w.heap.push (.cells cells.toArray e (0, 0)) } := by
    have e1 : (Instr.buildSlice t len (ps.toArray.map fun (p : Nat × Operand) => (p.1, a.eval p.2))).run P w = .ok (.slice (some ⟨w.heap.size, 0, none⟩) len len) { w with heap := w.heap.push (.cells cells.toArray e (0, 0)) } := by
      have hl2 := Nat.le_of_ble_eq_true hl
      have hgt : ¬ (len * sz > 2 ^ 24) := by omega
      unfold Instr.buildSlice
      rw [run_bind_ok (run_underlying hu w)]
      simp only []
      rw [run_bind_ok hso]
      simp only [hgt, if_false]
      by_cases h00 : len * sz = 0
      · rw [if_pos h00] at hza ⊢
        rw [run_bind_ok (x := (#[] : Array Value)) (w' := w) rfl, hza, hparts, hf]
        simp [newRow, newObj, Sem.run, bind, Sem.bind, pure]
      · rw [if_neg h00] at hza ⊢
        rw [run_bind_ok hzz, run_bind_ok (x := z.cells) (w' := w) rfl, show z.cells = za by rw [← hza, ← hzc], hparts, hf]
        simp [newRow, newObj, Sem.run, bind, Sem.bind, pure]
    show ((do let z ← Instr.buildSlice t len (ps.toArray.map fun (p : Nat × Operand) => (p.1, a.eval p.2)); pure (Next.value z) : Sem Next)).run P w = _
    rw [run_bind_ok e1]; rfl
  refine wpList_plain rfl fun K hK => ?_
  unfold Oper.wp
  rw [hrun]
  exact hK _ _ (k _ _ _ (ha.put (Nat.le_of_ble_eq_true hn)) (hw.push cells e))

/-- A block of ours becomes what is read: a slice. -/
theorem slAt_retire {α : Type} {k : Kd α} {w : World} {b T : Nat} {l : List α} {cells : List Value} (h : Own w R (.blk b cells T :: G)) (hr : k.reps R l cells) (hb : l.length ≤ big) :
    ∃ R', R.le R' ∧ SlAt k R' (some ⟨b, 0, none⟩) l ∧ Own w R' G := by
  obtain ⟨h1, h2⟩ := h.retire
  refine ⟨_, h1, ⟨hb, fun _ => ⟨b, 0, rfl⟩, fun i x hi => ?_⟩, h2⟩
  obtain ⟨c, hc1, hc2⟩ := Kd.reps_get hr i x hi
  refine ⟨c, k.mono _ _ _ _ h1 hc1, fun j v hj => ⟨cells.toArray, T, (0, 0), by simp [RO.add, ablk], ?_⟩⟩
  have := hc2 j v hj
  simpa [aoff] using this
theorem tl_retire {α : Type} {k : Kd α} {b T : Nat} {l : List α} {cells : List Value} (i : Nat) (hG : G[i]? = some (.blk b cells T)) (hr : k.reps R l cells) (hb : l.length ≤ big)
    (kont : ∀ R', R.le R' → SlAt k R' (some ⟨b, 0, none⟩) l → TL P ops Q rest n D env R' (G.eraseIdx i)) : TL P ops Q rest n D env R G := fun a w ha hw => by
  have h1 := hw.perm (pick_perm i G)
  have e : pick i G = .blk b cells T :: G.eraseIdx i := by unfold pick; rw [hG]
  rw [e] at h1
  obtain ⟨R', h2, h3, h4⟩ := slAt_retire h1 hr hb
  exact kont R' h2 h3 a w ha h4
/-- A slice of ours becomes what is read. -/
theorem own_retire {α : Type} {k : Kd α} {l : List α} {A : Option Addr} {cap T : Nat} {cs : List Value} {w : World} (i : Nat) (hw : Own w R G) (hG : G[i]? = some (.vec (.slice A l.length cap) l.length T k.sz cs)) (hr : k.reps R l cs) (hsz : Nat.blt 0 k.sz = true) (hb : l.length ≤ big) :
    ∃ R', R.le R' ∧ SlAt k R' A l ∧ Own w R' (G.eraseIdx i) := by
  have h1 := hw.perm (pick_perm i G)
  have e : pick i G = .vec (.slice A l.length cap) l.length T k.sz cs :: G.eraseIdx i := by unfold pick; rw [hG]
  rw [e] at h1
  obtain ⟨R', h2, h3, h4, -⟩ := Own.retireVec h1 hr (Nat.le_of_ble_eq_true hsz) hb
  exact ⟨R', h2, h4, h3⟩

/-- A call whose argument, a slice of ours, is lent. -/
theorem tl_callv_lend {α : Type} {k : Kd α} {l : List α} {f d ty pos af at_ xs vs v} {A : Option Addr} {cap T : Nat} {cs : List Value} (i : Nat) (hG : G[i]? = some (.vec (.slice A l.length cap) l.length T k.sz cs)) (hr : k.reps R l cs) (hsz : Nat.blt 0 k.sz = true) (hb : l.length ≤ 1000000000)
    (hc : Callable P f) (hv : evs env xs = some vs) (hk : ∀ R' w, R.le R' → SlAt k R' A l → Own w R' (G.eraseIdx i) → Calls P f vs.toArray w (Gives R' (G.eraseIdx i) v)) (hn : Nat.blt d n = true)
    (kont : TL P ops Q rest n D ((d, v) :: env) R G) : TL P ops Q (⟨some d, .call { callee := .value (.func f), args := xs.toArray, argTypes := at_ }, ty, pos, af, none⟩ :: rest) n D env R G := by
  refine tl_callv (G' := G) hc hv (fun w hw => ?_) hn kont
  have h1 := hw.perm (pick_perm i G)
  have hp : G.Perm (pick i G) := pick_perm i G
  have e : pick i G = .vec (.slice A l.length cap) l.length T k.sz cs :: G.eraseIdx i := by unfold pick; rw [hG]
  rw [e] at h1 hp
  obtain ⟨R', h2, h3, h4, h5⟩ := Own.retireVec h1 hr (Nat.le_of_ble_eq_true hsz) (by unfold big; omega)
  refine (hk R' w h2 h4 h3).mono ?_
  rintro e w' ⟨rfl, ho⟩
  exact ⟨rfl, (h5 w' ho).perm hp.symm⟩
end
end Go.Proofs.YtcbcdlajnmkioaaGreatDoor
