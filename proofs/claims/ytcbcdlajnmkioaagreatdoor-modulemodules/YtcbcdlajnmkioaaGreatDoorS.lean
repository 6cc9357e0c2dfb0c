/- A part of the proof of the statement ModuleModules of isagogelaw19: functions walked, and plain laws on what they answer. -/
import Derived.Test.YtcbcdlajnmkioaaGreatDoorP
namespace Go.Proofs.YtcbcdlajnmkioaaGreatDoor
open Go Go.Proofs
set_option linter.unusedSimpArgs false
set_option linter.unusedVariables false
set_option maxRecDepth 20000
set_option maxHeartbeats 8000000
theorem ar171 : mH Tryz.prog 171 = some (8, 3, 1) := by kernel_rfl
theorem qK0 : Callable Tryz.prog 102 := ⟨by kernel_rfl⟩
theorem ca75 : Callable Tryz.prog 75 := ⟨by kernel_rfl⟩
theorem ca80 : Callable Tryz.prog 80 := ⟨by kernel_rfl⟩
theorem ca81 : Callable Tryz.prog 81 := ⟨by kernel_rfl⟩
theorem zc3 : zG Tryz.prog 3 = some [.int .i64 0] := by kernel_rfl

def nA (n : Names) (op a len : Int) : Bool := decide (0 ≤ op ∧ op ≤ 7 ∧ len = kI op ∧ (if op = 0 then 0 ≤ a ∧ a < n.concepts.length else if op = 6 ∨ op = 7 then 0 ≤ a ∧ a < 2 * n.roles.length else a = 0))
mutual
def wM (n : Names) : Concept → Int → Int → Bool × Int
  | .mk op a args, left, deep => if left - 1 < 0 ∨ 20 < deep ∨ nA n op a args.length = false then (false, left - 1) else sM n args (left - 1) (deep + 1)
def sM (n : Names) : List Concept → Int → Int → Bool × Int
  | [], l, _ => (true, l)
  | x :: xs, l, d => if (wM n x l d).1 then sM n xs (wM n x l d).2 d else (false, (wM n x l d).2)
end
theorem pZ {n : Names} {c : Concept} {left deep : Int} (h : left - 1 < 0 ∨ 20 < deep ∨ nA n c.op c.n c.args.length = false) : wM n c left deep = (false, left - 1) := by
  cases c with
  | mk op a args => rw [wM]; exact if_pos h
theorem dB {n : Names} {c : Concept} {left deep : Int} (h : ¬ (left - 1 < 0 ∨ 20 < deep ∨ nA n c.op c.n c.args.length = false)) : wM n c left deep = sM n c.args (left - 1) (deep + 1) := by
  cases c with
  | mk op a args => rw [wM]; exact if_neg h
theorem sW {n : Names} {l : List Concept} {i : Nat} {x : Concept} {m d : Int} (hx : l[i]? = some x) (h : (wM n x m d).1 = true) : sM n (l.drop i) m d = sM n (l.drop (i + 1)) (wM n x m d).2 d := by
  obtain ⟨hi, rfl⟩ := List.getElem?_eq_some_iff.1 hx
  rw [List.drop_eq_getElem_cons hi, sM, if_pos h]
theorem yA {n : Names} {l : List Concept} {i : Nat} {x : Concept} {m d : Int} (hx : l[i]? = some x) (h : (wM n x m d).1 = false) : sM n (l.drop i) m d = (false, (wM n x m d).2) := by
  obtain ⟨hi, rfl⟩ := List.getElem?_eq_some_iff.1 hx
  rw [List.drop_eq_getElem_cons hi, sM, if_neg (by rw [h]; simp)]
theorem wA {n : Names} {l : List Concept} {i : Nat} {m d : Int} (h : i ≤ l.length) (h2 : ¬ ((i : Int) < (l.length : Int))) : sM n (l.drop i) m d = (true, m) := by
  rw [List.drop_of_length_le (by omega), sM]
theorem sB {n : Names} {op a len : Int} : nA n op a len = true ↔ 0 ≤ op ∧ op ≤ 7 ∧ len = kI op ∧ (if op = 0 then 0 ≤ a ∧ a < n.concepts.length else if op = 6 ∨ op = 7 then 0 ≤ a ∧ a < 2 * n.roles.length else a = 0) := by
  unfold nA; rw [decide_eq_true_eq]
theorem tB {n : Names} {op a len : Int} : nA n op a len = false ↔ ¬ (0 ≤ op ∧ op ≤ 7 ∧ len = kI op ∧ (if op = 0 then 0 ≤ a ∧ a < n.concepts.length else if op = 6 ∨ op = 7 then 0 ≤ a ∧ a < 2 * n.roles.length else a = 0)) := by
  rw [← Bool.not_eq_true, sB]
theorem iJ {op len : Int} (h : kI op = len) (h0 : 0 ≤ len) : 0 ≤ op ∧ op ≤ 7 := by unfold kI at h; grind
mutual
theorem fK (n : Names) : ∀ (c : Concept) (l d : Int), 0 ≤ l → ((wM n c l d).1 = true ↔ (jW c : Int) ≤ l ∧ (yH c : Int) + d ≤ 21 ∧ jZ n c = true) ∧ ((wM n c l d).1 = true → (wM n c l d).2 = l - jW c) ∧ -1 ≤ (wM n c l d).2 ∧ (wM n c l d).2 ≤ l
  | .mk op a args, l, d, hl => by
    have hs := vK n (.mk op a args)
    have hd := zZ args
    simp only [jW, yH]
    by_cases h : l - 1 < 0 ∨ 20 < d ∨ nA n op a args.length = false
    · rw [pZ (c := .mk op a args) h]
      refine ⟨⟨fun k => by simp at k, fun ⟨k1, k2, k3⟩ => ?_⟩, fun k => by simp at k, by simp; omega, by simp; omega⟩
      rcases h with h | h | h
      · omega
      · omega
      · rw [hs] at k3
        have k4 := k3.1
        simp only [Concept.op, Concept.n, Concept.args] at k4
        have k5 := iJ k4.1 (by omega)
        rw [← Bool.not_eq_true, sB] at h
        exact absurd ⟨k5.1, k5.2, k4.1.symm, by grind⟩ h
    · rw [dB (c := .mk op a args) h]
      have ⟨h1, h2, h3, h4⟩ := oI n args (l - 1) (d + 1) (by omega)
      have hn : nA n op a args.length = true := by
        cases q : nA n op a args.length
        · exact absurd (.inr (.inr q)) h
        · rfl
      rw [sB] at hn
      simp only [Concept.args]
      refine ⟨?_, fun k => by have := h2 k; omega, h3, by omega⟩
      rw [h1, hs, aE]
      simp only [Concept.op, Concept.n, Concept.args]
      constructor
      · rintro ⟨k1, k2, k3⟩; exact ⟨by omega, by (rcases k2 with k2 | k2; omega; subst k2; simp only [yC]; omega), by grind, k3⟩
      · rintro ⟨k1, k2, k3, k4⟩; exact ⟨by omega, .inl (by omega), k4⟩
theorem oI (n : Names) : ∀ (cs : List Concept) (l d : Int), 0 ≤ l → ((sM n cs l d).1 = true ↔ (jI cs : Int) ≤ l ∧ ((yC cs : Int) + d ≤ 21 ∨ cs = []) ∧ pD n cs = true) ∧ ((sM n cs l d).1 = true → (sM n cs l d).2 = l - jI cs) ∧ -1 ≤ (sM n cs l d).2 ∧ (sM n cs l d).2 ≤ l
  | [], l, d, hl => by simp [sM, jI, pD]; omega
  | x :: xs, l, d, hl => by
    have ⟨h1, h2, h3, h4⟩ := fK n x l d hl
    have hx := dL x
    have hdx : 1 ≤ yH x := by rw [nH]; omega
    cases q : (wM n x l d).1
    · rw [sM, if_neg (by rw [q]; simp)]
      refine ⟨⟨fun k => by simp at k, fun ⟨k1, k2, k3⟩ => ?_⟩, fun k => by simp at k, h3, h4⟩
      rw [q] at h1
      simp only [jI, yC, pD, Bool.and_eq_true] at k1 k2 k3
      exact absurd (h1.2 ⟨by omega, by rcases k2 with k2 | k2; omega; simp at k2, k3.1⟩) (by simp)
    · rw [sM, if_pos q]
      have e := h2 q
      have g := h1.1 q
      have ⟨m1, m2, m3, m4⟩ := oI n xs (wM n x l d).2 d (by omega)
      refine ⟨?_, fun k => by have := m2 k; simp only [jI]; omega, m3, by omega⟩
      rw [m1]
      simp only [jI, yC, pD, Bool.and_eq_true]
      constructor
      · rintro ⟨k1, k2, k3⟩
        refine ⟨by omega, .inl ?_, g.2.2, k3⟩
        rcases k2 with k2 | k2
        · omega
        · subst k2; simp only [yC]; omega
      · rintro ⟨k1, k2, k3, k4⟩
        exact ⟨by omega, by rcases k2 with k2 | k2; left; omega; simp at k2, k4⟩
end
theorem uE (n : Names) (c : Concept) (l d : Int) (h : 0 ≤ l) : -1 ≤ (wM n c l d).2 ∧ (wM n c l d).2 ≤ l ∧ ((wM n c l d).1 = true → 0 ≤ (wM n c l d).2) := by
  have ⟨h1, h2, h3, h4⟩ := fK n c l d h
  exact ⟨h3, h4, fun k => by have := h2 k; have := (h1.1 k).1; omega⟩
theorem Glob.arg {R : RO} (hG : Glob R) {i : Int} (h0 : 0 ≤ i) (h1 : i ≤ 7) : R.at 0 i.toNat [.int .i64 (kI i)] := by
  have h := hG.args
  intro j v hj
  obtain ⟨k, rfl⟩ := Int.eq_ofNat_of_zero_le h0
  have : k = 0 ∨ k = 1 ∨ k = 2 ∨ k = 3 ∨ k = 4 ∨ k = 5 ∨ k = 6 ∨ k = 7 := by omega
  have hj0 : j = 0 := by
    have := (List.getElem?_eq_some_iff.1 hj).1
    simpa using this
  subst hj0
  simp only [List.getElem?_cons_zero, Option.some.injEq] at hj
  subst hj
  rcases this with rfl | rfl | rfl | rfl | rfl | rfl | rfl | rfl
  · exact h 0 _ rfl
  · exact h 1 _ rfl
  · exact h 2 _ rfl
  · exact h 3 _ rfl
  · exact h 4 _ rfl
  · exact h 5 _ rfl
  · exact h 6 _ rfl
  · exact h 7 _ rfl

theorem dV (m : Nat) : ∀ {R : RO} {G : List Res} {w : World} {c_n : List Value} (n : Names) {c_c : List Value} (c : Concept) (left : Int) {b_left : Nat} (deep : Int) (hr_n : kNames.rep R n c_n) (hr_c : kConcept.rep R c c_c) (hi_left : i64 left) (hi_deep : i64 deep) (hG : Glob R) (hl : 0 ≤ left ∧ left ≤ 1000) (hd : 0 ≤ deep ∧ deep ≤ 30), SizeOf.sizeOf c = m → Own w R (.blk b_left [.int .i64 left] 3 :: G) →
    Calls Tryz.prog 102 [.agg c_n.toArray, .agg c_c.toArray, .pointer (some ⟨b_left, 0, none⟩), .int .i64 deep].toArray w (gZ R G (fun v_ R' L_ => v_ = (.bool ((wM n c left deep).1) : Value) ∧ L_ = ([.blk b_left [.int .i64 ((wM n c left deep).2)] 3] : List Res))) := by
 induction m using Nat.strongRecOn with
 | _ m ih =>
  intro R G w c_n n c_c c left b_left deep hr_n hr_c hi_left hi_deep hG hl hd hm hw
  subst hm
  replace ih := Aside.mk ih
  obtain ⟨A1, d2, A5, d6, A9, d10, rfl, hs3, hs7, hs11⟩ := id hr_n
  have z4 := hs3.size
  unfold big at z4
  have z8 := hs7.size
  unfold big at z8
  have z12 := hs11.size
  unfold big at z12
  obtain ⟨A13, d14, rfl, i15, i16, hs17⟩ := qM hr_c
  unfold i64 at i15 i16
  have z18 := hs17.size
  unfold big at z18
  unfold i64 at hi_deep
  refine xH (vs := [.agg #[.slice A1 n.concepts.length d2, .slice A5 n.roles.length d6, .slice A9 n.inds.length d10], .agg #[.int .i64 c.op, .int .i64 c.n, .slice A13 c.args.length d14], .pointer (some ⟨b_left, 0, none⟩), .int .i64 deep]) Tryz.func102 rfl rfl rfl ?_ hw
  refine qE <| qA ?_
  refine qW (l := [.slice A1 n.concepts.length d2, .slice A5 n.roles.length d6, .slice A9 n.inds.length d10]) rfl rfl fun b19 => ?_
  refine qW (l := [.int .i64 c.op, .int .i64 c.n, .slice A13 c.args.length d14]) rfl rfl fun b20 => ?_
  refine tl (qD rfl) ?_
  refine qB <| qC <| qE <| qA ?_
  refine tl (qG rfl) ?_
  refine tl (zN rfl) ?_
  refine tl (jM 2 rfl ld3 rfl rfl) ?_
  refine tl (bV rfl rfl (by omega) (by omega)) ?_
  refine tl (zN rfl) ?_
  refine xN 2 [.int .i64 (left - 1)] rfl rfl ld3 rfl rfl rfl rfl rfl rfl ?_
  refine qB <| qC <| qE ?_
  refine vH [(0, .agg #[.slice A1 n.concepts.length d2, .slice A5 n.roles.length d6, .slice A9 n.inds.length d10]), (1, .agg #[.int .i64 c.op, .int .i64 c.n, .slice A13 c.args.length d14]), (2, .pointer (some ⟨b_left, 0, none⟩)), (3, .int .i64 deep), (4, .pointer (some ⟨b19, 0, none⟩)), (5, .pointer (some ⟨b20, 0, none⟩)), (8, .bool false), (43, .bool (decide ((((((left - 1) < 0) ∨ (20 < deep)) ∨ (c.op < 0)) ∨ (7 < c.op)) ∨ (¬ (c.args.length : Int) = (kI c.op)))))] (.blk b20 [.int .i64 c.op, .int .i64 c.n, .slice A13 c.args.length d14] 37 :: .blk b19 [.slice A1 n.concepts.length d2, .slice A5 n.roles.length d6, .slice A9 n.inds.length d10] 24 :: .blk b_left [.int .i64 (left - 1)] 3 :: G) (fun _ => True) (fun K hK21 hE22 => ?_) ?_
  refine wG mixed (by kernel_rfl) ?_
  refine tq (qG rfl) ?_
  refine tq (zN rfl) ?_
  refine tq (jM 2 rfl ld3 rfl rfl) ?_
  refine tq (jR rfl rfl rfl) ?_
  refine tq (qG rfl) ?_
  refine yI 20 rfl (fun h23 => ?_) (fun h23 => ?_)
  refine xA 20 rfl rfl rfl ?_
  refine xA 20 rfl rfl rfl ?_
  refine tq (qR rfl rfl) ?_
  refine tq (qG rfl) ?_
  refine xA 24 rfl rfl rfl ?_
  refine xA 24 rfl rfl rfl ?_
  refine xA 24 rfl rfl rfl ?_
  refine tq (qR rfl rfl) ?_
  refine tq (qG rfl) ?_
  refine xA 29 rfl rfl rfl ?_
  refine xA 29 rfl rfl rfl ?_
  refine xA 29 rfl rfl rfl ?_
  refine tq (qR rfl rfl) ?_
  refine tq (qG rfl) ?_
  refine xA 34 rfl rfl rfl ?_
  refine xA 34 rfl rfl rfl ?_
  refine xA 34 rfl rfl rfl ?_
  refine xA 34 rfl rfl rfl ?_
  refine xA 34 rfl rfl rfl ?_
  refine xA 34 rfl rfl rfl ?_
  refine xA 34 rfl rfl rfl ?_
  refine xA 34 rfl rfl rfl ?_
  refine tq (qR rfl rfl) ?_
  refine vD ?_
  exact xW hK21 (.refl _) (trivial) ⟨rfl, rfl, rfl, rfl, rfl, rfl, rfl, show some (Value.bool true) = some (Value.bool (decide ((((((left - 1) < 0) ∨ (20 < deep)) ∨ (c.op < 0)) ∨ (7 < c.op)) ∨ (¬ (c.args.length : Int) = (kI c.op))))) by first | (simp [h23]; done) | grind | (simp [h23] <;> omega), trivial⟩ (fun w hw => hw)
  refine xU 20 rfl rfl ?_
  refine tq (qG rfl) ?_
  refine xU 20 rfl rfl ?_
  refine tq (jR rfl rfl rfl) ?_
  refine tq (qO rfl rfl) ?_
  refine tq (qG rfl) ?_
  refine yI 24 rfl (fun h24 => ?_) (fun h24 => ?_)
  refine xA 24 rfl rfl rfl ?_
  refine xA 24 rfl rfl rfl ?_
  refine xA 24 rfl rfl rfl ?_
  refine tq (qR rfl rfl) ?_
  refine tq (qG rfl) ?_
  refine xA 29 rfl rfl rfl ?_
  refine xA 29 rfl rfl rfl ?_
  refine xA 29 rfl rfl rfl ?_
  refine tq (qR rfl rfl) ?_
  refine tq (qG rfl) ?_
  refine xA 34 rfl rfl rfl ?_
  refine xA 34 rfl rfl rfl ?_
  refine xA 34 rfl rfl rfl ?_
  refine xA 34 rfl rfl rfl ?_
  refine xA 34 rfl rfl rfl ?_
  refine xA 34 rfl rfl rfl ?_
  refine xA 34 rfl rfl rfl ?_
  refine xA 34 rfl rfl rfl ?_
  refine tq (qR rfl rfl) ?_
  refine vD ?_
  exact xW hK21 (.refl _) (trivial) ⟨rfl, rfl, rfl, rfl, rfl, rfl, rfl, show some (Value.bool true) = some (Value.bool (decide ((((((left - 1) < 0) ∨ (20 < deep)) ∨ (c.op < 0)) ∨ (7 < c.op)) ∨ (¬ (c.args.length : Int) = (kI c.op))))) by first | (simp [h23, h24]; done) | grind | (simp [h23, h24] <;> omega), trivial⟩ (fun w hw => hw)
  refine xU 24 rfl rfl ?_
  refine tq (qH 0 rfl sP rfl) ?_
  refine xU 24 rfl rfl ?_
  refine tq (jM 0 rfl ld3 rfl rfl) ?_
  refine xU 24 rfl rfl ?_
  refine tq (jR rfl rfl rfl) ?_
  refine tq (qO rfl rfl) ?_
  refine tq (qG rfl) ?_
  refine yI 29 rfl (fun h25 => ?_) (fun h25 => ?_)
  refine xA 29 rfl rfl rfl ?_
  refine xA 29 rfl rfl rfl ?_
  refine xA 29 rfl rfl rfl ?_
  refine tq (qR rfl rfl) ?_
  refine tq (qG rfl) ?_
  refine xA 34 rfl rfl rfl ?_
  refine xA 34 rfl rfl rfl ?_
  refine xA 34 rfl rfl rfl ?_
  refine xA 34 rfl rfl rfl ?_
  refine xA 34 rfl rfl rfl ?_
  refine xA 34 rfl rfl rfl ?_
  refine xA 34 rfl rfl rfl ?_
  refine xA 34 rfl rfl rfl ?_
  refine tq (qR rfl rfl) ?_
  refine vD ?_
  exact xW hK21 (.refl _) (trivial) ⟨rfl, rfl, rfl, rfl, rfl, rfl, rfl, show some (Value.bool true) = some (Value.bool (decide ((((((left - 1) < 0) ∨ (20 < deep)) ∨ (c.op < 0)) ∨ (7 < c.op)) ∨ (¬ (c.args.length : Int) = (kI c.op))))) by first | (simp [h23, h24, h25]; done) | grind | (simp [h23, h24, h25] <;> omega), trivial⟩ (fun w hw => hw)
  refine xU 29 rfl rfl ?_
  refine tq (qH 0 rfl sP rfl) ?_
  refine xU 29 rfl rfl ?_
  refine tq (jM 0 rfl ld3 rfl rfl) ?_
  refine xU 29 rfl rfl ?_
  refine tq (jR rfl rfl rfl) ?_
  refine tq (qO rfl rfl) ?_
  refine tq (qG rfl) ?_
  refine yI 34 rfl (fun h26 => ?_) (fun h26 => ?_)
  refine xA 34 rfl rfl rfl ?_
  refine xA 34 rfl rfl rfl ?_
  refine xA 34 rfl rfl rfl ?_
  refine xA 34 rfl rfl rfl ?_
  refine xA 34 rfl rfl rfl ?_
  refine xA 34 rfl rfl rfl ?_
  refine xA 34 rfl rfl rfl ?_
  refine xA 34 rfl rfl rfl ?_
  refine tq (qR rfl rfl) ?_
  refine vD ?_
  exact xW hK21 (.refl _) (trivial) ⟨rfl, rfl, rfl, rfl, rfl, rfl, rfl, show some (Value.bool true) = some (Value.bool (decide ((((((left - 1) < 0) ∨ (20 < deep)) ∨ (c.op < 0)) ∨ (7 < c.op)) ∨ (¬ (c.args.length : Int) = (kI c.op))))) by first | (simp [h23, h24, h25, h26]; done) | grind | (simp [h23, h24, h25, h26] <;> omega), trivial⟩ (fun w hw => hw)
  refine xU 34 rfl rfl ?_
  refine tq (qH 2 rfl wR rfl) ?_
  refine xU 34 rfl rfl ?_
  refine tq (jM 0 rfl dH rfl rfl) ?_
  refine xU 34 rfl rfl ?_
  refine tq (jJ rfl sK) ?_
  refine xU 34 rfl rfl ?_
  refine tq (qH 0 rfl sP rfl) ?_
  refine xU 34 rfl rfl ?_
  refine tq (jM 0 rfl ld3 rfl rfl) ?_
  refine xU 34 rfl rfl ?_
  have hb27 : 0 ≤ c.op ∧ c.op ≤ 7 := by omega
  refine tq (v_idxG (c.op).toNat rfl rfl ar171 hb27.1 (by omega) (by omega)) ?_
  refine xU 34 rfl rfl ?_
  refine tq (yN 0 (hG.arg hb27.1 hb27.2) rfl ld3 rfl rfl) ?_
  refine xU 34 rfl rfl ?_
  refine tq (jR rfl rfl rfl) ?_
  refine tq (qO rfl rfl) ?_
  refine vD ?_
  exact xW hK21 (.refl _) (trivial) ⟨rfl, rfl, rfl, rfl, rfl, rfl, rfl, show some (Value.bool (decide (¬ (c.args.length : Int) = (kI c.op)))) = some (Value.bool (decide ((((((left - 1) < 0) ∨ (20 < deep)) ∨ (c.op < 0)) ∨ (7 < c.op)) ∨ (¬ (c.args.length : Int) = (kI c.op))))) by first | (simp [h23, h24, h25, h26]; done) | grind | (simp [h23, h24, h25, h26] <;> omega), trivial⟩ (fun w hw => hw)
  refine fun R29 hle30 hj28 => jH hle30 ?_
  refine qP 43 rfl (fun h31 => ?_) (fun h31 => ?_)
  refine xE rfl ?_
  refine qE <| qA ?_
  refine tl (qD rfl) ?_
  refine qB <| qC <| qV <| qI ?_
  refine xB (.inl rfl) rfl rfl ?_
  have e32 : (false : Bool) = (wM n c left deep).1 := by (rw [pZ (n := n) (c := c) (left := left) (deep := deep) (by grind [tB])])
  have e33 : (left - 1 : Int) = (wM n c left deep).2 := by (rw [pZ (n := n) (c := c) (left := left) (deep := deep) (by grind [tB])])
  intro w hw
  exact ⟨_, _, [.blk b_left [.int .i64 (left - 1)] 3], rfl, .refl _, hw.drop 2, (congrArg (fun (z0_ : Bool) => (.bool z0_ : Value)) e32), (congrArg (fun (z1_ : Int) => ([.blk b_left [.int .i64 z1_] 3] : List Res)) e33)⟩
  refine xV rfl ?_
  refine qZ <| qC <| qE <| qE <| qA ?_
  refine tl (qH 0 rfl sP rfl) ?_
  refine tl (jM 0 rfl ld3 rfl rfl) ?_
  refine qB <| qC <| qX <| qE <| qA ?_
  refine tl (jR rfl rfl rfl) ?_
  refine tl (qD rfl) ?_
  refine qB <| qC ?_
  refine qP 49 rfl (fun h34 => ?_) (fun h34 => ?_)
  refine xE rfl ?_
  refine vH [(0, .agg #[.slice A1 n.concepts.length d2, .slice A5 n.roles.length d6, .slice A9 n.inds.length d10]), (1, .agg #[.int .i64 c.op, .int .i64 c.n, .slice A13 c.args.length d14]), (2, .pointer (some ⟨b_left, 0, none⟩)), (3, .int .i64 deep), (4, .pointer (some ⟨b19, 0, none⟩)), (5, .pointer (some ⟨b20, 0, none⟩)), (8, .bool false), (43, .bool false), (45, .int .i64 c.op), (49, .bool true), (61, .bool (decide ((c.n < 0) ∨ ((n.concepts.length : Int) ≤ c.n))))] (.blk b20 [.int .i64 c.op, .int .i64 c.n, .slice A13 c.args.length d14] 37 :: .blk b19 [.slice A1 n.concepts.length d2, .slice A5 n.roles.length d6, .slice A9 n.inds.length d10] 24 :: .blk b_left [.int .i64 (left - 1)] 3 :: G) (fun _ => True) (fun K hK35 hE36 => ?_) ?_
  refine qA ?_
  refine tl (qH 1 rfl zA rfl) ?_
  refine tl (jM 0 rfl ld3 rfl rfl) ?_
  refine tl (jR rfl rfl rfl) ?_
  refine tl (qG rfl) ?_
  refine xX 54 rfl (fun h37 => ?_) (fun h37 => ?_)
  refine qF 54 rfl rfl rfl ?_
  refine qF 54 rfl rfl rfl ?_
  refine qF 54 rfl rfl rfl ?_
  refine qF 54 rfl rfl rfl ?_
  refine qF 54 rfl rfl rfl ?_
  refine qF 54 rfl rfl rfl ?_
  refine tl (qR rfl rfl) ?_
  refine qB ?_
  exact xW hK35 (.refl _) (trivial) ⟨rfl, rfl, rfl, rfl, rfl, rfl, rfl, rfl, rfl, rfl, show some (Value.bool true) = some (Value.bool (decide ((c.n < 0) ∨ ((n.concepts.length : Int) ≤ c.n)))) by first | (simp [h37]; done) | grind | (simp [h37] <;> omega), trivial⟩ (fun w hw => hw)
  refine qJ 54 rfl rfl ?_
  refine tl (qH 1 rfl zA rfl) ?_
  refine qJ 54 rfl rfl ?_
  refine tl (jM 0 rfl ld3 rfl rfl) ?_
  refine qJ 54 rfl rfl ?_
  refine tl (qH 0 rfl bN rfl) ?_
  refine qJ 54 rfl rfl ?_
  refine tl (jM 1 rfl uO rfl rfl) ?_
  refine qJ 54 rfl rfl ?_
  refine tl (jJ rfl uK) ?_
  refine qJ 54 rfl rfl ?_
  refine tl (jR rfl rfl rfl) ?_
  refine tl (qO rfl rfl) ?_
  refine qB ?_
  exact xW hK35 (.refl _) (trivial) ⟨rfl, rfl, rfl, rfl, rfl, rfl, rfl, rfl, rfl, rfl, show some (Value.bool (decide ((n.concepts.length : Int) ≤ c.n))) = some (Value.bool (decide ((c.n < 0) ∨ ((n.concepts.length : Int) ≤ c.n)))) by first | (simp [h37]; done) | grind | (simp [h37] <;> omega), trivial⟩ (fun w hw => hw)
  refine fun R39 hle40 hj38 => jH hle40 ?_
  refine qP 61 rfl (fun h41 => ?_) (fun h41 => ?_)
  refine xE rfl ?_
  refine qE <| qA ?_
  refine tl (qD rfl) ?_
  refine qB <| qC <| qV <| qN <| qI ?_
  refine xB (.inl rfl) rfl rfl ?_
  have e42 : (false : Bool) = (wM n c left deep).1 := by (rw [pZ (n := n) (c := c) (left := left) (deep := deep) (by grind [tB])])
  have e43 : (left - 1 : Int) = (wM n c left deep).2 := by (rw [pZ (n := n) (c := c) (left := left) (deep := deep) (by grind [tB])])
  intro w hw
  exact ⟨_, _, [.blk b_left [.int .i64 (left - 1)] 3], rfl, .refl _, hw.drop 2, (congrArg (fun (z0_ : Bool) => (.bool z0_ : Value)) e42), (congrArg (fun (z1_ : Int) => ([.blk b_left [.int .i64 z1_] 3] : List Res)) e43)⟩
  refine xV rfl ?_
  refine qZ <| jC <| qC <| qE <| qE <| qA ?_
  refine tl (qH 2 rfl wR rfl) ?_
  refine tl (jM 0 rfl dH rfl rfl) ?_
  refine tl (jJ rfl sK) ?_
  refine tl (qG rfl) ?_
  refine qB <| qC <| qX ?_
  refine jF ?_
  refine jN (fun b_ : Nat × Int => match b_ with | (i, m) => c.args.length - i) (fun b_ : Nat × Int => match b_ with | (i, m) => [(2, .pointer (some ⟨b_left, 0, none⟩)), (3, .int .i64 deep), (4, .pointer (some ⟨b19, 0, none⟩)), (78, .slice A13 c.args.length d14), (79, .int .i64 (c.args.length : Int)), (80, .int .i64 (i : Int))]) (fun b_ : Nat × Int => match b_ with | (i, m) => (.blk b20 [.int .i64 c.op, .int .i64 c.n, .slice A13 c.args.length d14] 37 :: .blk b19 [.slice A1 n.concepts.length d2, .slice A5 n.roles.length d6, .slice A9 n.inds.length d10] 24 :: .blk b_left [.int .i64 m] 3 :: G)) (fun (b_ : Nat × Int) => match b_ with | (i, m) => i ≤ c.args.length ∧ 0 ≤ m ∧ m ≤ 1000 ∧ sM n (c.args.drop i) m (deep + 1) = wM n c left deep) (0, left - 1) (by repeat' constructor) (by refine ⟨by omega, by omega, by omega, ?_⟩; rw [List.drop_zero]; exact (dB (by grind [sB])).symm) (fun w hw => hw) ?_
  rintro ⟨i, m⟩ hI44 ih45
  show TC Tryz.prog _ _ _ [] [(2, .pointer (some ⟨b_left, 0, none⟩)), (3, .int .i64 deep), (4, .pointer (some ⟨b19, 0, none⟩)), (78, .slice A13 c.args.length d14), (79, .int .i64 (c.args.length : Int)), (80, .int .i64 (i : Int))] R (.blk b20 [.int .i64 c.op, .int .i64 c.n, .slice A13 c.args.length d14] 37 :: .blk b19 [.slice A1 n.concepts.length d2, .slice A5 n.roles.length d6, .slice A9 n.inds.length d10] 24 :: .blk b_left [.int .i64 m] 3 :: G)
  obtain ⟨hi1, hi2, hi3, hi4⟩ := hI44
  refine qE <| qA ?_
  refine tl (jR rfl rfl rfl) ?_
  refine qB <| qC <| qE ?_
  refine qP 81 rfl (fun h48 => ?_) (fun h48 => ?_)
  refine xE rfl ?_
  refine qZ <| qC <| qE <| qX <| qE <| qA ?_
  have hb54 : i < c.args.length := by omega
  obtain ⟨x49, hx50⟩ : ∃ x, c.args[i]? = some x := ⟨_, List.getElem?_eq_getElem hb54⟩
  obtain ⟨c51, hr52, ha53⟩ := hs17.get _ x49 hx50
  obtain ⟨A55, d56, rfl, i57, i58, hs59⟩ := qM hr52
  unfold i64 at i57 i58
  have z60 := hs59.size
  unfold big at z60
  refine tl (jV (i := i) hs17 rfl rfl rfl sK hb54) ?_
  refine tl (jA 0 [.int .i64 x49.op, .int .i64 x49.n, .slice A55 x49.args.length d56] ha53 rfl vU rfl rfl) ?_
  refine qS eZ rfl fun b61 => ?_
  refine xN 0 [.int .i64 x49.op, .int .i64 x49.n, .slice A55 x49.args.length d56] rfl rfl vU rfl rfl rfl rfl rfl rfl ?_
  refine qB <| qC <| qE <| qA ?_
  refine tl (qQ 2 [.slice A1 n.concepts.length d2, .slice A5 n.roles.length d6, .slice A9 n.inds.length d10] rfl bT rfl rfl) ?_
  refine tl (qQ 0 [.int .i64 x49.op, .int .i64 x49.n, .slice A55 x49.args.length d56] rfl vU rfl rfl) ?_
  refine tl (qG rfl) ?_
  refine tl (qG rfl) ?_
  refine tl (jT rfl rfl (by omega) (by omega)) ?_
  refine tR (.blk b_left [.int .i64 m] 3 :: .blk b61 [.int .i64 x49.op, .int .i64 x49.n, .slice A55 x49.args.length d56] 37 :: .blk b20 [.int .i64 c.op, .int .i64 c.n, .slice A13 c.args.length d14] 37 :: .blk b19 [.slice A1 n.concepts.length d2, .slice A5 n.roles.length d6, .slice A9 n.inds.length d10] 24 :: G) (fun w hw => (hw.pick 3)) ?_
  refine xD qK0 rfl (fun w hw => ih.out (SizeOf.sizeOf x49) (by exact Concept.sizeOf_arg hx50) n x49 m (deep + 1) hr_n hr52 (by unfold i64; omega) (by unfold i64; omega) (by first | assumption | omega) (by first | assumption | omega) (by first | assumption | omega) rfl hw) rfl ?_
  rintro _ R63 _ hle64 ⟨rfl, rfl⟩
  try replace hr_n := kNames.mono _ _ _ _ hle64 hr_n
  try replace hs17 := hs17.mono hle64
  try replace hr_c := kConcept.mono _ _ _ _ hle64 hr_c
  try replace hG := hG.mono hle64
  have hf65 := uE n x49 m (deep + 1) (by omega)
  refine tl (wJ rfl) ?_
  refine qB <| qC ?_
  refine vI 90 rfl (fun h66 => ?_) (fun h66 => ?_)
  refine xE rfl ?_
  refine qE <| qA ?_
  refine tl (qD rfl) ?_
  refine qB <| qC <| qV <| qN <| qI <| qI <| qN <| qI ?_
  refine xB (.inl rfl) rfl rfl ?_
  have e67 : (false : Bool) = (wM n c left deep).1 := by (rw [← hi4, yA hx50 (by grind)])
  have e68 : ((wM n x49 m (deep + 1)).2 : Int) = (wM n c left deep).2 := by (rw [← hi4, yA hx50 (by grind)])
  intro w hw
  exact ⟨_, _, [.blk b_left [.int .i64 ((wM n x49 m (deep + 1)).2)] 3], rfl, hle64, (((hw.pick 1).tail.pick 1).tail.pick 1).tail, (congrArg (fun (z0_ : Bool) => (.bool z0_ : Value)) e67), (congrArg (fun (z1_ : Int) => ([.blk b_left [.int .i64 z1_] 3] : List Res)) e68)⟩
  refine xV rfl ?_
  refine qZ <| jC <| qC <| qA ?_
  refine tl (jT rfl rfl (by omega) (by omega)) ?_
  refine tl (qG rfl) ?_
  refine qB ?_
  refine xQ ?_
  exact fun a w ha hw => ih45.out (i + 1, (wM n x49 m (deep + 1)).2) (by exact ⟨by omega, by grind, by omega, by rw [← sW hx50 (by grind)]; exact hi4⟩) (by (try dsimp only); omega) a w (ha.sub (xL (by repeat' constructor))) (((((hw.pick 1).tail.pick 2).pick 2)).weaken hle64)
  refine xV rfl ?_
  refine jE <| qK <| qK <| xG <| qC <| qE <| qA ?_
  refine tl (qD rfl) ?_
  refine qB <| qC <| qV ?_
  refine xB (.inl rfl) rfl rfl ?_
  have e69 : (true : Bool) = (wM n c left deep).1 := by (rw [← hi4, wA (by omega) (by assumption)])
  have e70 : (m : Int) = (wM n c left deep).2 := by (rw [← hi4, wA (by omega) (by assumption)])
  intro w hw
  exact ⟨_, _, [.blk b_left [.int .i64 m] 3], rfl, .refl _, hw.drop 2, (congrArg (fun (z0_ : Bool) => (.bool z0_ : Value)) e69), (congrArg (fun (z1_ : Int) => ([.blk b_left [.int .i64 z1_] 3] : List Res)) e70)⟩
  refine xV rfl ?_
  refine qE <| qE <| qA ?_
  refine tl (jR rfl rfl rfl) ?_
  refine tl (qD rfl) ?_
  refine qB <| qC ?_
  refine qP 62 rfl (fun h71 => ?_) (fun h71 => ?_)
  refine xE rfl ?_
  refine qZ <| qC ?_
  refine xE rfl ?_
  refine vH [(0, .agg #[.slice A1 n.concepts.length d2, .slice A5 n.roles.length d6, .slice A9 n.inds.length d10]), (1, .agg #[.int .i64 c.op, .int .i64 c.n, .slice A13 c.args.length d14]), (2, .pointer (some ⟨b_left, 0, none⟩)), (3, .int .i64 deep), (4, .pointer (some ⟨b19, 0, none⟩)), (5, .pointer (some ⟨b20, 0, none⟩)), (8, .bool false), (43, .bool false), (45, .int .i64 c.op), (49, .bool false), (62, .bool true), (76, .bool (decide ((c.n < 0) ∨ ((2 * (n.roles.length : Int)) ≤ c.n))))] (.blk b20 [.int .i64 c.op, .int .i64 c.n, .slice A13 c.args.length d14] 37 :: .blk b19 [.slice A1 n.concepts.length d2, .slice A5 n.roles.length d6, .slice A9 n.inds.length d10] 24 :: .blk b_left [.int .i64 (left - 1)] 3 :: G) (fun _ => True) (fun K hK72 hE73 => ?_) ?_
  refine qA ?_
  refine tl (qH 1 rfl zA rfl) ?_
  refine tl (jM 0 rfl ld3 rfl rfl) ?_
  refine tl (jR rfl rfl rfl) ?_
  refine tl (qG rfl) ?_
  refine xX 68 rfl (fun h74 => ?_) (fun h74 => ?_)
  refine qF 68 rfl rfl rfl ?_
  refine qF 68 rfl rfl rfl ?_
  refine qF 68 rfl rfl rfl ?_
  refine qF 68 rfl rfl rfl ?_
  refine qF 68 rfl rfl rfl ?_
  refine qF 68 rfl rfl rfl ?_
  refine qF 68 rfl rfl rfl ?_
  refine tl (qR rfl rfl) ?_
  refine qB ?_
  exact xW hK72 (.refl _) (trivial) ⟨rfl, rfl, rfl, rfl, rfl, rfl, rfl, rfl, rfl, rfl, rfl, show some (Value.bool true) = some (Value.bool (decide ((c.n < 0) ∨ ((2 * (n.roles.length : Int)) ≤ c.n)))) by first | (simp [h74]; done) | grind | (simp [h74] <;> omega), trivial⟩ (fun w hw => hw)
  refine qJ 68 rfl rfl ?_
  refine tl (qH 1 rfl zA rfl) ?_
  refine qJ 68 rfl rfl ?_
  refine tl (jM 0 rfl ld3 rfl rfl) ?_
  refine qJ 68 rfl rfl ?_
  refine tl (qH 1 rfl pP rfl) ?_
  refine qJ 68 rfl rfl ?_
  refine tl (jM 1 rfl uO rfl rfl) ?_
  refine qJ 68 rfl rfl ?_
  refine tl (jJ rfl uK) ?_
  refine qJ 68 rfl rfl ?_
  refine tl (qH4 rfl rfl (by omega) (by omega)) ?_
  refine qJ 68 rfl rfl ?_
  refine tl (jR rfl rfl rfl) ?_
  refine tl (qO rfl rfl) ?_
  refine qB ?_
  exact xW hK72 (.refl _) (trivial) ⟨rfl, rfl, rfl, rfl, rfl, rfl, rfl, rfl, rfl, rfl, rfl, show some (Value.bool (decide ((2 * (n.roles.length : Int)) ≤ c.n))) = some (Value.bool (decide ((c.n < 0) ∨ ((2 * (n.roles.length : Int)) ≤ c.n)))) by first | (simp [h74]; done) | grind | (simp [h74] <;> omega), trivial⟩ (fun w hw => hw)
  refine fun R76 hle77 hj75 => jH hle77 ?_
  refine qP 76 rfl (fun h78 => ?_) (fun h78 => ?_)
  refine xE rfl ?_
  refine qE <| qA ?_
  refine tl (qD rfl) ?_
  refine qB <| qC <| qV <| qN <| qI ?_
  refine xB (.inl rfl) rfl rfl ?_
  have e79 : (false : Bool) = (wM n c left deep).1 := by (rw [pZ (n := n) (c := c) (left := left) (deep := deep) (by grind [tB])])
  have e80 : (left - 1 : Int) = (wM n c left deep).2 := by (rw [pZ (n := n) (c := c) (left := left) (deep := deep) (by grind [tB])])
  intro w hw
  exact ⟨_, _, [.blk b_left [.int .i64 (left - 1)] 3], rfl, .refl _, hw.drop 2, (congrArg (fun (z0_ : Bool) => (.bool z0_ : Value)) e79), (congrArg (fun (z1_ : Int) => ([.blk b_left [.int .i64 z1_] 3] : List Res)) e80)⟩
  refine xV rfl ?_
  refine qZ <| jC <| qC <| qE <| qE <| qA ?_
  refine tl (qH 2 rfl wR rfl) ?_
  refine tl (jM 0 rfl dH rfl rfl) ?_
  refine tl (jJ rfl sK) ?_
  refine tl (qG rfl) ?_
  refine qB <| qC <| qX ?_
  refine jF ?_
  refine jN (fun b_ : Nat × Int => match b_ with | (i, m) => c.args.length - i) (fun b_ : Nat × Int => match b_ with | (i, m) => [(2, .pointer (some ⟨b_left, 0, none⟩)), (3, .int .i64 deep), (4, .pointer (some ⟨b19, 0, none⟩)), (78, .slice A13 c.args.length d14), (79, .int .i64 (c.args.length : Int)), (80, .int .i64 (i : Int))]) (fun b_ : Nat × Int => match b_ with | (i, m) => (.blk b20 [.int .i64 c.op, .int .i64 c.n, .slice A13 c.args.length d14] 37 :: .blk b19 [.slice A1 n.concepts.length d2, .slice A5 n.roles.length d6, .slice A9 n.inds.length d10] 24 :: .blk b_left [.int .i64 m] 3 :: G)) (fun (b_ : Nat × Int) => match b_ with | (i, m) => i ≤ c.args.length ∧ 0 ≤ m ∧ m ≤ 1000 ∧ sM n (c.args.drop i) m (deep + 1) = wM n c left deep) (0, left - 1) (by repeat' constructor) (by refine ⟨by omega, by omega, by omega, ?_⟩; rw [List.drop_zero]; exact (dB (by grind [sB])).symm) (fun w hw => hw) ?_
  rintro ⟨i, m⟩ hI81 ih82
  show TC Tryz.prog _ _ _ [] [(2, .pointer (some ⟨b_left, 0, none⟩)), (3, .int .i64 deep), (4, .pointer (some ⟨b19, 0, none⟩)), (78, .slice A13 c.args.length d14), (79, .int .i64 (c.args.length : Int)), (80, .int .i64 (i : Int))] R (.blk b20 [.int .i64 c.op, .int .i64 c.n, .slice A13 c.args.length d14] 37 :: .blk b19 [.slice A1 n.concepts.length d2, .slice A5 n.roles.length d6, .slice A9 n.inds.length d10] 24 :: .blk b_left [.int .i64 m] 3 :: G)
  obtain ⟨hi1, hi2, hi3, hi4⟩ := hI81
  refine qE <| qA ?_
  refine tl (jR rfl rfl rfl) ?_
  refine qB <| qC <| qE ?_
  refine qP 81 rfl (fun h85 => ?_) (fun h85 => ?_)
  refine xE rfl ?_
  refine qZ <| qC <| qE <| qX <| qE <| qA ?_
  have hb91 : i < c.args.length := by omega
  obtain ⟨x86, hx87⟩ : ∃ x, c.args[i]? = some x := ⟨_, List.getElem?_eq_getElem hb91⟩
  obtain ⟨c88, hr89, ha90⟩ := hs17.get _ x86 hx87
  obtain ⟨A92, d93, rfl, i94, i95, hs96⟩ := qM hr89
  unfold i64 at i94 i95
  have z97 := hs96.size
  unfold big at z97
  refine tl (jV (i := i) hs17 rfl rfl rfl sK hb91) ?_
  refine tl (jA 0 [.int .i64 x86.op, .int .i64 x86.n, .slice A92 x86.args.length d93] ha90 rfl vU rfl rfl) ?_
  refine qS eZ rfl fun b98 => ?_
  refine xN 0 [.int .i64 x86.op, .int .i64 x86.n, .slice A92 x86.args.length d93] rfl rfl vU rfl rfl rfl rfl rfl rfl ?_
  refine qB <| qC <| qE <| qA ?_
  refine tl (qQ 2 [.slice A1 n.concepts.length d2, .slice A5 n.roles.length d6, .slice A9 n.inds.length d10] rfl bT rfl rfl) ?_
  refine tl (qQ 0 [.int .i64 x86.op, .int .i64 x86.n, .slice A92 x86.args.length d93] rfl vU rfl rfl) ?_
  refine tl (qG rfl) ?_
  refine tl (qG rfl) ?_
  refine tl (jT rfl rfl (by omega) (by omega)) ?_
  refine tR (.blk b_left [.int .i64 m] 3 :: .blk b98 [.int .i64 x86.op, .int .i64 x86.n, .slice A92 x86.args.length d93] 37 :: .blk b20 [.int .i64 c.op, .int .i64 c.n, .slice A13 c.args.length d14] 37 :: .blk b19 [.slice A1 n.concepts.length d2, .slice A5 n.roles.length d6, .slice A9 n.inds.length d10] 24 :: G) (fun w hw => (hw.pick 3)) ?_
  refine xD qK0 rfl (fun w hw => ih.out (SizeOf.sizeOf x86) (by exact Concept.sizeOf_arg hx87) n x86 m (deep + 1) hr_n hr89 (by unfold i64; omega) (by unfold i64; omega) (by first | assumption | omega) (by first | assumption | omega) (by first | assumption | omega) rfl hw) rfl ?_
  rintro _ R100 _ hle101 ⟨rfl, rfl⟩
  try replace hr_n := kNames.mono _ _ _ _ hle101 hr_n
  try replace hs17 := hs17.mono hle101
  try replace hr_c := kConcept.mono _ _ _ _ hle101 hr_c
  try replace hG := hG.mono hle101
  have hf102 := uE n x86 m (deep + 1) (by omega)
  refine tl (wJ rfl) ?_
  refine qB <| qC ?_
  refine vI 90 rfl (fun h103 => ?_) (fun h103 => ?_)
  refine xE rfl ?_
  refine qE <| qA ?_
  refine tl (qD rfl) ?_
  refine qB <| qC <| qV <| qN <| qI <| qI <| qN <| qI ?_
  refine xB (.inl rfl) rfl rfl ?_
  have e104 : (false : Bool) = (wM n c left deep).1 := by (rw [← hi4, yA hx87 (by grind)])
  have e105 : ((wM n x86 m (deep + 1)).2 : Int) = (wM n c left deep).2 := by (rw [← hi4, yA hx87 (by grind)])
  intro w hw
  exact ⟨_, _, [.blk b_left [.int .i64 ((wM n x86 m (deep + 1)).2)] 3], rfl, hle101, (((hw.pick 1).tail.pick 1).tail.pick 1).tail, (congrArg (fun (z0_ : Bool) => (.bool z0_ : Value)) e104), (congrArg (fun (z1_ : Int) => ([.blk b_left [.int .i64 z1_] 3] : List Res)) e105)⟩
  refine xV rfl ?_
  refine qZ <| jC <| qC <| qA ?_
  refine tl (jT rfl rfl (by omega) (by omega)) ?_
  refine tl (qG rfl) ?_
  refine qB ?_
  refine xQ ?_
  exact fun a w ha hw => ih82.out (i + 1, (wM n x86 m (deep + 1)).2) (by exact ⟨by omega, by grind, by omega, by rw [← sW hx87 (by grind)]; exact hi4⟩) (by (try dsimp only); omega) a w (ha.sub (xL (by repeat' constructor))) (((((hw.pick 1).tail.pick 2).pick 2)).weaken hle101)
  refine xV rfl ?_
  refine jE <| qK <| qK <| xG <| qC <| qE <| qA ?_
  refine tl (qD rfl) ?_
  refine qB <| qC <| qV ?_
  refine xB (.inl rfl) rfl rfl ?_
  have e106 : (true : Bool) = (wM n c left deep).1 := by (rw [← hi4, wA (by omega) (by assumption)])
  have e107 : (m : Int) = (wM n c left deep).2 := by (rw [← hi4, wA (by omega) (by assumption)])
  intro w hw
  exact ⟨_, _, [.blk b_left [.int .i64 m] 3], rfl, .refl _, hw.drop 2, (congrArg (fun (z0_ : Bool) => (.bool z0_ : Value)) e106), (congrArg (fun (z1_ : Int) => ([.blk b_left [.int .i64 z1_] 3] : List Res)) e107)⟩
  refine xV rfl ?_
  refine qA ?_
  refine tl (jR rfl rfl rfl) ?_
  refine tl (qD rfl) ?_
  refine qB <| qC ?_
  refine qP 62 rfl (fun h108 => ?_) (fun h108 => ?_)
  refine xE rfl ?_
  refine vH [(0, .agg #[.slice A1 n.concepts.length d2, .slice A5 n.roles.length d6, .slice A9 n.inds.length d10]), (1, .agg #[.int .i64 c.op, .int .i64 c.n, .slice A13 c.args.length d14]), (2, .pointer (some ⟨b_left, 0, none⟩)), (3, .int .i64 deep), (4, .pointer (some ⟨b19, 0, none⟩)), (5, .pointer (some ⟨b20, 0, none⟩)), (8, .bool false), (43, .bool false), (45, .int .i64 c.op), (49, .bool false), (62, .bool true), (76, .bool (decide ((c.n < 0) ∨ ((2 * (n.roles.length : Int)) ≤ c.n))))] (.blk b20 [.int .i64 c.op, .int .i64 c.n, .slice A13 c.args.length d14] 37 :: .blk b19 [.slice A1 n.concepts.length d2, .slice A5 n.roles.length d6, .slice A9 n.inds.length d10] 24 :: .blk b_left [.int .i64 (left - 1)] 3 :: G) (fun _ => True) (fun K hK109 hE110 => ?_) ?_
  refine qA ?_
  refine tl (qH 1 rfl zA rfl) ?_
  refine tl (jM 0 rfl ld3 rfl rfl) ?_
  refine tl (jR rfl rfl rfl) ?_
  refine tl (qG rfl) ?_
  refine xX 68 rfl (fun h111 => ?_) (fun h111 => ?_)
  refine qF 68 rfl rfl rfl ?_
  refine qF 68 rfl rfl rfl ?_
  refine qF 68 rfl rfl rfl ?_
  refine qF 68 rfl rfl rfl ?_
  refine qF 68 rfl rfl rfl ?_
  refine qF 68 rfl rfl rfl ?_
  refine qF 68 rfl rfl rfl ?_
  refine tl (qR rfl rfl) ?_
  refine qB ?_
  exact xW hK109 (.refl _) (trivial) ⟨rfl, rfl, rfl, rfl, rfl, rfl, rfl, rfl, rfl, rfl, rfl, show some (Value.bool true) = some (Value.bool (decide ((c.n < 0) ∨ ((2 * (n.roles.length : Int)) ≤ c.n)))) by first | (simp [h111]; done) | grind | (simp [h111] <;> omega), trivial⟩ (fun w hw => hw)
  refine qJ 68 rfl rfl ?_
  refine tl (qH 1 rfl zA rfl) ?_
  refine qJ 68 rfl rfl ?_
  refine tl (jM 0 rfl ld3 rfl rfl) ?_
  refine qJ 68 rfl rfl ?_
  refine tl (qH 1 rfl pP rfl) ?_
  refine qJ 68 rfl rfl ?_
  refine tl (jM 1 rfl uO rfl rfl) ?_
  refine qJ 68 rfl rfl ?_
  refine tl (jJ rfl uK) ?_
  refine qJ 68 rfl rfl ?_
  refine tl (qH4 rfl rfl (by omega) (by omega)) ?_
  refine qJ 68 rfl rfl ?_
  refine tl (jR rfl rfl rfl) ?_
  refine tl (qO rfl rfl) ?_
  refine qB ?_
  exact xW hK109 (.refl _) (trivial) ⟨rfl, rfl, rfl, rfl, rfl, rfl, rfl, rfl, rfl, rfl, rfl, show some (Value.bool (decide ((2 * (n.roles.length : Int)) ≤ c.n))) = some (Value.bool (decide ((c.n < 0) ∨ ((2 * (n.roles.length : Int)) ≤ c.n)))) by first | (simp [h111]; done) | grind | (simp [h111] <;> omega), trivial⟩ (fun w hw => hw)
  refine fun R113 hle114 hj112 => jH hle114 ?_
  refine qP 76 rfl (fun h115 => ?_) (fun h115 => ?_)
  refine xE rfl ?_
  refine qE <| qA ?_
  refine tl (qD rfl) ?_
  refine qB <| qC <| qV <| qN <| qI ?_
  refine xB (.inl rfl) rfl rfl ?_
  have e116 : (false : Bool) = (wM n c left deep).1 := by (rw [pZ (n := n) (c := c) (left := left) (deep := deep) (by grind [tB])])
  have e117 : (left - 1 : Int) = (wM n c left deep).2 := by (rw [pZ (n := n) (c := c) (left := left) (deep := deep) (by grind [tB])])
  intro w hw
  exact ⟨_, _, [.blk b_left [.int .i64 (left - 1)] 3], rfl, .refl _, hw.drop 2, (congrArg (fun (z0_ : Bool) => (.bool z0_ : Value)) e116), (congrArg (fun (z1_ : Int) => ([.blk b_left [.int .i64 z1_] 3] : List Res)) e117)⟩
  refine xV rfl ?_
  refine qZ <| jC <| qC <| qE <| qE <| qA ?_
  refine tl (qH 2 rfl wR rfl) ?_
  refine tl (jM 0 rfl dH rfl rfl) ?_
  refine tl (jJ rfl sK) ?_
  refine tl (qG rfl) ?_
  refine qB <| qC <| qX ?_
  refine jF ?_
  refine jN (fun b_ : Nat × Int => match b_ with | (i, m) => c.args.length - i) (fun b_ : Nat × Int => match b_ with | (i, m) => [(2, .pointer (some ⟨b_left, 0, none⟩)), (3, .int .i64 deep), (4, .pointer (some ⟨b19, 0, none⟩)), (78, .slice A13 c.args.length d14), (79, .int .i64 (c.args.length : Int)), (80, .int .i64 (i : Int))]) (fun b_ : Nat × Int => match b_ with | (i, m) => (.blk b20 [.int .i64 c.op, .int .i64 c.n, .slice A13 c.args.length d14] 37 :: .blk b19 [.slice A1 n.concepts.length d2, .slice A5 n.roles.length d6, .slice A9 n.inds.length d10] 24 :: .blk b_left [.int .i64 m] 3 :: G)) (fun (b_ : Nat × Int) => match b_ with | (i, m) => i ≤ c.args.length ∧ 0 ≤ m ∧ m ≤ 1000 ∧ sM n (c.args.drop i) m (deep + 1) = wM n c left deep) (0, left - 1) (by repeat' constructor) (by refine ⟨by omega, by omega, by omega, ?_⟩; rw [List.drop_zero]; exact (dB (by grind [sB])).symm) (fun w hw => hw) ?_
  rintro ⟨i, m⟩ hI118 ih119
  show TC Tryz.prog _ _ _ [] [(2, .pointer (some ⟨b_left, 0, none⟩)), (3, .int .i64 deep), (4, .pointer (some ⟨b19, 0, none⟩)), (78, .slice A13 c.args.length d14), (79, .int .i64 (c.args.length : Int)), (80, .int .i64 (i : Int))] R (.blk b20 [.int .i64 c.op, .int .i64 c.n, .slice A13 c.args.length d14] 37 :: .blk b19 [.slice A1 n.concepts.length d2, .slice A5 n.roles.length d6, .slice A9 n.inds.length d10] 24 :: .blk b_left [.int .i64 m] 3 :: G)
  obtain ⟨hi1, hi2, hi3, hi4⟩ := hI118
  refine qE <| qA ?_
  refine tl (jR rfl rfl rfl) ?_
  refine qB <| qC <| qE ?_
  refine qP 81 rfl (fun h122 => ?_) (fun h122 => ?_)
  refine xE rfl ?_
  refine qZ <| qC <| qE <| qX <| qE <| qA ?_
  have hb128 : i < c.args.length := by omega
  obtain ⟨x123, hx124⟩ : ∃ x, c.args[i]? = some x := ⟨_, List.getElem?_eq_getElem hb128⟩
  obtain ⟨c125, hr126, ha127⟩ := hs17.get _ x123 hx124
  obtain ⟨A129, d130, rfl, i131, i132, hs133⟩ := qM hr126
  unfold i64 at i131 i132
  have z134 := hs133.size
  unfold big at z134
  refine tl (jV (i := i) hs17 rfl rfl rfl sK hb128) ?_
  refine tl (jA 0 [.int .i64 x123.op, .int .i64 x123.n, .slice A129 x123.args.length d130] ha127 rfl vU rfl rfl) ?_
  refine qS eZ rfl fun b135 => ?_
  refine xN 0 [.int .i64 x123.op, .int .i64 x123.n, .slice A129 x123.args.length d130] rfl rfl vU rfl rfl rfl rfl rfl rfl ?_
  refine qB <| qC <| qE <| qA ?_
  refine tl (qQ 2 [.slice A1 n.concepts.length d2, .slice A5 n.roles.length d6, .slice A9 n.inds.length d10] rfl bT rfl rfl) ?_
  refine tl (qQ 0 [.int .i64 x123.op, .int .i64 x123.n, .slice A129 x123.args.length d130] rfl vU rfl rfl) ?_
  refine tl (qG rfl) ?_
  refine tl (qG rfl) ?_
  refine tl (jT rfl rfl (by omega) (by omega)) ?_
  refine tR (.blk b_left [.int .i64 m] 3 :: .blk b135 [.int .i64 x123.op, .int .i64 x123.n, .slice A129 x123.args.length d130] 37 :: .blk b20 [.int .i64 c.op, .int .i64 c.n, .slice A13 c.args.length d14] 37 :: .blk b19 [.slice A1 n.concepts.length d2, .slice A5 n.roles.length d6, .slice A9 n.inds.length d10] 24 :: G) (fun w hw => (hw.pick 3)) ?_
  refine xD qK0 rfl (fun w hw => ih.out (SizeOf.sizeOf x123) (by exact Concept.sizeOf_arg hx124) n x123 m (deep + 1) hr_n hr126 (by unfold i64; omega) (by unfold i64; omega) (by first | assumption | omega) (by first | assumption | omega) (by first | assumption | omega) rfl hw) rfl ?_
  rintro _ R137 _ hle138 ⟨rfl, rfl⟩
  try replace hr_n := kNames.mono _ _ _ _ hle138 hr_n
  try replace hs17 := hs17.mono hle138
  try replace hr_c := kConcept.mono _ _ _ _ hle138 hr_c
  try replace hG := hG.mono hle138
  have hf139 := uE n x123 m (deep + 1) (by omega)
  refine tl (wJ rfl) ?_
  refine qB <| qC ?_
  refine vI 90 rfl (fun h140 => ?_) (fun h140 => ?_)
  refine xE rfl ?_
  refine qE <| qA ?_
  refine tl (qD rfl) ?_
  refine qB <| qC <| qV <| qN <| qI <| qI <| qN <| qI ?_
  refine xB (.inl rfl) rfl rfl ?_
  have e141 : (false : Bool) = (wM n c left deep).1 := by (rw [← hi4, yA hx124 (by grind)])
  have e142 : ((wM n x123 m (deep + 1)).2 : Int) = (wM n c left deep).2 := by (rw [← hi4, yA hx124 (by grind)])
  intro w hw
  exact ⟨_, _, [.blk b_left [.int .i64 ((wM n x123 m (deep + 1)).2)] 3], rfl, hle138, (((hw.pick 1).tail.pick 1).tail.pick 1).tail, (congrArg (fun (z0_ : Bool) => (.bool z0_ : Value)) e141), (congrArg (fun (z1_ : Int) => ([.blk b_left [.int .i64 z1_] 3] : List Res)) e142)⟩
  refine xV rfl ?_
  refine qZ <| jC <| qC <| qA ?_
  refine tl (jT rfl rfl (by omega) (by omega)) ?_
  refine tl (qG rfl) ?_
  refine qB ?_
  refine xQ ?_
  exact fun a w ha hw => ih119.out (i + 1, (wM n x123 m (deep + 1)).2) (by exact ⟨by omega, by grind, by omega, by rw [← sW hx124 (by grind)]; exact hi4⟩) (by (try dsimp only); omega) a w (ha.sub (xL (by repeat' constructor))) (((((hw.pick 1).tail.pick 2).pick 2)).weaken hle138)
  refine xV rfl ?_
  refine jE <| qK <| qK <| xG <| qC <| qE <| qA ?_
  refine tl (qD rfl) ?_
  refine qB <| qC <| qV ?_
  refine xB (.inl rfl) rfl rfl ?_
  have e143 : (true : Bool) = (wM n c left deep).1 := by (rw [← hi4, wA (by omega) (by assumption)])
  have e144 : (m : Int) = (wM n c left deep).2 := by (rw [← hi4, wA (by omega) (by assumption)])
  intro w hw
  exact ⟨_, _, [.blk b_left [.int .i64 m] 3], rfl, .refl _, hw.drop 2, (congrArg (fun (z0_ : Bool) => (.bool z0_ : Value)) e143), (congrArg (fun (z1_ : Int) => ([.blk b_left [.int .i64 z1_] 3] : List Res)) e144)⟩
  refine xV rfl ?_
  refine qE <| qA ?_
  refine tl (qH 1 rfl zA rfl) ?_
  refine tl (jM 0 rfl ld3 rfl rfl) ?_
  refine tl (jR rfl rfl rfl) ?_
  refine qB <| qC ?_
  refine qP 48 rfl (fun h145 => ?_) (fun h145 => ?_)
  refine xE rfl ?_
  refine qE <| qA ?_
  refine tl (qD rfl) ?_
  refine qB <| qC <| qV <| qN <| qI ?_
  refine xB (.inl rfl) rfl rfl ?_
  have e146 : (false : Bool) = (wM n c left deep).1 := by (rw [pZ (n := n) (c := c) (left := left) (deep := deep) (by grind [tB])])
  have e147 : (left - 1 : Int) = (wM n c left deep).2 := by (rw [pZ (n := n) (c := c) (left := left) (deep := deep) (by grind [tB])])
  intro w hw
  exact ⟨_, _, [.blk b_left [.int .i64 (left - 1)] 3], rfl, .refl _, hw.drop 2, (congrArg (fun (z0_ : Bool) => (.bool z0_ : Value)) e146), (congrArg (fun (z1_ : Int) => ([.blk b_left [.int .i64 z1_] 3] : List Res)) e147)⟩
  refine xV rfl ?_
  refine qZ <| jC <| qC <| qE <| qE <| qA ?_
  refine tl (qH 2 rfl wR rfl) ?_
  refine tl (jM 0 rfl dH rfl rfl) ?_
  refine tl (jJ rfl sK) ?_
  refine tl (qG rfl) ?_
  refine qB <| qC <| qX ?_
  refine jF ?_
  refine jN (fun b_ : Nat × Int => match b_ with | (i, m) => c.args.length - i) (fun b_ : Nat × Int => match b_ with | (i, m) => [(2, .pointer (some ⟨b_left, 0, none⟩)), (3, .int .i64 deep), (4, .pointer (some ⟨b19, 0, none⟩)), (78, .slice A13 c.args.length d14), (79, .int .i64 (c.args.length : Int)), (80, .int .i64 (i : Int))]) (fun b_ : Nat × Int => match b_ with | (i, m) => (.blk b20 [.int .i64 c.op, .int .i64 c.n, .slice A13 c.args.length d14] 37 :: .blk b19 [.slice A1 n.concepts.length d2, .slice A5 n.roles.length d6, .slice A9 n.inds.length d10] 24 :: .blk b_left [.int .i64 m] 3 :: G)) (fun (b_ : Nat × Int) => match b_ with | (i, m) => i ≤ c.args.length ∧ 0 ≤ m ∧ m ≤ 1000 ∧ sM n (c.args.drop i) m (deep + 1) = wM n c left deep) (0, left - 1) (by repeat' constructor) (by refine ⟨by omega, by omega, by omega, ?_⟩; rw [List.drop_zero]; exact (dB (by grind [sB])).symm) (fun w hw => hw) ?_
  rintro ⟨i, m⟩ hI148 ih149
  show TC Tryz.prog _ _ _ [] [(2, .pointer (some ⟨b_left, 0, none⟩)), (3, .int .i64 deep), (4, .pointer (some ⟨b19, 0, none⟩)), (78, .slice A13 c.args.length d14), (79, .int .i64 (c.args.length : Int)), (80, .int .i64 (i : Int))] R (.blk b20 [.int .i64 c.op, .int .i64 c.n, .slice A13 c.args.length d14] 37 :: .blk b19 [.slice A1 n.concepts.length d2, .slice A5 n.roles.length d6, .slice A9 n.inds.length d10] 24 :: .blk b_left [.int .i64 m] 3 :: G)
  obtain ⟨hi1, hi2, hi3, hi4⟩ := hI148
  refine qE <| qA ?_
  refine tl (jR rfl rfl rfl) ?_
  refine qB <| qC <| qE ?_
  refine qP 81 rfl (fun h152 => ?_) (fun h152 => ?_)
  refine xE rfl ?_
  refine qZ <| qC <| qE <| qX <| qE <| qA ?_
  have hb158 : i < c.args.length := by omega
  obtain ⟨x153, hx154⟩ : ∃ x, c.args[i]? = some x := ⟨_, List.getElem?_eq_getElem hb158⟩
  obtain ⟨c155, hr156, ha157⟩ := hs17.get _ x153 hx154
  obtain ⟨A159, d160, rfl, i161, i162, hs163⟩ := qM hr156
  unfold i64 at i161 i162
  have z164 := hs163.size
  unfold big at z164
  refine tl (jV (i := i) hs17 rfl rfl rfl sK hb158) ?_
  refine tl (jA 0 [.int .i64 x153.op, .int .i64 x153.n, .slice A159 x153.args.length d160] ha157 rfl vU rfl rfl) ?_
  refine qS eZ rfl fun b165 => ?_
  refine xN 0 [.int .i64 x153.op, .int .i64 x153.n, .slice A159 x153.args.length d160] rfl rfl vU rfl rfl rfl rfl rfl rfl ?_
  refine qB <| qC <| qE <| qA ?_
  refine tl (qQ 2 [.slice A1 n.concepts.length d2, .slice A5 n.roles.length d6, .slice A9 n.inds.length d10] rfl bT rfl rfl) ?_
  refine tl (qQ 0 [.int .i64 x153.op, .int .i64 x153.n, .slice A159 x153.args.length d160] rfl vU rfl rfl) ?_
  refine tl (qG rfl) ?_
  refine tl (qG rfl) ?_
  refine tl (jT rfl rfl (by omega) (by omega)) ?_
  refine tR (.blk b_left [.int .i64 m] 3 :: .blk b165 [.int .i64 x153.op, .int .i64 x153.n, .slice A159 x153.args.length d160] 37 :: .blk b20 [.int .i64 c.op, .int .i64 c.n, .slice A13 c.args.length d14] 37 :: .blk b19 [.slice A1 n.concepts.length d2, .slice A5 n.roles.length d6, .slice A9 n.inds.length d10] 24 :: G) (fun w hw => (hw.pick 3)) ?_
  refine xD qK0 rfl (fun w hw => ih.out (SizeOf.sizeOf x153) (by exact Concept.sizeOf_arg hx154) n x153 m (deep + 1) hr_n hr156 (by unfold i64; omega) (by unfold i64; omega) (by first | assumption | omega) (by first | assumption | omega) (by first | assumption | omega) rfl hw) rfl ?_
  rintro _ R167 _ hle168 ⟨rfl, rfl⟩
  try replace hr_n := kNames.mono _ _ _ _ hle168 hr_n
  try replace hr_c := kConcept.mono _ _ _ _ hle168 hr_c
  try replace hG := hG.mono hle168
  have hf169 := uE n x153 m (deep + 1) (by omega)
  refine tl (wJ rfl) ?_
  refine qB <| qC ?_
  refine vI 90 rfl (fun h170 => ?_) (fun h170 => ?_)
  refine xE rfl ?_
  refine qE <| qA ?_
  refine tl (qD rfl) ?_
  refine qB <| qC <| qV <| qN <| qI <| qI <| qN <| qI ?_
  refine xB (.inl rfl) rfl rfl ?_
  have e171 : (false : Bool) = (wM n c left deep).1 := by (rw [← hi4, yA hx154 (by grind)])
  have e172 : ((wM n x153 m (deep + 1)).2 : Int) = (wM n c left deep).2 := by (rw [← hi4, yA hx154 (by grind)])
  intro w hw
  exact ⟨_, _, [.blk b_left [.int .i64 ((wM n x153 m (deep + 1)).2)] 3], rfl, hle168, (((hw.pick 1).tail.pick 1).tail.pick 1).tail, (congrArg (fun (z0_ : Bool) => (.bool z0_ : Value)) e171), (congrArg (fun (z1_ : Int) => ([.blk b_left [.int .i64 z1_] 3] : List Res)) e172)⟩
  refine xV rfl ?_
  refine qZ <| jC <| qC <| qA ?_
  refine tl (jT rfl rfl (by omega) (by omega)) ?_
  refine tl (qG rfl) ?_
  refine qB ?_
  refine xQ ?_
  exact fun a w ha hw => ih149.out (i + 1, (wM n x153 m (deep + 1)).2) (by exact ⟨by omega, by grind, by omega, by rw [← sW hx154 (by grind)]; exact hi4⟩) (by (try dsimp only); omega) a w (ha.sub (xL (by repeat' constructor))) (((((hw.pick 1).tail.pick 2).pick 2)).weaken hle168)
  refine xV rfl ?_
  refine jE <| qK <| qK <| xG <| qC <| qE <| qA ?_
  refine tl (qD rfl) ?_
  refine qB <| qC <| qV ?_
  refine xB (.inl rfl) rfl rfl ?_
  have e173 : (true : Bool) = (wM n c left deep).1 := by (rw [← hi4, wA (by omega) (by assumption)])
  have e174 : (m : Int) = (wM n c left deep).2 := by (rw [← hi4, wA (by omega) (by assumption)])
  intro w hw
  exact ⟨_, _, [.blk b_left [.int .i64 m] 3], rfl, .refl _, hw.drop 2, (congrArg (fun (z0_ : Bool) => (.bool z0_ : Value)) e173), (congrArg (fun (z1_ : Int) => ([.blk b_left [.int .i64 z1_] 3] : List Res)) e174)⟩
theorem eV {R : RO} {G : List Res} {w : World} {c_n : List Value} (n : Names) {c_c : List Value} (c : Concept) (left : Int) {b_left : Nat} (deep : Int) (hr_n : kNames.rep R n c_n) (hr_c : kConcept.rep R c c_c) (hi_left : i64 left) (hi_deep : i64 deep) (hG : Glob R) (hl : 0 ≤ left ∧ left ≤ 1000) (hd : 0 ≤ deep ∧ deep ≤ 30) (hw : Own w R (.blk b_left [.int .i64 left] 3 :: G)) :
    Calls Tryz.prog 102 [.agg c_n.toArray, .agg c_c.toArray, .pointer (some ⟨b_left, 0, none⟩), .int .i64 deep].toArray w (gZ R G (fun v_ R' L_ => v_ = (.bool ((wM n c left deep).1) : Value) ∧ L_ = ([.blk b_left [.int .i64 ((wM n c left deep).2)] 3] : List Res))) := dV _ n c left deep hr_n hr_c hi_left hi_deep hG hl hd rfl hw

theorem zQ {R : RO} {G : List Res} {w : World} {c_n : List Value} (n : Names) {c_c : List Value} (c : Concept) (left : Int) {b_left : Nat} (hr_n : kNames.rep R n c_n) (hr_c : kConcept.rep R c c_c) (hi_left : i64 left) (hG : Glob R) (hl : 0 ≤ left ∧ left ≤ 1000) (hw : Own w R (.blk b_left [.int .i64 left] 3 :: G)) :
    Calls Tryz.prog 81 [.agg c_n.toArray, .agg c_c.toArray, .pointer (some ⟨b_left, 0, none⟩)].toArray w (gZ R G (fun v_ R' L_ => v_ = (.bool ((wM n c left 1).1) : Value) ∧ L_ = ([.blk b_left [.int .i64 ((wM n c left 1).2)] 3] : List Res))) := by
 obtain ⟨A1, d2, A5, d6, A9, d10, rfl, hs3, hs7, hs11⟩ := id hr_n
 have z4 := hs3.size
 unfold big at z4
 have z8 := hs7.size
 unfold big at z8
 have z12 := hs11.size
 unfold big at z12
 obtain ⟨A13, d14, rfl, i15, i16, hs17⟩ := qM hr_c
 unfold i64 at i15 i16
 have z18 := hs17.size
 unfold big at z18
 refine xH (vs := [.agg #[.slice A1 n.concepts.length d2, .slice A5 n.roles.length d6, .slice A9 n.inds.length d10], .agg #[.int .i64 c.op, .int .i64 c.n, .slice A13 c.args.length d14], .pointer (some ⟨b_left, 0, none⟩)]) Tryz.func81 rfl rfl rfl ?_ hw
 refine qE <| qA ?_
 refine qW (l := [.slice A1 n.concepts.length d2, .slice A5 n.roles.length d6, .slice A9 n.inds.length d10]) rfl rfl fun b19 => ?_
 refine qW (l := [.int .i64 c.op, .int .i64 c.n, .slice A13 c.args.length d14]) rfl rfl fun b20 => ?_
 refine tl (qD rfl) ?_
 refine qB <| qC <| qE <| qA ?_
 refine tl (qQ 1 [.slice A1 n.concepts.length d2, .slice A5 n.roles.length d6, .slice A9 n.inds.length d10] rfl bT rfl rfl) ?_
 refine tl (qQ 0 [.int .i64 c.op, .int .i64 c.n, .slice A13 c.args.length d14] rfl vU rfl rfl) ?_
 refine tl (qG rfl) ?_
 refine tR (.blk b_left [.int .i64 left] 3 :: .blk b20 [.int .i64 c.op, .int .i64 c.n, .slice A13 c.args.length d14] 37 :: .blk b19 [.slice A1 n.concepts.length d2, .slice A5 n.roles.length d6, .slice A9 n.inds.length d10] 24 :: G) (fun w hw => (hw.pick 2)) ?_
 refine xD qK0 rfl (fun w hw => eV n c left 1 hr_n hr_c (by unfold i64; omega) (by unfold i64; omega) (by first | assumption | omega) (by first | assumption | omega) (by first | assumption | omega) hw) rfl ?_
 rintro _ R22 _ hle23 ⟨rfl, rfl⟩
 try replace hG := hG.mono hle23
 have hf24 := uE n c left 1 (by omega)
 refine tl (qD rfl) ?_
 refine qB <| qC <| qV ?_
 refine xB (.inl rfl) rfl rfl ?_
 have e25 : (((wM n c left 1).1) : Bool) = (wM n c left 1).1 := by rfl
 have e26 : ((wM n c left 1).2 : Int) = (wM n c left 1).2 := by rfl
 intro w hw
 exact ⟨_, _, [.blk b_left [.int .i64 ((wM n c left 1).2)] 3], rfl, hle23, ((hw.pick 1).tail.pick 1).tail, (congrArg (fun (z0_ : Bool) => (.bool z0_ : Value)) e25), (congrArg (fun (z1_ : Int) => ([.blk b_left [.int .i64 z1_] 3] : List Res)) e26)⟩

def lD (n : Names) (l : List Concept) : Int := if yG n = true then (if ∀ c ∈ l, (wM n c 400 1).1 = true then 0 else 10) else 20

theorem iK {R : RO} {G : List Res} {w : World} {c_n : List Value} (n : Names) {A_l : Option Addr} {d_l : Nat} (l : List (Concept)) (hr_n : kNames.rep R n c_n) (hs_l : SlAt kConcept R A_l l) (hG : Glob R) (hw : Own w R (G)) :
    Calls Tryz.prog 75 [.agg c_n.toArray, .slice A_l l.length d_l].toArray w (kK R G (.int .i64 (lD n l))) := by
 obtain ⟨A1, d2, A5, d6, A9, d10, rfl, hs3, hs7, hs11⟩ := id hr_n
 have z4 := hs3.size
 unfold big at z4
 have z8 := hs7.size
 unfold big at z8
 have z12 := hs11.size
 unfold big at z12
 have hz_l := hs_l.size
 unfold big at hz_l
 refine xH (vs := [.agg #[.slice A1 n.concepts.length d2, .slice A5 n.roles.length d6, .slice A9 n.inds.length d10], .slice A_l l.length d_l]) Tryz.func75 rfl rfl rfl ?_ hw
 refine qE <| qA ?_
 refine qW (l := [.slice A1 n.concepts.length d2, .slice A5 n.roles.length d6, .slice A9 n.inds.length d10]) rfl rfl fun b13 => ?_
 refine tl (qD rfl) ?_
 refine qB <| qC <| qE <| qE <| qA ?_
 refine tl (qQ 0 [.slice A1 n.concepts.length d2, .slice A5 n.roles.length d6, .slice A9 n.inds.length d10] rfl bT rfl rfl) ?_
 refine xC ca80 rfl (fun w hw => gV n hr_n (by first | assumption | omega) hw) rfl ?_
 refine tl (wJ rfl) ?_
 refine qB <| qC ?_
 refine vI 10 rfl (fun h14 => ?_) (fun h14 => ?_)
 refine xE rfl ?_
 refine qE <| qA ?_
 refine tl (qD rfl) ?_
 refine qB <| qC <| qV <| qI ?_
 refine xB (.inl rfl) rfl rfl ?_
 have e15 : (20 : Int) = lD n l := by (unfold lD; rw [if_neg (by grind)])
 exact fun w hw => ⟨congrArg Ending.returned (congrArg (fun x0 => Value.int .i64 x0) e15), hw.drop 1⟩
 refine xV rfl ?_
 refine qZ <| qC <| qE <| qE <| qA ?_
 refine tl (qG rfl) ?_
 refine tl (jJ rfl sK) ?_
 refine tl (qG rfl) ?_
 refine qB <| qC <| qX ?_
 refine jF ?_
 refine wD (fun i : Nat => l.length - i) (fun i : Nat => [(2, .pointer (some ⟨b13, 0, none⟩)), (11, .slice A_l l.length d_l), (12, .int .i64 (l.length : Int)), (13, .int .i64 (i : Int))]) (fun i : Nat => (.blk b13 [.slice A1 n.concepts.length d2, .slice A5 n.roles.length d6, .slice A9 n.inds.length d10] 24 :: G)) (fun (i : Nat) (R_ : RO) => i ≤ l.length ∧ ∀ c ∈ l.take i, (wM n c 400 1).1 = true) (0) ⟨rfl, rfl, rfl, rfl, trivial⟩ (by exact ⟨by omega, by simp⟩) (fun w hw => hw) ?_
 rintro i R18 hle19 hI16 ih17
 try replace hr_n := kNames.mono _ _ _ _ hle19 hr_n
 try replace hs_l := hs_l.mono hle19
 try replace hG := hG.mono hle19
 show TC Tryz.prog _ _ _ [] [(2, .pointer (some ⟨b13, 0, none⟩)), (11, .slice A_l l.length d_l), (12, .int .i64 (l.length : Int)), (13, .int .i64 (i : Int))] R18 (.blk b13 [.slice A1 n.concepts.length d2, .slice A5 n.roles.length d6, .slice A9 n.inds.length d10] 24 :: G)
 obtain ⟨hi1, hi2⟩ := hI16
 refine qE <| qA ?_
 refine tl (jR rfl rfl rfl) ?_
 refine qB <| qC <| qE ?_
 refine qP 14 rfl (fun h20 => ?_) (fun h20 => ?_)
 refine xE rfl ?_
 refine qZ <| qC <| qE <| qX <| qE <| qA ?_
 have hb26 : i < l.length := by omega
 obtain ⟨x21, hx22⟩ : ∃ x, l[i]? = some x := ⟨_, List.getElem?_eq_getElem hb26⟩
 obtain ⟨c23, hr24, ha25⟩ := hs_l.get _ x21 hx22
 obtain ⟨A27, d28, rfl, i29, i30, hs31⟩ := qM hr24
 unfold i64 at i29 i30
 have z32 := hs31.size
 unfold big at z32
 refine tl (jV (i := i) hs_l rfl rfl rfl sK hb26) ?_
 refine tl (jA 0 [.int .i64 x21.op, .int .i64 x21.n, .slice A27 x21.args.length d28] ha25 rfl vU rfl rfl) ?_
 refine qS eZ rfl fun b33 => ?_
 refine xN 0 [.int .i64 x21.op, .int .i64 x21.n, .slice A27 x21.args.length d28] rfl rfl vU rfl rfl rfl rfl rfl rfl ?_
 refine qB <| qC <| qE <| qA ?_
 refine qS zc3 rfl fun b34 => ?_
 refine xN 0 [.int .i64 400] rfl rfl ld3 rfl rfl rfl rfl rfl rfl ?_
 refine qB <| qC <| qE <| qA ?_
 refine tl (qQ 2 [.slice A1 n.concepts.length d2, .slice A5 n.roles.length d6, .slice A9 n.inds.length d10] rfl bT rfl rfl) ?_
 refine tl (qQ 1 [.int .i64 x21.op, .int .i64 x21.n, .slice A27 x21.args.length d28] rfl vU rfl rfl) ?_
 refine xD ca81 rfl (fun w hw => zQ n x21 400 hr_n hr24 (by unfold i64; omega) (by first | assumption | omega) (by first | assumption | omega) hw) rfl ?_
 rintro _ R36 _ hle37 ⟨rfl, rfl⟩
 try replace hG := hG.mono hle37
 have hle38 := hle19.trans hle37
 have hf39 := uE n x21 400 1 (by first | omega | grind)
 refine tl (wJ rfl) ?_
 refine qB <| qC ?_
 refine vI 20 rfl (fun h40 => ?_) (fun h40 => ?_)
 refine xE rfl ?_
 refine qE <| qA ?_
 refine tl (qD rfl) ?_
 refine qB <| qC <| qV <| qN <| qI <| qI <| qN <| qI ?_
 refine xB (.inl rfl) rfl rfl ?_
 have e41 : (10 : Int) = lD n l := by (unfold lD; rw [if_pos (by grind), if_neg (fun h_ => by have := h_ _ (List.mem_of_getElem? hx22); grind)])
 exact fun w hw => ⟨congrArg Ending.returned (congrArg (fun x0 => Value.int .i64 x0) e41), (hw.drop 3).weaken hle38⟩
 refine xV rfl ?_
 refine qZ <| jC <| qC <| qA ?_
 refine tl (jT rfl rfl (by omega) (by omega)) ?_
 refine tl (qG rfl) ?_
 refine qB ?_
 refine xQ ?_
 exact fun a w ha hw => ih17.out (i + 1) _ (hle37) (by exact ⟨by omega, vQ hi2 hx22 (by grind)⟩) (by (try dsimp only); omega) a w (ha.sub (xL ⟨rfl, rfl, rfl, rfl, trivial⟩)) (hw.drop 2)
 refine xV rfl ?_
 refine jE <| qK <| qK <| xG <| qC <| qE <| qA ?_
 refine tl (qD rfl) ?_
 refine qB <| qC <| qV ?_
 refine xB (.inl rfl) rfl rfl ?_
 have e42 : (0 : Int) = lD n l := by (rw [xF (by assumption) (by assumption)] at hi2; unfold lD; rw [if_pos (by grind), if_pos hi2])
 exact fun w hw => ⟨congrArg Ending.returned (congrArg (fun x0 => Value.int .i64 x0) e42), (hw.drop 1).weaken hle19⟩

theorem qH1 {R : RO} {G : List Res} {w : World} {c_n : List Value} (n : Names) {c_c : List Value} (c : Concept) (hr_n : kNames.rep R n c_n) (hr_c : kConcept.rep R c c_c) (hG : Glob R) (hw : Own w R (G)) :
    Calls Tryz.prog 54 [.agg c_n.toArray, .agg c_c.toArray].toArray w (kK R G (.int .i64 (lD n [c]))) := by
 obtain ⟨A1, d2, A5, d6, A9, d10, rfl, hs3, hs7, hs11⟩ := id hr_n
 have z4 := hs3.size
 unfold big at z4
 have z8 := hs7.size
 unfold big at z8
 have z12 := hs11.size
 unfold big at z12
 obtain ⟨A13, d14, rfl, i15, i16, hs17⟩ := qM hr_c
 unfold i64 at i15 i16
 have z18 := hs17.size
 unfold big at z18
 refine xH (vs := [.agg #[.slice A1 n.concepts.length d2, .slice A5 n.roles.length d6, .slice A9 n.inds.length d10], .agg #[.int .i64 c.op, .int .i64 c.n, .slice A13 c.args.length d14]]) Tryz.func54 rfl rfl rfl ?_ hw
 refine qE <| qA ?_
 refine qW (l := [.slice A1 n.concepts.length d2, .slice A5 n.roles.length d6, .slice A9 n.inds.length d10]) rfl rfl fun b19 => ?_
 refine qW (l := [.int .i64 c.op, .int .i64 c.n, .slice A13 c.args.length d14]) rfl rfl fun b20 => ?_
 refine tl (qD rfl) ?_
 refine qB <| qC <| qE <| qA ?_
 refine tl (qQ 1 [.slice A1 n.concepts.length d2, .slice A5 n.roles.length d6, .slice A9 n.inds.length d10] rfl bT rfl rfl) ?_
 refine tl (qQ 0 [.int .i64 c.op, .int .i64 c.n, .slice A13 c.args.length d14] rfl vU rfl rfl) ?_
 refine jB [.int .i64 c.op, .int .i64 c.n, .slice A13 c.args.length d14] ap35 rfl rfl rfl rfl rfl rfl rfl fun b21 => ?_
 refine zI (k := kConcept) (l := ([c] : List (Concept))) 0 rfl (⟨_, _, rfl, hr_c, rfl⟩) (by show 1 ≤ big; unfold big; omega) fun R23 hle24 hs22 => ?_
 try replace hr_n := kNames.mono _ _ _ _ hle24 hr_n
 try replace hG := hG.mono hle24
 have z25 := hs22.size
 unfold big at z25
 refine xC ca75 rfl (fun w hw => iK n ([c] : List (Concept)) hr_n hs22 (by first | assumption | omega) hw) rfl ?_
 refine tl (qD rfl) ?_
 refine qB <| qC <| qV ?_
 refine xB (.inl rfl) rfl rfl ?_
 have e26 : (lD n ([c] : List (Concept)) : Int) = lD n [c] := by rfl
 exact fun w hw => ⟨congrArg Ending.returned (congrArg (fun x0 => Value.int .i64 x0) e26), (hw.drop 2).weaken hle24⟩

theorem sC {R : RO} {G : List Res} {w : World} {c_b : List Value} (b : Base) (hr_b : kBase.rep R b c_b) (hw : Own w R (G)) :
    Calls Tryz.prog 36 [.agg c_b.toArray].toArray w (kK R G (.int .i64 (xT b : Int))) := by
 obtain ⟨c1, A3, d4, A6, d7, A9, d10, A12, d13, rfl, hr2, hs5, hs8, hs11, hs14⟩ := id hr_b
 have z27 := hs5.size
 unfold big at z27
 have z28 := hs8.size
 unfold big at z28
 have z29 := hs11.size
 unfold big at z29
 have z30 := hs14.size
 unfold big at z30
 obtain ⟨A15, d16, A19, d20, A23, d24, rfl, hs17, hs21, hs25⟩ := id hr2
 have z18 := hs17.size
 unfold big at z18
 have z22 := hs21.size
 unfold big at z22
 have z26 := hs25.size
 unfold big at z26
 refine xH (vs := [.agg #[.slice A15 b.names.concepts.length d16, .slice A19 b.names.roles.length d20, .slice A23 b.names.inds.length d24, .slice A3 b.incls.length d4, .slice A6 b.roles.length d7, .slice A9 b.facts.length d10, .slice A12 b.links.length d13]]) Tryz.func36 rfl rfl rfl ?_ hw
 refine qE <| qA ?_
 refine qW (l := [.slice A15 b.names.concepts.length d16, .slice A19 b.names.roles.length d20, .slice A23 b.names.inds.length d24, .slice A3 b.incls.length d4, .slice A6 b.roles.length d7, .slice A9 b.facts.length d10, .slice A12 b.links.length d13]) rfl rfl fun b31 => ?_
 refine tl (qD rfl) ?_
 refine qB <| qC <| qE <| qA ?_
 refine tl (qH 3 rfl yK rfl) ?_
 refine tl (jM 0 rfl fG rfl rfl) ?_
 refine tl (jJ rfl eS) ?_
 refine tl (qH 4 rfl yL rfl) ?_
 refine tl (jM 0 rfl fH rfl rfl) ?_
 refine tl (jJ rfl eU) ?_
 refine tl (jT rfl rfl (by omega) (by omega)) ?_
 refine tl (qH 5 rfl zB rfl) ?_
 refine tl (jM 0 rfl iZ rfl rfl) ?_
 refine tl (jJ rfl fI) ?_
 refine tl (jT rfl rfl (by omega) (by omega)) ?_
 refine tl (qH 6 rfl pV rfl) ?_
 refine tl (jM 0 rfl rK rfl rfl) ?_
 refine tl (jJ rfl rA) ?_
 refine tl (jT rfl rfl (by omega) (by omega)) ?_
 refine tl (qD rfl) ?_
 refine qB <| qC <| qV ?_
 refine xB (.inl rfl) rfl rfl ?_
 have e32 : ((((b.incls.length : Int) + (b.roles.length : Int)) + (b.facts.length : Int)) + (b.links.length : Int) : Int) = (xT b : Int) := by (simp only [xT]; omega)
 exact fun w hw => ⟨congrArg Ending.returned (congrArg (fun x0 => Value.int .i64 x0) e32), hw.drop 1⟩

theorem aQ {R : RO} {G : List Res} {w : World} {A_l : Option Addr} {d_l : Nat} (l : List (Int)) (n : Int) (hs_l : SlAt kInt R A_l l) (hi_n : i64 n) (hw : Own w R (G)) :
    Calls Tryz.prog 52 [.slice A_l l.length d_l, .int .i64 n].toArray w (kK R G (.bool (kC l n))) := by
 have hz_l := hs_l.size
 unfold big at hz_l
 unfold i64 at hi_n
 refine xH (vs := [.slice A_l l.length d_l, .int .i64 n]) Tryz.func52 rfl rfl rfl ?_ hw
 refine qE <| qA ?_
 refine tl (qD rfl) ?_
 refine qB <| qC <| qE <| qE <| qA ?_
 refine tl (qG rfl) ?_
 refine tl (jJ rfl pL) ?_
 refine tl (qG rfl) ?_
 refine qB <| qC <| qX ?_
 refine jF ?_
 refine jN (fun i : Nat => l.length - i) (fun i : Nat => [(0, .slice A_l l.length d_l), (1, .int .i64 n), (7, .slice A_l l.length d_l), (8, .int .i64 (l.length : Int)), (9, .int .i64 (i : Int))]) (fun i : Nat => (G)) (fun (i : Nat) => i ≤ l.length ∧ Up (l.take i) ∧ ∀ y ∈ l.take i, 0 ≤ y ∧ y < n) (0) (by repeat' constructor) (by exact ⟨by omega, List.Pairwise.nil, by simp⟩) (fun w hw => hw) ?_
 rintro i hI1 ih2
 show TC Tryz.prog _ _ _ [] [(0, .slice A_l l.length d_l), (1, .int .i64 n), (7, .slice A_l l.length d_l), (8, .int .i64 (l.length : Int)), (9, .int .i64 (i : Int))] R (G)
 obtain ⟨hi1, hi2, hi3⟩ := hI1
 refine qE <| qA ?_
 refine tl (jR rfl rfl rfl) ?_
 refine qB <| qC <| qE ?_
 refine qP 10 rfl (fun h5 => ?_) (fun h5 => ?_)
 refine xE rfl ?_
 refine qZ <| qC <| qE <| qX <| qE <| qA ?_
 refine tl (qG rfl) ?_
 have hb11 : i < l.length := by omega
 obtain ⟨x6, hx7⟩ : ∃ x, l[i]? = some x := ⟨_, List.getElem?_eq_getElem hb11⟩
 obtain ⟨c8, hr9, ha10⟩ := hs_l.get _ x6 hx7
 obtain ⟨rfl, i12⟩ := hr9
 unfold i64 at i12
 refine tl (jV (i := i) hs_l rfl rfl rfl pL hb11) ?_
 refine tl (yN 0 ha10 rfl ld3 rfl rfl) ?_
 refine tl (qD rfl) ?_
 refine tl (qD rfl) ?_
 refine qB <| qC <| qE <| qA ?_
 refine tl (qG rfl) ?_
 refine tl (jR rfl rfl rfl) ?_
 refine tl (qG rfl) ?_
 refine xX 16 rfl (fun h13 => ?_) (fun h13 => ?_)
 refine qF 16 rfl rfl rfl ?_
 refine qF 16 rfl rfl rfl ?_
 refine qF 16 rfl rfl rfl ?_
 refine tl (qR rfl rfl) ?_
 refine tl (qG rfl) ?_
 refine qF 21 rfl rfl rfl ?_
 refine qF 21 rfl rfl rfl ?_
 refine qF 21 rfl rfl rfl ?_
 refine xY 24 rfl rfl rfl ?_
 refine xY 24 rfl rfl rfl ?_
 refine xY 24 rfl rfl rfl ?_
 refine xY 24 rfl rfl rfl ?_
 refine xY 24 rfl rfl rfl ?_
 refine xY 24 rfl rfl rfl ?_
 refine xY 24 rfl rfl rfl ?_
 refine qF 21 rfl rfl rfl ?_
 refine tl (qR rfl rfl) ?_
 refine qB <| qC ?_
 refine xE rfl ?_
 refine qE <| qA ?_
 refine tl (qD rfl) ?_
 refine qB <| qC <| qV <| qN <| qI <| qI <| qN <| qI ?_
 refine xB (.inl rfl) rfl rfl ?_
 have e14 : (false : Bool) = kC l n := by (rw [eq_comm]; unfold kC; rw [decide_eq_false_iff_not]; rintro ⟨h1_, h2_⟩; have h3_ := h2_ _ (List.mem_of_getElem? hx7); omega)
 exact fun w hw => ⟨congrArg Ending.returned (congrArg (fun x0 => Value.bool x0) e14), hw⟩
 refine qJ 16 rfl rfl ?_
 refine tl (qG rfl) ?_
 refine qJ 16 rfl rfl ?_
 refine tl (qG rfl) ?_
 refine qJ 16 rfl rfl ?_
 refine tl (jR rfl rfl rfl) ?_
 refine tl (qO rfl rfl) ?_
 refine tl (qG rfl) ?_
 refine xX 21 rfl (fun h15 => ?_) (fun h15 => ?_)
 refine qF 21 rfl rfl rfl ?_
 refine qF 21 rfl rfl rfl ?_
 refine qF 21 rfl rfl rfl ?_
 refine xY 24 rfl rfl rfl ?_
 refine xY 24 rfl rfl rfl ?_
 refine xY 24 rfl rfl rfl ?_
 refine xY 24 rfl rfl rfl ?_
 refine xY 24 rfl rfl rfl ?_
 refine xY 24 rfl rfl rfl ?_
 refine xY 24 rfl rfl rfl ?_
 refine qF 21 rfl rfl rfl ?_
 refine tl (qR rfl rfl) ?_
 refine qB <| qC ?_
 refine xE rfl ?_
 refine qE <| qA ?_
 refine tl (qD rfl) ?_
 refine qB <| qC <| qV <| qN <| qI <| qI <| qN <| qI ?_
 refine xB (.inl rfl) rfl rfl ?_
 have e16 : (false : Bool) = kC l n := by (rw [eq_comm]; unfold kC; rw [decide_eq_false_iff_not]; rintro ⟨h1_, h2_⟩; have h3_ := h2_ _ (List.mem_of_getElem? hx7); omega)
 exact fun w hw => ⟨congrArg Ending.returned (congrArg (fun x0 => Value.bool x0) e16), hw⟩
 refine qJ 21 rfl rfl ?_
 refine tl (qG rfl) ?_
 refine qJ 21 rfl rfl ?_
 refine tl (jR rfl rfl rfl) ?_
 refine qJ 21 rfl rfl ?_
 refine tl (qG rfl) ?_
 refine xX 24 rfl (fun h17 => ?_) (fun h17 => ?_)
 refine qJ 24 rfl rfl ?_
 refine tl (qG rfl) ?_
 refine qJ 24 rfl rfl ?_
 refine tl (qG rfl) ?_
 refine qJ 24 rfl rfl ?_
 refine tl (qG rfl) ?_
 refine qJ 24 rfl rfl ?_
 refine tl (bV rfl rfl (by omega) (by omega)) ?_
 refine qJ 24 rfl rfl ?_
 have hb23 : 0 ≤ (i : Int) - 1 ∧ ((i : Int) - 1).toNat < l.length := by omega
 obtain ⟨x18, hx19⟩ : ∃ x, l[((i : Int) - 1).toNat]? = some x := ⟨_, List.getElem?_eq_getElem hb23.2⟩
 obtain ⟨c20, hr21, ha22⟩ := hs_l.get _ x18 hx19
 obtain ⟨rfl, i24⟩ := hr21
 unfold i64 at i24
 refine tl (zH hs_l rfl rfl rfl pL hb23.1 hb23.2) ?_
 refine qJ 24 rfl rfl ?_
 refine tl (yN 0 ha22 rfl ld3 rfl rfl) ?_
 refine qJ 24 rfl rfl ?_
 refine tl (jR rfl rfl rfl) ?_
 refine qJ 21 rfl rfl ?_
 refine tl (qR rfl rfl) ?_
 refine tl (qO rfl rfl) ?_
 refine qB <| qC ?_
 refine qP 33 rfl (fun h25 => ?_) (fun h25 => ?_)
 refine xE rfl ?_
 refine qE <| qA ?_
 refine tl (qD rfl) ?_
 refine qB <| qC <| qV <| qN <| qI <| qI <| qN <| qI ?_
 refine xB (.inl rfl) rfl rfl ?_
 have e26 : (false : Bool) = kC l n := by (rw [eq_comm]; unfold kC; rw [decide_eq_false_iff_not]; rintro ⟨h1_, h2_⟩; have h3_ := h2_ _ (List.mem_of_getElem? hx7); have h4_ := nY h1_ hx7 hx19 (by omega); omega)
 exact fun w hw => ⟨congrArg Ending.returned (congrArg (fun x0 => Value.bool x0) e26), hw⟩
 refine xV rfl ?_
 refine qZ <| jC <| qC <| qA ?_
 refine tl (jT rfl rfl (by omega) (by omega)) ?_
 refine tl (qG rfl) ?_
 refine qB ?_
 refine xQ ?_
 exact fun a w ha hw => ih2.out (i + 1) (by refine ⟨by omega, ?_, vQ hi3 hx7 (by omega)⟩; rw [jQ hx7]; refine mR hi2 ?_; exact eJ hi2 hx7 (by have := hx19; rwa [show ((i : Int) - 1).toNat = i - 1 by omega] at this) (by omega) (by omega)) (by (try dsimp only); omega) a w (ha.sub (xL (by repeat' constructor))) (hw)
 refine qF 24 rfl rfl rfl ?_
 refine qF 24 rfl rfl rfl ?_
 refine qF 24 rfl rfl rfl ?_
 refine qF 24 rfl rfl rfl ?_
 refine qF 24 rfl rfl rfl ?_
 refine qF 24 rfl rfl rfl ?_
 refine qF 24 rfl rfl rfl ?_
 refine qJ 21 rfl rfl ?_
 refine tl (qO rfl rfl) ?_
 refine tl (qO rfl rfl) ?_
 refine qB <| qC ?_
 refine xV rfl ?_
 refine qZ <| jC <| qC <| qA ?_
 refine tl (jT rfl rfl (by omega) (by omega)) ?_
 refine tl (qG rfl) ?_
 refine qB ?_
 refine xQ ?_
 exact fun a w ha hw => ih2.out (i + 1) (by refine ⟨by omega, ?_, vQ hi3 hx7 (by omega)⟩; rw [jQ hx7]; refine mR hi2 ?_; (have e_ : i = 0 := by omega); subst e_; simp) (by (try dsimp only); omega) a w (ha.sub (xL (by repeat' constructor))) (hw)
 refine xV rfl ?_
 refine jE <| qK <| qK <| xG <| qC <| qE <| qA ?_
 refine tl (qD rfl) ?_
 refine qB <| qC <| qV ?_
 refine xB (.inl rfl) rfl rfl ?_
 have e27 : (true : Bool) = kC l n := by (rw [eq_comm]; unfold kC; rw [decide_eq_true_eq]; rw [xF (by assumption) (by assumption)] at hi2 hi3; exact ⟨hi2, hi3⟩)
 exact fun w hw => ⟨congrArg Ending.returned (congrArg (fun x0 => Value.bool x0) e27), hw⟩

end Go.Proofs.YtcbcdlajnmkioaaGreatDoor
