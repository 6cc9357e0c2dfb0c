/- A part of the proof of the statement ModuleModules of isagogelaw19: functions walked, and plain laws on what they answer. -/
import Derived.Test.YtcbcdlajnmkioaaGreatDoorS0
namespace Go.Proofs.YtcbcdlajnmkioaaGreatDoor
open Go Go.Proofs
set_option linter.unusedSimpArgs false
set_option linter.unusedVariables false
set_option maxRecDepth 20000
set_option maxHeartbeats 8000000
theorem ca32 : Callable Tryz.prog 32 := ⟨by kernel_rfl⟩
theorem ca39 : Callable Tryz.prog 39 := ⟨by kernel_rfl⟩
theorem ca59 : Callable Tryz.prog 59 := ⟨by kernel_rfl⟩
theorem ca60 : Callable Tryz.prog 60 := ⟨by kernel_rfl⟩
theorem ca61 : Callable Tryz.prog 61 := ⟨by kernel_rfl⟩
theorem ca63 : Callable Tryz.prog 63 := ⟨by kernel_rfl⟩
theorem ca79 : Callable Tryz.prog 79 := ⟨by kernel_rfl⟩
theorem sP : kG Tryz.prog 37 0 = some 0 := by kernel_rfl
theorem zA : kG Tryz.prog 37 1 = some 1 := by kernel_rfl
theorem wR : kG Tryz.prog 37 2 = some 2 := by kernel_rfl
theorem bT : kR Tryz.prog 24 = some (true, 3) := by kernel_rfl
theorem ld3 : kR Tryz.prog 3 = some (false, 1) := by kernel_rfl
theorem dH : kR Tryz.prog 35 = some (false, 1) := by kernel_rfl
theorem vU : kR Tryz.prog 37 = some (true, 3) := by kernel_rfl
theorem mixed : Tryz.prog.follows .mixedOrders = true := by kernel_rfl
theorem pl37 : pR Tryz.prog 37 = some (true, [(0, 1), (1, 1), (2, 1)], 0) := by kernel_rfl
theorem pL : wE Tryz.prog 31 = some (3, 1) := by kernel_rfl
theorem sK : wE Tryz.prog 35 = some (37, 3) := by kernel_rfl
theorem eZ : zG Tryz.prog 37 = some [.int .i64 0, .int .i64 0, .slice none 0 0] := by kernel_rfl

mutual
def jW : Concept → Nat
  | .mk _ _ args => 1 + jI args
def jI : List Concept → Nat
  | [] => 0
  | x :: xs => jW x + jI xs
end
mutual
def yH : Concept → Nat
  | .mk _ _ args => yC args + 1
def yC : List Concept → Nat
  | [] => 0
  | x :: xs => max (yH x) (yC xs)
end
theorem uZ (c : Concept) : jW c = 1 + jI c.args := by cases c; simp [jW, Concept.args]
theorem nH (c : Concept) : yH c = yC c.args + 1 := by cases c; simp [yH, Concept.args]
theorem wK : ∀ (l m : List Concept), jI (l ++ m) = jI l + jI m
  | [], m => by simp [jI]
  | x :: xs, m => by simp only [List.cons_append, jI, wK xs m]; omega
theorem cJ : ∀ (l m : List Concept), yC (l ++ m) = max (yC l) (yC m)
  | [], m => by simp [yC]
  | x :: xs, m => by simp only [List.cons_append, yC, cJ xs m]; omega
theorem jQ {α : Type} {l : List α} {i : Nat} {x : α} (h : l[i]? = some x) : l.take (i + 1) = l.take i ++ [x] := by rw [List.take_add_one, h]; rfl
theorem pQ {l : List Concept} {i : Nat} {x : Concept} (h : l[i]? = some x) : jI (l.take (i + 1)) = jI (l.take i) + jW x := by rw [jQ h, wK]; simp [jI]
theorem rD {l : List Concept} {i : Nat} {x : Concept} (h : l[i]? = some x) : yC (l.take (i + 1)) = max (yC (l.take i)) (yH x) := by rw [jQ h, cJ]; simp [yC]
theorem sY (l : List Concept) (i : Nat) : jI (l.take i) ≤ jI l := by
  have := wK (l.take i) (l.drop i); rw [List.take_append_drop] at this; omega
theorem yS {l : List Concept} {i : Nat} {x : Concept} (h : l[i]? = some x) : jI (l.take i) + jW x ≤ jI l := by rw [← pQ h]; exact sY _ _
theorem dL (c : Concept) : 0 < jW c := by rw [uZ]; omega
mutual
theorem sZ : ∀ c : Concept, yH c ≤ jW c
  | .mk _ _ args => by have := zZ args; simp only [yH, jW]; omega
theorem zZ : ∀ l : List Concept, yC l ≤ jI l
  | [] => by simp [yC, jI]
  | x :: xs => by have := sZ x; have := zZ xs; simp only [yC, jI]; omega
end
theorem xF {α : Type} {l : List α} {i : Nat} (h : i ≤ l.length) (h2 : ¬ ((i : Int) < (l.length : Int))) : l.take i = l := List.take_of_length_le (by omega)
def kI (op : Int) : Int := if op = 0 ∨ op = 1 ∨ op = 2 then 0 else if op = 3 ∨ op = 6 ∨ op = 7 then 1 else if op = 4 ∨ op = 5 then 2 else -1
theorem nI (op : Int) : -1 ≤ kI op ∧ kI op ≤ 2 := by unfold kI; split <;> (try split) <;> (try split) <;> omega

theorem aA {R : RO} {G : List Res} {w : World} (op : Int) (hi_op : i64 op) (hw : Own w R (G)) :
    Calls Tryz.prog 79 [.int .i64 op].toArray w (kK R G (.int .i64 (kI op))) := by
 unfold i64 at hi_op
 refine xH (vs := [.int .i64 op]) Tryz.func79 rfl rfl rfl ?_ hw
 refine qE <| qA ?_
 refine tl (qD rfl) ?_
 refine qB <| qC <| qE <| qE <| qA ?_
 refine tl (qG rfl) ?_
 refine qB <| qC <| qX <| qE <| qE <| qA ?_
 refine tl (jR rfl rfl rfl) ?_
 refine tl (qD rfl) ?_
 refine qB <| qC ?_
 refine qP 4 rfl (fun h1 => ?_) (fun h1 => ?_)
 refine xE rfl ?_
 refine qZ <| qC ?_
 refine xE rfl ?_
 refine qE <| qA ?_
 refine tl (qD rfl) ?_
 refine qB <| qC <| qV <| qN <| qI ?_
 refine xB (.inl rfl) rfl rfl ?_
 have e2 : (0 : Int) = kI op := by (simp only [kI]; grind)
 exact fun w hw => ⟨congrArg Ending.returned (congrArg (fun x0 => Value.int .i64 x0) e2), hw⟩
 refine xV rfl ?_
 refine qE <| qA ?_
 refine tl (jR rfl rfl rfl) ?_
 refine tl (qD rfl) ?_
 refine qB <| qC ?_
 refine qP 4 rfl (fun h3 => ?_) (fun h3 => ?_)
 refine xE rfl ?_
 refine qZ <| qC ?_
 refine xE rfl ?_
 refine qE <| qA ?_
 refine tl (qD rfl) ?_
 refine qB <| qC <| qV <| qN <| qI ?_
 refine xB (.inl rfl) rfl rfl ?_
 have e4 : (0 : Int) = kI op := by (simp only [kI]; grind)
 exact fun w hw => ⟨congrArg Ending.returned (congrArg (fun x0 => Value.int .i64 x0) e4), hw⟩
 refine xV rfl ?_
 refine qA ?_
 refine tl (jR rfl rfl rfl) ?_
 refine tl (qD rfl) ?_
 refine qB <| qC ?_
 refine qP 4 rfl (fun h5 => ?_) (fun h5 => ?_)
 refine xE rfl ?_
 refine qE <| qA ?_
 refine tl (qD rfl) ?_
 refine qB <| qC <| qV <| qN <| qI ?_
 refine xB (.inl rfl) rfl rfl ?_
 have e6 : (0 : Int) = kI op := by (simp only [kI]; grind)
 exact fun w hw => ⟨congrArg Ending.returned (congrArg (fun x0 => Value.int .i64 x0) e6), hw⟩
 refine xV rfl ?_
 refine qE <| qE <| qA ?_
 refine tl (jR rfl rfl rfl) ?_
 refine tl (qD rfl) ?_
 refine qB <| qC ?_
 refine qP 8 rfl (fun h7 => ?_) (fun h7 => ?_)
 refine xE rfl ?_
 refine qZ <| qC ?_
 refine xE rfl ?_
 refine qE <| qA ?_
 refine tl (qD rfl) ?_
 refine qB <| qC <| qV <| qN <| qI ?_
 refine xB (.inl rfl) rfl rfl ?_
 have e8 : (1 : Int) = kI op := by (simp only [kI]; grind)
 exact fun w hw => ⟨congrArg Ending.returned (congrArg (fun x0 => Value.int .i64 x0) e8), hw⟩
 refine xV rfl ?_
 refine qE <| qA ?_
 refine tl (jR rfl rfl rfl) ?_
 refine tl (qD rfl) ?_
 refine qB <| qC ?_
 refine qP 8 rfl (fun h9 => ?_) (fun h9 => ?_)
 refine xE rfl ?_
 refine qZ <| qC ?_
 refine xE rfl ?_
 refine qE <| qA ?_
 refine tl (qD rfl) ?_
 refine qB <| qC <| qV <| qN <| qI ?_
 refine xB (.inl rfl) rfl rfl ?_
 have e10 : (1 : Int) = kI op := by (simp only [kI]; grind)
 exact fun w hw => ⟨congrArg Ending.returned (congrArg (fun x0 => Value.int .i64 x0) e10), hw⟩
 refine xV rfl ?_
 refine qA ?_
 refine tl (jR rfl rfl rfl) ?_
 refine tl (qD rfl) ?_
 refine qB <| qC ?_
 refine qP 8 rfl (fun h11 => ?_) (fun h11 => ?_)
 refine xE rfl ?_
 refine qE <| qA ?_
 refine tl (qD rfl) ?_
 refine qB <| qC <| qV <| qN <| qI ?_
 refine xB (.inl rfl) rfl rfl ?_
 have e12 : (1 : Int) = kI op := by (simp only [kI]; grind)
 exact fun w hw => ⟨congrArg Ending.returned (congrArg (fun x0 => Value.int .i64 x0) e12), hw⟩
 refine xV rfl ?_
 refine qE <| qE <| qA ?_
 refine tl (jR rfl rfl rfl) ?_
 refine tl (qD rfl) ?_
 refine qB <| qC ?_
 refine qP 12 rfl (fun h13 => ?_) (fun h13 => ?_)
 refine xE rfl ?_
 refine qZ <| qC ?_
 refine xE rfl ?_
 refine qE <| qA ?_
 refine tl (qD rfl) ?_
 refine qB <| qC <| qV <| qN <| qI ?_
 refine xB (.inl rfl) rfl rfl ?_
 have e14 : (2 : Int) = kI op := by (simp only [kI]; grind)
 exact fun w hw => ⟨congrArg Ending.returned (congrArg (fun x0 => Value.int .i64 x0) e14), hw⟩
 refine xV rfl ?_
 refine qA ?_
 refine tl (jR rfl rfl rfl) ?_
 refine tl (qD rfl) ?_
 refine qB <| qC ?_
 refine qP 12 rfl (fun h15 => ?_) (fun h15 => ?_)
 refine xE rfl ?_
 refine qE <| qA ?_
 refine tl (qD rfl) ?_
 refine qB <| qC <| qV <| qN <| qI ?_
 refine xB (.inl rfl) rfl rfl ?_
 have e16 : (2 : Int) = kI op := by (simp only [kI]; grind)
 exact fun w hw => ⟨congrArg Ending.returned (congrArg (fun x0 => Value.int .i64 x0) e16), hw⟩
 refine xV rfl ?_
 refine qZ <| jC <| qC <| qE <| qA ?_
 refine tl (qD rfl) ?_
 refine qB <| qC <| qV ?_
 refine xB (.inl rfl) rfl rfl ?_
 have e17 : ((-1) : Int) = kI op := by (simp only [kI]; grind)
 exact fun w hw => ⟨congrArg Ending.returned (congrArg (fun x0 => Value.int .i64 x0) e17), hw⟩

theorem vP {R : RO} {G : List Res} {w : World} (op : Int) (hi_op : i64 op) (hw : Own w R (G)) :
    Calls Tryz.prog 61 [.int .i64 op].toArray w (kK R G (.bool (decide (op = 6 ∨ op = 7)))) := by
 unfold i64 at hi_op
 refine xH (vs := [.int .i64 op]) Tryz.func61 rfl rfl rfl ?_ hw
 refine qE <| qA ?_
 refine tl (qD rfl) ?_
 refine qB <| qC ?_
 refine vH [(2, .bool (decide ((op = 6) ∨ (op = 7))))] (G) (fun _ => True) (fun K hK1 hE2 => ?_) ?_
 refine qA ?_
 refine tl (qG rfl) ?_
 refine tl (jR rfl rfl rfl) ?_
 refine tl (qG rfl) ?_
 refine xX 5 rfl (fun h3 => ?_) (fun h3 => ?_)
 refine qF 5 rfl rfl rfl ?_
 refine qF 5 rfl rfl rfl ?_
 refine tl (qR rfl rfl) ?_
 refine tl (qD rfl) ?_
 refine qB ?_
 exact xW hK1 (.refl _) (trivial) ⟨show some (Value.bool true) = some (Value.bool (decide ((op = 6) ∨ (op = 7)))) by first | (simp [h3]; done) | grind | (simp [h3] <;> omega), trivial⟩ (fun w hw => hw)
 refine qJ 5 rfl rfl ?_
 refine tl (qG rfl) ?_
 refine qJ 5 rfl rfl ?_
 refine tl (jR rfl rfl rfl) ?_
 refine tl (qO rfl rfl) ?_
 refine tl (qD rfl) ?_
 refine qB ?_
 exact xW hK1 (.refl _) (trivial) ⟨show some (Value.bool (decide (op = 7))) = some (Value.bool (decide ((op = 6) ∨ (op = 7)))) by first | (simp [h3]; done) | grind | (simp [h3] <;> omega), trivial⟩ (fun w hw => hw)
 refine fun R5 hle6 hj4 => jH hle6 ?_
 refine qV ?_
 refine xB (.inl rfl) rfl rfl ?_
 have e7 : (decide ((op = 6) ∨ (op = 7)) : Bool) = decide (op = 6 ∨ op = 7) := by first | rfl | grind
 exact fun w hw => ⟨congrArg Ending.returned (congrArg (fun x0 => Value.bool x0) e7), hw⟩

theorem aB (m : Nat) : ∀ {R : RO} {G : List Res} {w : World} {c_c : List Value} (c : Concept) (hr_c : kConcept.rep R c c_c) (hb : jW c ≤ 1000000), SizeOf.sizeOf c = m → Own w R (G) →
    Calls Tryz.prog 39 [.agg c_c.toArray].toArray w (kK R G (.tuple #[.int .i64 (jW c : Int), .int .i64 (yH c : Int)])) := by
 induction m using Nat.strongRecOn with
 | _ m ih =>
  intro R G w c_c c hr_c hb hm hw
  subst hm
  replace ih := Aside.mk ih
  obtain ⟨A1, d2, rfl, i3, i4, hs5⟩ := qM hr_c
  unfold i64 at i3 i4
  have z6 := hs5.size
  unfold big at z6
  have hdn := sZ c
  have hne := uZ c
  have hde := nH c
  refine xH (vs := [.agg #[.int .i64 c.op, .int .i64 c.n, .slice A1 c.args.length d2]]) Tryz.func39 rfl rfl rfl ?_ hw
  refine qE <| qA ?_
  refine qW (l := [.int .i64 c.op, .int .i64 c.n, .slice A1 c.args.length d2]) rfl rfl fun b7 => ?_
  refine tl (qD rfl) ?_
  refine tl (qD rfl) ?_
  refine qB <| qC <| qE <| qA ?_
  refine tl (qD rfl) ?_
  refine qB <| qC <| qE <| qE <| qA ?_
  refine tl (qH 2 rfl wR rfl) ?_
  refine tl (jM 0 rfl dH rfl rfl) ?_
  refine tl (jJ rfl sK) ?_
  refine tl (qG rfl) ?_
  refine qB <| qC <| qX ?_
  refine jF ?_
  refine jN (fun i : Nat => c.args.length - i) (fun i : Nat => [(9, .slice A1 c.args.length d2), (10, .int .i64 (c.args.length : Int)), (11, .int .i64 (i : Int)), (2, .int .i64 ((1 + jI (c.args.take i) : Nat) : Int)), (3, .int .i64 ((yC (c.args.take i) : Nat) : Int))]) (fun i : Nat => (.blk b7 [.int .i64 c.op, .int .i64 c.n, .slice A1 c.args.length d2] 37 :: G)) (fun (i : Nat) => i ≤ c.args.length) (0) ⟨rfl, rfl, rfl, congrArg (fun z => some (Value.int .i64 z)) (show (1 : Int) = ((1 + jI (c.args.take 0) : Nat) : Int) by first | rfl | omega | (simp; done) | (simp; omega)), congrArg (fun z => some (Value.int .i64 z)) (show (0 : Int) = ((yC (c.args.take 0) : Nat) : Int) by first | rfl | omega | (simp; done) | (simp; omega)), trivial⟩ (by omega) (fun w hw => hw) ?_
  rintro i hI8 ih9
  show TC Tryz.prog _ _ _ [] [(9, .slice A1 c.args.length d2), (10, .int .i64 (c.args.length : Int)), (11, .int .i64 (i : Int)), (2, .int .i64 ((1 + jI (c.args.take i) : Nat) : Int)), (3, .int .i64 ((yC (c.args.take i) : Nat) : Int))] R (.blk b7 [.int .i64 c.op, .int .i64 c.n, .slice A1 c.args.length d2] 37 :: G)
  have hnt := sY c.args i
  have hdt := zZ (c.args.take i)
  refine qE <| qA ?_
  refine tl (jR rfl rfl rfl) ?_
  refine qB <| qC <| qE ?_
  refine qP 12 rfl (fun h12 => ?_) (fun h12 => ?_)
  refine xE rfl ?_
  refine qZ <| qC <| qE <| qX <| qE <| qA ?_
  have hb18 : i < c.args.length := by omega
  obtain ⟨x13, hx14⟩ : ∃ x, c.args[i]? = some x := ⟨_, List.getElem?_eq_getElem hb18⟩
  obtain ⟨c15, hr16, ha17⟩ := hs5.get _ x13 hx14
  obtain ⟨A19, d20, rfl, i21, i22, hs23⟩ := qM hr16
  unfold i64 at i21 i22
  have z24 := hs23.size
  unfold big at z24
  have hf25 := yS hx14
  have hf26 := pQ hx14
  have hf27 := rD hx14
  have hf28 := sZ x13
  refine tl (jV (i := i) hs5 rfl rfl rfl sK hb18) ?_
  refine tl (jA 0 [.int .i64 x13.op, .int .i64 x13.n, .slice A19 x13.args.length d20] ha17 rfl vU rfl rfl) ?_
  refine qS eZ rfl fun b29 => ?_
  refine xN 0 [.int .i64 x13.op, .int .i64 x13.n, .slice A19 x13.args.length d20] rfl rfl vU rfl rfl rfl rfl rfl rfl ?_
  refine qB <| qC <| qE <| qA ?_
  refine tl (qQ 0 [.int .i64 x13.op, .int .i64 x13.n, .slice A19 x13.args.length d20] rfl vU rfl rfl) ?_
  refine xC ca39 rfl (fun w hw => ih.out (SizeOf.sizeOf x13) (by exact Concept.sizeOf_arg hx14) x13 hr16 (by first | assumption | omega) rfl hw) rfl ?_
  refine tl (qG rfl) ?_
  refine tl (jG rfl rfl) ?_
  refine tl (jG rfl rfl) ?_
  refine tl (qD rfl) ?_
  refine tl (qD rfl) ?_
  refine qB <| qC <| qA ?_
  refine tl (qG rfl) ?_
  refine tl (qG rfl) ?_
  refine tl (jT rfl rfl (by omega) (by omega)) ?_
  refine tl (qG rfl) ?_
  refine tl (qG rfl) ?_
  refine tl (v_max rfl rfl) ?_
  refine tl (qD rfl) ?_
  refine tl (qD rfl) ?_
  refine qB <| jC <| qC <| qA ?_
  refine tl (jT rfl rfl (by omega) (by omega)) ?_
  refine tl (qG rfl) ?_
  refine qB ?_
  refine xQ ?_
  exact fun a w ha hw => ih9.out (i + 1) (by omega) (by (try dsimp only); omega) a w (ha.sub (xL ⟨rfl, rfl, rfl, congrArg (fun z => some (Value.int .i64 z)) (show (((1 + jI (c.args.take i) : Nat) : Int) + (jW x13 : Int) : Int) = ((1 + jI (c.args.take (i + 1)) : Nat) : Int) by first | rfl | omega), congrArg (fun z => some (Value.int .i64 z)) (show (max ((yC (c.args.take i) : Nat) : Int) (yH x13 : Int) : Int) = ((yC (c.args.take (i + 1)) : Nat) : Int) by first | rfl | omega), trivial⟩)) (hw.drop 1)
  refine xV rfl ?_
  refine jE <| qK <| qK <| xG <| qC <| qE <| qA ?_
  refine tl (qG rfl) ?_
  refine tl (qG rfl) ?_
  refine tl (jT rfl rfl (by omega) (by omega)) ?_
  refine tl (qD rfl) ?_
  refine tl (qD rfl) ?_
  refine qB <| qC <| qV ?_
  refine kL (.inl rfl) rfl rfl rfl ?_
  have e30 : (((1 + jI (c.args.take i) : Nat) : Int) : Int) = (jW c : Int) := by (rw [xF (by assumption) (by assumption)]; omega)
  have e31 : (((yC (c.args.take i) : Nat) : Int) + 1 : Int) = (yH c : Int) := by (rw [xF (by assumption) (by assumption)]; omega)
  exact fun w hw => ⟨congrArg Ending.returned (yW (fun x0 x1 => Value.tuple #[.int .i64 x0, .int .i64 x1]) e30 e31), hw.drop 1⟩
theorem zC {R : RO} {G : List Res} {w : World} {c_c : List Value} (c : Concept) (hr_c : kConcept.rep R c c_c) (hb : jW c ≤ 1000000) (hw : Own w R (G)) :
    Calls Tryz.prog 39 [.agg c_c.toArray].toArray w (kK R G (.tuple #[.int .i64 (jW c : Int), .int .i64 (yH c : Int)])) := aB _ c hr_c hb rfl hw

def nJ (c : Concept) (m : Int) : Int := max (m - jW c) 0

theorem aC (m : Nat) : ∀ {R : RO} {G : List Res} {w : World} {c_c : List Value} (c : Concept) (most : Int) (hr_c : kConcept.rep R c c_c) (hi_most : i64 most) (hb : 0 ≤ most), SizeOf.sizeOf c = m → Own w R (G) →
    Calls Tryz.prog 63 [.agg c_c.toArray, .int .i64 most].toArray w (kK R G (.int .i64 (nJ c most))) := by
 induction m using Nat.strongRecOn with
 | _ m ih =>
  intro R G w c_c c most hr_c hi_most hb hm hw
  subst hm
  replace ih := Aside.mk ih
  obtain ⟨A1, d2, rfl, i3, i4, hs5⟩ := qM hr_c
  unfold i64 at i3 i4
  have z6 := hs5.size
  unfold big at z6
  unfold i64 at hi_most
  have hne := uZ c
  refine xH (vs := [.agg #[.int .i64 c.op, .int .i64 c.n, .slice A1 c.args.length d2], .int .i64 most]) Tryz.func63 rfl rfl rfl ?_ hw
  refine qE <| qA ?_
  refine qW (l := [.int .i64 c.op, .int .i64 c.n, .slice A1 c.args.length d2]) rfl rfl fun b7 => ?_
  refine tl (qD rfl) ?_
  refine qB <| qC <| qE <| qA ?_
  refine tl (qG rfl) ?_
  refine tl (bV rfl rfl (by omega) (by omega)) ?_
  refine tl (qD rfl) ?_
  refine qB <| qC <| qE <| qE <| qA ?_
  refine tl (qD rfl) ?_
  refine qB <| qC <| qX ?_
  refine jF ?_
  refine jN (fun b_ : Nat × Int => match b_ with | (i, m) => c.args.length - i) (fun b_ : Nat × Int => match b_ with | (i, m) => [(2, .pointer (some ⟨b7, 0, none⟩)), (4, .int .i64 0), (5, .int .i64 (i : Int)), (1, .int .i64 m)]) (fun b_ : Nat × Int => match b_ with | (i, m) => (.blk b7 [.int .i64 c.op, .int .i64 c.n, .slice A1 c.args.length d2] 37 :: G)) (fun (b_ : Nat × Int) => match b_ with | (i, m) => i ≤ c.args.length ∧ m ≤ most ∧ -1 ≤ m ∧ ((m = most - 1 - jI (c.args.take i)) ∨ (m ≤ 0 ∧ most - 1 - jI (c.args.take i) ≤ m ∧ most - 1 - jI (c.args.take i) ≤ 0))) (0, most - 1) ⟨rfl, rfl, rfl, rfl, trivial⟩ (by (simp [jI]; omega)) (fun w hw => hw) ?_
  rintro ⟨i, m⟩ hI8 ih9
  show TC Tryz.prog _ _ _ [] [(2, .pointer (some ⟨b7, 0, none⟩)), (4, .int .i64 0), (5, .int .i64 (i : Int)), (1, .int .i64 m)] R (.blk b7 [.int .i64 c.op, .int .i64 c.n, .slice A1 c.args.length d2] 37 :: G)
  obtain ⟨hi1, hi2, hi3, hi4⟩ := hI8
  have hnt := sY c.args i
  refine qE ?_
  refine vH [(2, .pointer (some ⟨b7, 0, none⟩)), (4, .int .i64 0), (5, .int .i64 (i : Int)), (1, .int .i64 m), (16, .bool (decide (((i : Int) < (c.args.length : Int)) ∧ (0 < m))))] (.blk b7 [.int .i64 c.op, .int .i64 c.n, .slice A1 c.args.length d2] 37 :: G) (fun _ => True) (fun K hK12 hE13 => ?_) ?_
  refine qA ?_
  refine tl (qG rfl) ?_
  refine tl (qH 2 rfl wR rfl) ?_
  refine tl (jM 0 rfl dH rfl rfl) ?_
  refine tl (jJ rfl sK) ?_
  refine tl (jR rfl rfl rfl) ?_
  refine tl (qG rfl) ?_
  refine xX 13 rfl (fun h14 => ?_) (fun h14 => ?_)
  refine qJ 13 rfl rfl ?_
  refine tl (qG rfl) ?_
  refine qJ 13 rfl rfl ?_
  refine tl (jR rfl rfl rfl) ?_
  refine tl (qR rfl rfl) ?_
  refine qB ?_
  exact xW hK12 (.refl _) (trivial) ⟨rfl, rfl, rfl, rfl, show some (Value.bool (decide (0 < m))) = some (Value.bool (decide (((i : Int) < (c.args.length : Int)) ∧ (0 < m)))) by first | (simp [h14]; done) | grind | (simp [h14] <;> omega), trivial⟩ (fun w hw => hw)
  refine qF 13 rfl rfl rfl ?_
  refine qF 13 rfl rfl rfl ?_
  refine tl (qO rfl rfl) ?_
  refine qB ?_
  exact xW hK12 (.refl _) (trivial) ⟨rfl, rfl, rfl, rfl, show some (Value.bool false) = some (Value.bool (decide (((i : Int) < (c.args.length : Int)) ∧ (0 < m)))) by first | (simp [h14]; done) | grind | (simp [h14] <;> omega), trivial⟩ (fun w hw => hw)
  refine fun R16 hle17 hj15 => jH hle17 ?_
  refine qP 16 rfl (fun h18 => ?_) (fun h18 => ?_)
  refine xE rfl ?_
  refine qZ <| qC <| qE <| qX <| qA ?_
  refine tl (qH 2 rfl wR rfl) ?_
  refine tl (jM 0 rfl dH rfl rfl) ?_
  refine tl (qG rfl) ?_
  have hb24 : i < c.args.length := by omega
  obtain ⟨x19, hx20⟩ : ∃ x, c.args[i]? = some x := ⟨_, List.getElem?_eq_getElem hb24⟩
  obtain ⟨c21, hr22, ha23⟩ := hs5.get _ x19 hx20
  obtain ⟨A25, d26, rfl, i27, i28, hs29⟩ := qM hr22
  unfold i64 at i27 i28
  have z30 := hs29.size
  unfold big at z30
  have hf31 := yS hx20
  have hf32 := pQ hx20
  have hf33 := dL x19
  refine tl (jV (i := i) hs5 rfl rfl rfl sK hb24) ?_
  refine tl (jA 0 [.int .i64 x19.op, .int .i64 x19.n, .slice A25 x19.args.length d26] ha23 rfl vU rfl rfl) ?_
  refine tl (qG rfl) ?_
  refine xC ca63 rfl (fun w hw => ih.out (SizeOf.sizeOf x19) (by exact Concept.sizeOf_arg hx20) x19 m hr22 (by unfold i64; omega) (by first | assumption | omega) rfl hw) rfl ?_
  refine tl (qD rfl) ?_
  refine qB <| jC <| qC <| qA ?_
  refine tl (qG rfl) ?_
  refine tl (jT rfl rfl (by omega) (by omega)) ?_
  refine tl (qD rfl) ?_
  refine qB ?_
  refine xQ ?_
  exact fun a w ha hw => ih9.out (i + 1, nJ x19 m) (by simp only [nJ] at *; omega) (by (try dsimp only); omega) a w (ha.sub (xL ⟨rfl, rfl, rfl, rfl, trivial⟩)) (hw)
  refine xV rfl ?_
  refine jE <| qK <| qK <| xG <| qC <| qE <| qA ?_
  refine tl (qG rfl) ?_
  refine tl (v_max rfl rfl) ?_
  refine tl (qD rfl) ?_
  refine qB <| qC <| qV ?_
  refine xB (.inl rfl) rfl rfl ?_
  have e34 : (max m 0 : Int) = nJ c most := by (simp only [nJ]; rcases Nat.lt_or_ge i c.args.length with hl_ | hl_; omega; (have e_ := xF (l := c.args) (i := i) (by omega) (by omega); rw [e_] at hi4; omega))
  exact fun w hw => ⟨congrArg Ending.returned (congrArg (fun x0 => Value.int .i64 x0) e34), hw.drop 1⟩
theorem bH {R : RO} {G : List Res} {w : World} {c_c : List Value} (c : Concept) (most : Int) (hr_c : kConcept.rep R c c_c) (hi_most : i64 most) (hb : 0 ≤ most) (hw : Own w R (G)) :
    Calls Tryz.prog 63 [.agg c_c.toArray, .int .i64 most].toArray w (kK R G (.int .i64 (nJ c most))) := aC _ c most hr_c hi_most hb rfl hw

theorem zD {R : RO} {G : List Res} {w : World} {c_c : List Value} (c : Concept) (most : Int) (hr_c : kConcept.rep R c c_c) (hi_most : i64 most) (hb : 0 ≤ most ∧ most ≤ 1000000) (hw : Own w R (G)) :
    Calls Tryz.prog 32 [.agg c_c.toArray, .int .i64 most].toArray w (kK R G (.bool (decide ((jW c : Int) ≤ most)))) := by
 obtain ⟨A1, d2, rfl, i3, i4, hs5⟩ := qM hr_c
 unfold i64 at i3 i4
 have z6 := hs5.size
 unfold big at z6
 unfold i64 at hi_most
 refine xH (vs := [.agg #[.int .i64 c.op, .int .i64 c.n, .slice A1 c.args.length d2], .int .i64 most]) Tryz.func32 rfl rfl rfl ?_ hw
 refine qE <| qA ?_
 refine qW (l := [.int .i64 c.op, .int .i64 c.n, .slice A1 c.args.length d2]) rfl rfl fun b7 => ?_
 refine tl (qD rfl) ?_
 refine qB <| qC <| qE <| qA ?_
 refine tl (qQ 0 [.int .i64 c.op, .int .i64 c.n, .slice A1 c.args.length d2] rfl vU rfl rfl) ?_
 refine tl (qG rfl) ?_
 refine tl (jT rfl rfl (by omega) (by omega)) ?_
 refine xC ca63 rfl (fun w hw => bH c (most + 1) hr_c (by unfold i64; omega) (by first | assumption | omega) hw) rfl ?_
 refine tl (jR rfl rfl rfl) ?_
 refine tl (qD rfl) ?_
 refine qB <| qC <| qV ?_
 refine xB (.inl rfl) rfl rfl ?_
 have e8 : (decide (0 < (nJ c (most + 1))) : Bool) = decide ((jW c : Int) ≤ most) := by (rw [Bool.eq_iff_iff, decide_eq_true_eq, decide_eq_true_eq]; simp only [nJ]; omega)
 exact fun w hw => ⟨congrArg Ending.returned (congrArg (fun x0 => Value.bool x0) e8), hw.drop 1⟩

theorem aD {R : RO} {G : List Res} {w : World} {c_c : List Value} (c : Concept) (hr_c : kConcept.rep R c c_c) (hw : Own w R (G)) :
    Calls Tryz.prog 59 [.agg c_c.toArray].toArray w (kK R G (.bool (decide (jW c ≤ 400 ∧ yH c ≤ 20)))) := by
 obtain ⟨A1, d2, rfl, i3, i4, hs5⟩ := qM hr_c
 unfold i64 at i3 i4
 have z6 := hs5.size
 unfold big at z6
 refine xH (vs := [.agg #[.int .i64 c.op, .int .i64 c.n, .slice A1 c.args.length d2]]) Tryz.func59 rfl rfl rfl ?_ hw
 refine qE <| qA ?_
 refine qW (l := [.int .i64 c.op, .int .i64 c.n, .slice A1 c.args.length d2]) rfl rfl fun b7 => ?_
 refine tl (qD rfl) ?_
 refine qB <| qC <| qE <| qE <| qA ?_
 refine tl (qQ 0 [.int .i64 c.op, .int .i64 c.n, .slice A1 c.args.length d2] rfl vU rfl rfl) ?_
 refine xC ca32 rfl (fun w hw => zD c 400 hr_c (by unfold i64; omega) (by first | assumption | omega) hw) rfl ?_
 refine tl (wZ rfl) ?_
 refine qB <| qC ?_
 refine qP 7 rfl (fun h8 => ?_) (fun h8 => ?_)
 refine xE rfl ?_
 refine qE <| qA ?_
 refine tl (qD rfl) ?_
 refine qB <| qC <| qV <| qI ?_
 refine xB (.inl rfl) rfl rfl ?_
 have e9 : (false : Bool) = decide (jW c ≤ 400 ∧ yH c ≤ 20) := by (first | (rw [eq_comm, decide_eq_false_iff_not]; omega) | (rw [Bool.eq_iff_iff]; simp only [decide_eq_true_eq]; omega))
 exact fun w hw => ⟨congrArg Ending.returned (congrArg (fun x0 => Value.bool x0) e9), hw.drop 1⟩
 refine xV rfl ?_
 refine qZ <| qC <| qE <| qA ?_
 refine tl (qQ 0 [.int .i64 c.op, .int .i64 c.n, .slice A1 c.args.length d2] rfl vU rfl rfl) ?_
 refine xC ca39 rfl (fun w hw => zC c hr_c (by omega) hw) rfl ?_
 refine tl (qG rfl) ?_
 refine tl (jG rfl rfl) ?_
 refine tl (jG rfl rfl) ?_
 refine tl (qD rfl) ?_
 refine tl (qD rfl) ?_
 refine qB <| qC <| qE <| qA ?_
 refine tl (qG rfl) ?_
 refine tl (jR rfl rfl rfl) ?_
 refine tl (qD rfl) ?_
 refine qB <| qC <| qV ?_
 refine xB (.inl rfl) rfl rfl ?_
 have e10 : (decide ((yH c : Int) ≤ 20) : Bool) = decide (jW c ≤ 400 ∧ yH c ≤ 20) := by (first | (rw [eq_comm, decide_eq_false_iff_not]; omega) | (rw [Bool.eq_iff_iff]; simp only [decide_eq_true_eq]; omega))
 exact fun w hw => ⟨congrArg Ending.returned (congrArg (fun x0 => Value.bool x0) e10), hw.drop 1⟩

mutual
def jZ (n : Names) : Concept → Bool
  | .mk op a args => decide (kI op = args.length ∧ 0 ≤ a ∧ (if op = 0 then a < n.concepts.length else if op = 6 ∨ op = 7 then a < 2 * n.roles.length else a = 0)) && pD n args
def pD (n : Names) : List Concept → Bool
  | [] => true
  | x :: xs => jZ n x && pD n xs
end
theorem aE (n : Names) : ∀ l : List Concept, pD n l = true ↔ ∀ x ∈ l, jZ n x = true
  | [] => by simp [pD]
  | x :: xs => by simp [pD, aE n xs]
theorem vK (n : Names) (c : Concept) : jZ n c = true ↔ (kI c.op = c.args.length ∧ 0 ≤ c.n ∧ (if c.op = 0 then c.n < n.concepts.length else if c.op = 6 ∨ c.op = 7 then c.n < 2 * n.roles.length else c.n = 0)) ∧ ∀ x ∈ c.args, jZ n x = true := by
  cases c with
  | mk op a args =>
    show jZ n (.mk op a args) = true ↔ (kI op = args.length ∧ 0 ≤ a ∧ (if op = 0 then a < n.concepts.length else if op = 6 ∨ op = 7 then a < 2 * n.roles.length else a = 0)) ∧ ∀ x ∈ args, jZ n x = true
    rw [jZ, Bool.and_eq_true, decide_eq_true_eq, aE]
theorem vQ {α : Type} {l : List α} {p : α → Prop} {i : Nat} {x : α} (h : ∀ y ∈ l.take i, p y) (hx : l[i]? = some x) (hp : p x) : ∀ y ∈ l.take (i + 1), p y := by
  rw [jQ hx]; intro y hy; rw [List.mem_append] at hy; rcases hy with hy | hy
  · exact h y hy
  · simp at hy; exact hy ▸ hp
theorem arity0 {op : Int} (h : kI op = 0) : op = 0 ∨ op = 1 ∨ op = 2 := by unfold kI at h; grind

theorem tT (m : Nat) : ∀ {R : RO} {G : List Res} {w : World} {c_n : List Value} (n : Names) {c_c : List Value} (c : Concept) (hr_n : kNames.rep R n c_n) (hr_c : kConcept.rep R c c_c), SizeOf.sizeOf c = m → Own w R (G) →
    Calls Tryz.prog 60 [.agg c_n.toArray, .agg c_c.toArray].toArray w (kK R G (.bool (jZ n c))) := by
 induction m using Nat.strongRecOn with
 | _ m ih =>
  intro R G w c_n n c_c c hr_n hr_c hm hw
  subst hm
  replace ih := Aside.mk ih
  obtain ⟨A1, d2, A5, d6, A9, d10, rfl, hs3, hs7, hs11⟩ := id hr_n
  have z4 := hs3.size
  unfold big at z4
  have z8 := hs7.size
  unfold big at z8
  have z12 := hs11.size
  unfold big at z12
  obtain ⟨A13, d14, rfl, i15, i16, hs17⟩ := qM hr_c
  unfold i64 at i15 i16
  have z18 := hs17.size
  unfold big at z18
  refine xH (vs := [.agg #[.slice A1 n.concepts.length d2, .slice A5 n.roles.length d6, .slice A9 n.inds.length d10], .agg #[.int .i64 c.op, .int .i64 c.n, .slice A13 c.args.length d14]]) Tryz.func60 rfl rfl rfl ?_ hw
  refine qE <| qA ?_
  refine qW (l := [.slice A1 n.concepts.length d2, .slice A5 n.roles.length d6, .slice A9 n.inds.length d10]) rfl rfl fun b19 => ?_
  refine qW (l := [.int .i64 c.op, .int .i64 c.n, .slice A13 c.args.length d14]) rfl rfl fun b20 => ?_
  refine tl (qD rfl) ?_
  refine qB <| qC <| qE ?_
  refine vH [(0, .agg #[.slice A1 n.concepts.length d2, .slice A5 n.roles.length d6, .slice A9 n.inds.length d10]), (1, .agg #[.int .i64 c.op, .int .i64 c.n, .slice A13 c.args.length d14]), (2, .pointer (some ⟨b19, 0, none⟩)), (3, .pointer (some ⟨b20, 0, none⟩)), (4, .bool false), (18, .bool (decide ((¬ (kI c.op) = (c.args.length : Int)) ∨ (c.n < 0))))] (.blk b20 [.int .i64 c.op, .int .i64 c.n, .slice A13 c.args.length d14] 37 :: .blk b19 [.slice A1 n.concepts.length d2, .slice A5 n.roles.length d6, .slice A9 n.inds.length d10] 24 :: G) (fun _ => True) (fun K hK21 hE22 => ?_) ?_
  refine wG mixed (by kernel_rfl) ?_
  refine tq (qH 0 rfl sP rfl) ?_
  refine tq (jM 0 rfl ld3 rfl rfl) ?_
  refine gP ca79 rfl (fun w hw => aA c.op (by unfold i64; omega) hw) rfl ?_
  have hf23 := nI c.op
  refine tq (qH 2 rfl wR rfl) ?_
  refine tq (jM 0 rfl dH rfl rfl) ?_
  refine tq (jJ rfl sK) ?_
  refine tq (jR rfl rfl rfl) ?_
  refine tq (qG rfl) ?_
  refine yI 14 rfl (fun h24 => ?_) (fun h24 => ?_)
  refine xA 14 rfl rfl rfl ?_
  refine xA 14 rfl rfl rfl ?_
  refine xA 14 rfl rfl rfl ?_
  refine tq (qR rfl rfl) ?_
  refine vD ?_
  exact xW hK21 (.refl _) (trivial) ⟨rfl, rfl, rfl, rfl, rfl, show some (Value.bool true) = some (Value.bool (decide ((¬ (kI c.op) = (c.args.length : Int)) ∨ (c.n < 0)))) by first | (simp [h24]; done) | grind | (simp [h24] <;> omega), trivial⟩ (fun w hw => hw)
  refine xU 14 rfl rfl ?_
  refine tq (qH 1 rfl zA rfl) ?_
  refine xU 14 rfl rfl ?_
  refine tq (jM 0 rfl ld3 rfl rfl) ?_
  refine xU 14 rfl rfl ?_
  refine tq (jR rfl rfl rfl) ?_
  refine tq (qO rfl rfl) ?_
  refine vD ?_
  exact xW hK21 (.refl _) (trivial) ⟨rfl, rfl, rfl, rfl, rfl, show some (Value.bool (decide (c.n < 0))) = some (Value.bool (decide ((¬ (kI c.op) = (c.args.length : Int)) ∨ (c.n < 0)))) by first | (simp [h24]; done) | grind | (simp [h24] <;> omega), trivial⟩ (fun w hw => hw)
  refine fun R26 hle27 hj25 => jH hle27 ?_
  refine qP 18 rfl (fun h28 => ?_) (fun h28 => ?_)
  refine xE rfl ?_
  refine qE <| qA ?_
  refine tl (qD rfl) ?_
  refine qB <| qC <| qV <| qI ?_
  refine xB (.inl rfl) rfl rfl ?_
  have e29 : (false : Bool) = jZ n c := by (have h_ := vK n c; rw [eq_comm, ← Bool.not_eq_true, h_]; grind)
  exact fun w hw => ⟨congrArg Ending.returned (congrArg (fun x0 => Value.bool x0) e29), hw.drop 2⟩
  refine xV rfl ?_
  refine qZ <| qC <| qE <| qX <| qE <| qA ?_
  refine tl (qH 0 rfl sP rfl) ?_
  refine tl (jM 0 rfl ld3 rfl rfl) ?_
  refine tl (jR rfl rfl rfl) ?_
  refine tl (qD rfl) ?_
  refine qB <| qC ?_
  refine qP 19 rfl (fun h30 => ?_) (fun h30 => ?_)
  refine xE rfl ?_
  refine qE <| qA ?_
  refine tl (qH 1 rfl zA rfl) ?_
  refine tl (jM 0 rfl ld3 rfl rfl) ?_
  refine tl (qH 0 rfl bN rfl) ?_
  refine tl (jM 1 rfl uO rfl rfl) ?_
  refine tl (jJ rfl uK) ?_
  refine tl (jR rfl rfl rfl) ?_
  refine tl (qD rfl) ?_
  refine qB <| qC <| qV <| qN <| qI ?_
  refine xB (.inl rfl) rfl rfl ?_
  have e31 : (decide (c.n < (n.concepts.length : Int)) : Bool) = jZ n c := by (have ha_ : kI c.op = 0 := (by grind [kI]); have hl_ : c.args = [] := List.eq_nil_of_length_eq_zero (by grind); rw [Bool.eq_iff_iff, vK, decide_eq_true_eq, hl_]; grind)
  exact fun w hw => ⟨congrArg Ending.returned (congrArg (fun x0 => Value.bool x0) e31), hw.drop 2⟩
  refine xV rfl ?_
  refine qE <| qA ?_
  refine tl (qH 0 rfl sP rfl) ?_
  refine tl (jM 0 rfl ld3 rfl rfl) ?_
  refine xC ca61 rfl (fun w hw => vP c.op (by unfold i64; omega) hw) rfl ?_
  refine tl (qD rfl) ?_
  refine qB <| qC ?_
  refine qP 29 rfl (fun h32 => ?_) (fun h32 => ?_)
  refine xE rfl ?_
  refine qE <| qA ?_
  refine tl (qH 1 rfl zA rfl) ?_
  refine tl (jM 0 rfl ld3 rfl rfl) ?_
  refine tl (qH 1 rfl pP rfl) ?_
  refine tl (jM 1 rfl uO rfl rfl) ?_
  refine tl (jJ rfl uK) ?_
  refine tl (qH4 rfl rfl (by omega) (by omega)) ?_
  refine tl (jR rfl rfl rfl) ?_
  refine qB <| qC ?_
  refine qP 39 rfl (fun h33 => ?_) (fun h33 => ?_)
  refine xE rfl ?_
  refine qE <| qA ?_
  refine tl (qD rfl) ?_
  refine qB <| qC <| qV <| qN <| qI ?_
  refine xB (.inl rfl) rfl rfl ?_
  have e34 : (false : Bool) = jZ n c := by (have h_ := vK n c; rw [eq_comm, ← Bool.not_eq_true, h_]; grind)
  exact fun w hw => ⟨congrArg Ending.returned (congrArg (fun x0 => Value.bool x0) e34), hw.drop 2⟩
  refine xV rfl ?_
  refine qZ <| jC <| qC <| qE <| qE <| qA ?_
  refine tl (qH 2 rfl wR rfl) ?_
  refine tl (jM 0 rfl dH rfl rfl) ?_
  refine tl (jJ rfl sK) ?_
  refine tl (qG rfl) ?_
  refine qB <| qC <| qX ?_
  refine jF ?_
  refine jN (fun i : Nat => c.args.length - i) (fun i : Nat => [(2, .pointer (some ⟨b19, 0, none⟩)), (45, .slice A13 c.args.length d14), (46, .int .i64 (c.args.length : Int)), (47, .int .i64 (i : Int))]) (fun i : Nat => (.blk b20 [.int .i64 c.op, .int .i64 c.n, .slice A13 c.args.length d14] 37 :: .blk b19 [.slice A1 n.concepts.length d2, .slice A5 n.roles.length d6, .slice A9 n.inds.length d10] 24 :: G)) (fun (i : Nat) => i ≤ c.args.length ∧ ∀ y ∈ c.args.take i, jZ n y = true) (0) ⟨rfl, rfl, rfl, rfl, trivial⟩ (by exact ⟨by omega, by simp⟩) (fun w hw => hw) ?_
  rintro i hI35 ih36
  show TC Tryz.prog _ _ _ [] [(2, .pointer (some ⟨b19, 0, none⟩)), (45, .slice A13 c.args.length d14), (46, .int .i64 (c.args.length : Int)), (47, .int .i64 (i : Int))] R (.blk b20 [.int .i64 c.op, .int .i64 c.n, .slice A13 c.args.length d14] 37 :: .blk b19 [.slice A1 n.concepts.length d2, .slice A5 n.roles.length d6, .slice A9 n.inds.length d10] 24 :: G)
  obtain ⟨hi1, hi2⟩ := hI35
  refine qE <| qA ?_
  refine tl (jR rfl rfl rfl) ?_
  refine qB <| qC <| qE ?_
  refine qP 48 rfl (fun h39 => ?_) (fun h39 => ?_)
  refine xE rfl ?_
  refine qZ <| qC <| qE <| qX <| qE <| qA ?_
  have hb45 : i < c.args.length := by omega
  obtain ⟨x40, hx41⟩ : ∃ x, c.args[i]? = some x := ⟨_, List.getElem?_eq_getElem hb45⟩
  obtain ⟨c42, hr43, ha44⟩ := hs17.get _ x40 hx41
  obtain ⟨A46, d47, rfl, i48, i49, hs50⟩ := qM hr43
  unfold i64 at i48 i49
  have z51 := hs50.size
  unfold big at z51
  refine tl (jV (i := i) hs17 rfl rfl rfl sK hb45) ?_
  refine tl (jA 0 [.int .i64 x40.op, .int .i64 x40.n, .slice A46 x40.args.length d47] ha44 rfl vU rfl rfl) ?_
  refine qS eZ rfl fun b52 => ?_
  refine xN 0 [.int .i64 x40.op, .int .i64 x40.n, .slice A46 x40.args.length d47] rfl rfl vU rfl rfl rfl rfl rfl rfl ?_
  refine qB <| qC <| qE <| qA ?_
  refine tl (qQ 2 [.slice A1 n.concepts.length d2, .slice A5 n.roles.length d6, .slice A9 n.inds.length d10] rfl bT rfl rfl) ?_
  refine tl (qQ 0 [.int .i64 x40.op, .int .i64 x40.n, .slice A46 x40.args.length d47] rfl vU rfl rfl) ?_
  refine xC ca60 rfl (fun w hw => ih.out (SizeOf.sizeOf x40) (by exact Concept.sizeOf_arg hx41) n x40 hr_n hr43 rfl hw) rfl ?_
  refine tl (wJ rfl) ?_
  refine qB <| qC ?_
  refine vI 54 rfl (fun h53 => ?_) (fun h53 => ?_)
  refine xE rfl ?_
  refine qE <| qA ?_
  refine tl (qD rfl) ?_
  refine qB <| qC <| qV <| qN <| qI <| qI <| qN <| qI ?_
  refine xB (.inl rfl) rfl rfl ?_
  have e54 : (false : Bool) = jZ n c := by (have h_ := vK n c; rw [eq_comm, ← Bool.not_eq_true, h_]; have hm_ := List.mem_of_getElem? hx41; grind)
  exact fun w hw => ⟨congrArg Ending.returned (congrArg (fun x0 => Value.bool x0) e54), hw.drop 3⟩
  refine xV rfl ?_
  refine qZ <| jC <| qC <| qA ?_
  refine tl (jT rfl rfl (by omega) (by omega)) ?_
  refine tl (qG rfl) ?_
  refine qB ?_
  refine xQ ?_
  exact fun a w ha hw => ih36.out (i + 1) (by exact ⟨by omega, vQ hi2 hx41 (by grind)⟩) (by (try dsimp only); omega) a w (ha.sub (xL ⟨rfl, rfl, rfl, rfl, trivial⟩)) (hw.drop 1)
  refine xV rfl ?_
  refine jE <| qK <| qK <| xG <| qC <| qE <| qA ?_
  refine tl (qD rfl) ?_
  refine qB <| qC <| qV ?_
  refine xB (.inl rfl) rfl rfl ?_
  have e55 : (true : Bool) = jZ n c := by (have h_ := vK n c; rw [eq_comm, h_]; have e_ := xF (l := c.args) (by assumption) (by assumption); rw [e_] at hi2; grind)
  exact fun w hw => ⟨congrArg Ending.returned (congrArg (fun x0 => Value.bool x0) e55), hw.drop 2⟩
  refine xV rfl ?_
  refine qE <| qA ?_
  refine tl (qH 1 rfl zA rfl) ?_
  refine tl (jM 0 rfl ld3 rfl rfl) ?_
  refine tl (jR rfl rfl rfl) ?_
  refine tl (qD rfl) ?_
  refine qB <| qC ?_
  refine qP 40 rfl (fun h56 => ?_) (fun h56 => ?_)
  refine xE rfl ?_
  refine qE <| qA ?_
  refine tl (qD rfl) ?_
  refine qB <| qC <| qV <| qN <| qI ?_
  refine xB (.inl rfl) rfl rfl ?_
  have e57 : (false : Bool) = jZ n c := by (have h_ := vK n c; rw [eq_comm, ← Bool.not_eq_true, h_]; grind)
  exact fun w hw => ⟨congrArg Ending.returned (congrArg (fun x0 => Value.bool x0) e57), hw.drop 2⟩
  refine xV rfl ?_
  refine qZ <| jC <| qC <| qE <| qE <| qA ?_
  refine tl (qH 2 rfl wR rfl) ?_
  refine tl (jM 0 rfl dH rfl rfl) ?_
  refine tl (jJ rfl sK) ?_
  refine tl (qG rfl) ?_
  refine qB <| qC <| qX ?_
  refine jF ?_
  refine jN (fun i : Nat => c.args.length - i) (fun i : Nat => [(2, .pointer (some ⟨b19, 0, none⟩)), (45, .slice A13 c.args.length d14), (46, .int .i64 (c.args.length : Int)), (47, .int .i64 (i : Int))]) (fun i : Nat => (.blk b20 [.int .i64 c.op, .int .i64 c.n, .slice A13 c.args.length d14] 37 :: .blk b19 [.slice A1 n.concepts.length d2, .slice A5 n.roles.length d6, .slice A9 n.inds.length d10] 24 :: G)) (fun (i : Nat) => i ≤ c.args.length ∧ ∀ y ∈ c.args.take i, jZ n y = true) (0) ⟨rfl, rfl, rfl, rfl, trivial⟩ (by exact ⟨by omega, by simp⟩) (fun w hw => hw) ?_
  rintro i hI58 ih59
  show TC Tryz.prog _ _ _ [] [(2, .pointer (some ⟨b19, 0, none⟩)), (45, .slice A13 c.args.length d14), (46, .int .i64 (c.args.length : Int)), (47, .int .i64 (i : Int))] R (.blk b20 [.int .i64 c.op, .int .i64 c.n, .slice A13 c.args.length d14] 37 :: .blk b19 [.slice A1 n.concepts.length d2, .slice A5 n.roles.length d6, .slice A9 n.inds.length d10] 24 :: G)
  obtain ⟨hi1, hi2⟩ := hI58
  refine qE <| qA ?_
  refine tl (jR rfl rfl rfl) ?_
  refine qB <| qC <| qE ?_
  refine qP 48 rfl (fun h62 => ?_) (fun h62 => ?_)
  refine xE rfl ?_
  refine qZ <| qC <| qE <| qX <| qE <| qA ?_
  have hb68 : i < c.args.length := by omega
  obtain ⟨x63, hx64⟩ : ∃ x, c.args[i]? = some x := ⟨_, List.getElem?_eq_getElem hb68⟩
  obtain ⟨c65, hr66, ha67⟩ := hs17.get _ x63 hx64
  obtain ⟨A69, d70, rfl, i71, i72, hs73⟩ := qM hr66
  unfold i64 at i71 i72
  have z74 := hs73.size
  unfold big at z74
  refine tl (jV (i := i) hs17 rfl rfl rfl sK hb68) ?_
  refine tl (jA 0 [.int .i64 x63.op, .int .i64 x63.n, .slice A69 x63.args.length d70] ha67 rfl vU rfl rfl) ?_
  refine qS eZ rfl fun b75 => ?_
  refine xN 0 [.int .i64 x63.op, .int .i64 x63.n, .slice A69 x63.args.length d70] rfl rfl vU rfl rfl rfl rfl rfl rfl ?_
  refine qB <| qC <| qE <| qA ?_
  refine tl (qQ 2 [.slice A1 n.concepts.length d2, .slice A5 n.roles.length d6, .slice A9 n.inds.length d10] rfl bT rfl rfl) ?_
  refine tl (qQ 0 [.int .i64 x63.op, .int .i64 x63.n, .slice A69 x63.args.length d70] rfl vU rfl rfl) ?_
  refine xC ca60 rfl (fun w hw => ih.out (SizeOf.sizeOf x63) (by exact Concept.sizeOf_arg hx64) n x63 hr_n hr66 rfl hw) rfl ?_
  refine tl (wJ rfl) ?_
  refine qB <| qC ?_
  refine vI 54 rfl (fun h76 => ?_) (fun h76 => ?_)
  refine xE rfl ?_
  refine qE <| qA ?_
  refine tl (qD rfl) ?_
  refine qB <| qC <| qV <| qN <| qI <| qI <| qN <| qI ?_
  refine xB (.inl rfl) rfl rfl ?_
  have e77 : (false : Bool) = jZ n c := by (have h_ := vK n c; rw [eq_comm, ← Bool.not_eq_true, h_]; have hm_ := List.mem_of_getElem? hx64; grind)
  exact fun w hw => ⟨congrArg Ending.returned (congrArg (fun x0 => Value.bool x0) e77), hw.drop 3⟩
  refine xV rfl ?_
  refine qZ <| jC <| qC <| qA ?_
  refine tl (jT rfl rfl (by omega) (by omega)) ?_
  refine tl (qG rfl) ?_
  refine qB ?_
  refine xQ ?_
  exact fun a w ha hw => ih59.out (i + 1) (by exact ⟨by omega, vQ hi2 hx64 (by grind)⟩) (by (try dsimp only); omega) a w (ha.sub (xL ⟨rfl, rfl, rfl, rfl, trivial⟩)) (hw.drop 1)
  refine xV rfl ?_
  refine jE <| qK <| qK <| xG <| qC <| qE <| qA ?_
  refine tl (qD rfl) ?_
  refine qB <| qC <| qV ?_
  refine xB (.inl rfl) rfl rfl ?_
  have e78 : (true : Bool) = jZ n c := by (have h_ := vK n c; rw [eq_comm, h_]; have e_ := xF (l := c.args) (by assumption) (by assumption); rw [e_] at hi2; grind)
  exact fun w hw => ⟨congrArg Ending.returned (congrArg (fun x0 => Value.bool x0) e78), hw.drop 2⟩
theorem uP {R : RO} {G : List Res} {w : World} {c_n : List Value} (n : Names) {c_c : List Value} (c : Concept) (hr_n : kNames.rep R n c_n) (hr_c : kConcept.rep R c c_c) (hw : Own w R (G)) :
    Calls Tryz.prog 60 [.agg c_n.toArray, .agg c_c.toArray].toArray w (kK R G (.bool (jZ n c))) := tT _ n c hr_n hr_c rfl hw

theorem cK {R : RO} {G : List Res} {w : World} {c_n : List Value} (n : Names) {c_c : List Value} (c : Concept) (hr_n : kNames.rep R n c_n) (hr_c : kConcept.rep R c c_c) (hw : Own w R (G)) :
    Calls Tryz.prog 29 [.agg c_n.toArray, .agg c_c.toArray].toArray w (kK R G (.bool (decide (jW c ≤ 400 ∧ yH c ≤ 20 ∧ jZ n c = true)))) := by
 obtain ⟨A1, d2, A5, d6, A9, d10, rfl, hs3, hs7, hs11⟩ := id hr_n
 have z4 := hs3.size
 unfold big at z4
 have z8 := hs7.size
 unfold big at z8
 have z12 := hs11.size
 unfold big at z12
 obtain ⟨A13, d14, rfl, i15, i16, hs17⟩ := qM hr_c
 unfold i64 at i15 i16
 have z18 := hs17.size
 unfold big at z18
 refine xH (vs := [.agg #[.slice A1 n.concepts.length d2, .slice A5 n.roles.length d6, .slice A9 n.inds.length d10], .agg #[.int .i64 c.op, .int .i64 c.n, .slice A13 c.args.length d14]]) Tryz.func29 rfl rfl rfl ?_ hw
 refine qE <| qA ?_
 refine qW (l := [.slice A1 n.concepts.length d2, .slice A5 n.roles.length d6, .slice A9 n.inds.length d10]) rfl rfl fun b19 => ?_
 refine qW (l := [.int .i64 c.op, .int .i64 c.n, .slice A13 c.args.length d14]) rfl rfl fun b20 => ?_
 refine tl (qD rfl) ?_
 refine qB <| qC ?_
 refine vH [(0, .agg #[.slice A1 n.concepts.length d2, .slice A5 n.roles.length d6, .slice A9 n.inds.length d10]), (1, .agg #[.int .i64 c.op, .int .i64 c.n, .slice A13 c.args.length d14]), (4, .bool (decide ((jW c ≤ 400 ∧ yH c ≤ 20) ∧ ((jZ n c) = true))))] (.blk b20 [.int .i64 c.op, .int .i64 c.n, .slice A13 c.args.length d14] 37 :: .blk b19 [.slice A1 n.concepts.length d2, .slice A5 n.roles.length d6, .slice A9 n.inds.length d10] 24 :: G) (fun _ => True) (fun K hK21 hE22 => ?_) ?_
 refine qA ?_
 refine tl (qQ 0 [.int .i64 c.op, .int .i64 c.n, .slice A13 c.args.length d14] rfl vU rfl rfl) ?_
 refine xC ca59 rfl (fun w hw => aD c hr_c hw) rfl ?_
 refine tl (qG rfl) ?_
 refine xX 7 rfl (fun h23 => ?_) (fun h23 => ?_)
 refine qJ 7 rfl rfl ?_
 refine tl (qQ 1 [.slice A1 n.concepts.length d2, .slice A5 n.roles.length d6, .slice A9 n.inds.length d10] rfl bT rfl rfl) ?_
 refine qJ 7 rfl rfl ?_
 refine tl (qQ 0 [.int .i64 c.op, .int .i64 c.n, .slice A13 c.args.length d14] rfl vU rfl rfl) ?_
 refine qJ 7 rfl rfl ?_
 refine xC ca60 rfl (fun w hw => uP n c hr_n hr_c hw) rfl ?_
 refine tl (qR rfl rfl) ?_
 refine tl (qD rfl) ?_
 refine qB ?_
 exact xW hK21 (.refl _) (trivial) ⟨rfl, rfl, show some (Value.bool (jZ n c)) = some (Value.bool (decide ((jW c ≤ 400 ∧ yH c ≤ 20) ∧ ((jZ n c) = true)))) by first | (simp [h23]; done) | grind | (simp [h23] <;> omega), trivial⟩ (fun w hw => hw)
 refine qF 7 rfl rfl rfl ?_
 refine qF 7 rfl rfl rfl ?_
 refine qF 7 rfl rfl rfl ?_
 refine tl (qO rfl rfl) ?_
 refine tl (qD rfl) ?_
 refine qB ?_
 exact xW hK21 (.refl _) (trivial) ⟨rfl, rfl, show some (Value.bool false) = some (Value.bool (decide ((jW c ≤ 400 ∧ yH c ≤ 20) ∧ ((jZ n c) = true)))) by first | (simp [h23]; done) | grind | (simp [h23] <;> omega), trivial⟩ (fun w hw => hw)
 refine fun R25 hle26 hj24 => jH hle26 ?_
 refine qV ?_
 refine xB (.inl rfl) rfl rfl ?_
 have e27 : (decide ((jW c ≤ 400 ∧ yH c ≤ 20) ∧ ((jZ n c) = true)) : Bool) = decide (jW c ≤ 400 ∧ yH c ≤ 20 ∧ jZ n c = true) := by (first | (rw [eq_comm, decide_eq_false_iff_not]; grind) | (rw [Bool.eq_iff_iff, decide_eq_true_eq]; grind) | grind)
 exact fun w hw => ⟨congrArg Ending.returned (congrArg (fun x0 => Value.bool x0) e27), hw.drop 2⟩

theorem sQ {R : RO} {G : List Res} {w : World} (op : Int) (n : Int) {A_l : Option Addr} {d_l : Nat} (l : List (Concept)) (hi_op : i64 op) (hi_n : i64 n) (hs_l : SlAt kConcept R A_l l) (hw : Own w R (G)) :
    Calls Tryz.prog 64 [.int .i64 op, .int .i64 n, .slice A_l l.length d_l].toArray w (gZ R G (fun v_ R' L_ => ∃ (cs_0 : List Value), v_ = (.agg cs_0.toArray : Value) ∧ L_ = ([] : List Res) ∧ kConcept.rep R' (Concept.mk op n l) cs_0)) := by
 unfold i64 at hi_op
 unfold i64 at hi_n
 have hz_l := hs_l.size
 unfold big at hz_l
 refine xH (vs := [.int .i64 op, .int .i64 n, .slice A_l l.length d_l]) Tryz.func64 rfl rfl rfl ?_ hw
 refine qE <| qA ?_
 refine qS eZ rfl fun b1 => ?_
 refine qB <| qC <| qE <| qA ?_
 refine tl (qG rfl) ?_
 refine tl (qG rfl) ?_
 refine tl (qG rfl) ?_
 refine tl (xP [.int .i64 op, .int .i64 n, .slice A_l l.length d_l] eZ pl37 rfl rfl) ?_
 refine xN 0 [.int .i64 op, .int .i64 n, .slice A_l l.length d_l] rfl rfl vU rfl rfl rfl rfl rfl rfl ?_
 refine qB <| qC <| qV ?_
 refine kO (cells := [.int .i64 op, .int .i64 n, .slice A_l l.length d_l]) 0 (.inl rfl) rfl rfl vU rfl ?_
 have e2 : ((Concept.mk op n l) : Concept) = Concept.mk op n l := by rfl
 intro w hw
 exact ⟨_, _, [], rfl, .refl _, hw.drop 1, ([.int .i64 op, .int .i64 n, .slice A_l l.length d_l]), rfl, rfl, (Eq.mp (congrArg (fun z => kConcept.rep R z [.int .i64 op, .int .i64 n, .slice A_l l.length d_l]) e2) (tW (x := Concept.mk op n l) (show i64 (op) from (by unfold i64; omega)) (show i64 (n) from (by unfold i64; omega)) hs_l))⟩

theorem wT {R : RO} {G : List Res} {w : World} {A_a : Option Addr} {d_a : Nat} (a : List (Int)) {A_b : Option Addr} {d_b : Nat} (b : List (Int)) (hs_a : SlAt kInt R A_a a) (hs_b : SlAt kInt R A_b b) (hw : Own w R (G)) :
    Calls Tryz.prog 12 [.slice A_a a.length d_a, .slice A_b b.length d_b].toArray w (kK R G (.bool (decide (a = b)))) := by
 have hz_a := hs_a.size
 unfold big at hz_a
 have hz_b := hs_b.size
 unfold big at hz_b
 refine xH (vs := [.slice A_a a.length d_a, .slice A_b b.length d_b]) Tryz.func12 rfl rfl rfl ?_ hw
 refine qE <| qA ?_
 refine tl (qD rfl) ?_
 refine qB <| qC <| qE <| qE <| qA ?_
 refine tl (qG rfl) ?_
 refine tl (jJ rfl pL) ?_
 refine tl (qG rfl) ?_
 refine tl (jJ rfl pL) ?_
 refine tl (jR rfl rfl rfl) ?_
 refine qB <| qC ?_
 refine qP 10 rfl (fun h1 => ?_) (fun h1 => ?_)
 refine xE rfl ?_
 refine qE <| qA ?_
 refine tl (qD rfl) ?_
 refine qB <| qC <| qV <| qI ?_
 refine xB (.inl rfl) rfl rfl ?_
 have e2 : (false : Bool) = decide (a = b) := by (rw [eq_comm, decide_eq_false_iff_not]; intro h_; subst h_; omega)
 exact fun w hw => ⟨congrArg Ending.returned (congrArg (fun x0 => Value.bool x0) e2), hw⟩
 refine xV rfl ?_
 refine qZ <| qC <| qE <| qE <| qA ?_
 refine tl (qG rfl) ?_
 refine tl (jJ rfl pL) ?_
 refine tl (qG rfl) ?_
 refine qB <| qC <| qX ?_
 refine jF ?_
 refine jN (fun i : Nat => a.length - i) (fun i : Nat => [(0, .slice A_a a.length d_a), (1, .slice A_b b.length d_b), (12, .int .i64 (a.length : Int)), (13, .int .i64 (i : Int))]) (fun i : Nat => (G)) (fun (i : Nat) => i ≤ a.length ∧ ∀ j : Nat, j < i → a[j]? = b[j]?) (0) ⟨rfl, rfl, rfl, rfl, trivial⟩ (by exact ⟨by omega, fun j h => by omega⟩) (fun w hw => hw) ?_
 rintro i hI3 ih4
 show TC Tryz.prog _ _ _ [] [(0, .slice A_a a.length d_a), (1, .slice A_b b.length d_b), (12, .int .i64 (a.length : Int)), (13, .int .i64 (i : Int))] R (G)
 obtain ⟨hi1, hi2⟩ := hI3
 refine qE <| qA ?_
 refine tl (jR rfl rfl rfl) ?_
 refine qB <| qC <| qE ?_
 refine qP 14 rfl (fun h7 => ?_) (fun h7 => ?_)
 refine xE rfl ?_
 refine qZ <| qC <| qE <| qX <| qE <| qA ?_
 refine tl (qG rfl) ?_
 refine tl (qD rfl) ?_
 refine qB <| qC <| qE ?_
 refine wG mixed (by kernel_rfl) ?_
 refine tq (qG rfl) ?_
 refine tq (qG rfl) ?_
 have hb13 : i < a.length := by omega
 obtain ⟨x8, hx9⟩ : ∃ x, a[i]? = some x := ⟨_, List.getElem?_eq_getElem hb13⟩
 obtain ⟨c10, hr11, ha12⟩ := hs_a.get _ x8 hx9
 obtain ⟨rfl, i14⟩ := hr11
 unfold i64 at i14
 refine tq (jV (i := i) hs_a rfl rfl rfl pL hb13) ?_
 refine tq (yN 0 ha12 rfl ld3 rfl rfl) ?_
 refine tq (qG rfl) ?_
 refine tq (qG rfl) ?_
 have hb20 : i < b.length := by omega
 obtain ⟨x15, hx16⟩ : ∃ x, b[i]? = some x := ⟨_, List.getElem?_eq_getElem hb20⟩
 obtain ⟨c17, hr18, ha19⟩ := hs_b.get _ x15 hx16
 obtain ⟨rfl, i21⟩ := hr18
 unfold i64 at i21
 refine tq (jV (i := i) hs_b rfl rfl rfl pL hb20) ?_
 refine tq (yN 0 ha19 rfl ld3 rfl rfl) ?_
 refine tq (jR rfl rfl rfl) ?_
 refine vD <| qC ?_
 refine qP 24 rfl (fun h22 => ?_) (fun h22 => ?_)
 refine xE rfl ?_
 refine qE <| qA ?_
 refine tl (qD rfl) ?_
 refine qB <| qC <| qV <| qN <| qI <| qI <| qN <| qI ?_
 refine xB (.inl rfl) rfl rfl ?_
 have e23 : (false : Bool) = decide (a = b) := by (rw [eq_comm, decide_eq_false_iff_not]; intro h_; subst h_; grind)
 exact fun w hw => ⟨congrArg Ending.returned (congrArg (fun x0 => Value.bool x0) e23), hw⟩
 refine xV rfl ?_
 refine qZ <| jC <| qC <| qA ?_
 refine tl (jT rfl rfl (by omega) (by omega)) ?_
 refine tl (qG rfl) ?_
 refine qB ?_
 refine xQ ?_
 exact fun a w ha hw => ih4.out (i + 1) (by refine ⟨by omega, fun j h => ?_⟩; by_cases e : j = i; (subst e; grind); exact hi2 j (by omega)) (by (try dsimp only); omega) a w (ha.sub (xL ⟨rfl, rfl, rfl, rfl, trivial⟩)) (hw)
 refine xV rfl ?_
 refine jE <| qK <| qK <| xG <| qC <| qE <| qA ?_
 refine tl (qD rfl) ?_
 refine qB <| qC <| qV ?_
 refine xB (.inl rfl) rfl rfl ?_
 have e24 : (true : Bool) = decide (a = b) := by (rw [eq_comm, decide_eq_true_eq]; apply List.ext_getElem?; intro j; by_cases e : j < i; exact hi2 j e; rw [List.getElem?_eq_none (by omega), List.getElem?_eq_none (by omega)])
 exact fun w hw => ⟨congrArg Ending.returned (congrArg (fun x0 => Value.bool x0) e24), hw⟩

def wC (n : Names) : Bool := decide (n.concepts.length ≤ 100 ∧ n.roles.length ≤ 100 ∧ n.inds.length ≤ 100 ∧ ∀ s ∈ zF n, s.size ≤ 100)

theorem tK {R : RO} {G : List Res} {w : World} {c_n : List Value} (n : Names) (hr_n : kNames.rep R n c_n) (hw : Own w R (G)) :
    Calls Tryz.prog 62 [.agg c_n.toArray].toArray w (kK R G (.bool (wC n))) := by
 obtain ⟨A1, d2, A5, d6, A9, d10, rfl, hs3, hs7, hs11⟩ := id hr_n
 have z4 := hs3.size
 unfold big at z4
 have z8 := hs7.size
 unfold big at z8
 have z12 := hs11.size
 unfold big at z12
 refine xH (vs := [.agg #[.slice A1 n.concepts.length d2, .slice A5 n.roles.length d6, .slice A9 n.inds.length d10]]) Tryz.func62 rfl rfl rfl ?_ hw
 refine qE <| qA ?_
 refine qW (l := [.slice A1 n.concepts.length d2, .slice A5 n.roles.length d6, .slice A9 n.inds.length d10]) rfl rfl fun b13 => ?_
 refine tl (qD rfl) ?_
 refine qB <| qC <| qE <| qE <| qA ?_
 refine tl (qH 0 rfl bN rfl) ?_
 refine tl (jM 0 rfl uO rfl rfl) ?_
 refine tl (qH 1 rfl pP rfl) ?_
 refine tl (jM 0 rfl uO rfl rfl) ?_
 refine tl (qH 2 rfl eC rfl) ?_
 refine tl (jM 0 rfl uO rfl rfl) ?_
 refine jB [.slice A1 n.concepts.length d2, .slice A5 n.roles.length d6, .slice A9 n.inds.length d10] ap115 rfl rfl rfl rfl rfl rfl rfl fun b14 => ?_
 refine zI (k := kStr.sl) (l := hR n) 0 rfl (⟨_, _, rfl, ⟨_, _, rfl, hs3⟩, _, _, rfl, ⟨_, _, rfl, hs7⟩, _, _, rfl, ⟨_, _, rfl, hs11⟩, rfl⟩) (by show 3 ≤ big; unfold big; omega) fun R15 hle16 hs17 => ?_
 have z18 := hs17.size
 unfold big at z18
 refine tl (jJ rfl nG) ?_
 refine tl (qG rfl) ?_
 refine qB <| qC <| qX ?_
 refine jF ?_
 refine jN (fun i : Nat => 3 - i) (fun i : Nat => [(13, .slice (some ⟨b14, 0, none⟩) 3 3), (14, .int .i64 3), (15, .int .i64 (i : Int))]) (fun i : Nat => (.blk b13 [.slice A1 n.concepts.length d2, .slice A5 n.roles.length d6, .slice A9 n.inds.length d10] 24 :: G)) (fun (i : Nat) => i ≤ 3 ∧ ∀ x ∈ (hR n).take i, x.length ≤ 100 ∧ ∀ s ∈ x, s.size ≤ 100) (0) ⟨rfl, rfl, rfl, trivial⟩ (by exact ⟨by omega, by simp⟩) (fun w hw => hw) ?_
 rintro i hI19 ih20
 show TC Tryz.prog _ _ _ [] [(13, .slice (some ⟨b14, 0, none⟩) 3 3), (14, .int .i64 3), (15, .int .i64 (i : Int))] R15 (.blk b13 [.slice A1 n.concepts.length d2, .slice A5 n.roles.length d6, .slice A9 n.inds.length d10] 24 :: G)
 obtain ⟨hi1, hi2⟩ := hI19
 have hl3 : (hR n).length = 3 := rfl
 refine qE <| qA ?_
 refine tl (jR rfl rfl rfl) ?_
 refine qB <| qC <| qE ?_
 refine qP 16 rfl (fun h23 => ?_) (fun h23 => ?_)
 refine xE rfl ?_
 refine qZ <| qC <| qE <| qX <| qE <| qA ?_
 have hb29 : i < (hR n).length := by omega
 obtain ⟨x24, hx25⟩ : ∃ x, (hR n)[i]? = some x := ⟨_, List.getElem?_eq_getElem hb29⟩
 obtain ⟨c26, hr27, ha28⟩ := hs17.get _ x24 hx25
 obtain ⟨A30, d31, rfl, hs32⟩ := hr27
 have z33 := hs32.size
 unfold big at z33
 refine tl (jV (i := i) hs17 rfl rfl rfl nG hb29) ?_
 refine tl (yN 0 ha28 rfl uO rfl rfl) ?_
 refine tl (qD rfl) ?_
 refine qB <| qC <| qE <| qE <| qA ?_
 refine tl (qG rfl) ?_
 refine tl (jJ rfl uK) ?_
 refine tl (jR rfl rfl rfl) ?_
 refine qB <| qC ?_
 refine qP 21 rfl (fun h34 => ?_) (fun h34 => ?_)
 refine xE rfl ?_
 refine qE <| qA ?_
 refine tl (qD rfl) ?_
 refine qB <| qC <| qV <| qI <| qN <| qI <| qI <| qN <| qI ?_
 refine xB (.inl rfl) rfl rfl ?_
 have e35 : (false : Bool) = wC n := by (rw [eq_comm]; unfold wC; rw [decide_eq_false_iff_not]; rintro ⟨h1_, h2_, h3_, -⟩; have hm_ := List.mem_of_getElem? hx25; simp only [hR, List.mem_cons, List.not_mem_nil, or_false] at hm_; rcases hm_ with rfl | rfl | rfl <;> omega)
 exact fun w hw => ⟨congrArg Ending.returned (congrArg (fun x0 => Value.bool x0) e35), (hw.drop 1).weaken hle16⟩
 refine xV rfl ?_
 refine qZ <| qC <| qE <| qA ?_
 refine tl (qG rfl) ?_
 refine tl (jJ rfl uK) ?_
 refine tl (qG rfl) ?_
 refine qB <| qC <| qX ?_
 refine jF ?_
 refine jN (fun j : Nat => x24.length - j) (fun j : Nat => [(13, .slice (some ⟨b14, 0, none⟩) 3 3), (14, .int .i64 3), (15, .int .i64 (i : Int)), (22, .slice A30 x24.length d31), (23, .int .i64 (x24.length : Int)), (24, .int .i64 (j : Int))]) (fun j : Nat => (.blk b13 [.slice A1 n.concepts.length d2, .slice A5 n.roles.length d6, .slice A9 n.inds.length d10] 24 :: G)) (fun (j : Nat) => j ≤ x24.length ∧ ∀ s ∈ x24.take j, s.size ≤ 100) (0) (by repeat' constructor) (by exact ⟨by omega, by simp⟩) (fun w hw => hw) ?_
 rintro j hI36 ih37
 show TC Tryz.prog _ _ _ [] [(13, .slice (some ⟨b14, 0, none⟩) 3 3), (14, .int .i64 3), (15, .int .i64 (i : Int)), (22, .slice A30 x24.length d31), (23, .int .i64 (x24.length : Int)), (24, .int .i64 (j : Int))] R15 (.blk b13 [.slice A1 n.concepts.length d2, .slice A5 n.roles.length d6, .slice A9 n.inds.length d10] 24 :: G)
 obtain ⟨hj1, hj2⟩ := hI36
 refine qE <| qA ?_
 refine tl (jR rfl rfl rfl) ?_
 refine qB <| qC <| qE ?_
 refine qP 25 rfl (fun h40 => ?_) (fun h40 => ?_)
 refine xE rfl ?_
 refine qZ <| qC <| qE <| qX <| qE <| qA ?_
 have hb46 : j < x24.length := by omega
 obtain ⟨x41, hx42⟩ : ∃ x, x24[j]? = some x := ⟨_, List.getElem?_eq_getElem hb46⟩
 obtain ⟨c43, hr44, ha45⟩ := hs32.get _ x41 hx42
 obtain ⟨rfl, z47⟩ := hr44
 unfold big at z47
 refine tl (jV (i := j) hs32 rfl rfl rfl uK hb46) ?_
 refine tl (yN 0 ha45 rfl ld9 rfl rfl) ?_
 refine tl (qD rfl) ?_
 refine qB <| qC <| qE <| qA ?_
 refine tl (qG rfl) ?_
 refine tl (aG rfl st9) ?_
 refine tl (jR rfl rfl rfl) ?_
 refine qB <| qC ?_
 refine qP 30 rfl (fun h48 => ?_) (fun h48 => ?_)
 refine xE rfl ?_
 refine qE <| qA ?_
 refine tl (qD rfl) ?_
 refine qB <| qC <| qV <| qN <| qI <| qI <| qN <| qN <| qI <| qI <| qN <| qI ?_
 refine xB (.inl rfl) rfl rfl ?_
 have e49 : (false : Bool) = wC n := by (rw [eq_comm]; unfold wC; rw [decide_eq_false_iff_not]; rintro ⟨-, -, -, h4_⟩; have h5_ := h4_ _ (by rw [← dK]; exact List.mem_flatten.2 ⟨_, List.mem_of_getElem? hx25, List.mem_of_getElem? hx42⟩); omega)
 exact fun w hw => ⟨congrArg Ending.returned (congrArg (fun x0 => Value.bool x0) e49), (hw.drop 1).weaken hle16⟩
 refine xV rfl ?_
 refine qZ <| jC <| qC <| qA ?_
 refine tl (jT rfl rfl (by omega) (by omega)) ?_
 refine tl (qG rfl) ?_
 refine qB ?_
 refine xQ ?_
 exact fun a w ha hw => ih37.out (j + 1) (by exact ⟨by omega, vQ hj2 hx42 (by omega)⟩) (by (try dsimp only); omega) a w (ha.sub (xL ⟨rfl, rfl, rfl, rfl, rfl, congrArg (fun z => some (Value.int .i64 z)) (show ((j : Int) + 1 : Int) = ((j + 1) : Int) by first | rfl | omega), trivial⟩)) (hw)
 refine xV rfl ?_
 refine jE <| qK <| qK <| xG <| jC <| qC <| qA ?_
 refine tl (jT rfl rfl (by omega) (by omega)) ?_
 refine tl (qG rfl) ?_
 refine qB ?_
 refine xQ ?_
 exact fun a w ha hw => ih20.out (i + 1) (by exact ⟨by omega, vQ hi2 hx25 ⟨by omega, by rw [xF (by assumption) (by assumption)] at hj2; exact hj2⟩⟩) (by (try dsimp only); omega) a w (ha.sub (xL ⟨rfl, rfl, rfl, trivial⟩)) (hw)
 refine xV rfl ?_
 refine jE <| qK <| qK <| xG <| qC <| qE <| qA ?_
 refine tl (qD rfl) ?_
 refine qB <| qC <| qV ?_
 refine xB (.inl rfl) rfl rfl ?_
 have e50 : (true : Bool) = wC n := by ((have e_ : i = 3 := by omega); subst e_; rw [eq_comm]; unfold wC; rw [decide_eq_true_eq]; (have h_ : ∀ x ∈ hR n, x.length ≤ 100 ∧ ∀ s ∈ x, s.size ≤ 100 := hi2); simp only [hR, List.mem_cons, List.not_mem_nil, or_false, forall_eq_or_imp, forall_eq] at h_; refine ⟨h_.1.1, h_.2.1.1, h_.2.2.1, fun s hs => ?_⟩; simp only [zF, List.mem_append] at hs; rcases hs with (hs | hs) | hs; exact h_.1.2 s hs; exact h_.2.1.2 s hs; exact h_.2.2.2 s hs)
 exact fun w hw => ⟨congrArg Ending.returned (congrArg (fun x0 => Value.bool x0) e50), (hw.drop 1).weaken hle16⟩

theorem zR : yO Tryz.prog 31 = some (3, 1, 8, [.int .i64 0]) := by kernel_rfl

def wS : List Int → Int → List Int
  | [], n => [n]
  | x :: xs, n => if x = n then x :: xs else if n < x then n :: x :: xs else x :: wS xs n
theorem aZ {n : Int} : ∀ (i : Nat) (l : List Int), (∀ y ∈ l.take i, y < n) → wS l n = l.take i ++ wS (l.drop i) n
  | 0, l, _ => by simp
  | i + 1, [], _ => by simp [wS]
  | i + 1, x :: xs, h => by
    have hx : x < n := h x (by simp)
    have := aZ i xs fun y hy => h y (by simp [hy])
    simp only [List.take_succ_cons, List.drop_succ_cons, List.cons_append, wS]
    rw [if_neg (by omega), if_neg (by omega), this]
theorem insI_mem {n y : Int} : ∀ {l : List Int}, y ∈ wS l n ↔ y ∈ l ∨ y = n
  | [] => by simp [wS]
  | x :: xs => by
    unfold wS
    split
    · rename_i h; subst h; simp; exact fun h => .inl h
    · split
      · simp; grind
      · simp [insI_mem (l := xs)]; grind
theorem vC {n : Int} : ∀ {l : List Int}, (wS l n).length ≤ l.length + 1
  | [] => by simp [wS]
  | x :: xs => by
    unfold wS
    split
    · simp
    · split
      · simp
      · have := vC (n := n) (l := xs); simp; omega
def Up (l : List Int) : Prop := l.Pairwise (· < ·)
instance (l : List Int) : Decidable (Up l) := inferInstanceAs (Decidable (l.Pairwise (· < ·)))
theorem bU {n : Int} : ∀ {l : List Int}, Up l → Up (wS l n)
  | [], _ => by simp [wS, Up]
  | x :: xs, h => by
    have h' := List.pairwise_cons.1 h
    unfold wS
    split
    · exact h
    · split
      · rename_i hx; exact List.pairwise_cons.2 ⟨fun y hy => by rcases List.mem_cons.1 hy with rfl | hy; exact hx; have := h'.1 y hy; omega, h⟩
      · rename_i h1 h2
        exact List.pairwise_cons.2 ⟨fun y hy => by rcases insI_mem.1 hy with hy | rfl; exact h'.1 y hy; omega, bU h'.2⟩
theorem nK : ∀ {l m : List Int}, Up l → Up m → (∀ x, x ∈ l ↔ x ∈ m) → l = m
  | [], [], _, _, _ => rfl
  | [], y :: ys, _, _, h => by have := (h y).2 (by simp); simp at this
  | x :: xs, [], _, _, h => by have := (h x).1 (by simp); simp at this
  | x :: xs, y :: ys, hl, hm, h => by
    have hl' := List.pairwise_cons.1 hl
    have hm' := List.pairwise_cons.1 hm
    have hxy : x = y := by
      have h1 := (h x).1 (by simp)
      have h2 := (h y).2 (by simp)
      rcases List.mem_cons.1 h1 with e | h1
      · exact e
      · rcases List.mem_cons.1 h2 with e | h2
        · exact e.symm
        · have := hm'.1 x h1; have := hl'.1 y h2; omega
    subst hxy
    congr 1
    refine nK hl'.2 hm'.2 fun z => ⟨fun hz => ?_, fun hz => ?_⟩
    · have := (h z).1 (by simp [hz])
      rcases List.mem_cons.1 this with e | h3
      · have := hl'.1 z hz; omega
      · exact h3
    · have := (h z).2 (by simp [hz])
      rcases List.mem_cons.1 this with e | h3
      · have := hm'.1 z hz; omega
      · exact h3

theorem kW {R : RO} {G : List Res} {w : World} (l : List (Int)) {A_l : Option Addr} {c_l : Nat} {l_l : List Value} (n : Int) (hv_l : (kInt).reps R l l_l) (hi_n : i64 n) (hb : l.length ≤ 1000000) (hw : Own w R (.vec (.slice A_l l.length c_l) l.length 3 1 l_l :: G)) :
    Calls Tryz.prog 16 [.slice A_l l.length c_l, .int .i64 n].toArray w (gZ R G (fun v_ R' L_ => ∃ (A_0 : Option Addr) (c_0 : Nat) (l_0 : List Value), v_ = (.slice A_0 ((wS l n).length) c_0 : Value) ∧ L_ = ([.vec (.slice A_0 ((wS l n).length) c_0) ((wS l n).length) 3 1 l_0] : List Res) ∧ (kInt).reps R' (wS l n) l_0)) := by
 unfold i64 at hi_n
 refine xH (vs := [.slice A_l l.length c_l, .int .i64 n]) Tryz.func16 rfl rfl rfl ?_ hw
 refine qE <| qA ?_
 refine tl (qD rfl) ?_
 refine qB <| qC <| qE <| qE <| qA ?_
 refine tl (qG rfl) ?_
 refine tl (jJ rfl pL) ?_
 refine tl (qG rfl) ?_
 refine qB <| qC <| qX ?_
 refine jF ?_
 refine jN (fun i : Nat => l.length - i) (fun i : Nat => [(0, .slice A_l l.length c_l), (1, .int .i64 n), (7, .slice A_l l.length c_l), (8, .int .i64 (l.length : Int)), (9, .int .i64 (i : Int))]) (fun i : Nat => (.vec (.slice A_l l.length c_l) l.length 3 1 l_l :: G)) (fun (i : Nat) => i ≤ l.length ∧ ∀ y ∈ l.take i, y < n) (0) (by repeat' constructor) (by exact ⟨by omega, by simp⟩) (fun w hw => hw) ?_
 rintro i hI3 ih4
 show TC Tryz.prog _ _ _ [] [(0, .slice A_l l.length c_l), (1, .int .i64 n), (7, .slice A_l l.length c_l), (8, .int .i64 (l.length : Int)), (9, .int .i64 (i : Int))] R (.vec (.slice A_l l.length c_l) l.length 3 1 l_l :: G)
 obtain ⟨hi1, hi2⟩ := hI3
 refine qE <| qA ?_
 refine tl (jR rfl rfl rfl) ?_
 refine qB <| qC <| qE ?_
 refine qP 10 rfl (fun h7 => ?_) (fun h7 => ?_)
 refine xE rfl ?_
 refine qZ <| qC <| qE <| qX <| qE <| qA ?_
 refine tl (qG rfl) ?_
 have hb10 : i < l.length := by omega
 obtain ⟨x8, hx9⟩ : ∃ x, l[i]? = some x := ⟨_, List.getElem?_eq_getElem hb10⟩
 obtain ⟨c11, hr12, hc13⟩ := Kd.reps_get1 rfl hv_l hx9
 obtain ⟨hz14_, hz14⟩ := id hr12
 cases hz14_
 unfold i64 at hz14
 refine tl (vR (i := i) 0 rfl rfl rfl pL hb10) ?_
 refine tl (hC 0 rfl rfl ld3 hc13) ?_
 refine tl (qD rfl) ?_
 refine tl (qD rfl) ?_
 refine qB <| qC <| qE <| qE <| qA ?_
 refine tl (qG rfl) ?_
 refine tl (qG rfl) ?_
 refine tl (jR rfl rfl rfl) ?_
 refine qB <| qC ?_
 refine qP 16 rfl (fun h15 => ?_) (fun h15 => ?_)
 refine xE rfl ?_
 refine qE <| qA ?_
 refine tl (qG rfl) ?_
 refine tl (qD rfl) ?_
 refine qB <| qC <| qV <| qI <| qN <| qI <| qI <| qN <| qI ?_
 refine xB (.inl rfl) rfl rfl ?_
 have e16 : (l : List (Int)) = wS l n := by (have hd_ := aZ i l hi2; rw [hd_, List.drop_eq_getElem_cons (by omega)]; have hg_ := List.getElem?_eq_some_iff.1 hx9; obtain ⟨q1_, q2_⟩ := hg_; simp only [wS]; rw [if_pos (by omega), ← List.drop_eq_getElem_cons, List.take_append_drop])
 intro w hw
 exact ⟨_, _, [.vec (.slice A_l l.length c_l) l.length 3 1 l_l], rfl, .refl _, hw, A_l, c_l, l_l, (congrArg (fun (z0_ : List (Int)) => (.slice A_l z0_.length c_l : Value)) e16), (congrArg (fun (z0_ : List (Int)) => ([.vec (.slice A_l z0_.length c_l) z0_.length 3 1 l_l] : List Res)) e16), (Eq.mp (congrArg (fun z => (kInt).reps R z l_l) e16) hv_l)⟩
 refine xV rfl ?_
 refine qZ <| qC <| qE <| qA ?_
 refine tl (qG rfl) ?_
 refine tl (qG rfl) ?_
 refine tl (jR rfl rfl rfl) ?_
 refine qB <| qC ?_
 refine qP 20 rfl (fun h17 => ?_) (fun h17 => ?_)
 refine xE rfl ?_
 refine aJ (X := Option Addr × Nat × Nat × Option Addr × Nat × Option Addr × Nat × List Value) (fun (z_ : Option Addr × Nat × Nat × Option Addr × Nat × Option Addr × Nat × List Value) => match z_ with | (A30, c31, b35, A36, c37, A41, c42, l43) => [(0, .slice A_l l.length c_l), (1, .int .i64 n), (7, .slice A_l l.length c_l), (8, .int .i64 (l.length : Int)), (9, .int .i64 (i : Int)), (10, .bool true), (11, .int .i64 (i : Int)), (12, .pointer (some ⟨mM A_l, i, none⟩)), (13, .int .i64 x8), (5, .int .i64 (i : Int)), (6, .int .i64 x8), (14, .int .i64 x8), (15, .int .i64 n), (16, .bool false), (18, .int .i64 x8), (19, .int .i64 n), (20, .bool true), (21, .slice A_l l.length c_l), (22, .int .i64 (i : Int)), (23, .slice (rJ A_l c_l 0 1) (i - 0) (c_l - 0)), (25, .int .i64 n), (28, .slice A_l l.length c_l), (29, .int .i64 (i : Int)), (30, .slice (rJ A_l c_l i 1) (l.length - i) (c_l - i)), (24, .slice A30 ((([] : List (Int)) ++ ((l.drop 0).take (i - 0))).length) c31), (26, .slice (some ⟨b35, 0, none⟩) 1 1), (27, .slice A36 (((([] : List (Int)) ++ ((l.drop 0).take (i - 0))) ++ [n]).length) c37), (31, .slice A41 ((((([] : List (Int)) ++ ((l.drop 0).take (i - 0))) ++ [n]) ++ ((l.drop i).take (l.length - i))).length) c42), (4, .slice A41 ((((([] : List (Int)) ++ ((l.drop 0).take (i - 0))) ++ [n]) ++ ((l.drop i).take (l.length - i))).length) c42)]) (fun (z_ : Option Addr × Nat × Nat × Option Addr × Nat × Option Addr × Nat × List Value) => match z_ with | (A30, c31, b35, A36, c37, A41, c42, l43) => (.vec (.slice A41 ((((([] : List (Int)) ++ ((l.drop 0).take (i - 0))) ++ [n]) ++ ((l.drop i).take (l.length - i))).length) c42) ((((([] : List (Int)) ++ ((l.drop 0).take (i - 0))) ++ [n]) ++ ((l.drop i).take (l.length - i))).length) 3 1 l43 :: .vec (.slice A_l l.length c_l) l.length 3 1 l_l :: G)) (fun (z_ : Option Addr × Nat × Nat × Option Addr × Nat × Option Addr × Nat × List Value) (R_ : RO) => match z_ with | (A30, c31, b35, A36, c37, A41, c42, l43) => (kInt).reps R_ (((([] : List (Int)) ++ ((l.drop 0).take (i - 0))) ++ [n]) ++ ((l.drop i).take (l.length - i))) l43) (fun K hK46 hE47 => ?_) ?_
 refine vS R (.vec (.slice A_l l.length c_l) l.length 3 1 l_l :: G) 12 mixed ?_
 refine td 0 rfl (by kernel_rfl) (qG rfl) (fun w hw => hw) ?_
 refine td 1 rfl (by kernel_rfl) (qG rfl) (fun w hw => hw) ?_
 have hlo48 : 0 ≤ i := by omega
 have hhi49 : i ≤ l.length := by omega
 have hv51 := Kd.reps_take (i - 0) (Kd.reps_drop 0 hv_l)
 have hl52 : i - 0 = ((l.drop 0).take (i - 0)).length := by simp only [List.length_take, List.length_drop]; omega
 refine td 2 rfl (by kernel_rfl) (fF 0 i 0 rfl rfl pL rfl rfl hlo48 hhi49) (fun w hw => hw) ?_
 refine td 4 rfl (by kernel_rfl) (qG rfl) (fun w hw => hw) ?_
 refine td 7 rfl (by kernel_rfl) (qG rfl) (fun w hw => hw) ?_
 refine td 8 rfl (by kernel_rfl) (qG rfl) (fun w hw => hw) ?_
 have hlo53 : i ≤ l.length := by omega
 have hhi54 : l.length ≤ l.length := by omega
 have hv56 := Kd.reps_take (l.length - i) (Kd.reps_drop i hv_l)
 have hl57 : l.length - i = ((l.drop i).take (l.length - i)).length := by simp only [List.length_take, List.length_drop]; omega
 refine td 9 rfl (by kernel_rfl) (fF i l.length 0 rfl rfl pL rfl rfl hlo53 hhi54) (fun w hw => hw) ?_
 refine jO [3, 5] (by kernel_rfl) rfl ?_
 refine tds rfl ?_ ?_
 refine tR _ (fun w hw => hw.vecnil 3 1) ?_
 have hv58 : (kInt).reps R [] [] := rfl
 refine kH (k := kInt) (m := ((l.drop 0).take (i - 0))) 0 hv58 (hv51) zR rfl rfl rfl (hl52) (mO (pU kN hv_l) (i := 1) rfl hlo48 hhi49 (Kd.reps_length hv_l)) (by first | omega | (simp; omega)) rfl rfl fun A60 c61 l62 hv63 => ?_
 refine qB ?_
 refine qY (fun w hw => hw.drop 1) ?_
 refine td1 5 (by kernel_rfl) rfl ?_
 refine jB [.int .i64 n] zR rfl rfl rfl rfl rfl rfl rfl fun b65 => ?_
 refine qB ?_
 refine qY (fun w hw => hw.drop 2) ?_
 refine td1 6 (by kernel_rfl) rfl ?_
 refine yJ (k := kInt) (e := n) 1 0 hv63 (⟨rfl, by unfold i64; omega⟩) zR rfl rfl rfl rfl rfl (by first | omega | (simp; omega)) rfl rfl fun A66 c67 l68 hv69 => ?_
 refine qB ?_
 refine qY (fun w hw => hw.drop 2) ?_
 refine td1 10 (by kernel_rfl) rfl ?_
 refine kH (k := kInt) (m := ((l.drop i).take (l.length - i))) 1 hv69 (hv56) zR rfl rfl rfl (hl57) (mO (pU kN hv_l) (i := 2) rfl hlo53 hhi54 (Kd.reps_length hv_l)) (by first | omega | (simp; omega)) rfl rfl fun A71 c72 l73 hv74 => ?_
 refine qB ?_
 refine qY (fun w hw => hw.drop 2) ?_
 refine td 11 rfl (by kernel_rfl) (qD rfl) (fun w hw => hw.drop 2) ?_
 refine xK (by kernel_rfl) ?_
 exact xR hK46 (A60, c61, b65, A66, c67, A71, c72, l73) (.refl _) (hv74) (by repeat' constructor) (fun w hw => hw.drop 1)
 refine tds rfl ?_ ?_
 refine jB [.int .i64 n] zR rfl rfl rfl rfl rfl rfl rfl fun b76 => ?_
 refine qB ?_
 refine qY (fun w hw => hw.drop 1) ?_
 refine td1 3 (by kernel_rfl) rfl ?_
 refine tR _ (fun w hw => hw.vecnil 3 1) ?_
 have hv77 : (kInt).reps R [] [] := rfl
 refine kH (k := kInt) (m := ((l.drop 0).take (i - 0))) 0 hv77 (hv51) zR rfl rfl rfl (hl52) (mO (pU kN hv_l) (i := 2) rfl hlo48 hhi49 (Kd.reps_length hv_l)) (by first | omega | (simp; omega)) rfl rfl fun A79 c80 l81 hv82 => ?_
 refine qB ?_
 refine qY (fun w hw => hw.drop 2) ?_
 refine td1 6 (by kernel_rfl) rfl ?_
 refine yJ (k := kInt) (e := n) 0 1 hv82 (⟨rfl, by unfold i64; omega⟩) zR rfl rfl rfl rfl rfl (by first | omega | (simp; omega)) rfl rfl fun A84 c85 l86 hv87 => ?_
 refine qB ?_
 refine qY (fun w hw => hw.drop 2) ?_
 refine td1 10 (by kernel_rfl) rfl ?_
 refine kH (k := kInt) (m := ((l.drop i).take (l.length - i))) 0 hv87 (hv56) zR rfl rfl rfl (hl57) (mO (pU kN hv_l) (i := 2) rfl hlo53 hhi54 (Kd.reps_length hv_l)) (by first | omega | (simp; omega)) rfl rfl fun A89 c90 l91 hv92 => ?_
 refine qB ?_
 refine qY (fun w hw => hw.drop 2) ?_
 refine td 11 rfl (by kernel_rfl) (qD rfl) (fun w hw => hw.drop 2) ?_
 refine xK (by kernel_rfl) ?_
 exact xR hK46 (A79, c80, b76, A84, c85, A89, c90, l91) (.refl _) (hv92) (by repeat' constructor) (fun w hw => (((hw.pick 1).tail.pick 1).pick 1))
 exact jD
 rintro ⟨A30, c31, b35, A36, c37, A41, c42, l43⟩ R95 hle96 hj94
 have hv97 := hj94
 try replace hv_l := Kd.reps_mono hle96 hv_l
 show TC Tryz.prog _ _ _ [] [(0, .slice A_l l.length c_l), (1, .int .i64 n), (7, .slice A_l l.length c_l), (8, .int .i64 (l.length : Int)), (9, .int .i64 (i : Int)), (10, .bool true), (11, .int .i64 (i : Int)), (12, .pointer (some ⟨mM A_l, i, none⟩)), (13, .int .i64 x8), (5, .int .i64 (i : Int)), (6, .int .i64 x8), (14, .int .i64 x8), (15, .int .i64 n), (16, .bool false), (18, .int .i64 x8), (19, .int .i64 n), (20, .bool true), (21, .slice A_l l.length c_l), (22, .int .i64 (i : Int)), (23, .slice (rJ A_l c_l 0 1) (i - 0) (c_l - 0)), (25, .int .i64 n), (28, .slice A_l l.length c_l), (29, .int .i64 (i : Int)), (30, .slice (rJ A_l c_l i 1) (l.length - i) (c_l - i)), (24, .slice A30 ((([] : List (Int)) ++ ((l.drop 0).take (i - 0))).length) c31), (26, .slice (some ⟨b35, 0, none⟩) 1 1), (27, .slice A36 (((([] : List (Int)) ++ ((l.drop 0).take (i - 0))) ++ [n]).length) c37), (31, .slice A41 ((((([] : List (Int)) ++ ((l.drop 0).take (i - 0))) ++ [n]) ++ ((l.drop i).take (l.length - i))).length) c42), (4, .slice A41 ((((([] : List (Int)) ++ ((l.drop 0).take (i - 0))) ++ [n]) ++ ((l.drop i).take (l.length - i))).length) c42)] R95 (.vec (.slice A41 ((((([] : List (Int)) ++ ((l.drop 0).take (i - 0))) ++ [n]) ++ ((l.drop i).take (l.length - i))).length) c42) ((((([] : List (Int)) ++ ((l.drop 0).take (i - 0))) ++ [n]) ++ ((l.drop i).take (l.length - i))).length) 3 1 l43 :: .vec (.slice A_l l.length c_l) l.length 3 1 l_l :: G)
 refine qV <| qN <| qI <| qI <| qN <| qI ?_
 refine xB (.inl rfl) rfl rfl ?_
 have e98 : ((((([] : List (Int)) ++ ((l.drop 0).take (i - 0))) ++ [n]) ++ ((l.drop i).take (l.length - i))) : List (Int)) = wS l n := by (have hd_ := aZ i l hi2; rw [hd_]; have hg_ := List.getElem?_eq_some_iff.1 hx9; obtain ⟨q1_, q2_⟩ := hg_; (have hc_ := List.drop_eq_getElem_cons (l := l) (i := i) (by omega)); rw [hc_]; simp only [wS]; rw [if_neg (by omega), if_pos (by omega), ← hc_]; simp; exact List.take_of_length_le (by simp))
 intro w hw
 exact ⟨_, _, [.vec (.slice A41 ((((([] : List (Int)) ++ ((l.drop 0).take (i - 0))) ++ [n]) ++ ((l.drop i).take (l.length - i))).length) c42) ((((([] : List (Int)) ++ ((l.drop 0).take (i - 0))) ++ [n]) ++ ((l.drop i).take (l.length - i))).length) 3 1 l43], rfl, hle96, (hw.pick 1).tail, A41, c42, l43, (congrArg (fun (z0_ : List (Int)) => (.slice A41 z0_.length c42 : Value)) e98), (congrArg (fun (z0_ : List (Int)) => ([.vec (.slice A41 z0_.length c42) z0_.length 3 1 l43] : List Res)) e98), (Eq.mp (congrArg (fun z => (kInt).reps R95 z l43) e98) hv97)⟩
 refine xV rfl ?_
 refine qZ <| jC <| qC <| qA ?_
 refine tl (jT rfl rfl (by omega) (by omega)) ?_
 refine tl (qG rfl) ?_
 refine qB ?_
 refine xQ ?_
 exact fun a w ha hw => ih4.out (i + 1) (by exact ⟨by omega, vQ hi2 hx9 (by omega)⟩) (by (try dsimp only); omega) a w (ha.sub (xL (by repeat' constructor))) (hw)
 refine xV rfl ?_
 refine jE <| qK <| qK <| xG <| qC <| qE <| qA ?_
 refine tl (qG rfl) ?_
 refine tl (qG rfl) ?_
 refine jB [.int .i64 n] zR rfl rfl rfl rfl rfl rfl rfl fun b99 => ?_
 refine yJ (k := kInt) (e := n) 1 0 hv_l (⟨rfl, by unfold i64; omega⟩) zR rfl rfl rfl rfl rfl (by first | omega | (simp; omega)) rfl rfl fun A100 c101 l102 hv103 => ?_
 refine tl (qD rfl) ?_
 refine qB <| qC <| qV ?_
 refine xB (.inl rfl) rfl rfl ?_
 have e105 : ((l ++ [n]) : List (Int)) = wS l n := by (have hd_ := aZ i l hi2; rw [hd_, xF (by assumption) (by assumption), List.drop_of_length_le (by omega)]; rfl)
 intro w hw
 exact ⟨_, _, [.vec (.slice A100 ((l ++ [n]).length) c101) ((l ++ [n]).length) 3 1 l102], rfl, .refl _, hw.drop 1, A100, c101, l102, (congrArg (fun (z0_ : List (Int)) => (.slice A100 z0_.length c101 : Value)) e105), (congrArg (fun (z0_ : List (Int)) => ([.vec (.slice A100 z0_.length c101) z0_.length 3 1 l102] : List Res)) e105), (Eq.mp (congrArg (fun z => (kInt).reps R z l102) e105) hv103)⟩

end Go.Proofs.YtcbcdlajnmkioaaGreatDoor
