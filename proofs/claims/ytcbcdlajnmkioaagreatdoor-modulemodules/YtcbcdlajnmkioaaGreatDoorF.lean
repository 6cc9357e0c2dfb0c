/- A part of the proof of the statement ModuleModules of isagogelaw19: functions walked, and plain laws on what they answer. -/
import Derived.Test.YtcbcdlajnmkioaaGreatDoorD
namespace Go.Proofs.YtcbcdlajnmkioaaGreatDoor
open Go Go.Proofs
set_option linter.unusedSimpArgs false
set_option linter.unusedVariables false
set_option maxRecDepth 20000
set_option maxHeartbeats 8000000
theorem ca16 : Callable Tryz.prog 16 := ⟨by kernel_rfl⟩
theorem ca97 : Callable Tryz.prog 97 := ⟨by kernel_rfl⟩

mutual
def kS : Concept → List Int × List Int → List Int × List Int
  | .mk op n args, s => zS args (if op = 0 then wS s.1 n else s.1, if op = 6 ∨ op = 7 then wS s.2 (n / 2) else s.2)
def zS : List Concept → List Int × List Int → List Int × List Int
  | [], s => s
  | x :: xs, s => zS xs (kS x s)
end
theorem sT (c : Concept) (s : List Int × List Int) : kS c s = zS c.args (if c.op = 0 then wS s.1 c.n else s.1, if c.op = 6 ∨ c.op = 7 then wS s.2 (c.n / 2) else s.2) := by cases c; rw [kS]; rfl
theorem eI : ∀ (l m : List Concept) (s : List Int × List Int), zS (l ++ m) s = zS m (zS l s)
  | [], m, s => by simp [zS]
  | x :: xs, m, s => by simp only [List.cons_append, zS, eI xs m]
theorem zW {l : List Concept} {i : Nat} {x : Concept} (h : l[i]? = some x) (s : List Int × List Int) : zS (l.take (i + 1)) s = kS x (zS (l.take i) s) := by rw [jQ h, eI]; simp [zS]
mutual
theorem nX : ∀ (c : Concept) (s : List Int × List Int), (kS c s).1.length ≤ s.1.length + jW c ∧ (kS c s).2.length ≤ s.2.length + jW c
  | .mk op n args, s => by
    rw [kS, jW]
    have h := tM args (if op = 0 then wS s.1 n else s.1, if op = 6 ∨ op = 7 then wS s.2 (n / 2) else s.2)
    have h1 : (if op = 0 then wS s.1 n else s.1).length ≤ s.1.length + 1 := by split; exact vC; omega
    have h2 : (if op = 6 ∨ op = 7 then wS s.2 (n / 2) else s.2).length ≤ s.2.length + 1 := by split; exact vC; omega
    exact ⟨Nat.le_trans h.1 (by simp only; omega), Nat.le_trans h.2 (by simp only; omega)⟩
theorem tM : ∀ (l : List Concept) (s : List Int × List Int), (zS l s).1.length ≤ s.1.length + jI l ∧ (zS l s).2.length ≤ s.2.length + jI l
  | [], s => by simp [zS, jI]
  | x :: xs, s => by
    rw [zS, jI]
    have h1 := nX x s
    have h2 := tM xs (kS x s)
    omega
end
mutual
def nnC : Concept → Bool
  | .mk _ n args => decide (0 ≤ n) && nnCs args
def nnCs : List Concept → Bool
  | [] => true
  | x :: xs => nnC x && nnCs xs
end
theorem qA9 : ∀ l : List Concept, nnCs l = true ↔ ∀ x ∈ l, nnC x = true
  | [] => by simp [nnCs]
  | x :: xs => by simp [nnCs, qA9 xs]
theorem qJ0 (c : Concept) : nnC c = true ↔ 0 ≤ c.n ∧ ∀ x ∈ c.args, nnC x = true := by
  cases c with
  | mk op a args =>
    show nnC (.mk op a args) = true ↔ 0 ≤ a ∧ ∀ x ∈ args, nnC x = true
    rw [nnC, Bool.and_eq_true, decide_eq_true_eq, qA9]
theorem fZ (n : Names) (m : Nat) : ∀ c : Concept, SizeOf.sizeOf c = m → jZ n c = true → nnC c = true := by
  induction m using Nat.strongRecOn with
  | _ m ih =>
    intro c hm h
    rw [qJ0]
    rw [vK] at h
    refine ⟨h.1.2.1, fun x hx => ?_⟩
    obtain ⟨i, hi⟩ := List.mem_iff_getElem?.1 hx
    exact ih _ (hm ▸ Concept.sizeOf_arg hi) x rfl (h.2 x hx)

theorem aM (m : Nat) : ∀ {R : RO} {G : List Res} {w : World} {c_c : List Value} (c : Concept) (l : List (Int)) {A_l : Option Addr} {c_l : Nat} {l_l : List Value} (r : List (Int)) {A_r : Option Addr} {c_r : Nat} {l_r : List Value} (hr_c : kConcept.rep R c c_c) (hv_l : (kInt).reps R l l_l) (hv_r : (kInt).reps R r l_r) (hb : l.length + jW c ≤ 1000000 ∧ r.length + jW c ≤ 1000000) (hn : nnC c = true), SizeOf.sizeOf c = m → Own w R (.vec (.slice A_l l.length c_l) l.length 3 1 l_l :: .vec (.slice A_r r.length c_r) r.length 3 1 l_r :: G) →
    Calls Tryz.prog 97 [.agg c_c.toArray, .slice A_l l.length c_l, .slice A_r r.length c_r].toArray w (gZ R G (fun v_ R' L_ => ∃ (A_0 : Option Addr) (c_0 : Nat) (l_0 : List Value) (A_1 : Option Addr) (c_1 : Nat) (l_1 : List Value), v_ = (.tuple #[.slice A_0 (((kS c (l, r)).1).length) c_0, .slice A_1 (((kS c (l, r)).2).length) c_1] : Value) ∧ L_ = ([.vec (.slice A_0 (((kS c (l, r)).1).length) c_0) (((kS c (l, r)).1).length) 3 1 l_0, .vec (.slice A_1 (((kS c (l, r)).2).length) c_1) (((kS c (l, r)).2).length) 3 1 l_1] : List Res) ∧ (kInt).reps R' ((kS c (l, r)).1) l_0 ∧ (kInt).reps R' ((kS c (l, r)).2) l_1)) := by
 induction m using Nat.strongRecOn with
 | _ m ih =>
  intro R G w c_c c l A_l c_l l_l r A_r c_r l_r hr_c hv_l hv_r hb hn hm hw
  subst hm
  replace ih := Aside.mk ih
  obtain ⟨A1, d2, rfl, i3, i4, hs5⟩ := qM hr_c
  unfold i64 at i3 i4
  have z6 := hs5.size
  unfold big at z6
  have hne := uZ c
  have hnn := (qJ0 c).1 hn
  refine xH (vs := [.agg #[.int .i64 c.op, .int .i64 c.n, .slice A1 c.args.length d2], .slice A_l l.length c_l, .slice A_r r.length c_r]) Tryz.func97 rfl rfl rfl ?_ hw
  refine qE <| qA ?_
  refine qW (l := [.int .i64 c.op, .int .i64 c.n, .slice A1 c.args.length d2]) rfl rfl fun b11 => ?_
  refine tl (qD rfl) ?_
  refine tl (qD rfl) ?_
  refine qB <| qC <| qE <| qE <| qA ?_
  refine tl (qH 0 rfl sP rfl) ?_
  refine tl (jM 0 rfl ld3 rfl rfl) ?_
  refine tl (jR rfl rfl rfl) ?_
  refine qB <| qC ?_
  refine qP 12 rfl (fun h12 => ?_) (fun h12 => ?_)
  refine xE rfl ?_
  refine qA ?_
  refine tl (qG rfl) ?_
  refine tl (qH 1 rfl zA rfl) ?_
  refine tl (jM 0 rfl ld3 rfl rfl) ?_
  refine tR (.vec (.slice A_l l.length c_l) l.length 3 1 l_l :: .blk b11 [.int .i64 c.op, .int .i64 c.n, .slice A1 c.args.length d2] 37 :: .vec (.slice A_r r.length c_r) r.length 3 1 l_r :: G) (fun w hw => (hw.pick 1)) ?_
  refine xD ca16 rfl (fun w hw => kW l c.n hv_l (by unfold i64; omega) (by omega) hw) rfl ?_
  rintro _ R14 _ hle15 ⟨A_z13_0, c_z13_0, l_z13_0, rfl, rfl, hv_z13_0⟩
  try replace hs5 := hs5.mono hle15
  try replace hr_c := kConcept.mono _ _ _ _ hle15 hr_c
  try replace hv_l := Kd.reps_mono hle15 hv_l
  try replace hv_r := Kd.reps_mono hle15 hv_r
  refine tl (qD rfl) ?_
  refine qB <| qC <| qE <| qE <| qA ?_
  refine tl (qH 0 rfl sP rfl) ?_
  refine tl (jM 1 rfl ld3 rfl rfl) ?_
  refine xC ca61 rfl (fun w hw => vP c.op (by unfold i64; omega) hw) rfl ?_
  refine qB <| qC ?_
  refine qP 19 rfl (fun h16 => ?_) (fun h16 => ?_)
  refine xE rfl ?_
  refine qA ?_
  refine tl (qG rfl) ?_
  refine tl (qH 1 rfl zA rfl) ?_
  refine tl (jM 1 rfl ld3 rfl rfl) ?_
  refine tl (dR rfl rfl (by omega) (by omega)) ?_
  refine tR (.vec (.slice A_r r.length c_r) r.length 3 1 l_r :: .vec (.slice A_z13_0 ((wS l c.n).length) c_z13_0) ((wS l c.n).length) 3 1 l_z13_0 :: .blk b11 [.int .i64 c.op, .int .i64 c.n, .slice A1 c.args.length d2] 37 :: G) (fun w hw => (hw.pick 2)) ?_
  refine xD ca16 rfl (fun w hw => kW r (c.n / 2) hv_r (by unfold i64; omega) (by omega) hw) rfl ?_
  rintro _ R18 _ hle19 ⟨A_z17_0, c_z17_0, l_z17_0, rfl, rfl, hv_z17_0⟩
  try replace hs5 := hs5.mono hle19
  try replace hr_c := kConcept.mono _ _ _ _ hle19 hr_c
  try replace hv_l := Kd.reps_mono hle19 hv_l
  try replace hv_r := Kd.reps_mono hle19 hv_r
  try replace hv_z13_0 := Kd.reps_mono hle19 hv_z13_0
  have hle20 := hle15.trans hle19
  refine tl (qD rfl) ?_
  refine qB <| qC <| qE <| qE <| qA ?_
  refine tl (qH 2 rfl wR rfl) ?_
  refine tl (jM 2 rfl dH rfl rfl) ?_
  refine tl (jJ rfl sK) ?_
  refine tl (qG rfl) ?_
  refine qB <| qC <| qX ?_
  refine jF ?_
  refine wD (fun b_ : Nat × List (Int) × Option Addr × Nat × List Value × List (Int) × Option Addr × Nat × List Value => match b_ with | (i, x, A_x, c_x, l_x, y, A_y, c_y, l_y) => c.args.length - i) (fun b_ : Nat × List (Int) × Option Addr × Nat × List Value × List (Int) × Option Addr × Nat × List Value => match b_ with | (i, x, A_x, c_x, l_x, y, A_y, c_y, l_y) => [(6, .slice none 0 0), (7, .slice none 0 0), (26, .slice A1 c.args.length d2), (27, .int .i64 (c.args.length : Int)), (28, .int .i64 (i : Int)), (1, .slice A_x x.length c_x), (2, .slice A_y y.length c_y)]) (fun b_ : Nat × List (Int) × Option Addr × Nat × List Value × List (Int) × Option Addr × Nat × List Value => match b_ with | (i, x, A_x, c_x, l_x, y, A_y, c_y, l_y) => (.vec (.slice A_y y.length c_y) y.length 3 1 l_y :: .vec (.slice A_x x.length c_x) x.length 3 1 l_x :: .blk b11 [.int .i64 c.op, .int .i64 c.n, .slice A1 c.args.length d2] 37 :: G)) (fun (b_ : Nat × List (Int) × Option Addr × Nat × List Value × List (Int) × Option Addr × Nat × List Value) (R_ : RO) => match b_ with | (i, x, A_x, c_x, l_x, y, A_y, c_y, l_y) => (kInt).reps R_ x l_x ∧ (kInt).reps R_ y l_y ∧ (i ≤ c.args.length ∧ x = (zS (c.args.take i) ((wS l c.n), (wS r (c.n / 2)))).1 ∧ y = (zS (c.args.take i) ((wS l c.n), (wS r (c.n / 2)))).2)) (0, (wS l c.n), A_z13_0, c_z13_0, l_z13_0, (wS r (c.n / 2)), A_z17_0, c_z17_0, l_z17_0) (by repeat' constructor) (by refine ⟨hv_z13_0, hv_z17_0, ?_⟩; exact ⟨by omega, rfl, rfl⟩) (fun w hw => hw) ?_
  rintro ⟨i, x, A_x, c_x, l_x, y, A_y, c_y, l_y⟩ R27 hle28 hI25 ih26
  try replace hs5 := hs5.mono hle28
  try replace hr_c := kConcept.mono _ _ _ _ hle28 hr_c
  try replace hv_l := Kd.reps_mono hle28 hv_l
  try replace hv_r := Kd.reps_mono hle28 hv_r
  try replace hv_z13_0 := Kd.reps_mono hle28 hv_z13_0
  have hle29 := hle20.trans hle28
  have hle30 := hle19.trans hle28
  show TC Tryz.prog _ _ _ [] [(6, .slice none 0 0), (7, .slice none 0 0), (26, .slice A1 c.args.length d2), (27, .int .i64 (c.args.length : Int)), (28, .int .i64 (i : Int)), (1, .slice A_x x.length c_x), (2, .slice A_y y.length c_y)] R27 (.vec (.slice A_y y.length c_y) y.length 3 1 l_y :: .vec (.slice A_x x.length c_x) x.length 3 1 l_x :: .blk b11 [.int .i64 c.op, .int .i64 c.n, .slice A1 c.args.length d2] 37 :: G)
  obtain ⟨hv22, hv24, hI31⟩ := hI25
  obtain ⟨hI1, hI2, hI3⟩ := hI31
  have u_ := tM (c.args.take i) ((wS l c.n), (wS r (c.n / 2)))
  rw [← hI2, ← hI3] at u_
  have i1_ := vC (l := l) (n := c.n)
  have i2_ := vC (l := r) (n := c.n / 2)
  refine qE <| qA ?_
  refine tl (jR rfl rfl rfl) ?_
  refine qB <| qC <| qE ?_
  refine qP 29 rfl (fun h32 => ?_) (fun h32 => ?_)
  refine xE rfl ?_
  refine qZ <| qC <| qE <| qX <| qE <| qA ?_
  have hb38 : i < c.args.length := by omega
  obtain ⟨x33, hx34⟩ : ∃ x, c.args[i]? = some x := ⟨_, List.getElem?_eq_getElem hb38⟩
  obtain ⟨c35, hr36, ha37⟩ := hs5.get _ x33 hx34
  obtain ⟨A39, d40, rfl, i41, i42, hs43⟩ := qM hr36
  unfold i64 at i41 i42
  have z44 := hs43.size
  unfold big at z44
  have hf45 := yS hx34
  have hf46 := zW hx34
  have hf47 := hnn.2 _ (List.mem_of_getElem? hx34)
  refine tl (jV (i := i) hs5 rfl rfl rfl sK hb38) ?_
  refine tl (jA 0 [.int .i64 x33.op, .int .i64 x33.n, .slice A39 x33.args.length d40] ha37 rfl vU rfl rfl) ?_
  refine qS eZ rfl fun b48 => ?_
  refine xN 0 [.int .i64 x33.op, .int .i64 x33.n, .slice A39 x33.args.length d40] rfl rfl vU rfl rfl rfl rfl rfl rfl ?_
  refine qB <| qC <| qA ?_
  refine tl (qQ 0 [.int .i64 x33.op, .int .i64 x33.n, .slice A39 x33.args.length d40] rfl vU rfl rfl) ?_
  refine tl (qG rfl) ?_
  refine tl (qG rfl) ?_
  refine tR (.vec (.slice A_x x.length c_x) x.length 3 1 l_x :: .vec (.slice A_y y.length c_y) y.length 3 1 l_y :: .blk b48 [.int .i64 x33.op, .int .i64 x33.n, .slice A39 x33.args.length d40] 37 :: .blk b11 [.int .i64 c.op, .int .i64 c.n, .slice A1 c.args.length d2] 37 :: G) (fun w hw => ((hw.pick 1).pick 2)) ?_
  refine xD ca97 rfl (fun w hw => ih.out (SizeOf.sizeOf x33) (by exact Concept.sizeOf_arg hx34) x33 x y hr36 hv22 hv24 (by first | assumption | (simp only at u_; omega)) (by first | assumption | (simp only at u_; omega)) rfl hw) rfl ?_
  rintro _ R52 _ hle53 ⟨A_z49_0, c_z49_0, l_z49_0, A_z49_1, c_z49_1, l_z49_1, rfl, rfl, hv_z49_0, hv_z49_1⟩
  try replace hs5 := hs5.mono hle53
  try replace hr_c := kConcept.mono _ _ _ _ hle53 hr_c
  try replace hv_l := Kd.reps_mono hle53 hv_l
  try replace hv_r := Kd.reps_mono hle53 hv_r
  try replace hv_z13_0 := Kd.reps_mono hle53 hv_z13_0
  try replace hv22 := Kd.reps_mono hle53 hv22
  try replace hv24 := Kd.reps_mono hle53 hv24
  have hle56 := hle29.trans hle53
  have hle57 := hle30.trans hle53
  have hle58 := hle28.trans hle53
  refine tl (qG rfl) ?_
  refine tl (jG rfl rfl) ?_
  refine tl (jG rfl rfl) ?_
  refine tl (qD rfl) ?_
  refine tl (qD rfl) ?_
  refine qB <| jC <| qC <| qA ?_
  refine tl (jT rfl rfl (by omega) (by omega)) ?_
  refine tl (qG rfl) ?_
  refine qB ?_
  refine xQ ?_
  exact fun a w ha hw => ih26.out (i + 1, ((kS x33 (x, y)).1), A_z49_0, c_z49_0, l_z49_0, ((kS x33 (x, y)).2), A_z49_1, c_z49_1, l_z49_1) _ (hle53) (by refine ⟨hv_z49_0, hv_z49_1, ?_⟩; refine ⟨by omega, ?_, ?_⟩ <;> (rw [zW hx34, hI2, hI3])) (by (try dsimp only); omega) a w (ha.sub (xL (by repeat' constructor))) (((((hw.pick 2).tail.pick 2).pick 1).pick 2))
  refine xV rfl ?_
  refine jE <| qK <| qK <| xG <| qC <| qE <| qA ?_
  refine tl (qG rfl) ?_
  refine tl (qG rfl) ?_
  refine tl (qD rfl) ?_
  refine tl (qD rfl) ?_
  refine qB <| qC <| qV ?_
  refine kL (.inl rfl) rfl rfl rfl ?_
  have e59 : (x : List (Int)) = (kS c (l, r)).1 := by (rw [xF (by assumption) (by assumption)] at hI2; rw [hI2, sT]; grind)
  have e60 : (y : List (Int)) = (kS c (l, r)).2 := by (rw [xF (by assumption) (by assumption)] at hI3; rw [hI3, sT]; grind)
  intro w hw
  exact ⟨_, _, [.vec (.slice A_x x.length c_x) x.length 3 1 l_x, .vec (.slice A_y y.length c_y) y.length 3 1 l_y], rfl, hle29, ((hw.pick 2).tail.pick 1), A_x, c_x, l_x, A_y, c_y, l_y, (Eq.trans (congrArg (fun (z0_ : List (Int)) => (.tuple #[.slice A_x z0_.length c_x, .slice A_y y.length c_y] : Value)) e59) (congrArg (fun (z1_ : List (Int)) => (.tuple #[.slice A_x ((kS c (l, r)).1).length c_x, .slice A_y z1_.length c_y] : Value)) e60)), (Eq.trans (congrArg (fun (z0_ : List (Int)) => ([.vec (.slice A_x z0_.length c_x) z0_.length 3 1 l_x, .vec (.slice A_y y.length c_y) y.length 3 1 l_y] : List Res)) e59) (congrArg (fun (z1_ : List (Int)) => ([.vec (.slice A_x ((kS c (l, r)).1).length c_x) ((kS c (l, r)).1).length 3 1 l_x, .vec (.slice A_y z1_.length c_y) z1_.length 3 1 l_y] : List Res)) e60)), (Eq.mp (congrArg (fun z => (kInt).reps R27 z l_x) e59) hv22), (Eq.mp (congrArg (fun z => (kInt).reps R27 z l_y) e60) hv24)⟩
  refine xV rfl ?_
  refine qZ <| qC <| qE <| qE <| qA ?_
  refine tl (qH 2 rfl wR rfl) ?_
  refine tl (jM 1 rfl dH rfl rfl) ?_
  refine tl (jJ rfl sK) ?_
  refine tl (qG rfl) ?_
  refine qB <| qC <| qX ?_
  refine jF ?_
  refine wD (fun b_ : Nat × List (Int) × Option Addr × Nat × List Value × List (Int) × Option Addr × Nat × List Value => match b_ with | (i, x, A_x, c_x, l_x, y, A_y, c_y, l_y) => c.args.length - i) (fun b_ : Nat × List (Int) × Option Addr × Nat × List Value × List (Int) × Option Addr × Nat × List Value => match b_ with | (i, x, A_x, c_x, l_x, y, A_y, c_y, l_y) => [(6, .slice none 0 0), (7, .slice none 0 0), (26, .slice A1 c.args.length d2), (27, .int .i64 (c.args.length : Int)), (28, .int .i64 (i : Int)), (1, .slice A_x x.length c_x), (2, .slice A_y y.length c_y)]) (fun b_ : Nat × List (Int) × Option Addr × Nat × List Value × List (Int) × Option Addr × Nat × List Value => match b_ with | (i, x, A_x, c_x, l_x, y, A_y, c_y, l_y) => (.vec (.slice A_x x.length c_x) x.length 3 1 l_x :: .blk b11 [.int .i64 c.op, .int .i64 c.n, .slice A1 c.args.length d2] 37 :: .vec (.slice A_y y.length c_y) y.length 3 1 l_y :: G)) (fun (b_ : Nat × List (Int) × Option Addr × Nat × List Value × List (Int) × Option Addr × Nat × List Value) (R_ : RO) => match b_ with | (i, x, A_x, c_x, l_x, y, A_y, c_y, l_y) => (kInt).reps R_ x l_x ∧ (kInt).reps R_ y l_y ∧ (i ≤ c.args.length ∧ x = (zS (c.args.take i) ((wS l c.n), r)).1 ∧ y = (zS (c.args.take i) ((wS l c.n), r)).2)) (0, (wS l c.n), A_z13_0, c_z13_0, l_z13_0, r, A_r, c_r, l_r) (by repeat' constructor) (by refine ⟨hv_z13_0, hv_r, ?_⟩; exact ⟨by omega, rfl, rfl⟩) (fun w hw => hw) ?_
  rintro ⟨i, x, A_x, c_x, l_x, y, A_y, c_y, l_y⟩ R67 hle68 hI65 ih66
  try replace hs5 := hs5.mono hle68
  try replace hr_c := kConcept.mono _ _ _ _ hle68 hr_c
  try replace hv_l := Kd.reps_mono hle68 hv_l
  try replace hv_r := Kd.reps_mono hle68 hv_r
  have hle69 := hle15.trans hle68
  show TC Tryz.prog _ _ _ [] [(6, .slice none 0 0), (7, .slice none 0 0), (26, .slice A1 c.args.length d2), (27, .int .i64 (c.args.length : Int)), (28, .int .i64 (i : Int)), (1, .slice A_x x.length c_x), (2, .slice A_y y.length c_y)] R67 (.vec (.slice A_x x.length c_x) x.length 3 1 l_x :: .blk b11 [.int .i64 c.op, .int .i64 c.n, .slice A1 c.args.length d2] 37 :: .vec (.slice A_y y.length c_y) y.length 3 1 l_y :: G)
  obtain ⟨hv62, hv64, hI70⟩ := hI65
  obtain ⟨hI1, hI2, hI3⟩ := hI70
  have u_ := tM (c.args.take i) ((wS l c.n), r)
  rw [← hI2, ← hI3] at u_
  have i1_ := vC (l := l) (n := c.n)
  have i2_ := vC (l := r) (n := c.n / 2)
  refine qE <| qA ?_
  refine tl (jR rfl rfl rfl) ?_
  refine qB <| qC <| qE ?_
  refine qP 29 rfl (fun h71 => ?_) (fun h71 => ?_)
  refine xE rfl ?_
  refine qZ <| qC <| qE <| qX <| qE <| qA ?_
  have hb77 : i < c.args.length := by omega
  obtain ⟨x72, hx73⟩ : ∃ x, c.args[i]? = some x := ⟨_, List.getElem?_eq_getElem hb77⟩
  obtain ⟨c74, hr75, ha76⟩ := hs5.get _ x72 hx73
  obtain ⟨A78, d79, rfl, i80, i81, hs82⟩ := qM hr75
  unfold i64 at i80 i81
  have z83 := hs82.size
  unfold big at z83
  have hf84 := yS hx73
  have hf85 := zW hx73
  have hf86 := hnn.2 _ (List.mem_of_getElem? hx73)
  refine tl (jV (i := i) hs5 rfl rfl rfl sK hb77) ?_
  refine tl (jA 0 [.int .i64 x72.op, .int .i64 x72.n, .slice A78 x72.args.length d79] ha76 rfl vU rfl rfl) ?_
  refine qS eZ rfl fun b87 => ?_
  refine xN 0 [.int .i64 x72.op, .int .i64 x72.n, .slice A78 x72.args.length d79] rfl rfl vU rfl rfl rfl rfl rfl rfl ?_
  refine qB <| qC <| qA ?_
  refine tl (qQ 0 [.int .i64 x72.op, .int .i64 x72.n, .slice A78 x72.args.length d79] rfl vU rfl rfl) ?_
  refine tl (qG rfl) ?_
  refine tl (qG rfl) ?_
  refine tR (.vec (.slice A_x x.length c_x) x.length 3 1 l_x :: .vec (.slice A_y y.length c_y) y.length 3 1 l_y :: .blk b87 [.int .i64 x72.op, .int .i64 x72.n, .slice A78 x72.args.length d79] 37 :: .blk b11 [.int .i64 c.op, .int .i64 c.n, .slice A1 c.args.length d2] 37 :: G) (fun w hw => ((hw.pick 3).pick 2)) ?_
  refine xD ca97 rfl (fun w hw => ih.out (SizeOf.sizeOf x72) (by exact Concept.sizeOf_arg hx73) x72 x y hr75 hv62 hv64 (by first | assumption | (simp only at u_; omega)) (by first | assumption | (simp only at u_; omega)) rfl hw) rfl ?_
  rintro _ R91 _ hle92 ⟨A_z88_0, c_z88_0, l_z88_0, A_z88_1, c_z88_1, l_z88_1, rfl, rfl, hv_z88_0, hv_z88_1⟩
  try replace hs5 := hs5.mono hle92
  try replace hr_c := kConcept.mono _ _ _ _ hle92 hr_c
  try replace hv_l := Kd.reps_mono hle92 hv_l
  try replace hv_r := Kd.reps_mono hle92 hv_r
  try replace hv62 := Kd.reps_mono hle92 hv62
  try replace hv64 := Kd.reps_mono hle92 hv64
  have hle95 := hle69.trans hle92
  have hle96 := hle68.trans hle92
  refine tl (qG rfl) ?_
  refine tl (jG rfl rfl) ?_
  refine tl (jG rfl rfl) ?_
  refine tl (qD rfl) ?_
  refine tl (qD rfl) ?_
  refine qB <| jC <| qC <| qA ?_
  refine tl (jT rfl rfl (by omega) (by omega)) ?_
  refine tl (qG rfl) ?_
  refine qB ?_
  refine xQ ?_
  exact fun a w ha hw => ih66.out (i + 1, ((kS x72 (x, y)).1), A_z88_0, c_z88_0, l_z88_0, ((kS x72 (x, y)).2), A_z88_1, c_z88_1, l_z88_1) _ (hle92) (by refine ⟨hv_z88_0, hv_z88_1, ?_⟩; refine ⟨by omega, ?_, ?_⟩ <;> (rw [zW hx73, hI2, hI3])) (by (try dsimp only); omega) a w (ha.sub (xL (by repeat' constructor))) (((((hw.pick 2).tail.pick 1).pick 2).pick 2))
  refine xV rfl ?_
  refine jE <| qK <| qK <| xG <| qC <| qE <| qA ?_
  refine tl (qG rfl) ?_
  refine tl (qG rfl) ?_
  refine tl (qD rfl) ?_
  refine tl (qD rfl) ?_
  refine qB <| qC <| qV ?_
  refine kL (.inl rfl) rfl rfl rfl ?_
  have e97 : (x : List (Int)) = (kS c (l, r)).1 := by (rw [xF (by assumption) (by assumption)] at hI2; rw [hI2, sT]; grind)
  have e98 : (y : List (Int)) = (kS c (l, r)).2 := by (rw [xF (by assumption) (by assumption)] at hI3; rw [hI3, sT]; grind)
  intro w hw
  exact ⟨_, _, [.vec (.slice A_x x.length c_x) x.length 3 1 l_x, .vec (.slice A_y y.length c_y) y.length 3 1 l_y], rfl, hle69, (((hw.pick 1).tail.pick 1).pick 1), A_x, c_x, l_x, A_y, c_y, l_y, (Eq.trans (congrArg (fun (z0_ : List (Int)) => (.tuple #[.slice A_x z0_.length c_x, .slice A_y y.length c_y] : Value)) e97) (congrArg (fun (z1_ : List (Int)) => (.tuple #[.slice A_x ((kS c (l, r)).1).length c_x, .slice A_y z1_.length c_y] : Value)) e98)), (Eq.trans (congrArg (fun (z0_ : List (Int)) => ([.vec (.slice A_x z0_.length c_x) z0_.length 3 1 l_x, .vec (.slice A_y y.length c_y) y.length 3 1 l_y] : List Res)) e97) (congrArg (fun (z1_ : List (Int)) => ([.vec (.slice A_x ((kS c (l, r)).1).length c_x) ((kS c (l, r)).1).length 3 1 l_x, .vec (.slice A_y z1_.length c_y) z1_.length 3 1 l_y] : List Res)) e98)), (Eq.mp (congrArg (fun z => (kInt).reps R67 z l_x) e97) hv62), (Eq.mp (congrArg (fun z => (kInt).reps R67 z l_y) e98) hv64)⟩
  refine xV rfl ?_
  refine qZ <| qC <| qE <| qE <| qA ?_
  refine tl (qH 0 rfl sP rfl) ?_
  refine tl (jM 0 rfl ld3 rfl rfl) ?_
  refine xC ca61 rfl (fun w hw => vP c.op (by unfold i64; omega) hw) rfl ?_
  refine qB <| qC ?_
  refine qP 19 rfl (fun h99 => ?_) (fun h99 => ?_)
  refine xE rfl ?_
  refine qA ?_
  refine tl (qG rfl) ?_
  refine tl (qH 1 rfl zA rfl) ?_
  refine tl (jM 0 rfl ld3 rfl rfl) ?_
  refine tl (dR rfl rfl (by omega) (by omega)) ?_
  refine tR (.vec (.slice A_r r.length c_r) r.length 3 1 l_r :: .blk b11 [.int .i64 c.op, .int .i64 c.n, .slice A1 c.args.length d2] 37 :: .vec (.slice A_l l.length c_l) l.length 3 1 l_l :: G) (fun w hw => (hw.pick 2)) ?_
  refine xD ca16 rfl (fun w hw => kW r (c.n / 2) hv_r (by unfold i64; omega) (by omega) hw) rfl ?_
  rintro _ R101 _ hle102 ⟨A_z100_0, c_z100_0, l_z100_0, rfl, rfl, hv_z100_0⟩
  try replace hs5 := hs5.mono hle102
  try replace hr_c := kConcept.mono _ _ _ _ hle102 hr_c
  try replace hv_l := Kd.reps_mono hle102 hv_l
  try replace hv_r := Kd.reps_mono hle102 hv_r
  refine tl (qD rfl) ?_
  refine qB <| qC <| qE <| qE <| qA ?_
  refine tl (qH 2 rfl wR rfl) ?_
  refine tl (jM 1 rfl dH rfl rfl) ?_
  refine tl (jJ rfl sK) ?_
  refine tl (qG rfl) ?_
  refine qB <| qC <| qX ?_
  refine jF ?_
  refine wD (fun b_ : Nat × List (Int) × Option Addr × Nat × List Value × List (Int) × Option Addr × Nat × List Value => match b_ with | (i, x, A_x, c_x, l_x, y, A_y, c_y, l_y) => c.args.length - i) (fun b_ : Nat × List (Int) × Option Addr × Nat × List Value × List (Int) × Option Addr × Nat × List Value => match b_ with | (i, x, A_x, c_x, l_x, y, A_y, c_y, l_y) => [(6, .slice none 0 0), (7, .slice none 0 0), (26, .slice A1 c.args.length d2), (27, .int .i64 (c.args.length : Int)), (28, .int .i64 (i : Int)), (1, .slice A_x x.length c_x), (2, .slice A_y y.length c_y)]) (fun b_ : Nat × List (Int) × Option Addr × Nat × List Value × List (Int) × Option Addr × Nat × List Value => match b_ with | (i, x, A_x, c_x, l_x, y, A_y, c_y, l_y) => (.vec (.slice A_y y.length c_y) y.length 3 1 l_y :: .blk b11 [.int .i64 c.op, .int .i64 c.n, .slice A1 c.args.length d2] 37 :: .vec (.slice A_x x.length c_x) x.length 3 1 l_x :: G)) (fun (b_ : Nat × List (Int) × Option Addr × Nat × List Value × List (Int) × Option Addr × Nat × List Value) (R_ : RO) => match b_ with | (i, x, A_x, c_x, l_x, y, A_y, c_y, l_y) => (kInt).reps R_ x l_x ∧ (kInt).reps R_ y l_y ∧ (i ≤ c.args.length ∧ x = (zS (c.args.take i) (l, (wS r (c.n / 2)))).1 ∧ y = (zS (c.args.take i) (l, (wS r (c.n / 2)))).2)) (0, l, A_l, c_l, l_l, (wS r (c.n / 2)), A_z100_0, c_z100_0, l_z100_0) (by repeat' constructor) (by refine ⟨hv_l, hv_z100_0, ?_⟩; exact ⟨by omega, rfl, rfl⟩) (fun w hw => hw) ?_
  rintro ⟨i, x, A_x, c_x, l_x, y, A_y, c_y, l_y⟩ R109 hle110 hI107 ih108
  try replace hs5 := hs5.mono hle110
  try replace hr_c := kConcept.mono _ _ _ _ hle110 hr_c
  try replace hv_l := Kd.reps_mono hle110 hv_l
  try replace hv_r := Kd.reps_mono hle110 hv_r
  have hle111 := hle102.trans hle110
  show TC Tryz.prog _ _ _ [] [(6, .slice none 0 0), (7, .slice none 0 0), (26, .slice A1 c.args.length d2), (27, .int .i64 (c.args.length : Int)), (28, .int .i64 (i : Int)), (1, .slice A_x x.length c_x), (2, .slice A_y y.length c_y)] R109 (.vec (.slice A_y y.length c_y) y.length 3 1 l_y :: .blk b11 [.int .i64 c.op, .int .i64 c.n, .slice A1 c.args.length d2] 37 :: .vec (.slice A_x x.length c_x) x.length 3 1 l_x :: G)
  obtain ⟨hv104, hv106, hI112⟩ := hI107
  obtain ⟨hI1, hI2, hI3⟩ := hI112
  have u_ := tM (c.args.take i) (l, (wS r (c.n / 2)))
  rw [← hI2, ← hI3] at u_
  have i1_ := vC (l := l) (n := c.n)
  have i2_ := vC (l := r) (n := c.n / 2)
  refine qE <| qA ?_
  refine tl (jR rfl rfl rfl) ?_
  refine qB <| qC <| qE ?_
  refine qP 29 rfl (fun h113 => ?_) (fun h113 => ?_)
  refine xE rfl ?_
  refine qZ <| qC <| qE <| qX <| qE <| qA ?_
  have hb119 : i < c.args.length := by omega
  obtain ⟨x114, hx115⟩ : ∃ x, c.args[i]? = some x := ⟨_, List.getElem?_eq_getElem hb119⟩
  obtain ⟨c116, hr117, ha118⟩ := hs5.get _ x114 hx115
  obtain ⟨A120, d121, rfl, i122, i123, hs124⟩ := qM hr117
  unfold i64 at i122 i123
  have z125 := hs124.size
  unfold big at z125
  have hf126 := yS hx115
  have hf127 := zW hx115
  have hf128 := hnn.2 _ (List.mem_of_getElem? hx115)
  refine tl (jV (i := i) hs5 rfl rfl rfl sK hb119) ?_
  refine tl (jA 0 [.int .i64 x114.op, .int .i64 x114.n, .slice A120 x114.args.length d121] ha118 rfl vU rfl rfl) ?_
  refine qS eZ rfl fun b129 => ?_
  refine xN 0 [.int .i64 x114.op, .int .i64 x114.n, .slice A120 x114.args.length d121] rfl rfl vU rfl rfl rfl rfl rfl rfl ?_
  refine qB <| qC <| qA ?_
  refine tl (qQ 0 [.int .i64 x114.op, .int .i64 x114.n, .slice A120 x114.args.length d121] rfl vU rfl rfl) ?_
  refine tl (qG rfl) ?_
  refine tl (qG rfl) ?_
  refine tR (.vec (.slice A_x x.length c_x) x.length 3 1 l_x :: .vec (.slice A_y y.length c_y) y.length 3 1 l_y :: .blk b129 [.int .i64 x114.op, .int .i64 x114.n, .slice A120 x114.args.length d121] 37 :: .blk b11 [.int .i64 c.op, .int .i64 c.n, .slice A1 c.args.length d2] 37 :: G) (fun w hw => ((hw.pick 1).pick 3)) ?_
  refine xD ca97 rfl (fun w hw => ih.out (SizeOf.sizeOf x114) (by exact Concept.sizeOf_arg hx115) x114 x y hr117 hv104 hv106 (by first | assumption | (simp only at u_; omega)) (by first | assumption | (simp only at u_; omega)) rfl hw) rfl ?_
  rintro _ R133 _ hle134 ⟨A_z130_0, c_z130_0, l_z130_0, A_z130_1, c_z130_1, l_z130_1, rfl, rfl, hv_z130_0, hv_z130_1⟩
  try replace hs5 := hs5.mono hle134
  try replace hr_c := kConcept.mono _ _ _ _ hle134 hr_c
  try replace hv_l := Kd.reps_mono hle134 hv_l
  try replace hv_r := Kd.reps_mono hle134 hv_r
  try replace hv104 := Kd.reps_mono hle134 hv104
  try replace hv106 := Kd.reps_mono hle134 hv106
  have hle137 := hle111.trans hle134
  have hle138 := hle110.trans hle134
  refine tl (qG rfl) ?_
  refine tl (jG rfl rfl) ?_
  refine tl (jG rfl rfl) ?_
  refine tl (qD rfl) ?_
  refine tl (qD rfl) ?_
  refine qB <| jC <| qC <| qA ?_
  refine tl (jT rfl rfl (by omega) (by omega)) ?_
  refine tl (qG rfl) ?_
  refine qB ?_
  refine xQ ?_
  exact fun a w ha hw => ih108.out (i + 1, ((kS x114 (x, y)).1), A_z130_0, c_z130_0, l_z130_0, ((kS x114 (x, y)).2), A_z130_1, c_z130_1, l_z130_1) _ (hle134) (by refine ⟨hv_z130_0, hv_z130_1, ?_⟩; refine ⟨by omega, ?_, ?_⟩ <;> (rw [zW hx115, hI2, hI3])) (by (try dsimp only); omega) a w (ha.sub (xL (by repeat' constructor))) ((((hw.pick 2).tail.pick 2).pick 2))
  refine xV rfl ?_
  refine jE <| qK <| qK <| xG <| qC <| qE <| qA ?_
  refine tl (qG rfl) ?_
  refine tl (qG rfl) ?_
  refine tl (qD rfl) ?_
  refine tl (qD rfl) ?_
  refine qB <| qC <| qV ?_
  refine kL (.inl rfl) rfl rfl rfl ?_
  have e139 : (x : List (Int)) = (kS c (l, r)).1 := by (rw [xF (by assumption) (by assumption)] at hI2; rw [hI2, sT]; grind)
  have e140 : (y : List (Int)) = (kS c (l, r)).2 := by (rw [xF (by assumption) (by assumption)] at hI3; rw [hI3, sT]; grind)
  intro w hw
  exact ⟨_, _, [.vec (.slice A_x x.length c_x) x.length 3 1 l_x, .vec (.slice A_y y.length c_y) y.length 3 1 l_y], rfl, hle111, ((hw.pick 1).tail.pick 1), A_x, c_x, l_x, A_y, c_y, l_y, (Eq.trans (congrArg (fun (z0_ : List (Int)) => (.tuple #[.slice A_x z0_.length c_x, .slice A_y y.length c_y] : Value)) e139) (congrArg (fun (z1_ : List (Int)) => (.tuple #[.slice A_x ((kS c (l, r)).1).length c_x, .slice A_y z1_.length c_y] : Value)) e140)), (Eq.trans (congrArg (fun (z0_ : List (Int)) => ([.vec (.slice A_x z0_.length c_x) z0_.length 3 1 l_x, .vec (.slice A_y y.length c_y) y.length 3 1 l_y] : List Res)) e139) (congrArg (fun (z1_ : List (Int)) => ([.vec (.slice A_x ((kS c (l, r)).1).length c_x) ((kS c (l, r)).1).length 3 1 l_x, .vec (.slice A_y z1_.length c_y) z1_.length 3 1 l_y] : List Res)) e140)), (Eq.mp (congrArg (fun z => (kInt).reps R109 z l_x) e139) hv104), (Eq.mp (congrArg (fun z => (kInt).reps R109 z l_y) e140) hv106)⟩
  refine xV rfl ?_
  refine qZ <| qC <| qE <| qE <| qA ?_
  refine tl (qH 2 rfl wR rfl) ?_
  refine tl (jM 0 rfl dH rfl rfl) ?_
  refine tl (jJ rfl sK) ?_
  refine tl (qG rfl) ?_
  refine qB <| qC <| qX ?_
  refine jF ?_
  refine wD (fun b_ : Nat × List (Int) × Option Addr × Nat × List Value × List (Int) × Option Addr × Nat × List Value => match b_ with | (i, x, A_x, c_x, l_x, y, A_y, c_y, l_y) => c.args.length - i) (fun b_ : Nat × List (Int) × Option Addr × Nat × List Value × List (Int) × Option Addr × Nat × List Value => match b_ with | (i, x, A_x, c_x, l_x, y, A_y, c_y, l_y) => [(6, .slice none 0 0), (7, .slice none 0 0), (26, .slice A1 c.args.length d2), (27, .int .i64 (c.args.length : Int)), (28, .int .i64 (i : Int)), (1, .slice A_x x.length c_x), (2, .slice A_y y.length c_y)]) (fun b_ : Nat × List (Int) × Option Addr × Nat × List Value × List (Int) × Option Addr × Nat × List Value => match b_ with | (i, x, A_x, c_x, l_x, y, A_y, c_y, l_y) => (.blk b11 [.int .i64 c.op, .int .i64 c.n, .slice A1 c.args.length d2] 37 :: .vec (.slice A_x x.length c_x) x.length 3 1 l_x :: .vec (.slice A_y y.length c_y) y.length 3 1 l_y :: G)) (fun (b_ : Nat × List (Int) × Option Addr × Nat × List Value × List (Int) × Option Addr × Nat × List Value) (R_ : RO) => match b_ with | (i, x, A_x, c_x, l_x, y, A_y, c_y, l_y) => (kInt).reps R_ x l_x ∧ (kInt).reps R_ y l_y ∧ (i ≤ c.args.length ∧ x = (zS (c.args.take i) (l, r)).1 ∧ y = (zS (c.args.take i) (l, r)).2)) (0, l, A_l, c_l, l_l, r, A_r, c_r, l_r) (by repeat' constructor) (by refine ⟨hv_l, hv_r, ?_⟩; exact ⟨by omega, rfl, rfl⟩) (fun w hw => hw) ?_
  rintro ⟨i, x, A_x, c_x, l_x, y, A_y, c_y, l_y⟩ R147 hle148 hI145 ih146
  try replace hs5 := hs5.mono hle148
  try replace hr_c := kConcept.mono _ _ _ _ hle148 hr_c
  try replace hv_l := Kd.reps_mono hle148 hv_l
  try replace hv_r := Kd.reps_mono hle148 hv_r
  show TC Tryz.prog _ _ _ [] [(6, .slice none 0 0), (7, .slice none 0 0), (26, .slice A1 c.args.length d2), (27, .int .i64 (c.args.length : Int)), (28, .int .i64 (i : Int)), (1, .slice A_x x.length c_x), (2, .slice A_y y.length c_y)] R147 (.blk b11 [.int .i64 c.op, .int .i64 c.n, .slice A1 c.args.length d2] 37 :: .vec (.slice A_x x.length c_x) x.length 3 1 l_x :: .vec (.slice A_y y.length c_y) y.length 3 1 l_y :: G)
  obtain ⟨hv142, hv144, hI149⟩ := hI145
  obtain ⟨hI1, hI2, hI3⟩ := hI149
  have u_ := tM (c.args.take i) (l, r)
  rw [← hI2, ← hI3] at u_
  have i1_ := vC (l := l) (n := c.n)
  have i2_ := vC (l := r) (n := c.n / 2)
  refine qE <| qA ?_
  refine tl (jR rfl rfl rfl) ?_
  refine qB <| qC <| qE ?_
  refine qP 29 rfl (fun h150 => ?_) (fun h150 => ?_)
  refine xE rfl ?_
  refine qZ <| qC <| qE <| qX <| qE <| qA ?_
  have hb156 : i < c.args.length := by omega
  obtain ⟨x151, hx152⟩ : ∃ x, c.args[i]? = some x := ⟨_, List.getElem?_eq_getElem hb156⟩
  obtain ⟨c153, hr154, ha155⟩ := hs5.get _ x151 hx152
  obtain ⟨A157, d158, rfl, i159, i160, hs161⟩ := qM hr154
  unfold i64 at i159 i160
  have z162 := hs161.size
  unfold big at z162
  have hf163 := yS hx152
  have hf164 := zW hx152
  have hf165 := hnn.2 _ (List.mem_of_getElem? hx152)
  refine tl (jV (i := i) hs5 rfl rfl rfl sK hb156) ?_
  refine tl (jA 0 [.int .i64 x151.op, .int .i64 x151.n, .slice A157 x151.args.length d158] ha155 rfl vU rfl rfl) ?_
  refine qS eZ rfl fun b166 => ?_
  refine xN 0 [.int .i64 x151.op, .int .i64 x151.n, .slice A157 x151.args.length d158] rfl rfl vU rfl rfl rfl rfl rfl rfl ?_
  refine qB <| qC <| qA ?_
  refine tl (qQ 0 [.int .i64 x151.op, .int .i64 x151.n, .slice A157 x151.args.length d158] rfl vU rfl rfl) ?_
  refine tl (qG rfl) ?_
  refine tl (qG rfl) ?_
  refine tR (.vec (.slice A_x x.length c_x) x.length 3 1 l_x :: .vec (.slice A_y y.length c_y) y.length 3 1 l_y :: .blk b166 [.int .i64 x151.op, .int .i64 x151.n, .slice A157 x151.args.length d158] 37 :: .blk b11 [.int .i64 c.op, .int .i64 c.n, .slice A1 c.args.length d2] 37 :: G) (fun w hw => ((hw.pick 3).pick 3)) ?_
  refine xD ca97 rfl (fun w hw => ih.out (SizeOf.sizeOf x151) (by exact Concept.sizeOf_arg hx152) x151 x y hr154 hv142 hv144 (by first | assumption | (simp only at u_; omega)) (by first | assumption | (simp only at u_; omega)) rfl hw) rfl ?_
  rintro _ R170 _ hle171 ⟨A_z167_0, c_z167_0, l_z167_0, A_z167_1, c_z167_1, l_z167_1, rfl, rfl, hv_z167_0, hv_z167_1⟩
  try replace hr_c := kConcept.mono _ _ _ _ hle171 hr_c
  try replace hv_l := Kd.reps_mono hle171 hv_l
  try replace hv_r := Kd.reps_mono hle171 hv_r
  try replace hv142 := Kd.reps_mono hle171 hv142
  try replace hv144 := Kd.reps_mono hle171 hv144
  have hle174 := hle148.trans hle171
  refine tl (qG rfl) ?_
  refine tl (jG rfl rfl) ?_
  refine tl (jG rfl rfl) ?_
  refine tl (qD rfl) ?_
  refine tl (qD rfl) ?_
  refine qB <| jC <| qC <| qA ?_
  refine tl (jT rfl rfl (by omega) (by omega)) ?_
  refine tl (qG rfl) ?_
  refine qB ?_
  refine xQ ?_
  exact fun a w ha hw => ih146.out (i + 1, ((kS x151 (x, y)).1), A_z167_0, c_z167_0, l_z167_0, ((kS x151 (x, y)).2), A_z167_1, c_z167_1, l_z167_1) _ (hle171) (by refine ⟨hv_z167_0, hv_z167_1, ?_⟩; refine ⟨by omega, ?_, ?_⟩ <;> (rw [zW hx152, hI2, hI3])) (by (try dsimp only); omega) a w (ha.sub (xL (by repeat' constructor))) (((((hw.pick 2).tail.pick 1).pick 1).pick 2))
  refine xV rfl ?_
  refine jE <| qK <| qK <| xG <| qC <| qE <| qA ?_
  refine tl (qG rfl) ?_
  refine tl (qG rfl) ?_
  refine tl (qD rfl) ?_
  refine tl (qD rfl) ?_
  refine qB <| qC <| qV ?_
  refine kL (.inl rfl) rfl rfl rfl ?_
  have e175 : (x : List (Int)) = (kS c (l, r)).1 := by (rw [xF (by assumption) (by assumption)] at hI2; rw [hI2, sT]; grind)
  have e176 : (y : List (Int)) = (kS c (l, r)).2 := by (rw [xF (by assumption) (by assumption)] at hI3; rw [hI3, sT]; grind)
  intro w hw
  exact ⟨_, _, [.vec (.slice A_x x.length c_x) x.length 3 1 l_x, .vec (.slice A_y y.length c_y) y.length 3 1 l_y], rfl, hle148, hw.drop 1, A_x, c_x, l_x, A_y, c_y, l_y, (Eq.trans (congrArg (fun (z0_ : List (Int)) => (.tuple #[.slice A_x z0_.length c_x, .slice A_y y.length c_y] : Value)) e175) (congrArg (fun (z1_ : List (Int)) => (.tuple #[.slice A_x ((kS c (l, r)).1).length c_x, .slice A_y z1_.length c_y] : Value)) e176)), (Eq.trans (congrArg (fun (z0_ : List (Int)) => ([.vec (.slice A_x z0_.length c_x) z0_.length 3 1 l_x, .vec (.slice A_y y.length c_y) y.length 3 1 l_y] : List Res)) e175) (congrArg (fun (z1_ : List (Int)) => ([.vec (.slice A_x ((kS c (l, r)).1).length c_x) ((kS c (l, r)).1).length 3 1 l_x, .vec (.slice A_y z1_.length c_y) z1_.length 3 1 l_y] : List Res)) e176)), (Eq.mp (congrArg (fun z => (kInt).reps R147 z l_x) e175) hv142), (Eq.mp (congrArg (fun z => (kInt).reps R147 z l_y) e176) hv144)⟩
theorem bI {R : RO} {G : List Res} {w : World} {c_c : List Value} (c : Concept) (l : List (Int)) {A_l : Option Addr} {c_l : Nat} {l_l : List Value} (r : List (Int)) {A_r : Option Addr} {c_r : Nat} {l_r : List Value} (hr_c : kConcept.rep R c c_c) (hv_l : (kInt).reps R l l_l) (hv_r : (kInt).reps R r l_r) (hb : l.length + jW c ≤ 1000000 ∧ r.length + jW c ≤ 1000000) (hn : nnC c = true) (hw : Own w R (.vec (.slice A_l l.length c_l) l.length 3 1 l_l :: .vec (.slice A_r r.length c_r) r.length 3 1 l_r :: G)) :
    Calls Tryz.prog 97 [.agg c_c.toArray, .slice A_l l.length c_l, .slice A_r r.length c_r].toArray w (gZ R G (fun v_ R' L_ => ∃ (A_0 : Option Addr) (c_0 : Nat) (l_0 : List Value) (A_1 : Option Addr) (c_1 : Nat) (l_1 : List Value), v_ = (.tuple #[.slice A_0 (((kS c (l, r)).1).length) c_0, .slice A_1 (((kS c (l, r)).2).length) c_1] : Value) ∧ L_ = ([.vec (.slice A_0 (((kS c (l, r)).1).length) c_0) (((kS c (l, r)).1).length) 3 1 l_0, .vec (.slice A_1 (((kS c (l, r)).2).length) c_1) (((kS c (l, r)).2).length) 3 1 l_1] : List Res) ∧ (kInt).reps R' ((kS c (l, r)).1) l_0 ∧ (kInt).reps R' ((kS c (l, r)).2) l_1)) := aM _ c l r hr_c hv_l hv_r hb hn rfl hw

theorem ap35 : yO Tryz.prog 35 = some (37, 3, 40, [.int .i64 0, .int .i64 0, .slice none 0 0]) := by kernel_rfl
theorem ca38 : Callable Tryz.prog 38 := ⟨by kernel_rfl⟩
theorem ca62 : Callable Tryz.prog 62 := ⟨by kernel_rfl⟩
theorem zJ : kG Tryz.prog 30 0 = some 0 := by kernel_rfl
theorem yK : kG Tryz.prog 30 1 = some 3 := by kernel_rfl
theorem yL : kG Tryz.prog 30 2 = some 4 := by kernel_rfl
theorem zB : kG Tryz.prog 30 3 = some 5 := by kernel_rfl
theorem pV : kG Tryz.prog 30 4 = some 6 := by kernel_rfl
theorem lR : kG Tryz.prog 87 1 = some 1 := by kernel_rfl
theorem lS : kG Tryz.prog 92 0 = some 0 := by kernel_rfl
theorem lT : kG Tryz.prog 92 1 = some 3 := by kernel_rfl
theorem fG : kR Tryz.prog 25 = some (false, 1) := by kernel_rfl
theorem fH : kR Tryz.prog 26 = some (false, 1) := by kernel_rfl
theorem iZ : kR Tryz.prog 27 = some (false, 1) := by kernel_rfl
theorem rK : kR Tryz.prog 28 = some (false, 1) := by kernel_rfl
theorem pN : kR Tryz.prog 30 = some (true, 7) := by kernel_rfl
theorem qB0 : kR Tryz.prog 87 = some (true, 4) := by kernel_rfl
theorem qG8 : kR Tryz.prog 92 = some (true, 6) := by kernel_rfl
theorem eS : wE Tryz.prog 25 = some (92, 6) := by kernel_rfl
theorem eU : wE Tryz.prog 26 = some (84, 2) := by kernel_rfl
theorem fI : wE Tryz.prog 27 = some (87, 4) := by kernel_rfl
theorem rA : wE Tryz.prog 28 = some (89, 3) := by kernel_rfl
theorem zc87 : zG Tryz.prog 87 = some [.int .i64 0, .int .i64 0, .int .i64 0, .slice none 0 0] := by kernel_rfl
theorem zc92 : zG Tryz.prog 92 = some [.int .i64 0, .int .i64 0, .slice none 0 0, .int .i64 0, .int .i64 0, .slice none 0 0] := by kernel_rfl

def xT (b : Base) : Nat := b.incls.length + b.roles.length + b.facts.length + b.links.length
def hasB (l : List Int) (x : Int) : Bool := decide (x ∈ l)
def kC (l : List Int) (n : Int) : Bool := decide (Up l ∧ ∀ x ∈ l, 0 ≤ x ∧ x < n)
theorem nY {l : List Int} (h : Up l) {i j : Nat} {x y : Int} (hx : l[i]? = some x) (hy : l[j]? = some y) (hij : j < i) : y < x := by
  obtain ⟨h1, rfl⟩ := List.getElem?_eq_some_iff.1 hx
  obtain ⟨h2, rfl⟩ := List.getElem?_eq_some_iff.1 hy
  exact (List.pairwise_iff_getElem.1 h) j i h2 h1 hij
theorem mR {l : List Int} {x : Int} (h : Up l) (hx : ∀ y ∈ l, y < x) : Up (l ++ [x]) := by
  unfold Up; rw [List.pairwise_append]
  exact ⟨h, by simp, fun a ha b hb => by simp at hb; subst hb; exact hx a ha⟩
theorem eJ {l : List Int} {i : Nat} {x y : Int} (h : Up (l.take i)) (hx : l[i]? = some x) (hy : l[i - 1]? = some y) (h0 : 0 < i) (hxy : y < x) : ∀ z ∈ l.take i, z < x := by
  intro z hz
  obtain ⟨j, hj⟩ := List.mem_iff_getElem?.1 hz
  have hji : j < i := by have := (List.getElem?_eq_some_iff.1 hj).1; rw [List.length_take] at this; omega
  by_cases e : j = i - 1
  · subst e; rw [List.getElem?_take, if_pos hji, hy] at hj; cases hj; exact hxy
  · have := nY h (i := i - 1) (j := j) (x := y) (by rw [List.getElem?_take, if_pos (by omega)]; exact hy) hj (by omega)
    omega

theorem gF {R : RO} {G : List Res} {w : World} {c_b : List Value} (b : Base) (hr_b : kBase.rep R b c_b) (hw : Own w R (G)) :
    Calls Tryz.prog 25 [.agg c_b.toArray].toArray w (kK R G (.int .i64 (xT b : Int))) := by
 obtain ⟨c1, A3, d4, A6, d7, A9, d10, A12, d13, rfl, hr2, hs5, hs8, hs11, hs14⟩ := id hr_b
 have z27 := hs5.size
 unfold big at z27
 have z28 := hs8.size
 unfold big at z28
 have z29 := hs11.size
 unfold big at z29
 have z30 := hs14.size
 unfold big at z30
 obtain ⟨A15, d16, A19, d20, A23, d24, rfl, hs17, hs21, hs25⟩ := id hr2
 have z18 := hs17.size
 unfold big at z18
 have z22 := hs21.size
 unfold big at z22
 have z26 := hs25.size
 unfold big at z26
 refine xH (vs := [.agg #[.slice A15 b.names.concepts.length d16, .slice A19 b.names.roles.length d20, .slice A23 b.names.inds.length d24, .slice A3 b.incls.length d4, .slice A6 b.roles.length d7, .slice A9 b.facts.length d10, .slice A12 b.links.length d13]]) Tryz.func25 rfl rfl rfl ?_ hw
 refine qE <| qA ?_
 refine qW (l := [.slice A15 b.names.concepts.length d16, .slice A19 b.names.roles.length d20, .slice A23 b.names.inds.length d24, .slice A3 b.incls.length d4, .slice A6 b.roles.length d7, .slice A9 b.facts.length d10, .slice A12 b.links.length d13]) rfl rfl fun b31 => ?_
 refine tl (qD rfl) ?_
 refine qB <| qC <| qE <| qA ?_
 refine tl (qH 3 rfl yK rfl) ?_
 refine tl (jM 0 rfl fG rfl rfl) ?_
 refine tl (jJ rfl eS) ?_
 refine tl (qH 4 rfl yL rfl) ?_
 refine tl (jM 0 rfl fH rfl rfl) ?_
 refine tl (jJ rfl eU) ?_
 refine tl (jT rfl rfl (by omega) (by omega)) ?_
 refine tl (qH 5 rfl zB rfl) ?_
 refine tl (jM 0 rfl iZ rfl rfl) ?_
 refine tl (jJ rfl fI) ?_
 refine tl (jT rfl rfl (by omega) (by omega)) ?_
 refine tl (qH 6 rfl pV rfl) ?_
 refine tl (jM 0 rfl rK rfl rfl) ?_
 refine tl (jJ rfl rA) ?_
 refine tl (jT rfl rfl (by omega) (by omega)) ?_
 refine tl (qD rfl) ?_
 refine qB <| qC <| qV ?_
 refine xB (.inl rfl) rfl rfl ?_
 have e32 : ((((b.incls.length : Int) + (b.roles.length : Int)) + (b.facts.length : Int)) + (b.links.length : Int) : Int) = (xT b : Int) := by (simp only [xT]; omega)
 exact fun w hw => ⟨congrArg Ending.returned (congrArg (fun x0 => Value.int .i64 x0) e32), hw.drop 1⟩

theorem gG {R : RO} {G : List Res} {w : World} {A_l : Option Addr} {d_l : Nat} (l : List (Int)) (n : Int) (hs_l : SlAt kInt R A_l l) (hi_n : i64 n) (hw : Own w R (G)) :
    Calls Tryz.prog 24 [.slice A_l l.length d_l, .int .i64 n].toArray w (kK R G (.bool (kC l n))) := by
 have hz_l := hs_l.size
 unfold big at hz_l
 unfold i64 at hi_n
 refine xH (vs := [.slice A_l l.length d_l, .int .i64 n]) Tryz.func24 rfl rfl rfl ?_ hw
 refine qE <| qA ?_
 refine tl (qD rfl) ?_
 refine qB <| qC <| qE <| qE <| qA ?_
 refine tl (qG rfl) ?_
 refine tl (jJ rfl pL) ?_
 refine tl (qG rfl) ?_
 refine qB <| qC <| qX ?_
 refine jF ?_
 refine jN (fun i : Nat => l.length - i) (fun i : Nat => [(0, .slice A_l l.length d_l), (1, .int .i64 n), (7, .slice A_l l.length d_l), (8, .int .i64 (l.length : Int)), (9, .int .i64 (i : Int))]) (fun i : Nat => (G)) (fun (i : Nat) => i ≤ l.length ∧ Up (l.take i) ∧ ∀ y ∈ l.take i, 0 ≤ y ∧ y < n) (0) (by repeat' constructor) (by exact ⟨by omega, List.Pairwise.nil, by simp⟩) (fun w hw => hw) ?_
 rintro i hI1 ih2
 show TC Tryz.prog _ _ _ [] [(0, .slice A_l l.length d_l), (1, .int .i64 n), (7, .slice A_l l.length d_l), (8, .int .i64 (l.length : Int)), (9, .int .i64 (i : Int))] R (G)
 obtain ⟨hi1, hi2, hi3⟩ := hI1
 refine qE <| qA ?_
 refine tl (jR rfl rfl rfl) ?_
 refine qB <| qC <| qE ?_
 refine qP 10 rfl (fun h5 => ?_) (fun h5 => ?_)
 refine xE rfl ?_
 refine qZ <| qC <| qE <| qX <| qE <| qA ?_
 refine tl (qG rfl) ?_
 have hb11 : i < l.length := by omega
 obtain ⟨x6, hx7⟩ : ∃ x, l[i]? = some x := ⟨_, List.getElem?_eq_getElem hb11⟩
 obtain ⟨c8, hr9, ha10⟩ := hs_l.get _ x6 hx7
 obtain ⟨rfl, i12⟩ := hr9
 unfold i64 at i12
 refine tl (jV (i := i) hs_l rfl rfl rfl pL hb11) ?_
 refine tl (yN 0 ha10 rfl ld3 rfl rfl) ?_
 refine tl (qD rfl) ?_
 refine tl (qD rfl) ?_
 refine qB <| qC <| qE <| qA ?_
 refine tl (qG rfl) ?_
 refine tl (jR rfl rfl rfl) ?_
 refine tl (qG rfl) ?_
 refine xX 16 rfl (fun h13 => ?_) (fun h13 => ?_)
 refine qF 16 rfl rfl rfl ?_
 refine qF 16 rfl rfl rfl ?_
 refine qF 16 rfl rfl rfl ?_
 refine tl (qR rfl rfl) ?_
 refine tl (qG rfl) ?_
 refine qF 21 rfl rfl rfl ?_
 refine qF 21 rfl rfl rfl ?_
 refine qF 21 rfl rfl rfl ?_
 refine xY 24 rfl rfl rfl ?_
 refine xY 24 rfl rfl rfl ?_
 refine xY 24 rfl rfl rfl ?_
 refine xY 24 rfl rfl rfl ?_
 refine xY 24 rfl rfl rfl ?_
 refine xY 24 rfl rfl rfl ?_
 refine xY 24 rfl rfl rfl ?_
 refine qF 21 rfl rfl rfl ?_
 refine tl (qR rfl rfl) ?_
 refine qB <| qC ?_
 refine xE rfl ?_
 refine qE <| qA ?_
 refine tl (qD rfl) ?_
 refine qB <| qC <| qV <| qN <| qI <| qI <| qN <| qI ?_
 refine xB (.inl rfl) rfl rfl ?_
 have e14 : (false : Bool) = kC l n := by (rw [eq_comm]; unfold kC; rw [decide_eq_false_iff_not]; rintro ⟨h1_, h2_⟩; have h3_ := h2_ _ (List.mem_of_getElem? hx7); omega)
 exact fun w hw => ⟨congrArg Ending.returned (congrArg (fun x0 => Value.bool x0) e14), hw⟩
 refine qJ 16 rfl rfl ?_
 refine tl (qG rfl) ?_
 refine qJ 16 rfl rfl ?_
 refine tl (qG rfl) ?_
 refine qJ 16 rfl rfl ?_
 refine tl (jR rfl rfl rfl) ?_
 refine tl (qO rfl rfl) ?_
 refine tl (qG rfl) ?_
 refine xX 21 rfl (fun h15 => ?_) (fun h15 => ?_)
 refine qF 21 rfl rfl rfl ?_
 refine qF 21 rfl rfl rfl ?_
 refine qF 21 rfl rfl rfl ?_
 refine xY 24 rfl rfl rfl ?_
 refine xY 24 rfl rfl rfl ?_
 refine xY 24 rfl rfl rfl ?_
 refine xY 24 rfl rfl rfl ?_
 refine xY 24 rfl rfl rfl ?_
 refine xY 24 rfl rfl rfl ?_
 refine xY 24 rfl rfl rfl ?_
 refine qF 21 rfl rfl rfl ?_
 refine tl (qR rfl rfl) ?_
 refine qB <| qC ?_
 refine xE rfl ?_
 refine qE <| qA ?_
 refine tl (qD rfl) ?_
 refine qB <| qC <| qV <| qN <| qI <| qI <| qN <| qI ?_
 refine xB (.inl rfl) rfl rfl ?_
 have e16 : (false : Bool) = kC l n := by (rw [eq_comm]; unfold kC; rw [decide_eq_false_iff_not]; rintro ⟨h1_, h2_⟩; have h3_ := h2_ _ (List.mem_of_getElem? hx7); omega)
 exact fun w hw => ⟨congrArg Ending.returned (congrArg (fun x0 => Value.bool x0) e16), hw⟩
 refine qJ 21 rfl rfl ?_
 refine tl (qG rfl) ?_
 refine qJ 21 rfl rfl ?_
 refine tl (jR rfl rfl rfl) ?_
 refine qJ 21 rfl rfl ?_
 refine tl (qG rfl) ?_
 refine xX 24 rfl (fun h17 => ?_) (fun h17 => ?_)
 refine qJ 24 rfl rfl ?_
 refine tl (qG rfl) ?_
 refine qJ 24 rfl rfl ?_
 refine tl (qG rfl) ?_
 refine qJ 24 rfl rfl ?_
 refine tl (qG rfl) ?_
 refine qJ 24 rfl rfl ?_
 refine tl (bV rfl rfl (by omega) (by omega)) ?_
 refine qJ 24 rfl rfl ?_
 have hb23 : 0 ≤ (i : Int) - 1 ∧ ((i : Int) - 1).toNat < l.length := by omega
 obtain ⟨x18, hx19⟩ : ∃ x, l[((i : Int) - 1).toNat]? = some x := ⟨_, List.getElem?_eq_getElem hb23.2⟩
 obtain ⟨c20, hr21, ha22⟩ := hs_l.get _ x18 hx19
 obtain ⟨rfl, i24⟩ := hr21
 unfold i64 at i24
 refine tl (zH hs_l rfl rfl rfl pL hb23.1 hb23.2) ?_
 refine qJ 24 rfl rfl ?_
 refine tl (yN 0 ha22 rfl ld3 rfl rfl) ?_
 refine qJ 24 rfl rfl ?_
 refine tl (jR rfl rfl rfl) ?_
 refine qJ 21 rfl rfl ?_
 refine tl (qR rfl rfl) ?_
 refine tl (qO rfl rfl) ?_
 refine qB <| qC ?_
 refine qP 33 rfl (fun h25 => ?_) (fun h25 => ?_)
 refine xE rfl ?_
 refine qE <| qA ?_
 refine tl (qD rfl) ?_
 refine qB <| qC <| qV <| qN <| qI <| qI <| qN <| qI ?_
 refine xB (.inl rfl) rfl rfl ?_
 have e26 : (false : Bool) = kC l n := by (rw [eq_comm]; unfold kC; rw [decide_eq_false_iff_not]; rintro ⟨h1_, h2_⟩; have h3_ := h2_ _ (List.mem_of_getElem? hx7); have h4_ := nY h1_ hx7 hx19 (by omega); omega)
 exact fun w hw => ⟨congrArg Ending.returned (congrArg (fun x0 => Value.bool x0) e26), hw⟩
 refine xV rfl ?_
 refine qZ <| jC <| qC <| qA ?_
 refine tl (jT rfl rfl (by omega) (by omega)) ?_
 refine tl (qG rfl) ?_
 refine qB ?_
 refine xQ ?_
 exact fun a w ha hw => ih2.out (i + 1) (by refine ⟨by omega, ?_, vQ hi3 hx7 (by omega)⟩; rw [jQ hx7]; refine mR hi2 ?_; exact eJ hi2 hx7 (by have := hx19; rwa [show ((i : Int) - 1).toNat = i - 1 by omega] at this) (by omega) (by omega)) (by (try dsimp only); omega) a w (ha.sub (xL (by repeat' constructor))) (hw)
 refine qF 24 rfl rfl rfl ?_
 refine qF 24 rfl rfl rfl ?_
 refine qF 24 rfl rfl rfl ?_
 refine qF 24 rfl rfl rfl ?_
 refine qF 24 rfl rfl rfl ?_
 refine qF 24 rfl rfl rfl ?_
 refine qF 24 rfl rfl rfl ?_
 refine qJ 21 rfl rfl ?_
 refine tl (qO rfl rfl) ?_
 refine tl (qO rfl rfl) ?_
 refine qB <| qC ?_
 refine xV rfl ?_
 refine qZ <| jC <| qC <| qA ?_
 refine tl (jT rfl rfl (by omega) (by omega)) ?_
 refine tl (qG rfl) ?_
 refine qB ?_
 refine xQ ?_
 exact fun a w ha hw => ih2.out (i + 1) (by refine ⟨by omega, ?_, vQ hi3 hx7 (by omega)⟩; rw [jQ hx7]; refine mR hi2 ?_; (have e_ : i = 0 := by omega); subst e_; simp) (by (try dsimp only); omega) a w (ha.sub (xL (by repeat' constructor))) (hw)
 refine xV rfl ?_
 refine jE <| qK <| qK <| xG <| qC <| qE <| qA ?_
 refine tl (qD rfl) ?_
 refine qB <| qC <| qV ?_
 refine xB (.inl rfl) rfl rfl ?_
 have e27 : (true : Bool) = kC l n := by (rw [eq_comm]; unfold kC; rw [decide_eq_true_eq]; rw [xF (by assumption) (by assumption)] at hi2 hi3; exact ⟨hi2, hi3⟩)
 exact fun w hw => ⟨congrArg Ending.returned (congrArg (fun x0 => Value.bool x0) e27), hw⟩

theorem kB {R : RO} {G : List Res} {w : World} {A_l : Option Addr} {d_l : Nat} (l : List (Int)) (x : Int) (hs_l : SlAt kInt R A_l l) (hi_x : i64 x) (hw : Own w R (G)) :
    Calls Tryz.prog 43 [.slice A_l l.length d_l, .int .i64 x].toArray w (kK R G (.bool (decide (x ∈ l)))) := by
 have hz_l := hs_l.size
 unfold big at hz_l
 unfold i64 at hi_x
 refine xH (vs := [.slice A_l l.length d_l, .int .i64 x]) Tryz.func43 rfl rfl rfl ?_ hw
 refine qE <| qA ?_
 refine tl (qD rfl) ?_
 refine qB <| qC <| qE <| qE <| qA ?_
 refine tl (qG rfl) ?_
 refine tl (jJ rfl pL) ?_
 refine tl (qG rfl) ?_
 refine qB <| qC <| qX ?_
 refine jF ?_
 refine jN (fun i : Nat => l.length - i) (fun i : Nat => [(1, .int .i64 x), (7, .slice A_l l.length d_l), (8, .int .i64 (l.length : Int)), (9, .int .i64 (i : Int))]) (fun i : Nat => (G)) (fun (i : Nat) => i ≤ l.length ∧ ¬ x ∈ l.take i) (0) ⟨rfl, rfl, rfl, rfl, trivial⟩ (by exact ⟨by omega, by simp⟩) (fun w hw => hw) ?_
 rintro i hI1 ih2
 show TC Tryz.prog _ _ _ [] [(1, .int .i64 x), (7, .slice A_l l.length d_l), (8, .int .i64 (l.length : Int)), (9, .int .i64 (i : Int))] R (G)
 obtain ⟨hi1, hi2⟩ := hI1
 refine qE <| qA ?_
 refine tl (jR rfl rfl rfl) ?_
 refine qB <| qC <| qE ?_
 refine qP 10 rfl (fun h5 => ?_) (fun h5 => ?_)
 refine xE rfl ?_
 refine qZ <| qC <| qE <| qX <| qE <| qA ?_
 have hb11 : i < l.length := by omega
 obtain ⟨x6, hx7⟩ : ∃ x, l[i]? = some x := ⟨_, List.getElem?_eq_getElem hb11⟩
 obtain ⟨c8, hr9, ha10⟩ := hs_l.get _ x6 hx7
 obtain ⟨rfl, i12⟩ := hr9
 unfold i64 at i12
 refine tl (jV (i := i) hs_l rfl rfl rfl pL hb11) ?_
 refine tl (yN 0 ha10 rfl ld3 rfl rfl) ?_
 refine tl (qD rfl) ?_
 refine qB <| qC <| qE <| qA ?_
 refine tl (qG rfl) ?_
 refine tl (qG rfl) ?_
 refine tl (jR rfl rfl rfl) ?_
 refine qB <| qC ?_
 refine qP 15 rfl (fun h13 => ?_) (fun h13 => ?_)
 refine xE rfl ?_
 refine qE <| qA ?_
 refine tl (qD rfl) ?_
 refine qB <| qC <| qV <| qN <| qI <| qI <| qN <| qI ?_
 refine xB (.inl rfl) rfl rfl ?_
 have e14 : (true : Bool) = decide (x ∈ l) := by (rw [eq_comm, decide_eq_true_eq]; have hm_ := List.mem_of_getElem? hx7; grind)
 exact fun w hw => ⟨congrArg Ending.returned (congrArg (fun x0 => Value.bool x0) e14), hw⟩
 refine xV rfl ?_
 refine qZ <| jC <| qC <| qA ?_
 refine tl (jT rfl rfl (by omega) (by omega)) ?_
 refine tl (qG rfl) ?_
 refine qB ?_
 refine xQ ?_
 exact fun a w ha hw => ih2.out (i + 1) (by refine ⟨by omega, ?_⟩; rw [jQ hx7]; simp only [List.mem_append, List.mem_singleton, not_or]; exact ⟨hi2, by omega⟩) (by (try dsimp only); omega) a w (ha.sub (xL ⟨rfl, rfl, rfl, rfl, trivial⟩)) (hw)
 refine xV rfl ?_
 refine jE <| qK <| qK <| xG <| qC <| qE <| qA ?_
 refine tl (qD rfl) ?_
 refine qB <| qC <| qV ?_
 refine xB (.inl rfl) rfl rfl ?_
 have e15 : (false : Bool) = decide (x ∈ l) := by (rw [eq_comm, decide_eq_false_iff_not]; rw [xF (by assumption) (by assumption)] at hi2; exact hi2)
 exact fun w hw => ⟨congrArg Ending.returned (congrArg (fun x0 => Value.bool x0) e15), hw⟩

theorem hY {R : RO} {G : List Res} {w : World} {c_n : List Value} (n : Names) (r : Int) (hr_n : kNames.rep R n c_n) (hi_r : i64 r) (hw : Own w R (G)) :
    Calls Tryz.prog 40 [.agg c_n.toArray, .int .i64 r].toArray w (kK R G (.bool (decide (0 ≤ r ∧ r < 2 * (n.roles.length : Int))))) := by
 obtain ⟨A1, d2, A5, d6, A9, d10, rfl, hs3, hs7, hs11⟩ := id hr_n
 have z4 := hs3.size
 unfold big at z4
 have z8 := hs7.size
 unfold big at z8
 have z12 := hs11.size
 unfold big at z12
 unfold i64 at hi_r
 refine xH (vs := [.agg #[.slice A1 n.concepts.length d2, .slice A5 n.roles.length d6, .slice A9 n.inds.length d10], .int .i64 r]) Tryz.func40 rfl rfl rfl ?_ hw
 refine qE <| qA ?_
 refine qW (l := [.slice A1 n.concepts.length d2, .slice A5 n.roles.length d6, .slice A9 n.inds.length d10]) rfl rfl fun b13 => ?_
 refine tl (qD rfl) ?_
 refine qB <| qC ?_
 refine vH [(0, .agg #[.slice A1 n.concepts.length d2, .slice A5 n.roles.length d6, .slice A9 n.inds.length d10]), (4, .bool (decide ((0 ≤ r) ∧ (r < (2 * (n.roles.length : Int))))))] (.blk b13 [.slice A1 n.concepts.length d2, .slice A5 n.roles.length d6, .slice A9 n.inds.length d10] 24 :: G) (fun _ => True) (fun K hK14 hE15 => ?_) ?_
 refine qA ?_
 refine tl (qG rfl) ?_
 refine tl (jR rfl rfl rfl) ?_
 refine tl (qG rfl) ?_
 refine xX 7 rfl (fun h16 => ?_) (fun h16 => ?_)
 refine qJ 7 rfl rfl ?_
 refine tl (qG rfl) ?_
 refine qJ 7 rfl rfl ?_
 refine tl (qH 1 rfl pP rfl) ?_
 refine qJ 7 rfl rfl ?_
 refine tl (jM 0 rfl uO rfl rfl) ?_
 refine qJ 7 rfl rfl ?_
 refine tl (jJ rfl uK) ?_
 refine qJ 7 rfl rfl ?_
 refine tl (qH4 rfl rfl (by omega) (by omega)) ?_
 refine qJ 7 rfl rfl ?_
 refine tl (jR rfl rfl rfl) ?_
 refine tl (qR rfl rfl) ?_
 refine tl (qD rfl) ?_
 refine qB ?_
 exact xW hK14 (.refl _) (trivial) ⟨rfl, show some (Value.bool (decide (r < (2 * (n.roles.length : Int))))) = some (Value.bool (decide ((0 ≤ r) ∧ (r < (2 * (n.roles.length : Int)))))) by first | (simp [h16]; done) | grind | (simp [h16] <;> omega), trivial⟩ (fun w hw => hw)
 refine qF 7 rfl rfl rfl ?_
 refine qF 7 rfl rfl rfl ?_
 refine qF 7 rfl rfl rfl ?_
 refine qF 7 rfl rfl rfl ?_
 refine qF 7 rfl rfl rfl ?_
 refine qF 7 rfl rfl rfl ?_
 refine tl (qO rfl rfl) ?_
 refine tl (qD rfl) ?_
 refine qB ?_
 exact xW hK14 (.refl _) (trivial) ⟨rfl, show some (Value.bool false) = some (Value.bool (decide ((0 ≤ r) ∧ (r < (2 * (n.roles.length : Int)))))) by first | (simp [h16]; done) | grind | (simp [h16] <;> omega), trivial⟩ (fun w hw => hw)
 refine fun R18 hle19 hj17 => jH hle19 ?_
 refine qV ?_
 refine xB (.inl rfl) rfl rfl ?_
 have e20 : (decide ((0 ≤ r) ∧ (r < (2 * (n.roles.length : Int)))) : Bool) = decide (0 ≤ r ∧ r < 2 * (n.roles.length : Int)) := by first | rfl | grind
 exact fun w hw => ⟨congrArg Ending.returned (congrArg (fun x0 => Value.bool x0) e20), hw.drop 1⟩

theorem zT {R : RO} {G : List Res} {w : World} {c_n : List Value} (n : Names) (x : Int) (hr_n : kNames.rep R n c_n) (hi_x : i64 x) (hw : Own w R (G)) :
    Calls Tryz.prog 41 [.agg c_n.toArray, .int .i64 x].toArray w (kK R G (.bool (decide (0 ≤ x ∧ x < (n.inds.length : Int))))) := by
 obtain ⟨A1, d2, A5, d6, A9, d10, rfl, hs3, hs7, hs11⟩ := id hr_n
 have z4 := hs3.size
 unfold big at z4
 have z8 := hs7.size
 unfold big at z8
 have z12 := hs11.size
 unfold big at z12
 unfold i64 at hi_x
 refine xH (vs := [.agg #[.slice A1 n.concepts.length d2, .slice A5 n.roles.length d6, .slice A9 n.inds.length d10], .int .i64 x]) Tryz.func41 rfl rfl rfl ?_ hw
 refine qE <| qA ?_
 refine qW (l := [.slice A1 n.concepts.length d2, .slice A5 n.roles.length d6, .slice A9 n.inds.length d10]) rfl rfl fun b13 => ?_
 refine tl (qD rfl) ?_
 refine qB <| qC ?_
 refine vH [(0, .agg #[.slice A1 n.concepts.length d2, .slice A5 n.roles.length d6, .slice A9 n.inds.length d10]), (4, .bool (decide ((0 ≤ x) ∧ (x < (n.inds.length : Int)))))] (.blk b13 [.slice A1 n.concepts.length d2, .slice A5 n.roles.length d6, .slice A9 n.inds.length d10] 24 :: G) (fun _ => True) (fun K hK14 hE15 => ?_) ?_
 refine qA ?_
 refine tl (qG rfl) ?_
 refine tl (jR rfl rfl rfl) ?_
 refine tl (qG rfl) ?_
 refine xX 7 rfl (fun h16 => ?_) (fun h16 => ?_)
 refine qJ 7 rfl rfl ?_
 refine tl (qG rfl) ?_
 refine qJ 7 rfl rfl ?_
 refine tl (qH 2 rfl eC rfl) ?_
 refine qJ 7 rfl rfl ?_
 refine tl (jM 0 rfl uO rfl rfl) ?_
 refine qJ 7 rfl rfl ?_
 refine tl (jJ rfl uK) ?_
 refine qJ 7 rfl rfl ?_
 refine tl (jR rfl rfl rfl) ?_
 refine tl (qR rfl rfl) ?_
 refine tl (qD rfl) ?_
 refine qB ?_
 exact xW hK14 (.refl _) (trivial) ⟨rfl, show some (Value.bool (decide (x < (n.inds.length : Int)))) = some (Value.bool (decide ((0 ≤ x) ∧ (x < (n.inds.length : Int))))) by first | (simp [h16]; done) | grind | (simp [h16] <;> omega), trivial⟩ (fun w hw => hw)
 refine qF 7 rfl rfl rfl ?_
 refine qF 7 rfl rfl rfl ?_
 refine qF 7 rfl rfl rfl ?_
 refine qF 7 rfl rfl rfl ?_
 refine qF 7 rfl rfl rfl ?_
 refine tl (qO rfl rfl) ?_
 refine tl (qD rfl) ?_
 refine qB ?_
 exact xW hK14 (.refl _) (trivial) ⟨rfl, show some (Value.bool false) = some (Value.bool (decide ((0 ≤ x) ∧ (x < (n.inds.length : Int))))) by first | (simp [h16]; done) | grind | (simp [h16] <;> omega), trivial⟩ (fun w hw => hw)
 refine fun R18 hle19 hj17 => jH hle19 ?_
 refine qV ?_
 refine xB (.inl rfl) rfl rfl ?_
 have e20 : (decide ((0 ≤ x) ∧ (x < (n.inds.length : Int))) : Bool) = decide (0 ≤ x ∧ x < (n.inds.length : Int)) := by first | rfl | grind
 exact fun w hw => ⟨congrArg Ending.returned (congrArg (fun x0 => Value.bool x0) e20), hw.drop 1⟩

def wH (l : List Incl) : List Concept := l.flatMap fun x => [x.sub, x.sup]
def wF (l : List Fact) : List Concept := l.map fun x => x.con
def xM (b : Base) : List Concept := wH b.incls ++ wF b.facts
theorem tY {l : List Incl} {i : Nat} {x : Incl} (h : l[i]? = some x) : wH (l.take (i + 1)) = wH (l.take i) ++ [x.sub, x.sup] := by rw [jQ h]; simp [wH]
theorem tZ {l : List Fact} {i : Nat} {x : Fact} (h : l[i]? = some x) : wF (l.take (i + 1)) = wF (l.take i) ++ [x.con] := by rw [jQ h]; simp [wF]
theorem yX : ∀ (l : List Incl), (wH l).length = 2 * l.length
  | [] => rfl
  | x :: xs => by have := yX xs; simp only [wH, List.flatMap_cons, List.length_append, List.length_cons, List.length_nil] at *; omega
theorem pF (b : Base) : (xM b).length = 2 * b.incls.length + b.facts.length := by simp [xM, yX, wF]

theorem zX {R : RO} {G : List Res} {w : World} {c_b : List Value} (b : Base) (hr_b : kBase.rep R b c_b) (hb : b.incls.length ≤ 1000 ∧ b.facts.length ≤ 1000) (hw : Own w R (G)) :
    Calls Tryz.prog 38 [.agg c_b.toArray].toArray w (gZ R G (fun v_ R' L_ => ∃ (A_0 : Option Addr) (d_0 : Nat), v_ = (.slice A_0 ((xM b).length) d_0 : Value) ∧ L_ = ([] : List Res) ∧ SlAt kConcept R' A_0 (xM b))) := by
 obtain ⟨c1, A3, d4, A6, d7, A9, d10, A12, d13, rfl, hr2, hs5, hs8, hs11, hs14⟩ := id hr_b
 have z27 := hs5.size
 unfold big at z27
 have z28 := hs8.size
 unfold big at z28
 have z29 := hs11.size
 unfold big at z29
 have z30 := hs14.size
 unfold big at z30
 obtain ⟨A15, d16, A19, d20, A23, d24, rfl, hs17, hs21, hs25⟩ := id hr2
 have z18 := hs17.size
 unfold big at z18
 have z22 := hs21.size
 unfold big at z22
 have z26 := hs25.size
 unfold big at z26
 refine xH (vs := [.agg #[.slice A15 b.names.concepts.length d16, .slice A19 b.names.roles.length d20, .slice A23 b.names.inds.length d24, .slice A3 b.incls.length d4, .slice A6 b.roles.length d7, .slice A9 b.facts.length d10, .slice A12 b.links.length d13]]) Tryz.func38 rfl rfl rfl ?_ hw
 refine qE <| qA ?_
 refine qW (l := [.slice A15 b.names.concepts.length d16, .slice A19 b.names.roles.length d20, .slice A23 b.names.inds.length d24, .slice A3 b.incls.length d4, .slice A6 b.roles.length d7, .slice A9 b.facts.length d10, .slice A12 b.links.length d13]) rfl rfl fun b31 => ?_
 refine tl (qD rfl) ?_
 refine qB <| qC <| qE <| qA ?_
 refine cR 37 3 ?_
 have hv32 : (kConcept).reps R [] [] := rfl
 refine tl (qD rfl) ?_
 refine qB <| qC <| qE <| qE <| qA ?_
 refine tl (qH 3 rfl yK rfl) ?_
 refine tl (jM 1 rfl fG rfl rfl) ?_
 refine tl (jJ rfl eS) ?_
 refine tl (qG rfl) ?_
 refine qB <| qC <| qX ?_
 refine jF ?_
 refine jN (fun b_ : Nat × List (Concept) × Option Addr × Nat × List Value => match b_ with | (i, l, A_l, c_l, l_l) => b.incls.length - i) (fun b_ : Nat × List (Concept) × Option Addr × Nat × List Value => match b_ with | (i, l, A_l, c_l, l_l) => [(1, .pointer (some ⟨b31, 0, none⟩)), (2, .slice none 0 0), (9, .slice A3 b.incls.length d4), (10, .int .i64 (b.incls.length : Int)), (11, .int .i64 (i : Int)), (3, .slice A_l l.length c_l)]) (fun b_ : Nat × List (Concept) × Option Addr × Nat × List Value => match b_ with | (i, l, A_l, c_l, l_l) => (.vec (.slice A_l l.length c_l) l.length 37 3 l_l :: .blk b31 [.slice A15 b.names.concepts.length d16, .slice A19 b.names.roles.length d20, .slice A23 b.names.inds.length d24, .slice A3 b.incls.length d4, .slice A6 b.roles.length d7, .slice A9 b.facts.length d10, .slice A12 b.links.length d13] 30 :: G)) (fun (b_ : Nat × List (Concept) × Option Addr × Nat × List Value) => match b_ with | (i, l, A_l, c_l, l_l) => (kConcept).reps R l l_l ∧ (i ≤ b.incls.length ∧ l = wH (b.incls.take i))) (0, ([] : List (Concept)), none, 0, []) (by repeat' constructor) (by refine ⟨hv32, ?_⟩; exact ⟨by omega, rfl⟩) (fun w hw => hw) ?_
 rintro ⟨i, l, A_l, c_l, l_l⟩ hI36 ih37
 show TC Tryz.prog _ _ _ [] [(1, .pointer (some ⟨b31, 0, none⟩)), (2, .slice none 0 0), (9, .slice A3 b.incls.length d4), (10, .int .i64 (b.incls.length : Int)), (11, .int .i64 (i : Int)), (3, .slice A_l l.length c_l)] R (.vec (.slice A_l l.length c_l) l.length 37 3 l_l :: .blk b31 [.slice A15 b.names.concepts.length d16, .slice A19 b.names.roles.length d20, .slice A23 b.names.inds.length d24, .slice A3 b.incls.length d4, .slice A6 b.roles.length d7, .slice A9 b.facts.length d10, .slice A12 b.links.length d13] 30 :: G)
 obtain ⟨hv35, hI40⟩ := hI36
 obtain ⟨hi1, hi2⟩ := hI40
 refine qE <| qA ?_
 refine tl (jR rfl rfl rfl) ?_
 refine qB <| qC <| qE ?_
 refine qP 12 rfl (fun h41 => ?_) (fun h41 => ?_)
 refine xE rfl ?_
 refine qZ <| qC <| qE <| qX <| qE <| qA ?_
 have hb47 : i < b.incls.length := by omega
 obtain ⟨x42, hx43⟩ : ∃ x, b.incls[i]? = some x := ⟨_, List.getElem?_eq_getElem hb47⟩
 obtain ⟨c44, hr45, ha46⟩ := hs5.get _ x42 hx43
 obtain ⟨c48, c49, rfl, hr50, hr51⟩ := id hr45
 obtain ⟨A52, d53, rfl, i54, i55, hs56⟩ := qM hr50
 unfold i64 at i54 i55
 have z57 := hs56.size
 unfold big at z57
 obtain ⟨A58, d59, rfl, i60, i61, hs62⟩ := qM hr51
 unfold i64 at i60 i61
 have z63 := hs62.size
 unfold big at z63
 have hf64 := tY hx43
 refine tl (jV (i := i) hs5 rfl rfl rfl eS hb47) ?_
 refine tl (jA 0 [.int .i64 x42.sub.op, .int .i64 x42.sub.n, .slice A52 x42.sub.args.length d53, .int .i64 x42.sup.op, .int .i64 x42.sup.n, .slice A58 x42.sup.args.length d59] ha46 rfl qG8 rfl rfl) ?_
 refine qS zc92 rfl fun b65 => ?_
 refine xN 0 [.int .i64 x42.sub.op, .int .i64 x42.sub.n, .slice A52 x42.sub.args.length d53, .int .i64 x42.sup.op, .int .i64 x42.sup.n, .slice A58 x42.sup.args.length d59] rfl rfl qG8 rfl rfl rfl rfl rfl rfl ?_
 refine qB <| qC <| qA ?_
 refine tl (qG rfl) ?_
 refine tl (qH 0 rfl lS rfl) ?_
 refine tl (qQ 0 [.int .i64 x42.sub.op, .int .i64 x42.sub.n, .slice A52 x42.sub.args.length d53] rfl vU rfl rfl) ?_
 refine tl (qH 3 rfl lT rfl) ?_
 refine tl (qQ 0 [.int .i64 x42.sup.op, .int .i64 x42.sup.n, .slice A58 x42.sup.args.length d59] rfl vU rfl rfl) ?_
 refine jB [.int .i64 x42.sub.op, .int .i64 x42.sub.n, .slice A52 x42.sub.args.length d53, .int .i64 x42.sup.op, .int .i64 x42.sup.n, .slice A58 x42.sup.args.length d59] ap35 rfl rfl rfl rfl rfl rfl rfl fun b66 => ?_
 refine kH (k := kConcept) (m := [x42.sub, x42.sup]) 2 hv35 ((⟨_, _, rfl, hr50, ⟨_, _, rfl, hr51, rfl⟩⟩)) ap35 rfl rfl rfl (rfl) (src_blk (i := 0) rfl rfl rfl) (by first | omega | (rw [hi2, yX, List.length_take]; omega) | (rw [hj2]; simp only [xM, List.length_append, yX, wF, List.length_map, List.length_take]; omega) | (simp only [List.length_append, List.length_cons, List.length_nil]; rw [hi2, yX, List.length_take]; omega)) rfl rfl fun A67 c68 l69 hv70 => ?_
 refine tl (qD rfl) ?_
 refine qB <| jC <| qC <| qA ?_
 refine tl (jT rfl rfl (by omega) (by omega)) ?_
 refine tl (qG rfl) ?_
 refine qB ?_
 refine xQ ?_
 exact fun a w ha hw => ih37.out (i + 1, (l ++ [x42.sub, x42.sup]), A67, c68, l69) (by refine ⟨hv70, ?_⟩; refine ⟨by omega, ?_⟩; rw [tY hx43, hi2]) (by (try dsimp only); omega) a w (ha.sub (xL (by repeat' constructor))) (hw.drop 2)
 refine xV rfl ?_
 refine jE <| qK <| qK <| xG <| qC <| qE <| qE <| qA ?_
 refine tl (qH 5 rfl zB rfl) ?_
 refine tl (jM 1 rfl iZ rfl rfl) ?_
 refine tl (jJ rfl fI) ?_
 refine tl (qG rfl) ?_
 refine qB <| qC <| qX ?_
 refine jF ?_
 refine jN (fun b_ : Nat × List (Concept) × Option Addr × Nat × List Value => match b_ with | (j, m, A_m, c_m, l_m) => b.facts.length - j) (fun b_ : Nat × List (Concept) × Option Addr × Nat × List Value => match b_ with | (j, m, A_m, c_m, l_m) => [(2, .slice none 0 0), (24, .slice A9 b.facts.length d10), (25, .int .i64 (b.facts.length : Int)), (26, .int .i64 (j : Int)), (3, .slice A_m m.length c_m)]) (fun b_ : Nat × List (Concept) × Option Addr × Nat × List Value => match b_ with | (j, m, A_m, c_m, l_m) => (.vec (.slice A_m m.length c_m) m.length 37 3 l_m :: .blk b31 [.slice A15 b.names.concepts.length d16, .slice A19 b.names.roles.length d20, .slice A23 b.names.inds.length d24, .slice A3 b.incls.length d4, .slice A6 b.roles.length d7, .slice A9 b.facts.length d10, .slice A12 b.links.length d13] 30 :: G)) (fun (b_ : Nat × List (Concept) × Option Addr × Nat × List Value) => match b_ with | (j, m, A_m, c_m, l_m) => (kConcept).reps R m l_m ∧ (j ≤ b.facts.length ∧ m = wH b.incls ++ wF (b.facts.take j))) (0, l, A_l, c_l, l_l) (by repeat' constructor) (by refine ⟨hv35, ?_⟩; (refine ⟨by omega, ?_⟩; rw [hi2, xF (by assumption) (by assumption)]; simp [wF])) (fun w hw => hw) ?_
 rintro ⟨j, m, A_m, c_m, l_m⟩ hI74 ih75
 show TC Tryz.prog _ _ _ [] [(2, .slice none 0 0), (24, .slice A9 b.facts.length d10), (25, .int .i64 (b.facts.length : Int)), (26, .int .i64 (j : Int)), (3, .slice A_m m.length c_m)] R (.vec (.slice A_m m.length c_m) m.length 37 3 l_m :: .blk b31 [.slice A15 b.names.concepts.length d16, .slice A19 b.names.roles.length d20, .slice A23 b.names.inds.length d24, .slice A3 b.incls.length d4, .slice A6 b.roles.length d7, .slice A9 b.facts.length d10, .slice A12 b.links.length d13] 30 :: G)
 obtain ⟨hv73, hI78⟩ := hI74
 obtain ⟨hj1, hj2⟩ := hI78
 refine qE <| qA ?_
 refine tl (jR rfl rfl rfl) ?_
 refine qB <| qC <| qE ?_
 refine qP 27 rfl (fun h79 => ?_) (fun h79 => ?_)
 refine xE rfl ?_
 refine qZ <| qC <| qE <| qX <| qE <| qA ?_
 have hb85 : j < b.facts.length := by omega
 obtain ⟨x80, hx81⟩ : ∃ x, b.facts[j]? = some x := ⟨_, List.getElem?_eq_getElem hb85⟩
 obtain ⟨c82, hr83, ha84⟩ := hs11.get _ x80 hx81
 obtain ⟨c86, rfl, i87, hr88⟩ := id hr83
 unfold i64 at i87
 obtain ⟨A89, d90, rfl, i91, i92, hs93⟩ := qM hr88
 unfold i64 at i91 i92
 have z94 := hs93.size
 unfold big at z94
 have hf95 := tZ hx81
 refine tl (jV (i := j) hs11 rfl rfl rfl fI hb85) ?_
 refine tl (jA 0 [.int .i64 x80.ind, .int .i64 x80.con.op, .int .i64 x80.con.n, .slice A89 x80.con.args.length d90] ha84 rfl qB0 rfl rfl) ?_
 refine qS zc87 rfl fun b96 => ?_
 refine xN 0 [.int .i64 x80.ind, .int .i64 x80.con.op, .int .i64 x80.con.n, .slice A89 x80.con.args.length d90] rfl rfl qB0 rfl rfl rfl rfl rfl rfl ?_
 refine qB <| qC <| qA ?_
 refine tl (qG rfl) ?_
 refine tl (qH 1 rfl lR rfl) ?_
 refine tl (qQ 0 [.int .i64 x80.con.op, .int .i64 x80.con.n, .slice A89 x80.con.args.length d90] rfl vU rfl rfl) ?_
 refine jB [.int .i64 x80.con.op, .int .i64 x80.con.n, .slice A89 x80.con.args.length d90] ap35 rfl rfl rfl rfl rfl rfl rfl fun b97 => ?_
 refine yJ (k := kConcept) (e := x80.con) 2 0 hv73 (hr88) ap35 rfl rfl rfl rfl rfl (by first | omega | (rw [hi2, yX, List.length_take]; omega) | (rw [hj2]; simp only [xM, List.length_append, yX, wF, List.length_map, List.length_take]; omega) | (simp only [List.length_append, List.length_cons, List.length_nil]; rw [hi2, yX, List.length_take]; omega)) rfl rfl fun A98 c99 l100 hv101 => ?_
 refine tl (qD rfl) ?_
 refine qB <| jC <| qC <| qA ?_
 refine tl (jT rfl rfl (by omega) (by omega)) ?_
 refine tl (qG rfl) ?_
 refine qB ?_
 refine xQ ?_
 exact fun a w ha hw => ih75.out (j + 1, (m ++ [x80.con]), A98, c99, l100) (by refine ⟨hv101, ?_⟩; refine ⟨by omega, ?_⟩; rw [tZ hx81, hj2]; simp) (by (try dsimp only); omega) a w (ha.sub (xL ⟨rfl, rfl, rfl, congrArg (fun z => some (Value.int .i64 z)) (show ((j : Int) + 1 : Int) = ((j + 1) : Int) by first | rfl | omega), rfl, trivial⟩)) (hw.drop 2)
 refine xV rfl ?_
 refine jE <| qK <| qK <| xG <| qC <| qE <| qA ?_
 refine tl (qG rfl) ?_
 refine tl (qD rfl) ?_
 refine qB <| qC <| qV ?_
 refine kZ (k := kConcept) (l := m) 0 rfl hv73 rfl (by (unfold big; rw [hj2]; simp only [List.length_append, yX, wF, List.length_map, List.length_take]; omega)) fun R104 hle105 hs103 => ?_
 have z106 := hs103.size
 unfold big at z106
 refine xB (.inl rfl) rfl rfl ?_
 have e107 : (m : List (Concept)) = xM b := by (rw [hj2, xF (by assumption) (by assumption)]; rfl)
 intro w hw
 exact ⟨_, _, [], rfl, hle105, hw.drop 1, A_m, c_m, (congrArg (fun (z0_ : List (Concept)) => (.slice A_m z0_.length c_m : Value)) e107), rfl, (Eq.mp (congrArg (fun z => SlAt kConcept R104 A_m z) e107) hs103)⟩

def qE6 (b : Base) (m : Int) : Bool := decide (b.incls.length ≤ 200 ∧ b.roles.length ≤ 200 ∧ b.facts.length ≤ 200 ∧ b.links.length ≤ 200 ∧ wC b.names = true ∧ (jI (xM b) : Int) ≤ m)
theorem mS {l : List Concept} {x : Concept} (h : x ∈ l) : jW x ≤ jI l := by
  obtain ⟨i, hi⟩ := List.mem_iff_getElem?.1 h
  have := yS hi; omega

theorem bX {R : RO} {G : List Res} {w : World} {c_b : List Value} (b : Base) (most : Int) (hr_b : kBase.rep R b c_b) (hi_most : i64 most) (hb : 0 ≤ most ∧ most ≤ 1000) (hw : Own w R (G)) :
    Calls Tryz.prog 31 [.agg c_b.toArray, .int .i64 most].toArray w (kK R G (.bool (qE6 b most))) := by
 obtain ⟨c1, A3, d4, A6, d7, A9, d10, A12, d13, rfl, hr2, hs5, hs8, hs11, hs14⟩ := id hr_b
 have z27 := hs5.size
 unfold big at z27
 have z28 := hs8.size
 unfold big at z28
 have z29 := hs11.size
 unfold big at z29
 have z30 := hs14.size
 unfold big at z30
 obtain ⟨A15, d16, A19, d20, A23, d24, rfl, hs17, hs21, hs25⟩ := id hr2
 have z18 := hs17.size
 unfold big at z18
 have z22 := hs21.size
 unfold big at z22
 have z26 := hs25.size
 unfold big at z26
 unfold i64 at hi_most
 refine xH (vs := [.agg #[.slice A15 b.names.concepts.length d16, .slice A19 b.names.roles.length d20, .slice A23 b.names.inds.length d24, .slice A3 b.incls.length d4, .slice A6 b.roles.length d7, .slice A9 b.facts.length d10, .slice A12 b.links.length d13], .int .i64 most]) Tryz.func31 rfl rfl rfl ?_ hw
 refine qE <| qA ?_
 refine qW (l := [.slice A15 b.names.concepts.length d16, .slice A19 b.names.roles.length d20, .slice A23 b.names.inds.length d24, .slice A3 b.incls.length d4, .slice A6 b.roles.length d7, .slice A9 b.facts.length d10, .slice A12 b.links.length d13]) rfl rfl fun b31 => ?_
 refine tl (qD rfl) ?_
 refine qB <| qC <| qE ?_
 refine vH [(0, .agg #[.slice A15 b.names.concepts.length d16, .slice A19 b.names.roles.length d20, .slice A23 b.names.inds.length d24, .slice A3 b.incls.length d4, .slice A6 b.roles.length d7, .slice A9 b.facts.length d10, .slice A12 b.links.length d13]), (1, .int .i64 most), (2, .pointer (some ⟨b31, 0, none⟩)), (4, .bool false), (37, .bool (decide (((((200 < (b.incls.length : Int)) ∨ (200 < (b.roles.length : Int))) ∨ (200 < (b.facts.length : Int))) ∨ (200 < (b.links.length : Int))) ∨ ((!(wC b.names)) = true))))] (.blk b31 [.slice A15 b.names.concepts.length d16, .slice A19 b.names.roles.length d20, .slice A23 b.names.inds.length d24, .slice A3 b.incls.length d4, .slice A6 b.roles.length d7, .slice A9 b.facts.length d10, .slice A12 b.links.length d13] 30 :: G) (fun _ => True) (fun K hK32 hE33 => ?_) ?_
 refine qA ?_
 refine tl (qH 3 rfl yK rfl) ?_
 refine tl (jM 0 rfl fG rfl rfl) ?_
 refine tl (jJ rfl eS) ?_
 refine tl (jR rfl rfl rfl) ?_
 refine tl (qG rfl) ?_
 refine xX 14 rfl (fun h34 => ?_) (fun h34 => ?_)
 refine qF 14 rfl rfl rfl ?_
 refine qF 14 rfl rfl rfl ?_
 refine qF 14 rfl rfl rfl ?_
 refine qF 14 rfl rfl rfl ?_
 refine tl (qR rfl rfl) ?_
 refine tl (qG rfl) ?_
 refine qF 20 rfl rfl rfl ?_
 refine qF 20 rfl rfl rfl ?_
 refine qF 20 rfl rfl rfl ?_
 refine qF 20 rfl rfl rfl ?_
 refine tl (qR rfl rfl) ?_
 refine tl (qG rfl) ?_
 refine qF 26 rfl rfl rfl ?_
 refine qF 26 rfl rfl rfl ?_
 refine qF 26 rfl rfl rfl ?_
 refine qF 26 rfl rfl rfl ?_
 refine tl (qR rfl rfl) ?_
 refine tl (qG rfl) ?_
 refine qF 32 rfl rfl rfl ?_
 refine qF 32 rfl rfl rfl ?_
 refine qF 32 rfl rfl rfl ?_
 refine qF 32 rfl rfl rfl ?_
 refine tl (qR rfl rfl) ?_
 refine qB ?_
 exact xW hK32 (.refl _) (trivial) ⟨rfl, rfl, rfl, rfl, show some (Value.bool true) = some (Value.bool (decide (((((200 < (b.incls.length : Int)) ∨ (200 < (b.roles.length : Int))) ∨ (200 < (b.facts.length : Int))) ∨ (200 < (b.links.length : Int))) ∨ ((!(wC b.names)) = true)))) by first | (simp [h34]; done) | grind | (simp [h34] <;> omega), trivial⟩ (fun w hw => hw)
 refine qJ 14 rfl rfl ?_
 refine tl (qH 4 rfl yL rfl) ?_
 refine qJ 14 rfl rfl ?_
 refine tl (jM 0 rfl fH rfl rfl) ?_
 refine qJ 14 rfl rfl ?_
 refine tl (jJ rfl eU) ?_
 refine qJ 14 rfl rfl ?_
 refine tl (jR rfl rfl rfl) ?_
 refine tl (qO rfl rfl) ?_
 refine tl (qG rfl) ?_
 refine xX 20 rfl (fun h35 => ?_) (fun h35 => ?_)
 refine qF 20 rfl rfl rfl ?_
 refine qF 20 rfl rfl rfl ?_
 refine qF 20 rfl rfl rfl ?_
 refine qF 20 rfl rfl rfl ?_
 refine tl (qR rfl rfl) ?_
 refine tl (qG rfl) ?_
 refine qF 26 rfl rfl rfl ?_
 refine qF 26 rfl rfl rfl ?_
 refine qF 26 rfl rfl rfl ?_
 refine qF 26 rfl rfl rfl ?_
 refine tl (qR rfl rfl) ?_
 refine tl (qG rfl) ?_
 refine qF 32 rfl rfl rfl ?_
 refine qF 32 rfl rfl rfl ?_
 refine qF 32 rfl rfl rfl ?_
 refine qF 32 rfl rfl rfl ?_
 refine tl (qR rfl rfl) ?_
 refine qB ?_
 exact xW hK32 (.refl _) (trivial) ⟨rfl, rfl, rfl, rfl, show some (Value.bool true) = some (Value.bool (decide (((((200 < (b.incls.length : Int)) ∨ (200 < (b.roles.length : Int))) ∨ (200 < (b.facts.length : Int))) ∨ (200 < (b.links.length : Int))) ∨ ((!(wC b.names)) = true)))) by first | (simp [h34, h35]; done) | grind | (simp [h34, h35] <;> omega), trivial⟩ (fun w hw => hw)
 refine qJ 20 rfl rfl ?_
 refine tl (qH 5 rfl zB rfl) ?_
 refine qJ 20 rfl rfl ?_
 refine tl (jM 0 rfl iZ rfl rfl) ?_
 refine qJ 20 rfl rfl ?_
 refine tl (jJ rfl fI) ?_
 refine qJ 20 rfl rfl ?_
 refine tl (jR rfl rfl rfl) ?_
 refine tl (qO rfl rfl) ?_
 refine tl (qG rfl) ?_
 refine xX 26 rfl (fun h36 => ?_) (fun h36 => ?_)
 refine qF 26 rfl rfl rfl ?_
 refine qF 26 rfl rfl rfl ?_
 refine qF 26 rfl rfl rfl ?_
 refine qF 26 rfl rfl rfl ?_
 refine tl (qR rfl rfl) ?_
 refine tl (qG rfl) ?_
 refine qF 32 rfl rfl rfl ?_
 refine qF 32 rfl rfl rfl ?_
 refine qF 32 rfl rfl rfl ?_
 refine qF 32 rfl rfl rfl ?_
 refine tl (qR rfl rfl) ?_
 refine qB ?_
 exact xW hK32 (.refl _) (trivial) ⟨rfl, rfl, rfl, rfl, show some (Value.bool true) = some (Value.bool (decide (((((200 < (b.incls.length : Int)) ∨ (200 < (b.roles.length : Int))) ∨ (200 < (b.facts.length : Int))) ∨ (200 < (b.links.length : Int))) ∨ ((!(wC b.names)) = true)))) by first | (simp [h34, h35, h36]; done) | grind | (simp [h34, h35, h36] <;> omega), trivial⟩ (fun w hw => hw)
 refine qJ 26 rfl rfl ?_
 refine tl (qH 6 rfl pV rfl) ?_
 refine qJ 26 rfl rfl ?_
 refine tl (jM 0 rfl rK rfl rfl) ?_
 refine qJ 26 rfl rfl ?_
 refine tl (jJ rfl rA) ?_
 refine qJ 26 rfl rfl ?_
 refine tl (jR rfl rfl rfl) ?_
 refine tl (qO rfl rfl) ?_
 refine tl (qG rfl) ?_
 refine xX 32 rfl (fun h37 => ?_) (fun h37 => ?_)
 refine qF 32 rfl rfl rfl ?_
 refine qF 32 rfl rfl rfl ?_
 refine qF 32 rfl rfl rfl ?_
 refine qF 32 rfl rfl rfl ?_
 refine tl (qR rfl rfl) ?_
 refine qB ?_
 exact xW hK32 (.refl _) (trivial) ⟨rfl, rfl, rfl, rfl, show some (Value.bool true) = some (Value.bool (decide (((((200 < (b.incls.length : Int)) ∨ (200 < (b.roles.length : Int))) ∨ (200 < (b.facts.length : Int))) ∨ (200 < (b.links.length : Int))) ∨ ((!(wC b.names)) = true)))) by first | (simp [h34, h35, h36, h37]; done) | grind | (simp [h34, h35, h36, h37] <;> omega), trivial⟩ (fun w hw => hw)
 refine qJ 32 rfl rfl ?_
 refine tl (qH 0 rfl zJ rfl) ?_
 refine qJ 32 rfl rfl ?_
 refine tl (qQ 0 [.slice A15 b.names.concepts.length d16, .slice A19 b.names.roles.length d20, .slice A23 b.names.inds.length d24] rfl bT rfl rfl) ?_
 refine qJ 32 rfl rfl ?_
 refine xC ca62 rfl (fun w hw => tK b.names hr2 hw) rfl ?_
 refine qJ 32 rfl rfl ?_
 refine tl (wJ rfl) ?_
 refine tl (qO rfl rfl) ?_
 refine qB ?_
 exact xW hK32 (.refl _) (trivial) ⟨rfl, rfl, rfl, rfl, show some (Value.bool (!(wC b.names))) = some (Value.bool (decide (((((200 < (b.incls.length : Int)) ∨ (200 < (b.roles.length : Int))) ∨ (200 < (b.facts.length : Int))) ∨ (200 < (b.links.length : Int))) ∨ ((!(wC b.names)) = true)))) by first | (simp [h34, h35, h36, h37]; done) | grind | (simp [h34, h35, h36, h37] <;> omega), trivial⟩ (fun w hw => hw)
 refine fun R39 hle40 hj38 => jH hle40 ?_
 refine qP 37 rfl (fun h41 => ?_) (fun h41 => ?_)
 refine xE rfl ?_
 refine qE <| qA ?_
 refine tl (qD rfl) ?_
 refine qB <| qC <| qV <| qI ?_
 refine xB (.inl rfl) rfl rfl ?_
 have e42 : (false : Bool) = qE6 b most := by (rw [eq_comm]; unfold qE6; rw [decide_eq_false_iff_not]; grind)
 exact fun w hw => ⟨congrArg Ending.returned (congrArg (fun x0 => Value.bool x0) e42), hw.drop 1⟩
 refine xV rfl ?_
 refine qZ <| qC <| qE <| qA ?_
 refine tl (qD rfl) ?_
 refine qB <| qC <| qE <| qE <| qA ?_
 refine tl (qQ 0 [.slice A15 b.names.concepts.length d16, .slice A19 b.names.roles.length d20, .slice A23 b.names.inds.length d24, .slice A3 b.incls.length d4, .slice A6 b.roles.length d7, .slice A9 b.facts.length d10, .slice A12 b.links.length d13] rfl pN rfl rfl) ?_
 refine xD ca38 rfl (fun w hw => zX b hr_b (by omega) hw) rfl ?_
 rintro _ R44 _ hle45 ⟨A_z43_0, d_z43_0, rfl, rfl, hs_z43_0⟩
 have z46 := hs_z43_0.size
 unfold big at z46
 have hf47 := pF b
 refine tl (jJ rfl sK) ?_
 refine tl (qG rfl) ?_
 refine qB <| qC <| qX ?_
 refine jF ?_
 refine jN (fun i : Nat => (xM b).length - i) (fun i : Nat => [(1, .int .i64 most), (39, .slice A_z43_0 ((xM b).length) d_z43_0), (40, .int .i64 ((xM b).length : Int)), (41, .int .i64 (i : Int)), (5, .int .i64 ((jI ((xM b).take i) : Nat) : Int))]) (fun i : Nat => (.blk b31 [.slice A15 b.names.concepts.length d16, .slice A19 b.names.roles.length d20, .slice A23 b.names.inds.length d24, .slice A3 b.incls.length d4, .slice A6 b.roles.length d7, .slice A9 b.facts.length d10, .slice A12 b.links.length d13] 30 :: G)) (fun (i : Nat) => i ≤ (xM b).length ∧ ((jI ((xM b).take i) : Nat) : Int) ≤ i * most) (0) ⟨rfl, rfl, rfl, rfl, congrArg (fun z => some (Value.int .i64 z)) (show (0 : Int) = ((jI ((xM b).take 0) : Nat) : Int) by first | rfl | omega | (simp; done) | (simp; omega)), trivial⟩ (by (refine ⟨by omega, ?_⟩; simp [jI])) (fun w hw => hw) ?_
 rintro i hI48 ih49
 show TC Tryz.prog _ _ _ [] [(1, .int .i64 most), (39, .slice A_z43_0 ((xM b).length) d_z43_0), (40, .int .i64 ((xM b).length : Int)), (41, .int .i64 (i : Int)), (5, .int .i64 ((jI ((xM b).take i) : Nat) : Int))] R44 (.blk b31 [.slice A15 b.names.concepts.length d16, .slice A19 b.names.roles.length d20, .slice A23 b.names.inds.length d24, .slice A3 b.incls.length d4, .slice A6 b.roles.length d7, .slice A9 b.facts.length d10, .slice A12 b.links.length d13] 30 :: G)
 obtain ⟨hi1, hi2⟩ := hI48
 have hc_ := pF b
 have hm_ : (i : Int) * most ≤ 600 * 1000 := Int.mul_le_mul (by omega) (by omega) (by omega) (by omega)
 refine qE <| qA ?_
 refine tl (jR rfl rfl rfl) ?_
 refine qB <| qC <| qE ?_
 refine qP 42 rfl (fun h52 => ?_) (fun h52 => ?_)
 refine xE rfl ?_
 refine qZ <| qC <| qE <| qX <| qE <| qA ?_
 have hb58 : i < (xM b).length := by omega
 obtain ⟨x53, hx54⟩ : ∃ x, (xM b)[i]? = some x := ⟨_, List.getElem?_eq_getElem hb58⟩
 obtain ⟨c55, hr56, ha57⟩ := hs_z43_0.get _ x53 hx54
 obtain ⟨A59, d60, rfl, i61, i62, hs63⟩ := qM hr56
 unfold i64 at i61 i62
 have z64 := hs63.size
 unfold big at z64
 have hf65 := pQ hx54
 have hf66 := yS hx54
 refine tl (jV (i := i) hs_z43_0 rfl rfl rfl sK hb58) ?_
 refine tl (jA 0 [.int .i64 x53.op, .int .i64 x53.n, .slice A59 x53.args.length d60] ha57 rfl vU rfl rfl) ?_
 refine qS eZ rfl fun b67 => ?_
 refine xN 0 [.int .i64 x53.op, .int .i64 x53.n, .slice A59 x53.args.length d60] rfl rfl vU rfl rfl rfl rfl rfl rfl ?_
 refine qB <| qC <| qE <| qE <| qA ?_
 refine tl (qQ 0 [.int .i64 x53.op, .int .i64 x53.n, .slice A59 x53.args.length d60] rfl vU rfl rfl) ?_
 refine tl (qG rfl) ?_
 refine xC ca32 rfl (fun w hw => zD x53 most hr56 (by unfold i64; omega) (by omega) hw) rfl ?_
 refine tl (wZ rfl) ?_
 refine qB <| qC ?_
 refine qP 48 rfl (fun h68 => ?_) (fun h68 => ?_)
 refine xE rfl ?_
 refine qE <| qA ?_
 refine tl (qD rfl) ?_
 refine qB <| qC <| qV <| qI <| qN <| qI <| qI <| qN <| qI ?_
 refine xB (.inl rfl) rfl rfl ?_
 have e69 : (false : Bool) = qE6 b most := by (rw [eq_comm]; unfold qE6; rw [decide_eq_false_iff_not]; rintro ⟨-, -, -, -, -, h_⟩; have h2_ := mS (List.mem_of_getElem? hx54); omega)
 exact fun w hw => ⟨congrArg Ending.returned (congrArg (fun x0 => Value.bool x0) e69), (hw.drop 2).weaken hle45⟩
 refine xV rfl ?_
 refine qZ <| qC <| qE <| qA ?_
 refine tl (qQ 0 [.int .i64 x53.op, .int .i64 x53.n, .slice A59 x53.args.length d60] rfl vU rfl rfl) ?_
 refine xC ca39 rfl (fun w hw => zC x53 hr56 (by omega) hw) rfl ?_
 refine tl (qG rfl) ?_
 refine tl (jG rfl rfl) ?_
 refine tl (jG rfl rfl) ?_
 refine tl (qD rfl) ?_
 refine tl (qD rfl) ?_
 refine qB <| qC <| qA ?_
 refine tl (qG rfl) ?_
 refine tl (qG rfl) ?_
 refine tl (jT rfl rfl (by omega) (by omega)) ?_
 refine tl (qD rfl) ?_
 refine qB <| jC <| qC <| qA ?_
 refine tl (jT rfl rfl (by omega) (by omega)) ?_
 refine tl (qG rfl) ?_
 refine qB ?_
 refine xQ ?_
 exact fun a w ha hw => ih49.out (i + 1) (by (refine ⟨by omega, ?_⟩; push_cast; rw [Int.add_mul]; omega)) (by (try dsimp only); omega) a w (ha.sub (xL ⟨rfl, rfl, rfl, rfl, congrArg (fun z => some (Value.int .i64 z)) (show (((jI ((xM b).take i) : Nat) : Int) + (jW x53 : Int) : Int) = ((jI ((xM b).take (i + 1)) : Nat) : Int) by first | rfl | omega), trivial⟩)) (hw.drop 1)
 refine xV rfl ?_
 refine jE <| qK <| qK <| xG <| qC <| qE <| qA ?_
 refine tl (qG rfl) ?_
 refine tl (qG rfl) ?_
 refine tl (jR rfl rfl rfl) ?_
 refine tl (qD rfl) ?_
 refine qB <| qC <| qV ?_
 refine xB (.inl rfl) rfl rfl ?_
 have e70 : (decide (((jI ((xM b).take i) : Nat) : Int) ≤ most) : Bool) = qE6 b most := by (rw [xF (by assumption) (by assumption), Bool.eq_iff_iff, decide_eq_true_eq]; unfold qE6; rw [decide_eq_true_eq]; grind)
 exact fun w hw => ⟨congrArg Ending.returned (congrArg (fun x0 => Value.bool x0) e70), (hw.drop 1).weaken hle45⟩

end Go.Proofs.YtcbcdlajnmkioaaGreatDoor
