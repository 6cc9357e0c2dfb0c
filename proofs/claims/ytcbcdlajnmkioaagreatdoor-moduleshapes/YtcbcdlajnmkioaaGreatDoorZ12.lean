/- A part of the proof of the statement ModuleShapes of isagogelaw19: functions walked, and plain laws on what they answer. -/
import Derived.Test.YtcbcdlajnmkioaaGreatDoorZ7
import Derived.Test.YtcbcdlajnmkioaaGreatDoorE12
import Derived.ChangeArms
import Derived.DataReads
import Derived.SizedLaws
import Derived.Below
namespace Go.Proofs.YtcbcdlajnmkioaaGreatDoor
open Go Go.Proofs
set_option linter.unusedSimpArgs false
set_option linter.unusedVariables false
theorem ca23 : Callable Tryz.prog 23 := ⟨by kernel_rfl⟩

theorem u4b : Tryz.prog.underlying 4 = some .bool := by kernel_rfl
section
variable {P : Program} {n : Nat} {D : List Deferred} {env : List (Nat × Value)} {R : RO} {G : List Res}
theorem v_beq {t x y yt d ty pos af} {a b : Bool} (hx : ev env x = some (.bool a)) (hy : ev env y = some (.bool b)) (hu : P.underlying t = some .bool) : VAL P n D env R G ⟨some d, .binOp .eql t x y yt, ty, pos, af, none⟩ (.bool (decide (a = b))) :=
  iS hx hy fun w => by
    rw [eqGuard_at_bool]
    show ((do pure (Value.bool (← Op.equal t (.bool a) (.bool b))) : Sem Value)).run P w = _
    rw [qS (run_equal_bool w t a b hu)]; cases a <;> cases b <;> rfl
theorem v_bne {t x y yt d ty pos af} {a b : Bool} (hx : ev env x = some (.bool a)) (hy : ev env y = some (.bool b)) (hu : P.underlying t = some .bool) : VAL P n D env R G ⟨some d, .binOp .neq t x y yt, ty, pos, af, none⟩ (.bool (decide (¬ a = b))) :=
  iS hx hy fun w => by
    rw [eqGuard_at_bool]
    show ((do pure (Value.bool (!(← Op.equal t (.bool a) (.bool b)))) : Sem Value)).run P w = _
    rw [qS (run_equal_bool w t a b hu)]; cases a <;> cases b <;> rfl
end
/-- What Names must answer. -/
theorem qE9 (b : Base) (l : List Int) : xV b l = if vK b = true then (if kA l (xX b) = true then (jX b l ⟨[], []⟩, 0) else (⟨[], []⟩, 1)) else (⟨[], []⟩, 20) := by
  unfold xV
  split
  · split
    · rename_i h h2; rw [oM (kO h) h2]
    · rfl
  · rfl
theorem aU {b : Base} {c : Concept} {l : List Sig} {s : Sig} (h : bZ b c l = true) (hs : s ∈ l) : s.concepts.length ≤ 1000 ∧ s.roles.length ≤ 1000 := by
  unfold bZ at h; rw [decide_eq_true_eq] at h
  have := h.1 s hs
  omega
theorem qF0 (b : Base) (l : List Int) : (xV b l).1.concepts.length ≤ 1000 ∧ (xV b l).1.roles.length ≤ 1000 := by
  unfold xV
  split
  · split
    · exact cS _
    · simp
  · simp
theorem iN {b : Base} {l : List Int} (h : vK b = true) (h2 : kA l (xX b) = true) : (jX b l ⟨[], []⟩).concepts.length ≤ 1000 ∧ (jX b l ⟨[], []⟩).roles.length ≤ 1000 := by
  rw [← oM (kO h) h2]; exact cS _
theorem oN {n : Names} {c : Concept} {s : Sig} {kind : Int} (h : ¬ wH n = true) : xT n c s kind = ((false, false), 20) := by unfold xT; rw [if_neg h]
theorem qF1 {n : Names} {c : Concept} {s : Sig} {kind : Int} (h : wH n = true) (h2 : ¬ isB n c = true) : xT n c s kind = ((false, false), 10) := by unfold xT; rw [if_pos h, if_neg h2]
theorem rN {n : Names} {c : Concept} {s : Sig} {kind : Int} (h : wH n = true) (h2 : isB n c = true) (h3 : ¬ (gH n s = true ∧ (kind = 0 ∨ kind = 1))) : xT n c s kind = ((false, false), 1) := by unfold xT; rw [if_pos h, if_pos h2, if_neg h3]
theorem qF2 {n : Names} {c : Concept} {s : Sig} {kind : Int} (h : wH n = true) (h2 : isB n c = true) (h3 : gH n s = true ∧ (kind = 0 ∨ kind = 1)) : xT n c s kind = (qK s (decide (kind = 1)) c, 0) := by unfold xT; rw [if_pos h, if_pos h2, if_pos h3]
theorem isB_def (n : Names) (c : Concept) : decide (jT c ≤ 400 ∧ wT c ≤ 20 ∧ jV n c = true) = isB n c := rfl
theorem qF3 {b : Base} {l : List Int} (h : vK b = true) (h2 : kA l (xX b) = true) : xV b l = (jX b l ⟨[], []⟩, 0) := by rw [qE9, if_pos h, if_pos h2]

set_option maxRecDepth 20000 in
set_option maxHeartbeats 8000000 in
theorem pD {R : RO} {G : List Res} {w : World} {c_b : List Value} (b : Base) {A_l : Option Addr} {d_l : Nat} (l : List (Int)) {c_c : List Value} (c : Concept) {c_s : List Value} (s : Sig) (kind : Int) (k : Int) (hr_b : kBase.rep R b c_b) (hs_l : SlAt kInt R A_l l) (hr_c : kConcept.rep R c c_c) (hr_s : kSig.rep R s c_s) (hi_kind : i64 kind) (hi_k : i64 k) (hG : Glob R) (hw : Own w R (G)) :
    Calls Tryz.prog 6 [.agg c_b.toArray, .slice A_l l.length d_l, .agg c_c.toArray, .agg c_s.toArray, .int .i64 kind, .int .i64 k].toArray w (kK R G (.bool true)) := by
 obtain ⟨c1, A3, d4, A6, d7, A9, d10, A12, d13, rfl, hr2, hs5, hs8, hs11, hs14⟩ := id hr_b
 have z27 := hs5.size
 unfold big at z27
 have z28 := hs8.size
 unfold big at z28
 have z29 := hs11.size
 unfold big at z29
 have z30 := hs14.size
 unfold big at z30
 obtain ⟨A15, d16, A19, d20, A23, d24, rfl, hs17, hs21, hs25⟩ := id hr2
 have z18 := hs17.size
 unfold big at z18
 have z22 := hs21.size
 unfold big at z22
 have z26 := hs25.size
 unfold big at z26
 have hz_l := hs_l.size
 unfold big at hz_l
 obtain ⟨A31, d32, rfl, i33, i34, hs35⟩ := qM hr_c
 unfold i64 at i33 i34
 have z36 := hs35.size
 unfold big at z36
 obtain ⟨A37, d38, A41, d42, rfl, hs39, hs43⟩ := id hr_s
 have z40 := hs39.size
 unfold big at z40
 have z44 := hs43.size
 unfold big at z44
 unfold i64 at hi_kind
 unfold i64 at hi_k
 have hnl := qF0 b l
 have hax : xX b ≤ 4 * 140737488355328 := by unfold xX; omega
 have hib := isB_def b.names c
 refine xG (vs := [.agg #[.slice A15 b.names.concepts.length d16, .slice A19 b.names.roles.length d20, .slice A23 b.names.inds.length d24, .slice A3 b.incls.length d4, .slice A6 b.roles.length d7, .slice A9 b.facts.length d10, .slice A12 b.links.length d13], .slice A_l l.length d_l, .agg #[.int .i64 c.op, .int .i64 c.n, .slice A31 c.args.length d32], .agg #[.slice A37 s.concepts.length d38, .slice A41 s.roles.length d42], .int .i64 kind, .int .i64 k]) Tryz.func6 rfl rfl rfl ?_ hw
 refine qF <| qA ?_
 refine qX (l := [.slice A15 b.names.concepts.length d16, .slice A19 b.names.roles.length d20, .slice A23 b.names.inds.length d24, .slice A3 b.incls.length d4, .slice A6 b.roles.length d7, .slice A9 b.facts.length d10, .slice A12 b.links.length d13]) rfl rfl fun b45 => ?_
 refine qX (l := [.int .i64 c.op, .int .i64 c.n, .slice A31 c.args.length d32]) rfl rfl fun b46 => ?_
 refine qX (l := [.slice A37 s.concepts.length d38, .slice A41 s.roles.length d42]) rfl rfl fun b47 => ?_
 refine tl (qD rfl) ?_
 refine qB <| qC <| qF <| qF <| qA ?_
 refine tl (qQ 2 [.slice A15 b.names.concepts.length d16, .slice A19 b.names.roles.length d20, .slice A23 b.names.inds.length d24, .slice A3 b.incls.length d4, .slice A6 b.roles.length d7, .slice A9 b.facts.length d10, .slice A12 b.links.length d13] rfl sZ rfl rfl) ?_
 refine tl (qQ 1 [.int .i64 c.op, .int .i64 c.n, .slice A31 c.args.length d32] rfl vS rfl rfl) ?_
 refine tl (qQ 0 [.slice A37 s.concepts.length d38, .slice A41 s.roles.length d42] rfl yO rfl rfl) ?_
 refine jF [.slice A37 s.concepts.length d38, .slice A41 s.roles.length d42] ap74 rfl rfl rfl rfl rfl rfl rfl fun b48 => ?_
 refine zH (k := kSig) (l := ([s] : List (Sig))) 0 rfl (⟨_, _, rfl, hr_s, rfl⟩) (by show 1 ≤ big; unfold big; omega) fun R50 hle51 hs49 => ?_
 try replace hr2 := kNames.mono _ _ _ _ hle51 hr2
 try replace hr_b := kBase.mono _ _ _ _ hle51 hr_b
 try replace hs_l := hs_l.mono hle51
 try replace hr_c := kConcept.mono _ _ _ _ hle51 hr_c
 try replace hr_s := kSig.mono _ _ _ _ hle51 hr_s
 try replace hG := hG.mono hle51
 have z52 := hs49.size
 unfold big at z52
 refine qY ca7 rfl (fun w hw => uP b c ([s] : List (Sig)) hr_b hr_c hs49 hw) rfl ?_
 refine tl (wB rfl) ?_
 refine tl (qG rfl) ?_
 refine kB 31 rfl (fun h53 => ?_) (fun h53 => ?_)
 refine qE 31 rfl rfl rfl ?_
 refine qE 31 rfl rfl rfl ?_
 refine qE 31 rfl rfl rfl ?_
 refine tl (qP rfl rfl) ?_
 refine qB <| qC ?_
 refine xD rfl ?_
 refine qF <| qA ?_
 refine qY ca8 rfl (fun w hw => vL (by first | assumption | omega) hw) rfl ?_
 refine tl (qD rfl) ?_
 refine qB <| qC <| qV <| qI ?_
 refine xC (.inl rfl) rfl rfl ?_
 have e54 : (true : Bool) = true := by rfl
 exact fun w hw => ⟨congrArg Ending.returned (congrArg (fun x0 => Value.bool x0) e54), (hw.drop 3).weaken hle51⟩
 refine qJ 31 rfl rfl ?_
 refine tl (qG rfl) ?_
 refine qJ 31 rfl rfl ?_
 refine tl (jM rfl pY) ?_
 refine qJ 31 rfl rfl ?_
 refine tl (jQ rfl rfl rfl) ?_
 refine tl (qN rfl rfl) ?_
 refine qB <| qC ?_
 refine qR 35 rfl (fun h55 => ?_) (fun h55 => ?_)
 refine xD rfl ?_
 refine qF <| qA ?_
 refine qY ca8 rfl (fun w hw => vL (by first | assumption | omega) hw) rfl ?_
 refine tl (qD rfl) ?_
 refine qB <| qC <| qV <| qI ?_
 refine xC (.inl rfl) rfl rfl ?_
 have e56 : (true : Bool) = true := by rfl
 exact fun w hw => ⟨congrArg Ending.returned (congrArg (fun x0 => Value.bool x0) e56), (hw.drop 3).weaken hle51⟩
 refine xW rfl ?_
 refine xA <| qC <| qF <| qA ?_
 refine tl (qQ 2 [.slice A15 b.names.concepts.length d16, .slice A19 b.names.roles.length d20, .slice A23 b.names.inds.length d24, .slice A3 b.incls.length d4, .slice A6 b.roles.length d7, .slice A9 b.facts.length d10, .slice A12 b.links.length d13] rfl sZ rfl rfl) ?_
 refine tl (qG rfl) ?_
 refine xE ca22 rfl (fun w hw => aR b l hr_b hs_l (by first | assumption | omega) hw) rfl ?_
 rintro _ R58 _ hle59 ⟨cs_z57_0, rfl, rfl, hr_z57_0⟩
 try replace hr2 := kNames.mono _ _ _ _ hle59 hr2
 try replace hr_b := kBase.mono _ _ _ _ hle59 hr_b
 try replace hs_l := hs_l.mono hle59
 try replace hr_c := kConcept.mono _ _ _ _ hle59 hr_c
 try replace hr_s := kSig.mono _ _ _ _ hle59 hr_s
 try replace hG := hG.mono hle59
 have hle60 := hle51.trans hle59
 obtain ⟨A61, d62, A65, d66, rfl, hs63, hs67⟩ := id hr_z57_0
 have z64 := hs63.size
 unfold big at z64
 have z68 := hs67.size
 unfold big at z68
 refine tl (qG rfl) ?_
 refine tl (jE rfl rfl) ?_
 refine tl (jE rfl rfl) ?_
 refine qT tA rfl fun b69 => ?_
 refine xM 0 [.slice A61 ((((xV b l).1).concepts).length) d62, .slice A65 ((((xV b l).1).roles).length) d66] rfl rfl yO rfl rfl rfl rfl rfl rfl ?_
 refine tl (qD rfl) ?_
 refine qB <| qC <| qF <| qA ?_
 refine tl (qH 0 rfl yN rfl) ?_
 refine tl (qQ 3 [.slice A15 b.names.concepts.length d16, .slice A19 b.names.roles.length d20, .slice A23 b.names.inds.length d24] rfl uR rfl rfl) ?_
 refine tl (qQ 2 [.int .i64 c.op, .int .i64 c.n, .slice A31 c.args.length d32] rfl vS rfl rfl) ?_
 refine tl (qQ 1 [.slice A37 s.concepts.length d38, .slice A41 s.roles.length d42] rfl yO rfl rfl) ?_
 refine tl (qG rfl) ?_
 refine qY ca23 rfl (fun w hw => iL b.names c s kind hr2 hr_c hr_s (by unfold i64; omega) (by first | assumption | exact aU (b := b) (c := c) (l := [s]) (by grind) (by simp)) (by first | assumption | exact aU (b := b) (c := c) (l := [s]) (by grind) (by simp)) hw) rfl ?_
 refine tl (qG rfl) ?_
 refine tl (jE rfl rfl) ?_
 refine tl (jE rfl rfl) ?_
 refine tl (jE rfl rfl) ?_
 refine tl (qD rfl) ?_
 refine tl (qD rfl) ?_
 refine tl (qD rfl) ?_
 refine qB <| qC <| qF <| qA ?_
 refine tl (qQ 3 [.slice A15 b.names.concepts.length d16, .slice A19 b.names.roles.length d20, .slice A23 b.names.inds.length d24, .slice A3 b.incls.length d4, .slice A6 b.roles.length d7, .slice A9 b.facts.length d10, .slice A12 b.links.length d13] rfl sZ rfl rfl) ?_
 refine tl (qG rfl) ?_
 refine tl (qQ 1 [.slice A37 s.concepts.length d38, .slice A41 s.roles.length d42] rfl yO rfl rfl) ?_
 refine tl (qG rfl) ?_
 refine qY ca19 rfl (fun w hw => aQ b k s kind hr_b (by unfold i64; omega) hr_s (by unfold i64; omega) (by first | assumption | exact aU (b := b) (c := c) (l := [s]) (by grind) (by simp)) (by first | assumption | exact aU (b := b) (c := c) (l := [s]) (by grind) (by simp)) hw) rfl ?_
 refine tl (qG rfl) ?_
 refine tl (jE rfl rfl) ?_
 refine tl (jE rfl rfl) ?_
 refine tl (qD rfl) ?_
 refine tl (qD rfl) ?_
 refine qB <| qC <| qF <| qA ?_
 refine tl (qH 0 rfl aF rfl) ?_
 refine tl (jN 0 rfl cI rfl rfl) ?_
 refine tl (jM rfl pY) ?_
 refine tl (qH 1 rfl gF rfl) ?_
 refine tl (jN 0 rfl cI rfl rfl) ?_
 refine tl (jM rfl pY) ?_
 refine tl (kF rfl rfl (by omega) (by omega)) ?_
 refine tl (jQ rfl rfl rfl) ?_
 refine tl (qD rfl) ?_
 refine qB <| qC ?_
 refine kN [(1, .slice A_l l.length d_l), (4, .int .i64 kind), (5, .int .i64 k), (6, .pointer (some ⟨b45, 0, none⟩)), (8, .pointer (some ⟨b46, 0, none⟩)), (9, .pointer (some ⟨b47, 0, none⟩)), (12, .bool false), (14, .int .i64 ((xV b l).2)), (15, .bool ((xT b.names c s kind).1.1)), (16, .bool ((xT b.names c s kind).1.2)), (17, .int .i64 ((xT b.names c s kind).2)), (18, .bool ((jZ b k s kind).1)), (19, .int .i64 ((jZ b k s kind).2)), (20, .bool (decide ((((((xV b l).1).concepts).length : Int) + ((((xV b l).1).roles).length : Int)) = 0)))] (.blk b69 [.slice A61 ((((xV b l).1).concepts).length) d62, .slice A65 ((((xV b l).1).roles).length) d66] 33 :: .blk b47 [.slice A37 s.concepts.length d38, .slice A41 s.roles.length d42] 33 :: .blk b46 [.int .i64 c.op, .int .i64 c.n, .slice A31 c.args.length d32] 37 :: .blk b45 [.slice A15 b.names.concepts.length d16, .slice A19 b.names.roles.length d20, .slice A23 b.names.inds.length d24, .slice A3 b.incls.length d4, .slice A6 b.roles.length d7, .slice A9 b.facts.length d10, .slice A12 b.links.length d13] 30 :: G) (fun _ => True) (fun K hK70 hE71 => ?_) ?_
 refine xB <| qF <| qA ?_
 refine tl (qQ 3 [.slice A15 b.names.concepts.length d16, .slice A19 b.names.roles.length d20, .slice A23 b.names.inds.length d24, .slice A3 b.incls.length d4, .slice A6 b.roles.length d7, .slice A9 b.facts.length d10, .slice A12 b.links.length d13] rfl sZ rfl rfl) ?_
 refine qY ca10 rfl (fun w hw => sL b hr_b hw) rfl ?_
 refine tl (wB rfl) ?_
 refine tl (qD rfl) ?_
 refine qB <| qC ?_
 refine vG 91 rfl (fun h72 => ?_) (fun h72 => ?_)
 refine xD rfl ?_
 refine kN [(0, .agg #[.slice A15 b.names.concepts.length d16, .slice A19 b.names.roles.length d20, .slice A23 b.names.inds.length d24, .slice A3 b.incls.length d4, .slice A6 b.roles.length d7, .slice A9 b.facts.length d10, .slice A12 b.links.length d13]), (1, .slice A_l l.length d_l), (2, .agg #[.int .i64 c.op, .int .i64 c.n, .slice A31 c.args.length d32]), (3, .agg #[.slice A37 s.concepts.length d38, .slice A41 s.roles.length d42]), (4, .int .i64 kind), (5, .int .i64 k), (6, .pointer (some ⟨b45, 0, none⟩)), (8, .pointer (some ⟨b46, 0, none⟩)), (9, .pointer (some ⟨b47, 0, none⟩)), (12, .bool false), (35, .bool false), (13, .pointer (some ⟨b69, 0, none⟩)), (14, .int .i64 ((xV b l).2)), (15, .bool ((xT b.names c s kind).1.1)), (16, .bool ((xT b.names c s kind).1.2)), (17, .int .i64 ((xT b.names c s kind).2)), (18, .bool ((jZ b k s kind).1)), (19, .int .i64 ((jZ b k s kind).2)), (20, .bool (decide ((((((xV b l).1).concepts).length : Int) + ((((xV b l).1).roles).length : Int)) = 0))), (91, .bool true), (107, .bool (decide ((((¬ ((xV b l).2) = 20) ∨ (¬ ((jZ b k s kind).2) = 20)) ∨ (¬ ((((((xV b l).1).concepts).length : Int) + ((((xV b l).1).roles).length : Int)) = 0))) ∨ (((jZ b k s kind).1) = true))))] (.blk b69 [.slice A61 ((((xV b l).1).concepts).length) d62, .slice A65 ((((xV b l).1).roles).length) d66] 33 :: .blk b47 [.slice A37 s.concepts.length d38, .slice A41 s.roles.length d42] 33 :: .blk b46 [.int .i64 c.op, .int .i64 c.n, .slice A31 c.args.length d32] 37 :: .blk b45 [.slice A15 b.names.concepts.length d16, .slice A19 b.names.roles.length d20, .slice A23 b.names.inds.length d24, .slice A3 b.incls.length d4, .slice A6 b.roles.length d7, .slice A9 b.facts.length d10, .slice A12 b.links.length d13] 30 :: G) (fun _ => True) (fun K hK73 hE74 => ?_) ?_
 refine qA ?_
 refine tl (qG rfl) ?_
 refine tl (jQ rfl rfl rfl) ?_
 refine tl (qG rfl) ?_
 refine xR 97 rfl (fun h75 => ?_) (fun h75 => ?_)
 refine qE 97 rfl rfl rfl ?_
 refine qE 97 rfl rfl rfl ?_
 refine tl (qP rfl rfl) ?_
 refine tl (qG rfl) ?_
 refine qE 101 rfl rfl rfl ?_
 refine qE 101 rfl rfl rfl ?_
 refine tl (qP rfl rfl) ?_
 refine tl (qG rfl) ?_
 refine qE 105 rfl rfl rfl ?_
 refine tl (qP rfl rfl) ?_
 refine qB ?_
 exact xK hK73 (.refl _) (trivial) ⟨rfl, rfl, rfl, rfl, rfl, rfl, rfl, rfl, rfl, rfl, rfl, rfl, rfl, rfl, rfl, rfl, rfl, rfl, rfl, rfl, show some (Value.bool true) = some (Value.bool (decide ((((¬ ((xV b l).2) = 20) ∨ (¬ ((jZ b k s kind).2) = 20)) ∨ (¬ ((((((xV b l).1).concepts).length : Int) + ((((xV b l).1).roles).length : Int)) = 0))) ∨ (((jZ b k s kind).1) = true)))) by first | (simp [h75]; done) | grind | (simp [h75] <;> omega), trivial⟩ (fun w hw => hw)
 refine qJ 97 rfl rfl ?_
 refine tl (qG rfl) ?_
 refine qJ 97 rfl rfl ?_
 refine tl (jQ rfl rfl rfl) ?_
 refine tl (qN rfl rfl) ?_
 refine tl (qG rfl) ?_
 refine xR 101 rfl (fun h76 => ?_) (fun h76 => ?_)
 refine qE 101 rfl rfl rfl ?_
 refine qE 101 rfl rfl rfl ?_
 refine tl (qP rfl rfl) ?_
 refine tl (qG rfl) ?_
 refine qE 105 rfl rfl rfl ?_
 refine tl (qP rfl rfl) ?_
 refine qB ?_
 exact xK hK73 (.refl _) (trivial) ⟨rfl, rfl, rfl, rfl, rfl, rfl, rfl, rfl, rfl, rfl, rfl, rfl, rfl, rfl, rfl, rfl, rfl, rfl, rfl, rfl, show some (Value.bool true) = some (Value.bool (decide ((((¬ ((xV b l).2) = 20) ∨ (¬ ((jZ b k s kind).2) = 20)) ∨ (¬ ((((((xV b l).1).concepts).length : Int) + ((((xV b l).1).roles).length : Int)) = 0))) ∨ (((jZ b k s kind).1) = true)))) by first | (simp [h75, h76]; done) | grind | (simp [h75, h76] <;> omega), trivial⟩ (fun w hw => hw)
 refine qJ 101 rfl rfl ?_
 refine tl (qG rfl) ?_
 refine qJ 101 rfl rfl ?_
 refine tl (wK rfl) ?_
 refine tl (qN rfl rfl) ?_
 refine tl (qG rfl) ?_
 refine xR 105 rfl (fun h77 => ?_) (fun h77 => ?_)
 refine qE 105 rfl rfl rfl ?_
 refine tl (qP rfl rfl) ?_
 refine qB ?_
 exact xK hK73 (.refl _) (trivial) ⟨rfl, rfl, rfl, rfl, rfl, rfl, rfl, rfl, rfl, rfl, rfl, rfl, rfl, rfl, rfl, rfl, rfl, rfl, rfl, rfl, show some (Value.bool true) = some (Value.bool (decide ((((¬ ((xV b l).2) = 20) ∨ (¬ ((jZ b k s kind).2) = 20)) ∨ (¬ ((((((xV b l).1).concepts).length : Int) + ((((xV b l).1).roles).length : Int)) = 0))) ∨ (((jZ b k s kind).1) = true)))) by first | (simp [h75, h76, h77]; done) | grind | (simp [h75, h76, h77] <;> omega), trivial⟩ (fun w hw => hw)
 refine qJ 105 rfl rfl ?_
 refine tl (qG rfl) ?_
 refine tl (qN rfl rfl) ?_
 refine qB ?_
 exact xK hK73 (.refl _) (trivial) ⟨rfl, rfl, rfl, rfl, rfl, rfl, rfl, rfl, rfl, rfl, rfl, rfl, rfl, rfl, rfl, rfl, rfl, rfl, rfl, rfl, show some (Value.bool ((jZ b k s kind).1)) = some (Value.bool (decide ((((¬ ((xV b l).2) = 20) ∨ (¬ ((jZ b k s kind).2) = 20)) ∨ (¬ ((((((xV b l).1).concepts).length : Int) + ((((xV b l).1).roles).length : Int)) = 0))) ∨ (((jZ b k s kind).1) = true)))) by first | (simp [h75, h76, h77]; done) | grind | (simp [h75, h76, h77] <;> omega), trivial⟩ (fun w hw => hw)
 refine fun R79 hle80 hj78 => jC hle80 ?_
 refine qR 107 rfl (fun h81 => ?_) (fun h81 => ?_)
 refine xD rfl ?_
 refine qF <| qA ?_
 refine tl (qD rfl) ?_
 refine qB <| qC <| qV <| qO ?_
 refine pI hE71 (by simp) ?_
 refine xC (.inl rfl) rfl rfl ?_
 have e82 : (false : Bool) = true := by (exfalso; have e1_ := uD (b := b) (l := l) (by grind); have e2_ := bY (b := b) (k := k) (s := s) (kind := kind) (by grind); simp only [e1_, e2_] at h81; first | grind | simp_all)
 exact fun w hw => ⟨congrArg Ending.returned (congrArg (fun x0 => Value.bool x0) e82), (hw.drop 4).weaken hle60⟩
 refine xW rfl ?_
 refine xA <| jG ?_
 exact xK hK70 (.refl _) (trivial) (by repeat' constructor) (fun w hw => hw)
 refine xW rfl ?_
 refine qF <| qA ?_
 refine tl (qG rfl) ?_
 refine tl (qQ 3 [.slice A15 b.names.concepts.length d16, .slice A19 b.names.roles.length d20, .slice A23 b.names.inds.length d24, .slice A3 b.incls.length d4, .slice A6 b.roles.length d7, .slice A9 b.facts.length d10, .slice A12 b.links.length d13] rfl sZ rfl rfl) ?_
 refine qY ca25 rfl (fun w hw => yI b hr_b hw) rfl ?_
 refine qY ca24 rfl (fun w hw => yJ l (xX b : Int) hs_l (by unfold i64; omega) hw) rfl ?_
 refine tl (wB rfl) ?_
 refine tl (qD rfl) ?_
 refine qB <| qC ?_
 refine vG 108 rfl (fun h83 => ?_) (fun h83 => ?_)
 refine xD rfl ?_
 refine kN [(0, .agg #[.slice A15 b.names.concepts.length d16, .slice A19 b.names.roles.length d20, .slice A23 b.names.inds.length d24, .slice A3 b.incls.length d4, .slice A6 b.roles.length d7, .slice A9 b.facts.length d10, .slice A12 b.links.length d13]), (1, .slice A_l l.length d_l), (2, .agg #[.int .i64 c.op, .int .i64 c.n, .slice A31 c.args.length d32]), (3, .agg #[.slice A37 s.concepts.length d38, .slice A41 s.roles.length d42]), (4, .int .i64 kind), (5, .int .i64 k), (6, .pointer (some ⟨b45, 0, none⟩)), (8, .pointer (some ⟨b46, 0, none⟩)), (9, .pointer (some ⟨b47, 0, none⟩)), (12, .bool false), (35, .bool false), (13, .pointer (some ⟨b69, 0, none⟩)), (14, .int .i64 ((xV b l).2)), (15, .bool ((xT b.names c s kind).1.1)), (16, .bool ((xT b.names c s kind).1.2)), (17, .int .i64 ((xT b.names c s kind).2)), (18, .bool ((jZ b k s kind).1)), (19, .int .i64 ((jZ b k s kind).2)), (20, .bool (decide ((((((xV b l).1).concepts).length : Int) + ((((xV b l).1).roles).length : Int)) = 0))), (91, .bool false), (108, .bool true), (119, .bool (decide ((¬ ((xV b l).2) = 1) ∨ (¬ ((((((xV b l).1).concepts).length : Int) + ((((xV b l).1).roles).length : Int)) = 0)))))] (.blk b69 [.slice A61 ((((xV b l).1).concepts).length) d62, .slice A65 ((((xV b l).1).roles).length) d66] 33 :: .blk b47 [.slice A37 s.concepts.length d38, .slice A41 s.roles.length d42] 33 :: .blk b46 [.int .i64 c.op, .int .i64 c.n, .slice A31 c.args.length d32] 37 :: .blk b45 [.slice A15 b.names.concepts.length d16, .slice A19 b.names.roles.length d20, .slice A23 b.names.inds.length d24, .slice A3 b.incls.length d4, .slice A6 b.roles.length d7, .slice A9 b.facts.length d10, .slice A12 b.links.length d13] 30 :: G) (fun _ => True) (fun K hK84 hE85 => ?_) ?_
 refine qA ?_
 refine tl (qG rfl) ?_
 refine tl (jQ rfl rfl rfl) ?_
 refine tl (qG rfl) ?_
 refine xR 116 rfl (fun h86 => ?_) (fun h86 => ?_)
 refine qE 116 rfl rfl rfl ?_
 refine qE 116 rfl rfl rfl ?_
 refine tl (qP rfl rfl) ?_
 refine qB ?_
 exact xK hK84 (.refl _) (trivial) ⟨rfl, rfl, rfl, rfl, rfl, rfl, rfl, rfl, rfl, rfl, rfl, rfl, rfl, rfl, rfl, rfl, rfl, rfl, rfl, rfl, rfl, show some (Value.bool true) = some (Value.bool (decide ((¬ ((xV b l).2) = 1) ∨ (¬ ((((((xV b l).1).concepts).length : Int) + ((((xV b l).1).roles).length : Int)) = 0))))) by first | (simp [h86]; done) | grind | (simp [h86] <;> omega), trivial⟩ (fun w hw => hw)
 refine qJ 116 rfl rfl ?_
 refine tl (qG rfl) ?_
 refine qJ 116 rfl rfl ?_
 refine tl (wK rfl) ?_
 refine tl (qN rfl rfl) ?_
 refine qB ?_
 exact xK hK84 (.refl _) (trivial) ⟨rfl, rfl, rfl, rfl, rfl, rfl, rfl, rfl, rfl, rfl, rfl, rfl, rfl, rfl, rfl, rfl, rfl, rfl, rfl, rfl, rfl, show some (Value.bool (decide (¬ ((((((xV b l).1).concepts).length : Int) + ((((xV b l).1).roles).length : Int)) = 0)))) = some (Value.bool (decide ((¬ ((xV b l).2) = 1) ∨ (¬ ((((((xV b l).1).concepts).length : Int) + ((((xV b l).1).roles).length : Int)) = 0))))) by first | (simp [h86]; done) | grind | (simp [h86] <;> omega), trivial⟩ (fun w hw => hw)
 refine fun R88 hle89 hj87 => jC hle89 ?_
 refine qR 119 rfl (fun h90 => ?_) (fun h90 => ?_)
 refine xD rfl ?_
 refine qF <| qA ?_
 refine tl (qD rfl) ?_
 refine qB <| qC <| qV <| qO ?_
 refine pI hE71 (by simp) ?_
 refine xC (.inl rfl) rfl rfl ?_
 have e91 : (false : Bool) = true := by (exfalso; have e1_ := dW (b := b) (l := l) (by grind) (by grind); simp only [e1_] at h90; first | grind | simp_all)
 exact fun w hw => ⟨congrArg Ending.returned (congrArg (fun x0 => Value.bool x0) e91), (hw.drop 4).weaken hle60⟩
 refine xW rfl ?_
 refine xA <| jG ?_
 exact xK hK70 (.refl _) (trivial) (by repeat' constructor) (fun w hw => hw)
 refine xW rfl ?_
 refine qF <| qA ?_
 refine tl (qQ 3 [.slice A15 b.names.concepts.length d16, .slice A19 b.names.roles.length d20, .slice A23 b.names.inds.length d24, .slice A3 b.incls.length d4, .slice A6 b.roles.length d7, .slice A9 b.facts.length d10, .slice A12 b.links.length d13] rfl sZ rfl rfl) ?_
 refine tl (qG rfl) ?_
 refine tl (xO [.slice none 0 0, .slice none 0 0] tA lN rfl rfl) ?_
 refine xE ca26 rfl (fun w hw => aG b l (Sig.mk ([] : List (Int)) ([] : List (Int))) hr_b hs_l ⟨_, _, _, _, rfl, (SlAt.nil _ _ _), (SlAt.nil _ _ _)⟩ (by first | assumption | exact kO (by grind) | (have q_ := tL (b := b) (l := l) (by grind) (by grind); exact ⟨by omega, q_.2⟩) | exact ⟨by simp, by simp⟩) (by first | assumption | exact kO (by grind) | (have q_ := tL (b := b) (l := l) (by grind) (by grind); exact ⟨by omega, q_.2⟩) | exact ⟨by simp, by simp⟩) (by first | assumption | exact kO (by grind) | (have q_ := tL (b := b) (l := l) (by grind) (by grind); exact ⟨by omega, q_.2⟩) | exact ⟨by simp, by simp⟩) hw) rfl ?_
 rintro _ R93 _ hle94 ⟨A_z92_01, c_z92_01, l_z92_01, A_z92_02, c_z92_02, l_z92_02, rfl, rfl, hv_z92_01, hv_z92_02⟩
 try replace hr2 := kNames.mono _ _ _ _ hle94 hr2
 try replace hr_b := kBase.mono _ _ _ _ hle94 hr_b
 try replace hr_c := kConcept.mono _ _ _ _ hle94 hr_c
 try replace hr_s := kSig.mono _ _ _ _ hle94 hr_s
 try replace hG := hG.mono hle94
 try replace hs63 := hs63.mono hle94
 try replace hs67 := hs67.mono hle94
 have hle95 := hle60.trans hle94
 have hle96 := hle59.trans hle94
 refine qT tA rfl fun b97 => ?_
 refine xM 0 [.slice A_z92_01 ((jX b l (Sig.mk ([] : List (Int)) ([] : List (Int)))).concepts.length) c_z92_01, .slice A_z92_02 ((jX b l (Sig.mk ([] : List (Int)) ([] : List (Int)))).roles.length) c_z92_02] rfl rfl yO rfl rfl rfl rfl rfl rfl ?_
 refine qB <| qC ?_
 refine kN [(0, .agg #[.slice A15 b.names.concepts.length d16, .slice A19 b.names.roles.length d20, .slice A23 b.names.inds.length d24, .slice A3 b.incls.length d4, .slice A6 b.roles.length d7, .slice A9 b.facts.length d10, .slice A12 b.links.length d13]), (1, .slice A_l l.length d_l), (2, .agg #[.int .i64 c.op, .int .i64 c.n, .slice A31 c.args.length d32]), (3, .agg #[.slice A37 s.concepts.length d38, .slice A41 s.roles.length d42]), (4, .int .i64 kind), (5, .int .i64 k), (6, .pointer (some ⟨b45, 0, none⟩)), (8, .pointer (some ⟨b46, 0, none⟩)), (9, .pointer (some ⟨b47, 0, none⟩)), (12, .bool false), (35, .bool false), (13, .pointer (some ⟨b69, 0, none⟩)), (14, .int .i64 ((xV b l).2)), (15, .bool ((xT b.names c s kind).1.1)), (16, .bool ((xT b.names c s kind).1.2)), (17, .int .i64 ((xT b.names c s kind).2)), (18, .bool ((jZ b k s kind).1)), (19, .int .i64 ((jZ b k s kind).2)), (20, .bool (decide ((((((xV b l).1).concepts).length : Int) + ((((xV b l).1).roles).length : Int)) = 0))), (91, .bool false), (108, .bool false), (21, .pointer (some ⟨b97, 0, none⟩)), (90, .bool (decide (((¬ ((xV b l).2) = 0) ∨ (¬ ((((xV b l).1).concepts) = ((jX b l (Sig.mk ([] : List (Int)) ([] : List (Int)))).concepts)))) ∨ (¬ ((((xV b l).1).roles) = ((jX b l (Sig.mk ([] : List (Int)) ([] : List (Int)))).roles))))))] (.blk b97 [.slice A_z92_01 ((jX b l (Sig.mk ([] : List (Int)) ([] : List (Int)))).concepts.length) c_z92_01, .slice A_z92_02 ((jX b l (Sig.mk ([] : List (Int)) ([] : List (Int)))).roles.length) c_z92_02] 33 :: .vec (.slice A_z92_01 ((jX b l (Sig.mk ([] : List (Int)) ([] : List (Int)))).concepts.length) c_z92_01) ((jX b l (Sig.mk ([] : List (Int)) ([] : List (Int)))).concepts.length) 3 1 l_z92_01 :: .vec (.slice A_z92_02 ((jX b l (Sig.mk ([] : List (Int)) ([] : List (Int)))).roles.length) c_z92_02) ((jX b l (Sig.mk ([] : List (Int)) ([] : List (Int)))).roles.length) 3 1 l_z92_02 :: .blk b69 [.slice A61 ((((xV b l).1).concepts).length) d62, .slice A65 ((((xV b l).1).roles).length) d66] 33 :: .blk b47 [.slice A37 s.concepts.length d38, .slice A41 s.roles.length d42] 33 :: .blk b46 [.int .i64 c.op, .int .i64 c.n, .slice A31 c.args.length d32] 37 :: .blk b45 [.slice A15 b.names.concepts.length d16, .slice A19 b.names.roles.length d20, .slice A23 b.names.inds.length d24, .slice A3 b.incls.length d4, .slice A6 b.roles.length d7, .slice A9 b.facts.length d10, .slice A12 b.links.length d13] 30 :: G) (fun _ => True) (fun K hK98 hE99 => ?_) ?_
 refine qA ?_
 refine tl (qG rfl) ?_
 refine tl (jQ rfl rfl rfl) ?_
 refine tl (qG rfl) ?_
 refine xR 75 rfl (fun h100 => ?_) (fun h100 => ?_)
 refine qE 75 rfl rfl rfl ?_
 refine qE 75 rfl rfl rfl ?_
 refine qE 75 rfl rfl rfl ?_
 refine qE 75 rfl rfl rfl ?_
 refine qE 75 rfl rfl rfl ?_
 refine qE 75 rfl rfl rfl ?_
 refine tl (qP rfl rfl) ?_
 refine tl (qG rfl) ?_
 refine qE 83 rfl rfl rfl ?_
 refine qE 83 rfl rfl rfl ?_
 refine qE 83 rfl rfl rfl ?_
 refine qE 83 rfl rfl rfl ?_
 refine qE 83 rfl rfl rfl ?_
 refine qE 83 rfl rfl rfl ?_
 refine tl (qP rfl rfl) ?_
 refine qB ?_
 exact xK hK98 (.refl _) (trivial) ⟨rfl, rfl, rfl, rfl, rfl, rfl, rfl, rfl, rfl, rfl, rfl, rfl, rfl, rfl, rfl, rfl, rfl, rfl, rfl, rfl, rfl, rfl, show some (Value.bool true) = some (Value.bool (decide (((¬ ((xV b l).2) = 0) ∨ (¬ ((((xV b l).1).concepts) = ((jX b l (Sig.mk ([] : List (Int)) ([] : List (Int)))).concepts)))) ∨ (¬ ((((xV b l).1).roles) = ((jX b l (Sig.mk ([] : List (Int)) ([] : List (Int)))).roles)))))) by first | (simp [h100]; done) | grind | (simp [h100] <;> omega), trivial⟩ (fun w hw => hw)
 refine qJ 75 rfl rfl ?_
 refine tl (qH 0 rfl aF rfl) ?_
 refine qJ 75 rfl rfl ?_
 refine tl (jN 3 rfl cI rfl rfl) ?_
 refine qJ 75 rfl rfl ?_
 refine tl (qH 0 rfl aF rfl) ?_
 refine qJ 75 rfl rfl ?_
 refine tl (jN 0 rfl cI rfl rfl) ?_
 refine qJ 75 rfl rfl ?_
 refine hU (k := kInt) (l := (jX b l (Sig.mk ([] : List (Int)) ([] : List (Int)))).concepts) 1 rfl hv_z92_01 rfl (by first | omega | (have q_ := iN (b := b) (l := l) (by grind) (by grind); omega)) ca12 rfl (fun R_ w hle_ hlent hw => by have hs63 := hs63.mono hle_; exact wU (((xV b l).1).concepts) ((jX b l (Sig.mk ([] : List (Int)) ([] : List (Int)))).concepts) hs63 hlent hw) rfl ?_
 refine qJ 75 rfl rfl ?_
 refine tl (wK rfl) ?_
 refine tl (qN rfl rfl) ?_
 refine tl (qG rfl) ?_
 refine xR 83 rfl (fun h101 => ?_) (fun h101 => ?_)
 refine qE 83 rfl rfl rfl ?_
 refine qE 83 rfl rfl rfl ?_
 refine qE 83 rfl rfl rfl ?_
 refine qE 83 rfl rfl rfl ?_
 refine qE 83 rfl rfl rfl ?_
 refine qE 83 rfl rfl rfl ?_
 refine tl (qP rfl rfl) ?_
 refine qB ?_
 exact xK hK98 (.refl _) (trivial) ⟨rfl, rfl, rfl, rfl, rfl, rfl, rfl, rfl, rfl, rfl, rfl, rfl, rfl, rfl, rfl, rfl, rfl, rfl, rfl, rfl, rfl, rfl, show some (Value.bool true) = some (Value.bool (decide (((¬ ((xV b l).2) = 0) ∨ (¬ ((((xV b l).1).concepts) = ((jX b l (Sig.mk ([] : List (Int)) ([] : List (Int)))).concepts)))) ∨ (¬ ((((xV b l).1).roles) = ((jX b l (Sig.mk ([] : List (Int)) ([] : List (Int)))).roles)))))) by first | (simp [h100, h101]; done) | grind | (simp [h100, h101] <;> omega), trivial⟩ (fun w hw => hw)
 refine qJ 83 rfl rfl ?_
 refine tl (qH 1 rfl gF rfl) ?_
 refine qJ 83 rfl rfl ?_
 refine tl (jN 3 rfl cI rfl rfl) ?_
 refine qJ 83 rfl rfl ?_
 refine tl (qH 1 rfl gF rfl) ?_
 refine qJ 83 rfl rfl ?_
 refine tl (jN 0 rfl cI rfl rfl) ?_
 refine qJ 83 rfl rfl ?_
 refine hU (k := kInt) (l := (jX b l (Sig.mk ([] : List (Int)) ([] : List (Int)))).roles) 2 rfl hv_z92_02 rfl (by first | omega | (have q_ := iN (b := b) (l := l) (by grind) (by grind); omega)) ca12 rfl (fun R_ w hle_ hlent hw => by have hs67 := hs67.mono hle_; exact wU (((xV b l).1).roles) ((jX b l (Sig.mk ([] : List (Int)) ([] : List (Int)))).roles) hs67 hlent hw) rfl ?_
 refine qJ 83 rfl rfl ?_
 refine tl (wK rfl) ?_
 refine tl (qN rfl rfl) ?_
 refine qB ?_
 exact xK hK98 (.refl _) (trivial) ⟨rfl, rfl, rfl, rfl, rfl, rfl, rfl, rfl, rfl, rfl, rfl, rfl, rfl, rfl, rfl, rfl, rfl, rfl, rfl, rfl, rfl, rfl, show some (Value.bool (decide (¬ ((((xV b l).1).roles) = ((jX b l (Sig.mk ([] : List (Int)) ([] : List (Int)))).roles))))) = some (Value.bool (decide (((¬ ((xV b l).2) = 0) ∨ (¬ ((((xV b l).1).concepts) = ((jX b l (Sig.mk ([] : List (Int)) ([] : List (Int)))).concepts)))) ∨ (¬ ((((xV b l).1).roles) = ((jX b l (Sig.mk ([] : List (Int)) ([] : List (Int)))).roles)))))) by first | (simp [h100, h101]; done) | grind | (simp [h100, h101] <;> omega), trivial⟩ (fun w hw => hw)
 refine fun R103 hle104 hj102 => jC hle104 ?_
 refine qR 90 rfl (fun h105 => ?_) (fun h105 => ?_)
 refine xD rfl ?_
 refine qF <| qA ?_
 refine tl (qD rfl) ?_
 refine qB <| qC <| qV <| qO ?_
 refine pI hE71 (by simp) ?_
 refine xC (.inl rfl) rfl rfl ?_
 have e106 : (false : Bool) = true := by (exfalso; have e1_ := qF3 (b := b) (l := l) (by grind) (by grind); simp only [e1_] at h105; first | grind | simp_all)
 exact fun w hw => ⟨congrArg Ending.returned (congrArg (fun x0 => Value.bool x0) e106), (hw.drop 7).weaken hle95⟩
 refine xW rfl ?_
 refine xA <| jG ?_
 exact xK hK70 (hle94) (trivial) (by repeat' constructor) (fun w hw => hw.drop 3)
 refine fun R108 hle109 hj107 => ?_
 try replace hr2 := kNames.mono _ _ _ _ hle109 hr2
 try replace hr_b := kBase.mono _ _ _ _ hle109 hr_b
 try replace hr_c := kConcept.mono _ _ _ _ hle109 hr_c
 try replace hr_s := kSig.mono _ _ _ _ hle109 hr_s
 try replace hG := hG.mono hle109
 have hle110 := hle60.trans hle109
 have hle111 := hle59.trans hle109
 refine kN [(1, .slice A_l l.length d_l), (4, .int .i64 kind), (5, .int .i64 k), (6, .pointer (some ⟨b45, 0, none⟩)), (8, .pointer (some ⟨b46, 0, none⟩)), (9, .pointer (some ⟨b47, 0, none⟩)), (12, .bool false), (14, .int .i64 ((xV b l).2)), (15, .bool ((xT b.names c s kind).1.1)), (16, .bool ((xT b.names c s kind).1.2)), (17, .int .i64 ((xT b.names c s kind).2)), (18, .bool ((jZ b k s kind).1)), (19, .int .i64 ((jZ b k s kind).2)), (20, .bool (decide ((((((xV b l).1).concepts).length : Int) + ((((xV b l).1).roles).length : Int)) = 0))), (22, .bool (decide (((gH b.names s) = true) ∧ ((kind = 0) ∨ (kind = 1)))))] (.blk b69 [.slice A61 ((((xV b l).1).concepts).length) d62, .slice A65 ((((xV b l).1).roles).length) d66] 33 :: .blk b47 [.slice A37 s.concepts.length d38, .slice A41 s.roles.length d42] 33 :: .blk b46 [.int .i64 c.op, .int .i64 c.n, .slice A31 c.args.length d32] 37 :: .blk b45 [.slice A15 b.names.concepts.length d16, .slice A19 b.names.roles.length d20, .slice A23 b.names.inds.length d24, .slice A3 b.incls.length d4, .slice A6 b.roles.length d7, .slice A9 b.facts.length d10, .slice A12 b.links.length d13] 30 :: G) (fun _ => True) (fun K hK112 hE113 => ?_) ?_
 refine qA ?_
 refine tl (qH 0 rfl yN rfl) ?_
 refine tl (qQ 3 [.slice A15 b.names.concepts.length d16, .slice A19 b.names.roles.length d20, .slice A23 b.names.inds.length d24] rfl uR rfl rfl) ?_
 refine tl (qQ 1 [.slice A37 s.concepts.length d38, .slice A41 s.roles.length d42] rfl yO rfl rfl) ?_
 refine qY ca11 rfl (fun w hw => bO b.names s hr2 hr_s hw) rfl ?_
 refine tl (qG rfl) ?_
 refine kB 124 rfl (fun h114 => ?_) (fun h114 => ?_)
 refine qJ 124 rfl rfl ?_
 refine tl (qG rfl) ?_
 refine qJ 124 rfl rfl ?_
 refine tl (jQ rfl rfl rfl) ?_
 refine qJ 124 rfl rfl ?_
 refine tl (qG rfl) ?_
 refine xR 127 rfl (fun h115 => ?_) (fun h115 => ?_)
 refine qE 127 rfl rfl rfl ?_
 refine qE 127 rfl rfl rfl ?_
 refine qJ 124 rfl rfl ?_
 refine tl (qP rfl rfl) ?_
 refine tl (qP rfl rfl) ?_
 refine tl (qD rfl) ?_
 refine qB ?_
 exact xK hK112 (.refl _) (trivial) ⟨rfl, rfl, rfl, rfl, rfl, rfl, rfl, rfl, rfl, rfl, rfl, rfl, rfl, rfl, show some (Value.bool true) = some (Value.bool (decide (((gH b.names s) = true) ∧ ((kind = 0) ∨ (kind = 1))))) by first | (simp [h114, h115]; done) | grind | (simp [h114, h115] <;> omega), trivial⟩ (fun w hw => hw)
 refine qJ 127 rfl rfl ?_
 refine tl (qG rfl) ?_
 refine qJ 127 rfl rfl ?_
 refine tl (jQ rfl rfl rfl) ?_
 refine qJ 124 rfl rfl ?_
 refine tl (qN rfl rfl) ?_
 refine tl (qP rfl rfl) ?_
 refine tl (qD rfl) ?_
 refine qB ?_
 exact xK hK112 (.refl _) (trivial) ⟨rfl, rfl, rfl, rfl, rfl, rfl, rfl, rfl, rfl, rfl, rfl, rfl, rfl, rfl, show some (Value.bool (decide (kind = 1))) = some (Value.bool (decide (((gH b.names s) = true) ∧ ((kind = 0) ∨ (kind = 1))))) by first | (simp [h114, h115]; done) | grind | (simp [h114, h115] <;> omega), trivial⟩ (fun w hw => hw)
 refine qE 124 rfl rfl rfl ?_
 refine qE 124 rfl rfl rfl ?_
 refine qE 124 rfl rfl rfl ?_
 refine jA 127 rfl rfl rfl ?_
 refine jA 127 rfl rfl rfl ?_
 refine qE 124 rfl rfl rfl ?_
 refine tl (qN rfl rfl) ?_
 refine tl (qD rfl) ?_
 refine qB ?_
 exact xK hK112 (.refl _) (trivial) ⟨rfl, rfl, rfl, rfl, rfl, rfl, rfl, rfl, rfl, rfl, rfl, rfl, rfl, rfl, show some (Value.bool false) = some (Value.bool (decide (((gH b.names s) = true) ∧ ((kind = 0) ∨ (kind = 1))))) by first | (simp [h114]; done) | grind | (simp [h114] <;> omega), trivial⟩ (fun w hw => hw)
 refine fun R117 hle118 hj116 => jC hle118 ?_
 refine kN [(1, .slice A_l l.length d_l), (4, .int .i64 kind), (5, .int .i64 k), (6, .pointer (some ⟨b45, 0, none⟩)), (8, .pointer (some ⟨b46, 0, none⟩)), (9, .pointer (some ⟨b47, 0, none⟩)), (12, .bool false), (14, .int .i64 ((xV b l).2)), (15, .bool ((xT b.names c s kind).1.1)), (16, .bool ((xT b.names c s kind).1.2)), (17, .int .i64 ((xT b.names c s kind).2)), (18, .bool ((jZ b k s kind).1)), (19, .int .i64 ((jZ b k s kind).2)), (20, .bool (decide ((((((xV b l).1).concepts).length : Int) + ((((xV b l).1).roles).length : Int)) = 0))), (22, .bool (decide (((gH b.names s) = true) ∧ ((kind = 0) ∨ (kind = 1)))))] (.blk b69 [.slice A61 ((((xV b l).1).concepts).length) d62, .slice A65 ((((xV b l).1).roles).length) d66] 33 :: .blk b47 [.slice A37 s.concepts.length d38, .slice A41 s.roles.length d42] 33 :: .blk b46 [.int .i64 c.op, .int .i64 c.n, .slice A31 c.args.length d32] 37 :: .blk b45 [.slice A15 b.names.concepts.length d16, .slice A19 b.names.roles.length d20, .slice A23 b.names.inds.length d24, .slice A3 b.incls.length d4, .slice A6 b.roles.length d7, .slice A9 b.facts.length d10, .slice A12 b.links.length d13] 30 :: G) (fun _ => True) (fun K hK119 hE120 => ?_) ?_
 refine qF <| qA ?_
 refine tl (qQ 3 [.slice A15 b.names.concepts.length d16, .slice A19 b.names.roles.length d20, .slice A23 b.names.inds.length d24, .slice A3 b.incls.length d4, .slice A6 b.roles.length d7, .slice A9 b.facts.length d10, .slice A12 b.links.length d13] rfl sZ rfl rfl) ?_
 refine qY ca10 rfl (fun w hw => sL b hr_b hw) rfl ?_
 refine qB <| qC ?_
 refine vG 133 rfl (fun h121 => ?_) (fun h121 => ?_)
 refine xD rfl ?_
 refine kN [(1, .slice A_l l.length d_l), (4, .int .i64 kind), (5, .int .i64 k), (6, .pointer (some ⟨b45, 0, none⟩)), (8, .pointer (some ⟨b46, 0, none⟩)), (9, .pointer (some ⟨b47, 0, none⟩)), (12, .bool false), (14, .int .i64 ((xV b l).2)), (15, .bool ((xT b.names c s kind).1.1)), (16, .bool ((xT b.names c s kind).1.2)), (17, .int .i64 ((xT b.names c s kind).2)), (18, .bool ((jZ b k s kind).1)), (19, .int .i64 ((jZ b k s kind).2)), (20, .bool (decide ((((((xV b l).1).concepts).length : Int) + ((((xV b l).1).roles).length : Int)) = 0))), (22, .bool (decide (((gH b.names s) = true) ∧ ((kind = 0) ∨ (kind = 1))))), (133, .bool true), (145, .bool (decide (((¬ (((gH b.names s) = true) ∧ ((kind = 0) ∨ (kind = 1)))) ∨ (k < 0)) ∨ ((xX b : Int) ≤ k))))] (.blk b69 [.slice A61 ((((xV b l).1).concepts).length) d62, .slice A65 ((((xV b l).1).roles).length) d66] 33 :: .blk b47 [.slice A37 s.concepts.length d38, .slice A41 s.roles.length d42] 33 :: .blk b46 [.int .i64 c.op, .int .i64 c.n, .slice A31 c.args.length d32] 37 :: .blk b45 [.slice A15 b.names.concepts.length d16, .slice A19 b.names.roles.length d20, .slice A23 b.names.inds.length d24, .slice A3 b.incls.length d4, .slice A6 b.roles.length d7, .slice A9 b.facts.length d10, .slice A12 b.links.length d13] 30 :: G) (fun _ => True) (fun K hK122 hE123 => ?_) ?_
 refine qA ?_
 refine tl (qG rfl) ?_
 refine tl (wK rfl) ?_
 refine tl (qG rfl) ?_
 refine xR 136 rfl (fun h124 => ?_) (fun h124 => ?_)
 refine qE 136 rfl rfl rfl ?_
 refine qE 136 rfl rfl rfl ?_
 refine tl (qP rfl rfl) ?_
 refine tl (qG rfl) ?_
 refine qE 140 rfl rfl rfl ?_
 refine qE 140 rfl rfl rfl ?_
 refine qE 140 rfl rfl rfl ?_
 refine qE 140 rfl rfl rfl ?_
 refine tl (qP rfl rfl) ?_
 refine qB ?_
 exact xK hK122 (.refl _) (trivial) ⟨rfl, rfl, rfl, rfl, rfl, rfl, rfl, rfl, rfl, rfl, rfl, rfl, rfl, rfl, rfl, rfl, show some (Value.bool true) = some (Value.bool (decide (((¬ (((gH b.names s) = true) ∧ ((kind = 0) ∨ (kind = 1)))) ∨ (k < 0)) ∨ ((xX b : Int) ≤ k)))) by first | (simp [h124]; done) | grind | (simp [h124] <;> omega), trivial⟩ (fun w hw => hw)
 refine qJ 136 rfl rfl ?_
 refine tl (qG rfl) ?_
 refine qJ 136 rfl rfl ?_
 refine tl (jQ rfl rfl rfl) ?_
 refine tl (qN rfl rfl) ?_
 refine tl (qG rfl) ?_
 refine xR 140 rfl (fun h125 => ?_) (fun h125 => ?_)
 refine qE 140 rfl rfl rfl ?_
 refine qE 140 rfl rfl rfl ?_
 refine qE 140 rfl rfl rfl ?_
 refine qE 140 rfl rfl rfl ?_
 refine tl (qP rfl rfl) ?_
 refine qB ?_
 exact xK hK122 (.refl _) (trivial) ⟨rfl, rfl, rfl, rfl, rfl, rfl, rfl, rfl, rfl, rfl, rfl, rfl, rfl, rfl, rfl, rfl, show some (Value.bool true) = some (Value.bool (decide (((¬ (((gH b.names s) = true) ∧ ((kind = 0) ∨ (kind = 1)))) ∨ (k < 0)) ∨ ((xX b : Int) ≤ k)))) by first | (simp [h124, h125]; done) | grind | (simp [h124, h125] <;> omega), trivial⟩ (fun w hw => hw)
 refine qJ 140 rfl rfl ?_
 refine tl (qG rfl) ?_
 refine qJ 140 rfl rfl ?_
 refine tl (qQ 3 [.slice A15 b.names.concepts.length d16, .slice A19 b.names.roles.length d20, .slice A23 b.names.inds.length d24, .slice A3 b.incls.length d4, .slice A6 b.roles.length d7, .slice A9 b.facts.length d10, .slice A12 b.links.length d13] rfl sZ rfl rfl) ?_
 refine qJ 140 rfl rfl ?_
 refine qY ca25 rfl (fun w hw => yI b hr_b hw) rfl ?_
 refine qJ 140 rfl rfl ?_
 refine tl (jQ rfl rfl rfl) ?_
 refine tl (qN rfl rfl) ?_
 refine qB ?_
 exact xK hK122 (.refl _) (trivial) ⟨rfl, rfl, rfl, rfl, rfl, rfl, rfl, rfl, rfl, rfl, rfl, rfl, rfl, rfl, rfl, rfl, show some (Value.bool (decide ((xX b : Int) ≤ k))) = some (Value.bool (decide (((¬ (((gH b.names s) = true) ∧ ((kind = 0) ∨ (kind = 1)))) ∨ (k < 0)) ∨ ((xX b : Int) ≤ k)))) by first | (simp [h124, h125]; done) | grind | (simp [h124, h125] <;> omega), trivial⟩ (fun w hw => hw)
 refine fun R127 hle128 hj126 => jC hle128 ?_
 refine qR 145 rfl (fun h129 => ?_) (fun h129 => ?_)
 refine xD rfl ?_
 refine kN [(1, .slice A_l l.length d_l), (4, .int .i64 kind), (5, .int .i64 k), (6, .pointer (some ⟨b45, 0, none⟩)), (8, .pointer (some ⟨b46, 0, none⟩)), (9, .pointer (some ⟨b47, 0, none⟩)), (12, .bool false), (14, .int .i64 ((xV b l).2)), (15, .bool ((xT b.names c s kind).1.1)), (16, .bool ((xT b.names c s kind).1.2)), (17, .int .i64 ((xT b.names c s kind).2)), (18, .bool ((jZ b k s kind).1)), (19, .int .i64 ((jZ b k s kind).2)), (20, .bool (decide ((((((xV b l).1).concepts).length : Int) + ((((xV b l).1).roles).length : Int)) = 0))), (22, .bool (decide (((gH b.names s) = true) ∧ ((kind = 0) ∨ (kind = 1))))), (133, .bool true), (145, .bool true), (150, .bool (decide ((¬ ((jZ b k s kind).2) = 1) ∨ (((jZ b k s kind).1) = true))))] (.blk b69 [.slice A61 ((((xV b l).1).concepts).length) d62, .slice A65 ((((xV b l).1).roles).length) d66] 33 :: .blk b47 [.slice A37 s.concepts.length d38, .slice A41 s.roles.length d42] 33 :: .blk b46 [.int .i64 c.op, .int .i64 c.n, .slice A31 c.args.length d32] 37 :: .blk b45 [.slice A15 b.names.concepts.length d16, .slice A19 b.names.roles.length d20, .slice A23 b.names.inds.length d24, .slice A3 b.incls.length d4, .slice A6 b.roles.length d7, .slice A9 b.facts.length d10, .slice A12 b.links.length d13] 30 :: G) (fun _ => True) (fun K hK130 hE131 => ?_) ?_
 refine qA ?_
 refine tl (qG rfl) ?_
 refine tl (jQ rfl rfl rfl) ?_
 refine tl (qG rfl) ?_
 refine xR 148 rfl (fun h132 => ?_) (fun h132 => ?_)
 refine qE 148 rfl rfl rfl ?_
 refine tl (qP rfl rfl) ?_
 refine qB ?_
 exact xK hK130 (.refl _) (trivial) ⟨rfl, rfl, rfl, rfl, rfl, rfl, rfl, rfl, rfl, rfl, rfl, rfl, rfl, rfl, rfl, rfl, rfl, show some (Value.bool true) = some (Value.bool (decide ((¬ ((jZ b k s kind).2) = 1) ∨ (((jZ b k s kind).1) = true)))) by first | (simp [h132]; done) | grind | (simp [h132] <;> omega), trivial⟩ (fun w hw => hw)
 refine qJ 148 rfl rfl ?_
 refine tl (qG rfl) ?_
 refine tl (qN rfl rfl) ?_
 refine qB ?_
 exact xK hK130 (.refl _) (trivial) ⟨rfl, rfl, rfl, rfl, rfl, rfl, rfl, rfl, rfl, rfl, rfl, rfl, rfl, rfl, rfl, rfl, rfl, show some (Value.bool ((jZ b k s kind).1)) = some (Value.bool (decide ((¬ ((jZ b k s kind).2) = 1) ∨ (((jZ b k s kind).1) = true)))) by first | (simp [h132]; done) | grind | (simp [h132] <;> omega), trivial⟩ (fun w hw => hw)
 refine fun R134 hle135 hj133 => jC hle135 ?_
 refine qR 150 rfl (fun h136 => ?_) (fun h136 => ?_)
 refine xD rfl ?_
 refine qF <| qA ?_
 refine tl (qD rfl) ?_
 refine qB <| qC <| qV ?_
 refine pI hE120 (by simp) ?_
 refine xC (.inl rfl) rfl rfl ?_
 have e137 : (false : Bool) = true := by (exfalso; have e2_ := dV (b := b) (k := k) (s := s) (kind := kind) (by grind) (by grind); simp only [e2_] at h136; first | grind | simp_all)
 exact fun w hw => ⟨congrArg Ending.returned (congrArg (fun x0 => Value.bool x0) e137), (hw.drop 4).weaken hle110⟩
 refine xW rfl ?_
 refine xA ?_
 exact xK hK119 (.refl _) (trivial) (by repeat' constructor) (fun w hw => hw)
 refine xW rfl ?_
 refine kN [(1, .slice A_l l.length d_l), (4, .int .i64 kind), (5, .int .i64 k), (6, .pointer (some ⟨b45, 0, none⟩)), (8, .pointer (some ⟨b46, 0, none⟩)), (9, .pointer (some ⟨b47, 0, none⟩)), (12, .bool false), (14, .int .i64 ((xV b l).2)), (15, .bool ((xT b.names c s kind).1.1)), (16, .bool ((xT b.names c s kind).1.2)), (17, .int .i64 ((xT b.names c s kind).2)), (18, .bool ((jZ b k s kind).1)), (19, .int .i64 ((jZ b k s kind).2)), (20, .bool (decide ((((((xV b l).1).concepts).length : Int) + ((((xV b l).1).roles).length : Int)) = 0))), (22, .bool (decide (((gH b.names s) = true) ∧ ((kind = 0) ∨ (kind = 1))))), (133, .bool true), (145, .bool false), (162, .bool (decide ((¬ ((jZ b k s kind).2) = 0) ∨ (¬ ((jZ b k s kind).1) = (kQ b k.toNat s (decide (kind = 1)))))))] (.blk b69 [.slice A61 ((((xV b l).1).concepts).length) d62, .slice A65 ((((xV b l).1).roles).length) d66] 33 :: .blk b47 [.slice A37 s.concepts.length d38, .slice A41 s.roles.length d42] 33 :: .blk b46 [.int .i64 c.op, .int .i64 c.n, .slice A31 c.args.length d32] 37 :: .blk b45 [.slice A15 b.names.concepts.length d16, .slice A19 b.names.roles.length d20, .slice A23 b.names.inds.length d24, .slice A3 b.incls.length d4, .slice A6 b.roles.length d7, .slice A9 b.facts.length d10, .slice A12 b.links.length d13] 30 :: G) (fun _ => True) (fun K hK138 hE139 => ?_) ?_
 refine qA ?_
 refine tl (qG rfl) ?_
 refine tl (jQ rfl rfl rfl) ?_
 refine tl (qG rfl) ?_
 refine xR 153 rfl (fun h140 => ?_) (fun h140 => ?_)
 refine qE 153 rfl rfl rfl ?_
 refine qE 153 rfl rfl rfl ?_
 refine qE 153 rfl rfl rfl ?_
 refine qE 153 rfl rfl rfl ?_
 refine qE 153 rfl rfl rfl ?_
 refine qE 153 rfl rfl rfl ?_
 refine qE 153 rfl rfl rfl ?_
 refine qE 153 rfl rfl rfl ?_
 refine tl (qP rfl rfl) ?_
 refine qB ?_
 exact xK hK138 (.refl _) (trivial) ⟨rfl, rfl, rfl, rfl, rfl, rfl, rfl, rfl, rfl, rfl, rfl, rfl, rfl, rfl, rfl, rfl, rfl, show some (Value.bool true) = some (Value.bool (decide ((¬ ((jZ b k s kind).2) = 0) ∨ (¬ ((jZ b k s kind).1) = (kQ b k.toNat s (decide (kind = 1))))))) by first | (simp [h140]; done) | grind | (simp [h140] <;> omega), trivial⟩ (fun w hw => hw)
 refine qJ 153 rfl rfl ?_
 refine tl (qG rfl) ?_
 refine qJ 153 rfl rfl ?_
 refine tl (qQ 3 [.slice A15 b.names.concepts.length d16, .slice A19 b.names.roles.length d20, .slice A23 b.names.inds.length d24, .slice A3 b.incls.length d4, .slice A6 b.roles.length d7, .slice A9 b.facts.length d10, .slice A12 b.links.length d13] rfl sZ rfl rfl) ?_
 refine qJ 153 rfl rfl ?_
 refine tl (qG rfl) ?_
 refine qJ 153 rfl rfl ?_
 refine tl (qQ 1 [.slice A37 s.concepts.length d38, .slice A41 s.roles.length d42] rfl yO rfl rfl) ?_
 refine qJ 153 rfl rfl ?_
 refine tl (qG rfl) ?_
 refine qJ 153 rfl rfl ?_
 refine tl (jQ rfl rfl rfl) ?_
 refine qJ 153 rfl rfl ?_
 refine qY ca27 rfl (fun w hw => aI b k s (decide (kind = 1)) hr_b (by unfold i64; omega) hr_s (by first | exact kO (by grind) | exact ⟨by omega, by omega⟩ | exact ⟨by grind, by grind⟩) (by first | exact kO (by grind) | exact ⟨by omega, by omega⟩ | exact ⟨by grind, by grind⟩) hw) rfl ?_
 refine qJ 153 rfl rfl ?_
 refine tl (v_bne rfl rfl u4b) ?_
 refine tl (qN rfl rfl) ?_
 refine qB ?_
 exact xK hK138 (.refl _) (trivial) ⟨rfl, rfl, rfl, rfl, rfl, rfl, rfl, rfl, rfl, rfl, rfl, rfl, rfl, rfl, rfl, rfl, rfl, show some (Value.bool (decide (¬ ((jZ b k s kind).1) = (kQ b k.toNat s (decide (kind = 1)))))) = some (Value.bool (decide ((¬ ((jZ b k s kind).2) = 0) ∨ (¬ ((jZ b k s kind).1) = (kQ b k.toNat s (decide (kind = 1))))))) by first | (simp [h140]; done) | grind | (simp [h140] <;> omega), trivial⟩ (fun w hw => hw)
 refine fun R142 hle143 hj141 => jC hle143 ?_
 refine qR 162 rfl (fun h144 => ?_) (fun h144 => ?_)
 refine xD rfl ?_
 refine qF <| qA ?_
 refine tl (qD rfl) ?_
 refine qB <| qC <| qV ?_
 refine pI hE120 (by simp) ?_
 refine xC (.inl rfl) rfl rfl ?_
 have e145 : (false : Bool) = true := by (exfalso; have e2_ := cV (b := b) (k := k) (s := s) (kind := kind) (by grind) (by grind); simp only [e2_] at h144; first | grind | simp_all)
 exact fun w hw => ⟨congrArg Ending.returned (congrArg (fun x0 => Value.bool x0) e145), (hw.drop 4).weaken hle110⟩
 refine xW rfl ?_
 refine xA ?_
 exact xK hK119 (.refl _) (trivial) (by repeat' constructor) (fun w hw => hw)
 refine xW rfl ?_
 refine xA ?_
 exact xK hK119 (.refl _) (trivial) (by repeat' constructor) (fun w hw => hw)
 refine fun R147 hle148 hj146 => ?_
 try replace hr2 := kNames.mono _ _ _ _ hle148 hr2
 try replace hr_c := kConcept.mono _ _ _ _ hle148 hr_c
 try replace hr_s := kSig.mono _ _ _ _ hle148 hr_s
 try replace hG := hG.mono hle148
 have hle149 := hle110.trans hle148
 have hle150 := hle111.trans hle148
 have hle151 := hle109.trans hle148
 refine qF <| xB <| qF <| qA ?_
 refine tl (qH 0 rfl yN rfl) ?_
 refine tl (qQ 3 [.slice A15 b.names.concepts.length d16, .slice A19 b.names.roles.length d20, .slice A23 b.names.inds.length d24] rfl uR rfl rfl) ?_
 refine qY ca28 rfl (fun w hw => gP b.names hr2 hw) rfl ?_
 refine tl (wB rfl) ?_
 refine tl (qD rfl) ?_
 refine qB <| qC ?_
 refine vG 163 rfl (fun h152 => ?_) (fun h152 => ?_)
 refine xD rfl ?_
 refine kN [(1, .slice A_l l.length d_l), (4, .int .i64 kind), (5, .int .i64 k), (6, .pointer (some ⟨b45, 0, none⟩)), (8, .pointer (some ⟨b46, 0, none⟩)), (9, .pointer (some ⟨b47, 0, none⟩)), (14, .int .i64 ((xV b l).2)), (15, .bool ((xT b.names c s kind).1.1)), (16, .bool ((xT b.names c s kind).1.2)), (17, .int .i64 ((xT b.names c s kind).2)), (18, .bool ((jZ b k s kind).1)), (19, .int .i64 ((jZ b k s kind).2)), (20, .bool (decide ((((((xV b l).1).concepts).length : Int) + ((((xV b l).1).roles).length : Int)) = 0))), (22, .bool (decide (((gH b.names s) = true) ∧ ((kind = 0) ∨ (kind = 1))))), (163, .bool true), (12, .bool (decide ((((((xT b.names c s kind).2) = 20) ∧ ((!((xT b.names c s kind).1.1)) = true)) ∧ ((!((xT b.names c s kind).1.2)) = true)) ∨ False)))] (.blk b69 [.slice A61 ((((xV b l).1).concepts).length) d62, .slice A65 ((((xV b l).1).roles).length) d66] 33 :: .blk b47 [.slice A37 s.concepts.length d38, .slice A41 s.roles.length d42] 33 :: .blk b46 [.int .i64 c.op, .int .i64 c.n, .slice A31 c.args.length d32] 37 :: .blk b45 [.slice A15 b.names.concepts.length d16, .slice A19 b.names.roles.length d20, .slice A23 b.names.inds.length d24, .slice A3 b.incls.length d4, .slice A6 b.roles.length d7, .slice A9 b.facts.length d10, .slice A12 b.links.length d13] 30 :: G) (fun _ => True) (fun K hK153 hE154 => ?_) ?_
 refine qA ?_
 refine tl (qG rfl) ?_
 refine tl (jQ rfl rfl rfl) ?_
 refine tl (qG rfl) ?_
 refine xR 170 rfl (fun h155 => ?_) (fun h155 => ?_)
 refine qJ 170 rfl rfl ?_
 refine tl (qG rfl) ?_
 refine qJ 170 rfl rfl ?_
 refine tl (wB rfl) ?_
 refine tl (qP rfl rfl) ?_
 refine tl (qG rfl) ?_
 refine kB 174 rfl (fun h156 => ?_) (fun h156 => ?_)
 refine qJ 174 rfl rfl ?_
 refine tl (qG rfl) ?_
 refine qJ 174 rfl rfl ?_
 refine tl (wB rfl) ?_
 refine tl (qP rfl rfl) ?_
 refine tl (qG rfl) ?_
 refine kB 178 rfl (fun h157 => ?_) (fun h157 => ?_)
 refine qJ 178 rfl rfl ?_
 refine qY ca8 rfl (fun w hw => vL (by first | assumption | omega) hw) rfl ?_
 refine tl (qP rfl rfl) ?_
 refine tl (qD rfl) ?_
 refine qB ?_
 exact xK hK153 (.refl _) (trivial) ⟨rfl, rfl, rfl, rfl, rfl, rfl, rfl, rfl, rfl, rfl, rfl, rfl, rfl, rfl, rfl, show some (Value.bool true) = some (Value.bool (decide ((((((xT b.names c s kind).2) = 20) ∧ ((!((xT b.names c s kind).1.1)) = true)) ∧ ((!((xT b.names c s kind).1.2)) = true)) ∨ False))) by first | (simp [h155, h156, h157]; done) | grind | (simp [h155, h156, h157] <;> omega), trivial⟩ (fun w hw => hw)
 refine qE 178 rfl rfl rfl ?_
 refine tl (qN rfl rfl) ?_
 refine tl (qD rfl) ?_
 refine qB ?_
 exact xK hK153 (.refl _) (trivial) ⟨rfl, rfl, rfl, rfl, rfl, rfl, rfl, rfl, rfl, rfl, rfl, rfl, rfl, rfl, rfl, show some (Value.bool false) = some (Value.bool (decide ((((((xT b.names c s kind).2) = 20) ∧ ((!((xT b.names c s kind).1.1)) = true)) ∧ ((!((xT b.names c s kind).1.2)) = true)) ∨ False))) by first | (simp [h155, h156, h157]; done) | grind | (simp [h155, h156, h157] <;> omega), trivial⟩ (fun w hw => hw)
 refine qE 174 rfl rfl rfl ?_
 refine qE 174 rfl rfl rfl ?_
 refine tl (qN rfl rfl) ?_
 refine tl (qG rfl) ?_
 refine qE 178 rfl rfl rfl ?_
 refine tl (qN rfl rfl) ?_
 refine tl (qD rfl) ?_
 refine qB ?_
 exact xK hK153 (.refl _) (trivial) ⟨rfl, rfl, rfl, rfl, rfl, rfl, rfl, rfl, rfl, rfl, rfl, rfl, rfl, rfl, rfl, show some (Value.bool false) = some (Value.bool (decide ((((((xT b.names c s kind).2) = 20) ∧ ((!((xT b.names c s kind).1.1)) = true)) ∧ ((!((xT b.names c s kind).1.2)) = true)) ∨ False))) by first | (simp [h155, h156]; done) | grind | (simp [h155, h156] <;> omega), trivial⟩ (fun w hw => hw)
 refine qE 170 rfl rfl rfl ?_
 refine qE 170 rfl rfl rfl ?_
 refine tl (qN rfl rfl) ?_
 refine tl (qG rfl) ?_
 refine qE 174 rfl rfl rfl ?_
 refine qE 174 rfl rfl rfl ?_
 refine tl (qN rfl rfl) ?_
 refine tl (qG rfl) ?_
 refine qE 178 rfl rfl rfl ?_
 refine tl (qN rfl rfl) ?_
 refine tl (qD rfl) ?_
 refine qB ?_
 exact xK hK153 (.refl _) (trivial) ⟨rfl, rfl, rfl, rfl, rfl, rfl, rfl, rfl, rfl, rfl, rfl, rfl, rfl, rfl, rfl, show some (Value.bool false) = some (Value.bool (decide ((((((xT b.names c s kind).2) = 20) ∧ ((!((xT b.names c s kind).1.1)) = true)) ∧ ((!((xT b.names c s kind).1.2)) = true)) ∨ False))) by first | (simp [h155]; done) | grind | (simp [h155] <;> omega), trivial⟩ (fun w hw => hw)
 refine fun R159 hle160 hj158 => jC hle160 ?_
 refine qV <| qO <| qI ?_
 refine xC (.inl rfl) rfl rfl ?_
 have e161 : (decide ((((((xT b.names c s kind).2) = 20) ∧ ((!((xT b.names c s kind).1.1)) = true)) ∧ ((!((xT b.names c s kind).1.2)) = true)) ∨ False) : Bool) = true := by (have e3_ := oN (n := b.names) (c := c) (s := s) (kind := kind) (by grind); rw [e3_]; first | rfl | grind | simp_all)
 exact fun w hw => ⟨congrArg Ending.returned (congrArg (fun x0 => Value.bool x0) e161), (hw.drop 4).weaken hle149⟩
 refine xW rfl ?_
 refine qF <| qA ?_
 refine tl (qH 0 rfl yN rfl) ?_
 refine tl (qQ 3 [.slice A15 b.names.concepts.length d16, .slice A19 b.names.roles.length d20, .slice A23 b.names.inds.length d24] rfl uR rfl rfl) ?_
 refine tl (qQ 2 [.int .i64 c.op, .int .i64 c.n, .slice A31 c.args.length d32] rfl vS rfl rfl) ?_
 refine qY ca29 rfl (fun w hw => sG b.names c hr2 hr_c hw) rfl ?_
 refine tl (wK rfl) ?_
 refine tl (qD rfl) ?_
 refine qB <| qC ?_
 refine qR 181 rfl (fun h162 => ?_) (fun h162 => ?_)
 refine xD rfl ?_
 refine kN [(1, .slice A_l l.length d_l), (4, .int .i64 kind), (5, .int .i64 k), (6, .pointer (some ⟨b45, 0, none⟩)), (8, .pointer (some ⟨b46, 0, none⟩)), (9, .pointer (some ⟨b47, 0, none⟩)), (14, .int .i64 ((xV b l).2)), (15, .bool ((xT b.names c s kind).1.1)), (16, .bool ((xT b.names c s kind).1.2)), (17, .int .i64 ((xT b.names c s kind).2)), (18, .bool ((jZ b k s kind).1)), (19, .int .i64 ((jZ b k s kind).2)), (20, .bool (decide ((((((xV b l).1).concepts).length : Int) + ((((xV b l).1).roles).length : Int)) = 0))), (22, .bool (decide (((gH b.names s) = true) ∧ ((kind = 0) ∨ (kind = 1))))), (163, .bool false), (181, .bool true), (12, .bool (decide ((((((xT b.names c s kind).2) = 10) ∧ ((!((xT b.names c s kind).1.1)) = true)) ∧ ((!((xT b.names c s kind).1.2)) = true)) ∨ False)))] (.blk b69 [.slice A61 ((((xV b l).1).concepts).length) d62, .slice A65 ((((xV b l).1).roles).length) d66] 33 :: .blk b47 [.slice A37 s.concepts.length d38, .slice A41 s.roles.length d42] 33 :: .blk b46 [.int .i64 c.op, .int .i64 c.n, .slice A31 c.args.length d32] 37 :: .blk b45 [.slice A15 b.names.concepts.length d16, .slice A19 b.names.roles.length d20, .slice A23 b.names.inds.length d24, .slice A3 b.incls.length d4, .slice A6 b.roles.length d7, .slice A9 b.facts.length d10, .slice A12 b.links.length d13] 30 :: G) (fun _ => True) (fun K hK163 hE164 => ?_) ?_
 refine qA ?_
 refine tl (qG rfl) ?_
 refine tl (jQ rfl rfl rfl) ?_
 refine tl (qG rfl) ?_
 refine xR 189 rfl (fun h165 => ?_) (fun h165 => ?_)
 refine qJ 189 rfl rfl ?_
 refine tl (qG rfl) ?_
 refine qJ 189 rfl rfl ?_
 refine tl (wB rfl) ?_
 refine tl (qP rfl rfl) ?_
 refine tl (qG rfl) ?_
 refine kB 193 rfl (fun h166 => ?_) (fun h166 => ?_)
 refine qJ 193 rfl rfl ?_
 refine tl (qG rfl) ?_
 refine qJ 193 rfl rfl ?_
 refine tl (wB rfl) ?_
 refine tl (qP rfl rfl) ?_
 refine tl (qG rfl) ?_
 refine kB 197 rfl (fun h167 => ?_) (fun h167 => ?_)
 refine qJ 197 rfl rfl ?_
 refine qY ca8 rfl (fun w hw => vL (by first | assumption | omega) hw) rfl ?_
 refine tl (qP rfl rfl) ?_
 refine tl (qD rfl) ?_
 refine qB ?_
 exact xK hK163 (.refl _) (trivial) ⟨rfl, rfl, rfl, rfl, rfl, rfl, rfl, rfl, rfl, rfl, rfl, rfl, rfl, rfl, rfl, rfl, show some (Value.bool true) = some (Value.bool (decide ((((((xT b.names c s kind).2) = 10) ∧ ((!((xT b.names c s kind).1.1)) = true)) ∧ ((!((xT b.names c s kind).1.2)) = true)) ∨ False))) by first | (simp [h165, h166, h167]; done) | grind | (simp [h165, h166, h167] <;> omega), trivial⟩ (fun w hw => hw)
 refine qE 197 rfl rfl rfl ?_
 refine tl (qN rfl rfl) ?_
 refine tl (qD rfl) ?_
 refine qB ?_
 exact xK hK163 (.refl _) (trivial) ⟨rfl, rfl, rfl, rfl, rfl, rfl, rfl, rfl, rfl, rfl, rfl, rfl, rfl, rfl, rfl, rfl, show some (Value.bool false) = some (Value.bool (decide ((((((xT b.names c s kind).2) = 10) ∧ ((!((xT b.names c s kind).1.1)) = true)) ∧ ((!((xT b.names c s kind).1.2)) = true)) ∨ False))) by first | (simp [h165, h166, h167]; done) | grind | (simp [h165, h166, h167] <;> omega), trivial⟩ (fun w hw => hw)
 refine qE 193 rfl rfl rfl ?_
 refine qE 193 rfl rfl rfl ?_
 refine tl (qN rfl rfl) ?_
 refine tl (qG rfl) ?_
 refine qE 197 rfl rfl rfl ?_
 refine tl (qN rfl rfl) ?_
 refine tl (qD rfl) ?_
 refine qB ?_
 exact xK hK163 (.refl _) (trivial) ⟨rfl, rfl, rfl, rfl, rfl, rfl, rfl, rfl, rfl, rfl, rfl, rfl, rfl, rfl, rfl, rfl, show some (Value.bool false) = some (Value.bool (decide ((((((xT b.names c s kind).2) = 10) ∧ ((!((xT b.names c s kind).1.1)) = true)) ∧ ((!((xT b.names c s kind).1.2)) = true)) ∨ False))) by first | (simp [h165, h166]; done) | grind | (simp [h165, h166] <;> omega), trivial⟩ (fun w hw => hw)
 refine qE 189 rfl rfl rfl ?_
 refine qE 189 rfl rfl rfl ?_
 refine tl (qN rfl rfl) ?_
 refine tl (qG rfl) ?_
 refine qE 193 rfl rfl rfl ?_
 refine qE 193 rfl rfl rfl ?_
 refine tl (qN rfl rfl) ?_
 refine tl (qG rfl) ?_
 refine qE 197 rfl rfl rfl ?_
 refine tl (qN rfl rfl) ?_
 refine tl (qD rfl) ?_
 refine qB ?_
 exact xK hK163 (.refl _) (trivial) ⟨rfl, rfl, rfl, rfl, rfl, rfl, rfl, rfl, rfl, rfl, rfl, rfl, rfl, rfl, rfl, rfl, show some (Value.bool false) = some (Value.bool (decide ((((((xT b.names c s kind).2) = 10) ∧ ((!((xT b.names c s kind).1.1)) = true)) ∧ ((!((xT b.names c s kind).1.2)) = true)) ∨ False))) by first | (simp [h165]; done) | grind | (simp [h165] <;> omega), trivial⟩ (fun w hw => hw)
 refine fun R169 hle170 hj168 => jC hle170 ?_
 refine qV <| qO <| qI ?_
 refine xC (.inl rfl) rfl rfl ?_
 have e171 : (decide ((((((xT b.names c s kind).2) = 10) ∧ ((!((xT b.names c s kind).1.1)) = true)) ∧ ((!((xT b.names c s kind).1.2)) = true)) ∨ False) : Bool) = true := by (have e3_ := qF1 (n := b.names) (c := c) (s := s) (kind := kind) (by grind) (by grind); rw [e3_]; first | rfl | grind | simp_all)
 exact fun w hw => ⟨congrArg Ending.returned (congrArg (fun x0 => Value.bool x0) e171), (hw.drop 4).weaken hle149⟩
 refine xW rfl ?_
 refine qF <| qA ?_
 refine tl (qG rfl) ?_
 refine tl (wK rfl) ?_
 refine tl (qD rfl) ?_
 refine qB <| qC ?_
 refine qR 200 rfl (fun h172 => ?_) (fun h172 => ?_)
 refine xD rfl ?_
 refine kN [(1, .slice A_l l.length d_l), (4, .int .i64 kind), (5, .int .i64 k), (6, .pointer (some ⟨b45, 0, none⟩)), (8, .pointer (some ⟨b46, 0, none⟩)), (9, .pointer (some ⟨b47, 0, none⟩)), (14, .int .i64 ((xV b l).2)), (15, .bool ((xT b.names c s kind).1.1)), (16, .bool ((xT b.names c s kind).1.2)), (17, .int .i64 ((xT b.names c s kind).2)), (18, .bool ((jZ b k s kind).1)), (19, .int .i64 ((jZ b k s kind).2)), (20, .bool (decide ((((((xV b l).1).concepts).length : Int) + ((((xV b l).1).roles).length : Int)) = 0))), (22, .bool (decide (((gH b.names s) = true) ∧ ((kind = 0) ∨ (kind = 1))))), (163, .bool false), (181, .bool false), (200, .bool true), (12, .bool (decide ((((((xT b.names c s kind).2) = 1) ∧ ((!((xT b.names c s kind).1.1)) = true)) ∧ ((!((xT b.names c s kind).1.2)) = true)) ∨ False)))] (.blk b69 [.slice A61 ((((xV b l).1).concepts).length) d62, .slice A65 ((((xV b l).1).roles).length) d66] 33 :: .blk b47 [.slice A37 s.concepts.length d38, .slice A41 s.roles.length d42] 33 :: .blk b46 [.int .i64 c.op, .int .i64 c.n, .slice A31 c.args.length d32] 37 :: .blk b45 [.slice A15 b.names.concepts.length d16, .slice A19 b.names.roles.length d20, .slice A23 b.names.inds.length d24, .slice A3 b.incls.length d4, .slice A6 b.roles.length d7, .slice A9 b.facts.length d10, .slice A12 b.links.length d13] 30 :: G) (fun _ => True) (fun K hK173 hE174 => ?_) ?_
 refine qA ?_
 refine tl (qG rfl) ?_
 refine tl (jQ rfl rfl rfl) ?_
 refine tl (qG rfl) ?_
 refine xR 205 rfl (fun h175 => ?_) (fun h175 => ?_)
 refine qJ 205 rfl rfl ?_
 refine tl (qG rfl) ?_
 refine qJ 205 rfl rfl ?_
 refine tl (wB rfl) ?_
 refine tl (qP rfl rfl) ?_
 refine tl (qG rfl) ?_
 refine kB 209 rfl (fun h176 => ?_) (fun h176 => ?_)
 refine qJ 209 rfl rfl ?_
 refine tl (qG rfl) ?_
 refine qJ 209 rfl rfl ?_
 refine tl (wB rfl) ?_
 refine tl (qP rfl rfl) ?_
 refine tl (qG rfl) ?_
 refine kB 213 rfl (fun h177 => ?_) (fun h177 => ?_)
 refine qJ 213 rfl rfl ?_
 refine qY ca8 rfl (fun w hw => vL (by first | assumption | omega) hw) rfl ?_
 refine tl (qP rfl rfl) ?_
 refine tl (qD rfl) ?_
 refine qB ?_
 exact xK hK173 (.refl _) (trivial) ⟨rfl, rfl, rfl, rfl, rfl, rfl, rfl, rfl, rfl, rfl, rfl, rfl, rfl, rfl, rfl, rfl, rfl, show some (Value.bool true) = some (Value.bool (decide ((((((xT b.names c s kind).2) = 1) ∧ ((!((xT b.names c s kind).1.1)) = true)) ∧ ((!((xT b.names c s kind).1.2)) = true)) ∨ False))) by first | (simp [h175, h176, h177]; done) | grind | (simp [h175, h176, h177] <;> omega), trivial⟩ (fun w hw => hw)
 refine qE 213 rfl rfl rfl ?_
 refine tl (qN rfl rfl) ?_
 refine tl (qD rfl) ?_
 refine qB ?_
 exact xK hK173 (.refl _) (trivial) ⟨rfl, rfl, rfl, rfl, rfl, rfl, rfl, rfl, rfl, rfl, rfl, rfl, rfl, rfl, rfl, rfl, rfl, show some (Value.bool false) = some (Value.bool (decide ((((((xT b.names c s kind).2) = 1) ∧ ((!((xT b.names c s kind).1.1)) = true)) ∧ ((!((xT b.names c s kind).1.2)) = true)) ∨ False))) by first | (simp [h175, h176, h177]; done) | grind | (simp [h175, h176, h177] <;> omega), trivial⟩ (fun w hw => hw)
 refine qE 209 rfl rfl rfl ?_
 refine qE 209 rfl rfl rfl ?_
 refine tl (qN rfl rfl) ?_
 refine tl (qG rfl) ?_
 refine qE 213 rfl rfl rfl ?_
 refine tl (qN rfl rfl) ?_
 refine tl (qD rfl) ?_
 refine qB ?_
 exact xK hK173 (.refl _) (trivial) ⟨rfl, rfl, rfl, rfl, rfl, rfl, rfl, rfl, rfl, rfl, rfl, rfl, rfl, rfl, rfl, rfl, rfl, show some (Value.bool false) = some (Value.bool (decide ((((((xT b.names c s kind).2) = 1) ∧ ((!((xT b.names c s kind).1.1)) = true)) ∧ ((!((xT b.names c s kind).1.2)) = true)) ∨ False))) by first | (simp [h175, h176]; done) | grind | (simp [h175, h176] <;> omega), trivial⟩ (fun w hw => hw)
 refine qE 205 rfl rfl rfl ?_
 refine qE 205 rfl rfl rfl ?_
 refine tl (qN rfl rfl) ?_
 refine tl (qG rfl) ?_
 refine qE 209 rfl rfl rfl ?_
 refine qE 209 rfl rfl rfl ?_
 refine tl (qN rfl rfl) ?_
 refine tl (qG rfl) ?_
 refine qE 213 rfl rfl rfl ?_
 refine tl (qN rfl rfl) ?_
 refine tl (qD rfl) ?_
 refine qB ?_
 exact xK hK173 (.refl _) (trivial) ⟨rfl, rfl, rfl, rfl, rfl, rfl, rfl, rfl, rfl, rfl, rfl, rfl, rfl, rfl, rfl, rfl, rfl, show some (Value.bool false) = some (Value.bool (decide ((((((xT b.names c s kind).2) = 1) ∧ ((!((xT b.names c s kind).1.1)) = true)) ∧ ((!((xT b.names c s kind).1.2)) = true)) ∨ False))) by first | (simp [h175]; done) | grind | (simp [h175] <;> omega), trivial⟩ (fun w hw => hw)
 refine fun R179 hle180 hj178 => jC hle180 ?_
 refine qV <| qO <| qI ?_
 refine xC (.inl rfl) rfl rfl ?_
 have e181 : (decide ((((((xT b.names c s kind).2) = 1) ∧ ((!((xT b.names c s kind).1.1)) = true)) ∧ ((!((xT b.names c s kind).1.2)) = true)) ∨ False) : Bool) = true := by (have e3_ := rN (n := b.names) (c := c) (s := s) (kind := kind) (by grind) (by grind) (by grind); rw [e3_]; first | rfl | grind | simp_all)
 exact fun w hw => ⟨congrArg Ending.returned (congrArg (fun x0 => Value.bool x0) e181), (hw.drop 4).weaken hle149⟩
 refine xW rfl ?_
 refine xA <| jG <| qC <| qF <| qA ?_
 refine tl (qQ 2 [.int .i64 c.op, .int .i64 c.n, .slice A31 c.args.length d32] rfl vS rfl rfl) ?_
 refine tl (qQ 1 [.slice A37 s.concepts.length d38, .slice A41 s.roles.length d42] rfl yO rfl rfl) ?_
 refine tl (qG rfl) ?_
 refine tl (jQ rfl rfl rfl) ?_
 refine qY ca30 rfl (fun w hw => wP c s (decide (kind = 1)) hr_c hr_s (by exact qB0 (n := b.names) (by grind)) hw) rfl ?_
 refine tl (qG rfl) ?_
 refine tl (jE rfl rfl) ?_
 refine tl (jE rfl rfl) ?_
 refine tl (qD rfl) ?_
 refine tl (qD rfl) ?_
 refine qB <| qC ?_
 refine kN [(1, .slice A_l l.length d_l), (4, .int .i64 kind), (5, .int .i64 k), (6, .pointer (some ⟨b45, 0, none⟩)), (8, .pointer (some ⟨b46, 0, none⟩)), (9, .pointer (some ⟨b47, 0, none⟩)), (14, .int .i64 ((xV b l).2)), (15, .bool ((xT b.names c s kind).1.1)), (16, .bool ((xT b.names c s kind).1.2)), (17, .int .i64 ((xT b.names c s kind).2)), (18, .bool ((jZ b k s kind).1)), (19, .int .i64 ((jZ b k s kind).2)), (20, .bool (decide ((((((xV b l).1).concepts).length : Int) + ((((xV b l).1).roles).length : Int)) = 0))), (22, .bool (decide (((gH b.names s) = true) ∧ ((kind = 0) ∨ (kind = 1))))), (163, .bool false), (181, .bool false), (200, .bool false), (12, .bool (decide ((((((xT b.names c s kind).2) = 0) ∧ (((xT b.names c s kind).1.1) = ((qK s (decide (kind = 1)) c).1))) ∧ (((xT b.names c s kind).1.2) = ((qK s (decide (kind = 1)) c).2))) ∨ False)))] (.blk b69 [.slice A61 ((((xV b l).1).concepts).length) d62, .slice A65 ((((xV b l).1).roles).length) d66] 33 :: .blk b47 [.slice A37 s.concepts.length d38, .slice A41 s.roles.length d42] 33 :: .blk b46 [.int .i64 c.op, .int .i64 c.n, .slice A31 c.args.length d32] 37 :: .blk b45 [.slice A15 b.names.concepts.length d16, .slice A19 b.names.roles.length d20, .slice A23 b.names.inds.length d24, .slice A3 b.incls.length d4, .slice A6 b.roles.length d7, .slice A9 b.facts.length d10, .slice A12 b.links.length d13] 30 :: G) (fun _ => True) (fun K hK182 hE183 => ?_) ?_
 refine qA ?_
 refine tl (qG rfl) ?_
 refine tl (jQ rfl rfl rfl) ?_
 refine tl (qG rfl) ?_
 refine xR 226 rfl (fun h184 => ?_) (fun h184 => ?_)
 refine qJ 226 rfl rfl ?_
 refine tl (qG rfl) ?_
 refine qJ 226 rfl rfl ?_
 refine tl (qG rfl) ?_
 refine qJ 226 rfl rfl ?_
 refine tl (v_beq rfl rfl u4b) ?_
 refine tl (qP rfl rfl) ?_
 refine tl (qG rfl) ?_
 refine xR 231 rfl (fun h185 => ?_) (fun h185 => ?_)
 refine qJ 231 rfl rfl ?_
 refine tl (qG rfl) ?_
 refine qJ 231 rfl rfl ?_
 refine tl (qG rfl) ?_
 refine qJ 231 rfl rfl ?_
 refine tl (v_beq rfl rfl u4b) ?_
 refine tl (qP rfl rfl) ?_
 refine tl (qG rfl) ?_
 refine xR 236 rfl (fun h186 => ?_) (fun h186 => ?_)
 refine qJ 236 rfl rfl ?_
 refine qY ca8 rfl (fun w hw => vL (by first | assumption | omega) hw) rfl ?_
 refine tl (qP rfl rfl) ?_
 refine tl (qD rfl) ?_
 refine qB ?_
 exact xK hK182 (.refl _) (trivial) ⟨rfl, rfl, rfl, rfl, rfl, rfl, rfl, rfl, rfl, rfl, rfl, rfl, rfl, rfl, rfl, rfl, rfl, show some (Value.bool true) = some (Value.bool (decide ((((((xT b.names c s kind).2) = 0) ∧ (((xT b.names c s kind).1.1) = ((qK s (decide (kind = 1)) c).1))) ∧ (((xT b.names c s kind).1.2) = ((qK s (decide (kind = 1)) c).2))) ∨ False))) by first | (simp [h184, h185, h186]; done) | grind | (simp [h184, h185, h186] <;> omega), trivial⟩ (fun w hw => hw)
 refine qE 236 rfl rfl rfl ?_
 refine tl (qN rfl rfl) ?_
 refine tl (qD rfl) ?_
 refine qB ?_
 exact xK hK182 (.refl _) (trivial) ⟨rfl, rfl, rfl, rfl, rfl, rfl, rfl, rfl, rfl, rfl, rfl, rfl, rfl, rfl, rfl, rfl, rfl, show some (Value.bool false) = some (Value.bool (decide ((((((xT b.names c s kind).2) = 0) ∧ (((xT b.names c s kind).1.1) = ((qK s (decide (kind = 1)) c).1))) ∧ (((xT b.names c s kind).1.2) = ((qK s (decide (kind = 1)) c).2))) ∨ False))) by first | (simp [h184, h185, h186]; done) | grind | (simp [h184, h185, h186] <;> omega), trivial⟩ (fun w hw => hw)
 refine qE 231 rfl rfl rfl ?_
 refine qE 231 rfl rfl rfl ?_
 refine qE 231 rfl rfl rfl ?_
 refine tl (qN rfl rfl) ?_
 refine tl (qG rfl) ?_
 refine qE 236 rfl rfl rfl ?_
 refine tl (qN rfl rfl) ?_
 refine tl (qD rfl) ?_
 refine qB ?_
 exact xK hK182 (.refl _) (trivial) ⟨rfl, rfl, rfl, rfl, rfl, rfl, rfl, rfl, rfl, rfl, rfl, rfl, rfl, rfl, rfl, rfl, rfl, show some (Value.bool false) = some (Value.bool (decide ((((((xT b.names c s kind).2) = 0) ∧ (((xT b.names c s kind).1.1) = ((qK s (decide (kind = 1)) c).1))) ∧ (((xT b.names c s kind).1.2) = ((qK s (decide (kind = 1)) c).2))) ∨ False))) by first | (simp [h184, h185]; done) | grind | (simp [h184, h185] <;> omega), trivial⟩ (fun w hw => hw)
 refine qE 226 rfl rfl rfl ?_
 refine qE 226 rfl rfl rfl ?_
 refine qE 226 rfl rfl rfl ?_
 refine tl (qN rfl rfl) ?_
 refine tl (qG rfl) ?_
 refine qE 231 rfl rfl rfl ?_
 refine qE 231 rfl rfl rfl ?_
 refine qE 231 rfl rfl rfl ?_
 refine tl (qN rfl rfl) ?_
 refine tl (qG rfl) ?_
 refine qE 236 rfl rfl rfl ?_
 refine tl (qN rfl rfl) ?_
 refine tl (qD rfl) ?_
 refine qB ?_
 exact xK hK182 (.refl _) (trivial) ⟨rfl, rfl, rfl, rfl, rfl, rfl, rfl, rfl, rfl, rfl, rfl, rfl, rfl, rfl, rfl, rfl, rfl, show some (Value.bool false) = some (Value.bool (decide ((((((xT b.names c s kind).2) = 0) ∧ (((xT b.names c s kind).1.1) = ((qK s (decide (kind = 1)) c).1))) ∧ (((xT b.names c s kind).1.2) = ((qK s (decide (kind = 1)) c).2))) ∨ False))) by first | (simp [h184]; done) | grind | (simp [h184] <;> omega), trivial⟩ (fun w hw => hw)
 refine fun R188 hle189 hj187 => jC hle189 ?_
 refine qV ?_
 refine xC (.inl rfl) rfl rfl ?_
 have e190 : (decide ((((((xT b.names c s kind).2) = 0) ∧ (((xT b.names c s kind).1.1) = ((qK s (decide (kind = 1)) c).1))) ∧ (((xT b.names c s kind).1.2) = ((qK s (decide (kind = 1)) c).2))) ∨ False) : Bool) = true := by (have e3_ := qF2 (n := b.names) (c := c) (s := s) (kind := kind) (by grind) (by grind) (by grind); rw [e3_]; first | rfl | grind | simp_all)
 exact fun w hw => ⟨congrArg Ending.returned (congrArg (fun x0 => Value.bool x0) e190), (hw.drop 4).weaken hle149⟩

end Go.Proofs.YtcbcdlajnmkioaaGreatDoor

namespace Go.Proofs.YtcbcdlajnmkioaaGreatDoor
open Go Go.Proofs Go.RowKit
set_option linter.unusedVariables false
set_option linter.unusedSimpArgs false

/-! ## The row's data, read: from 'it reads as a datum' to what the engine holds of it -/

/-- All that lies in memory when the call begins is only read. -/
def RW (W : World) : RO := ⟨W.os, W.tape, W.output, fun b => W.heap[b]?⟩
theorem own_RW (W : World) : Own W (RW W) [] := ⟨rfl, rfl, rfl, fun _ _ h => h, fun r h => by simp at h, fun r h => by simp at h, .nil⟩
theorem nV {W w' : World} (h : Own w' (RW W) []) : Below W.heap.size W w' := by
  refine ⟨h.os, h.tape, h.output, ?_, fun k hk => ?_⟩
  · rcases Nat.eq_zero_or_pos W.heap.size with e | e
    · omega
    · have h1 := h.ro (W.heap.size - 1) W.heap[W.heap.size - 1] (by show W.heap[W.heap.size - 1]? = _; exact Array.getElem?_eq_getElem (by omega))
      have h2 := (Array.getElem?_eq_some_iff.1 h1).1
      omega
  · have h1 := h.ro k W.heap[k] (by show W.heap[k]? = _; exact Array.getElem?_eq_getElem hk)
    rw [h1]; exact (Array.getElem?_eq_getElem hk).symm

theorem nW (a : Addr) (n : Nat) : (a.add n).block = a.block := by unfold Addr.add; split <;> rfl
theorem qI5 (a : Addr) (n : Nat) : (a.add n).off = a.off + n := by unfold Addr.add; split <;> simp [*]
theorem mJ {W : World} {a : Addr} {v : Value} (h : W.cell? a = some v) : a.spot = none ∧ ∃ c T fz, W.heap[a.block]? = some (.cells c T fz) ∧ c[a.off]? = some v := by
  unfold World.cell? at h
  split at h
  · rename_i c T fz hc
    split at h
    · cases h
    · rename_i hs
      exact ⟨by simpa using hs, c, T, fz, hc, h⟩
  · cases h
theorem cells_at {W : World} {a : Addr} {m n : Nat} {cs : List Value} (h : W.cells? 0 (a.add m) n = some cs) : (RW W).at a.block (a.off + m) cs := by
  obtain ⟨_, hl, hc⟩ := World.cells?_some h
  intro j v hj
  have hjn : j < n := by rw [← hl]; exact (List.getElem?_eq_some_iff.1 hj).1
  obtain ⟨_, c, T, fz, h1, h2⟩ := mJ ((hc j hjn).trans hj)
  rw [nW, nW] at h1
  rw [qI5, qI5] at h2
  exact ⟨c, T, fz, h1, h2⟩
theorem qD4 {W : World} {a : Addr} {n : Nat} {cs : List Value} (h : W.cells? 0 (a.add 0) n = some cs) (hn : 0 < n) : a.spot = none := by
  obtain ⟨_, hl, hc⟩ := World.cells?_some h
  have h0 := hc 0 hn
  rw [List.getElem?_eq_getElem (by omega)] at h0
  have := (mJ h0).1
  simpa [Addr.add] using this

theorem fV {α : Type} {p : Nat → α → Prop} : ∀ (n : Nat), (∀ i, i < n → ∃ a, p i a) → ∃ l : List α, l.length = n ∧ ∀ i a, l[i]? = some a → p i a
  | 0, _ => ⟨[], rfl, fun i a h => by simp at h⟩
  | n + 1, h => by
    obtain ⟨l, hl, hp⟩ := fV n fun i hi => h i (by omega)
    obtain ⟨a, ha⟩ := h n (by omega)
    refine ⟨l ++ [a], by simp [hl], fun i x hx => ?_⟩
    rcases Nat.lt_or_ge i n with hi | hi
    · rw [List.getElem?_append_left (by omega)] at hx; exact hp i x hx
    · have e : i = n := by have := (List.getElem?_eq_some_iff.1 hx).1; simp at this; omega
      subst e
      rw [List.getElem?_append_right (by omega), hl, Nat.sub_self] at hx
      simp at hx; exact hx ▸ ha

theorem bG {H : Type} {P : Program} {e : TypeId} {p : Nat → Bool} : ∀ {ds : List (DataW H)}, (DataW.weightsAll P e ds).all p = true → ∀ d ∈ ds, (d.weights P e).all p = true
  | [], _, d, hd => by simp at hd
  | x :: xs, h, d, hd => by
    simp only [DataW.weightsAll, List.all_append, Bool.and_eq_true] at h
    rcases List.mem_cons.1 hd with rfl | hd
    · exact h.1
    · exact bG h.2 d hd
theorem yP {H : Type} {P : Program} {ts : List TypeId} {ds : List (DataW H)} {p : Nat → Bool} (h : (DataW.weightsEach P ts ds).all p = true) {j : Nat} {t : TypeId} {d : DataW H} (ht : ts[j]? = some t) (hd : ds[j]? = some d) : (d.weights P t).all p = true :=
  List.all_eq_true.2 fun n hn => List.all_eq_true.1 h n (DataW.weights_mem_each ht hd n hn)

/-- What reads as a datum of type t within the reach is a value of kind k; the reading goes n deep. -/
def gE {α : Type} (P : Program) (W : World) (n : Nat) (t : TypeId) (k : Kd α) : Prop :=
  ∀ (H : Type) (enc : TypeId × Value → H) (fuel : Nat) (cs : List Value) (x : DataW H × List MemPlace), fuel ≤ n → DataW.trod enc P W 0 (fun _ => true) true fuel t cs = some x → (x.1.weights P t).all (· ≤ reachBytes) = true → ∃ a, k.rep (RW W) a cs

def zM (P : Program) (t : TypeId) : Option (List (TypeId × Nat × Nat)) := match P.underlying t with
  | some (.struct fs) => some (fs.toList.map fun f => (f.type, f.offset, P.cellsOf f.type))
  | _ => none
def cL (P : Program) (t : TypeId) : Option (TypeId × Nat × Nat) := match P.underlying t with
  | some (.slice e) => some (e, P.cellsOf e, P.bytesOf e)
  | _ => none
def nX (P : Program) (t : TypeId) : Bool := match P.underlying t with
  | some (.int .i64) => true
  | _ => false
def rY (P : Program) (t : TypeId) : Bool := match P.underlying t with
  | some .string => true
  | _ => false

theorem qI6 {x : Int} (h : (Lit.int .i64 x).wf = true) : i64 x := by
  simp only [Lit.wf, Bool.and_eq_true, decide_eq_true_eq] at h
  have h1 : IntKind.i64.min = -9223372036854775808 := by decide
  have h2 : IntKind.i64.max = 9223372036854775807 := by decide
  rw [h1, h2] at h
  exact h
theorem yQ {P : Program} {W : World} {n : Nat} {t : TypeId} (ht : nX P t = true) : gE P W n t kInt := by
  have hu : P.underlying t = some (.int .i64) := by
    unfold nX at ht
    split at ht
    · assumption
    · cases ht
  intro H enc fuel cs x _ h _
  obtain ⟨m, rfl, _, hw⟩ := DataW.trod_int hu h
  exact ⟨m, rfl, qI6 hw⟩
theorem fW {P : Program} {W : World} {n : Nat} {t : TypeId} (ht : rY P t = true) : gE P W n t kStr := by
  have hu : P.underlying t = some .string := by
    unfold rY at ht
    split at ht
    · assumption
    · cases ht
  intro H enc fuel cs x _ h hw
  obtain ⟨s, rfl, rfl, _⟩ := DataW.trod_string hu h
  simp only [DataW.weights, List.all_cons, List.all_nil, Bool.and_true, decide_eq_true_eq] at hw
  rw [Array.length_toList] at hw
  refine ⟨s, rfl, ?_⟩
  have : s.size = s.data.size := rfl
  unfold big reachBytes at *
  omega
theorem gC {α : Type} {k : Kd α} {P : Program} {W : World} {n : Nat} {t e : TypeId} {by_ : Nat} (ht : cL P t = some (e, k.sz, by_)) (hk : 0 < k.sz) (hb : 0 < by_) (he : gE P W n e k) : gE P W (n + 1) t k.sl := by
  obtain ⟨hu, hc, hy⟩ : P.underlying t = some (.slice e) ∧ P.cellsOf e = k.sz ∧ P.bytesOf e = by_ := by
    unfold cL at ht
    split at ht
    · rename_i e' hu
      simp only [Option.some.injEq, Prod.mk.injEq] at ht
      obtain ⟨rfl, h1, h2⟩ := ht
      exact ⟨hu, h1, h2⟩
    · cases ht
  intro H enc fuel cs x hf h hw
  rcases DataW.trod_slice hu h with ⟨rfl, rfl⟩ | ⟨a, len, cap, elems, rest, m, rfl, rfl, rfl, _, hlc, _, hlen, hel, _, _⟩
  · exact ⟨[], none, 0, rfl, SlAt.nil _ _ _⟩
  · simp only [DataW.weights, hu, List.all_cons, List.all_append, Bool.and_eq_true, decide_eq_true_eq, List.length_map] at hw
    have each : ∀ i, i < len → ∃ a', (∃ cs', k.rep (RW W) a' cs' ∧ (RW W).at a.block (a.off + i * k.sz) cs') ∧ (i = 0 → a.spot = none) := by
      intro i hi
      have h1 := hel i hi
      rw [List.getElem?_eq_getElem (by omega), Option.bind_eq_some_iff, hc] at h1
      obtain ⟨cs', h2, h3⟩ := h1
      obtain ⟨a', ha'⟩ := he H enc m cs' elems[i] (by omega) h3 (bG hw.2.1 _ (List.mem_map.2 ⟨_, List.getElem_mem _, rfl⟩))
      exact ⟨a', ⟨cs', ha', cells_at h2⟩, fun e0 => by subst e0; rw [Nat.zero_mul] at h2; exact qD4 h2 hk⟩
    obtain ⟨l, hl, hp⟩ := fV len each
    refine ⟨l, some a, cap, by rw [hl], ⟨?_, fun hne => ?_, fun i y hy => ?_⟩⟩
    · have : len ≤ (elems.length + rest.length) * P.bytesOf e := by
        rw [hy, hlen]
        calc len ≤ len + rest.length := by omega
          _ = (len + rest.length) * 1 := by omega
          _ ≤ _ := Nat.mul_le_mul_left _ hb
      unfold big reachBytes at *
      omega
    · have h0 : 0 < l.length := List.length_pos_iff.2 hne
      have := (hp 0 l[0] (List.getElem?_eq_getElem h0)).2 rfl
      exact ⟨a.block, a.off, by cases a; simp_all⟩
    · exact (hp i y hy).1
/-- The fields of a struct, each read. -/
theorem yR {H : Type} {enc : TypeId × Value → H} {P : Program} {W : World} {t : TypeId} {fuel : Nat} {cs : List Value} {x : DataW H × List MemPlace} {fl : List (TypeId × Nat × Nat)} (ht : zM P t = some fl) (h : DataW.trod enc P W 0 (fun _ => true) true fuel t cs = some x) (hw : (x.1.weights P t).all (· ≤ reachBytes) = true) :
    ∃ m, fuel = m + 1 ∧ cs.length = P.cellsOf t ∧ ∀ (i : Nat) (u : TypeId) (o z : Nat), fl[i]? = some (u, o, z) → ∃ y, DataW.trod enc P W 0 (fun _ => true) true m u ((cs.drop o).take z) = some y ∧ (y.1.weights P u).all (· ≤ reachBytes) = true := by
  unfold zM at ht
  split at ht
  · rename_i fs hu
    obtain rfl := Option.some.inj ht
    obtain ⟨xs, m, rfl, rfl, hl, hlen, hf⟩ := DataW.trod_struct hu h
    refine ⟨m, rfl, hl, fun i u o z hi => ?_⟩
    rw [List.getElem?_map, Option.map_eq_some_iff] at hi
    obtain ⟨f, hfi, hfe⟩ := hi
    simp only [Prod.mk.injEq] at hfe
    obtain ⟨rfl, rfl, rfl⟩ := hfe
    have hfi' : fs[i]? = some f := by simpa using hfi
    have h1 := hf i f hfi'
    have hil : i < xs.length := by rw [hlen]; exact (Array.getElem?_eq_some_iff.1 hfi').1
    rw [List.getElem?_eq_getElem hil] at h1
    refine ⟨_, h1, ?_⟩
    simp only [DataW.weights, hu] at hw
    exact yP hw (j := i) (by rw [List.getElem?_map, hfi]; rfl) (by rw [List.getElem?_map, List.getElem?_eq_getElem hil]; rfl)
  · cases ht

theorem glue3 {cs : List Value} {a b c : Value} (hl : cs.length = 3) (h0 : (cs.drop 0).take 1 = [a]) (h1 : (cs.drop 1).take 1 = [b]) (h2 : (cs.drop 2).take 1 = [c]) : cs = [a, b, c] := by
  match cs, hl with
  | [x, y, z], _ => simp_all
theorem glue2 {cs : List Value} {a b : Value} (hl : cs.length = 2) (h0 : (cs.drop 0).take 1 = [a]) (h1 : (cs.drop 1).take 1 = [b]) : cs = [a, b] := by
  match cs, hl with
  | [x, y], _ => simp_all
theorem glue6 {cs : List Value} (hl : cs.length = 6) : cs = (cs.drop 0).take 3 ++ (cs.drop 3).take 3 := by
  match cs, hl with
  | [_, _, _, _, _, _], _ => rfl
theorem glue4 {cs : List Value} {a : Value} (hl : cs.length = 4) (h : (cs.drop 0).take 1 = [a]) : cs = a :: (cs.drop 1).take 3 := by
  match cs, hl with
  | [_, _, _, _], _ => simp_all
theorem glue7 {cs : List Value} {a b c d : Value} (hl : cs.length = 7) (h3 : (cs.drop 3).take 1 = [a]) (h4 : (cs.drop 4).take 1 = [b]) (h5 : (cs.drop 5).take 1 = [c]) (h6 : (cs.drop 6).take 1 = [d]) : cs = (cs.drop 0).take 3 ++ [a, b, c, d] := by
  match cs, hl with
  | [_, _, _, _, _, _, _], _ => simp_all

section
variable {P : Program} {W : World}
theorem mK {t s i : TypeId} {by_ : Nat} (hi : nX P i = true) (hs : cL P s = some (t, 3, by_)) (hb : 0 < by_) (ht : zM P t = some [(i, 0, 1), (i, 1, 1), (s, 2, 1)]) (hc : P.cellsOf t = 3) : ∀ n, gE P W n t kConcept := by
  intro n
  induction n with
  | zero => intro H enc fuel cs x hf h _; obtain rfl : fuel = 0 := by omega
            simp [DataW.trod] at h
  | succ n ih =>
    intro H enc fuel cs x hf h hw
    obtain ⟨m, rfl, hl, hfl⟩ := yR ht h hw
    obtain ⟨y0, h0, w0⟩ := hfl 0 _ _ _ rfl
    obtain ⟨y1, h1, w1⟩ := hfl 1 _ _ _ rfl
    obtain ⟨y2, h2, w2⟩ := hfl 2 _ _ _ rfl
    obtain ⟨a, e0, i0⟩ := yQ (n := m) hi H enc m _ y0 (Nat.le_refl _) h0 w0
    obtain ⟨b, e1, i1⟩ := yQ (n := m) hi H enc m _ y1 (Nat.le_refl _) h1 w1
    obtain ⟨l, A, c, e2, hA⟩ := gC (k := kConcept) hs (by decide) hb ih H enc m _ y2 (by omega) h2 w2
    rw [glue3 (hl.trans hc) e0 e1 e2]
    exact ⟨.mk a b l, bM (x := .mk a b l) i0 i1 hA⟩
theorem qI7 {t s i : TypeId} {by_ : Nat} (hi : nX P i = true) (hs : cL P s = some (i, 1, by_)) (hb : 0 < by_) (ht : zM P t = some [(s, 0, 1), (s, 1, 1)]) (hc : P.cellsOf t = 2) : ∀ n, gE P W n t kSig := by
  intro n H enc fuel cs x hf h hw
  obtain ⟨m, rfl, hl, hfl⟩ := yR ht h hw
  obtain ⟨y0, h0, w0⟩ := hfl 0 _ _ _ rfl
  obtain ⟨y1, h1, w1⟩ := hfl 1 _ _ _ rfl
  obtain ⟨l0, A0, c0, e0, hA0⟩ := gC (k := kInt) hs (by decide) hb (yQ (n := m) hi) H enc m _ y0 (by omega) h0 w0
  obtain ⟨l1, A1, c1, e1, hA1⟩ := gC (k := kInt) hs (by decide) hb (yQ (n := m) hi) H enc m _ y1 (by omega) h1 w1
  rw [glue2 (hl.trans hc) e0 e1]
  exact ⟨⟨l0, l1⟩, A0, c0, A1, c1, rfl, hA0, hA1⟩
theorem rB {t s i : TypeId} {by_ : Nat} (hi : rY P i = true) (hs : cL P s = some (i, 1, by_)) (hb : 0 < by_) (ht : zM P t = some [(s, 0, 1), (s, 1, 1), (s, 2, 1)]) (hc : P.cellsOf t = 3) : ∀ n, gE P W n t kNames := by
  intro n H enc fuel cs x hf h hw
  obtain ⟨m, rfl, hl, hfl⟩ := yR ht h hw
  obtain ⟨y0, h0, w0⟩ := hfl 0 _ _ _ rfl
  obtain ⟨y1, h1, w1⟩ := hfl 1 _ _ _ rfl
  obtain ⟨y2, h2, w2⟩ := hfl 2 _ _ _ rfl
  obtain ⟨l0, A0, c0, e0, hA0⟩ := gC (k := kStr) hs (by decide) hb (fW (n := m) hi) H enc m _ y0 (by omega) h0 w0
  obtain ⟨l1, A1, c1, e1, hA1⟩ := gC (k := kStr) hs (by decide) hb (fW (n := m) hi) H enc m _ y1 (by omega) h1 w1
  obtain ⟨l2, A2, c2, e2, hA2⟩ := gC (k := kStr) hs (by decide) hb (fW (n := m) hi) H enc m _ y2 (by omega) h2 w2
  rw [glue3 (hl.trans hc) e0 e1 e2]
  exact ⟨⟨l0, l1, l2⟩, A0, c0, A1, c1, A2, c2, rfl, hA0, hA1, hA2⟩
theorem qD5 {t c : TypeId} (hcn : ∀ n, gE P W n c kConcept) (ht : zM P t = some [(c, 0, 3), (c, 3, 3)]) (hc : P.cellsOf t = 6) : ∀ n, gE P W n t kIncl := by
  intro n H enc fuel cs x hf h hw
  obtain ⟨m, rfl, hl, hfl⟩ := yR ht h hw
  obtain ⟨y0, h0, w0⟩ := hfl 0 _ _ _ rfl
  obtain ⟨y1, h1, w1⟩ := hfl 1 _ _ _ rfl
  obtain ⟨a, ha⟩ := hcn m H enc m _ y0 (Nat.le_refl _) h0 w0
  obtain ⟨b, hb⟩ := hcn m H enc m _ y1 (Nat.le_refl _) h1 w1
  exact ⟨⟨a, b⟩, _, _, glue6 (hl.trans hc), ha, hb⟩
theorem qD6 {t i : TypeId} (hi : nX P i = true) (ht : zM P t = some [(i, 0, 1), (i, 1, 1)]) (hc : P.cellsOf t = 2) : ∀ n, gE P W n t kRoleIncl := by
  intro n H enc fuel cs x hf h hw
  obtain ⟨m, rfl, hl, hfl⟩ := yR ht h hw
  obtain ⟨y0, h0, w0⟩ := hfl 0 _ _ _ rfl
  obtain ⟨y1, h1, w1⟩ := hfl 1 _ _ _ rfl
  obtain ⟨a, e0, i0⟩ := yQ (n := m) hi H enc m _ y0 (Nat.le_refl _) h0 w0
  obtain ⟨b, e1, i1⟩ := yQ (n := m) hi H enc m _ y1 (Nat.le_refl _) h1 w1
  rw [glue2 (hl.trans hc) e0 e1]
  exact ⟨⟨a, b⟩, rfl, i0, i1⟩
theorem qD7 {t i : TypeId} (hi : nX P i = true) (ht : zM P t = some [(i, 0, 1), (i, 1, 1), (i, 2, 1)]) (hc : P.cellsOf t = 3) : ∀ n, gE P W n t kLink := by
  intro n H enc fuel cs x hf h hw
  obtain ⟨m, rfl, hl, hfl⟩ := yR ht h hw
  obtain ⟨y0, h0, w0⟩ := hfl 0 _ _ _ rfl
  obtain ⟨y1, h1, w1⟩ := hfl 1 _ _ _ rfl
  obtain ⟨y2, h2, w2⟩ := hfl 2 _ _ _ rfl
  obtain ⟨a, e0, i0⟩ := yQ (n := m) hi H enc m _ y0 (Nat.le_refl _) h0 w0
  obtain ⟨b, e1, i1⟩ := yQ (n := m) hi H enc m _ y1 (Nat.le_refl _) h1 w1
  obtain ⟨c, e2, i2⟩ := yQ (n := m) hi H enc m _ y2 (Nat.le_refl _) h2 w2
  rw [glue3 (hl.trans hc) e0 e1 e2]
  exact ⟨⟨a, b, c⟩, rfl, i0, i1, i2⟩
theorem qD8 {t i c : TypeId} (hi : nX P i = true) (hcn : ∀ n, gE P W n c kConcept) (ht : zM P t = some [(i, 0, 1), (c, 1, 3)]) (hc : P.cellsOf t = 4) : ∀ n, gE P W n t kFact := by
  intro n H enc fuel cs x hf h hw
  obtain ⟨m, rfl, hl, hfl⟩ := yR ht h hw
  obtain ⟨y0, h0, w0⟩ := hfl 0 _ _ _ rfl
  obtain ⟨y1, h1, w1⟩ := hfl 1 _ _ _ rfl
  obtain ⟨a, e0, i0⟩ := yQ (n := m) hi H enc m _ y0 (Nat.le_refl _) h0 w0
  obtain ⟨b, hb⟩ := hcn m H enc m _ y1 (Nat.le_refl _) h1 w1
  exact ⟨⟨a, b⟩, _, glue4 (hl.trans hc) e0, i0, hb⟩
theorem qD9 {t n_ s1 s2 s3 s4 e1 e2 e3 e4 : TypeId} {b1 b2 b3 b4 : Nat} (hn : ∀ n, gE P W n n_ kNames) (h1 : ∀ n, gE P W n e1 kIncl) (h2 : ∀ n, gE P W n e2 kRoleIncl) (h3 : ∀ n, gE P W n e3 kFact) (h4 : ∀ n, gE P W n e4 kLink)
    (hs1 : cL P s1 = some (e1, 6, b1)) (hs2 : cL P s2 = some (e2, 2, b2)) (hs3 : cL P s3 = some (e3, 4, b3)) (hs4 : cL P s4 = some (e4, 3, b4)) (hb : 0 < b1 ∧ 0 < b2 ∧ 0 < b3 ∧ 0 < b4)
    (ht : zM P t = some [(n_, 0, 3), (s1, 3, 1), (s2, 4, 1), (s3, 5, 1), (s4, 6, 1)]) (hc : P.cellsOf t = 7) : ∀ n, gE P W n t kBase := by
  intro n H enc fuel cs x hf h hw
  obtain ⟨m, rfl, hl, hfl⟩ := yR ht h hw
  obtain ⟨y0, g0, w0⟩ := hfl 0 _ _ _ rfl
  obtain ⟨y1, g1, w1⟩ := hfl 1 _ _ _ rfl
  obtain ⟨y2, g2, w2⟩ := hfl 2 _ _ _ rfl
  obtain ⟨y3, g3, w3⟩ := hfl 3 _ _ _ rfl
  obtain ⟨y4, g4, w4⟩ := hfl 4 _ _ _ rfl
  obtain ⟨nm, hnm⟩ := hn m H enc m _ y0 (Nat.le_refl _) g0 w0
  obtain ⟨l1, A1, c1, q1, hA1⟩ := gC (k := kIncl) hs1 (by decide) hb.1 (h1 m) H enc m _ y1 (by omega) g1 w1
  obtain ⟨l2, A2, c2, q2, hA2⟩ := gC (k := kRoleIncl) hs2 (by decide) hb.2.1 (h2 m) H enc m _ y2 (by omega) g2 w2
  obtain ⟨l3, A3, c3, q3, hA3⟩ := gC (k := kFact) hs3 (by decide) hb.2.2.1 (h3 m) H enc m _ y3 (by omega) g3 w3
  obtain ⟨l4, A4, c4, q4, hA4⟩ := gC (k := kLink) hs4 (by decide) hb.2.2.2 (h4 m) H enc m _ y4 (by omega) g4 w4
  exact ⟨⟨nm, l1, l2, l3, l4⟩, _, A1, c1, A2, c2, A3, c3, A4, c4, glue7 (hl.trans hc) q1 q2 q3 q4, hnm, hA1, hA2, hA3, hA4⟩
end
end Go.Proofs.YtcbcdlajnmkioaaGreatDoor
