/- A part of the proof of the statement ModuleShapes of isagogelaw19: functions walked, and plain laws on what they answer. -/
import Derived.Test.YtcbcdlajnmkioaaGreatDoorF
namespace Go.Proofs.YtcbcdlajnmkioaaGreatDoor
open Go Go.Proofs
set_option linter.unusedSimpArgs false
set_option linter.unusedVariables false
theorem ca25 : Callable Tryz.prog 25 := ⟨by kernel_rfl⟩
theorem ca28 : Callable Tryz.prog 28 := ⟨by kernel_rfl⟩
theorem ca29 : Callable Tryz.prog 29 := ⟨by kernel_rfl⟩
theorem ca40 : Callable Tryz.prog 40 := ⟨by kernel_rfl⟩
theorem ca41 : Callable Tryz.prog 41 := ⟨by kernel_rfl⟩
theorem lL : kH Tryz.prog 84 0 = some 0 := by kernel_rfl
theorem lM : kH Tryz.prog 84 1 = some 1 := by kernel_rfl
theorem qI1 : kH Tryz.prog 87 0 = some 0 := by kernel_rfl
theorem cH : kH Tryz.prog 89 0 = some 0 := by kernel_rfl
theorem qI2 : kH Tryz.prog 89 1 = some 1 := by kernel_rfl
theorem qI3 : kH Tryz.prog 89 2 = some 2 := by kernel_rfl
theorem ld84 : kS Tryz.prog 84 = some (true, 2) := by kernel_rfl
theorem ld89 : kS Tryz.prog 89 = some (true, 3) := by kernel_rfl
theorem zc84 : zF Tryz.prog 84 = some [.int .i64 0, .int .i64 0] := by kernel_rfl
theorem zc89 : zF Tryz.prog 89 = some [.int .i64 0, .int .i64 0, .int .i64 0] := by kernel_rfl

def okC (n : Names) (c : Concept) : Prop := jT c ≤ 400 ∧ wT c ≤ 20 ∧ jV n c = true
instance (n : Names) (c : Concept) : Decidable (okC n c) := inferInstanceAs (Decidable (_ ∧ _ ∧ _))
def okR (n : Names) (r : Int) : Prop := 0 ≤ r ∧ r < 2 * (n.roles.length : Int)
instance (n : Names) (r : Int) : Decidable (okR n r) := inferInstanceAs (Decidable (_ ∧ _))
def okI (n : Names) (r : Int) : Prop := 0 ≤ r ∧ r < (n.inds.length : Int)
instance (n : Names) (r : Int) : Decidable (okI n r) := inferInstanceAs (Decidable (_ ∧ _))
def okL (n : Names) (x : Link) : Prop := 0 ≤ x.role ∧ x.role < (n.roles.length : Int) ∧ okI n x.frm ∧ okI n x.to
instance (n : Names) (x : Link) : Decidable (okL n x) := inferInstanceAs (Decidable (_ ∧ _ ∧ _ ∧ _))
structure BaseOk (b : Base) : Prop where
  names : wH b.names = true
  count : xX b ≤ 60
  concepts : ∀ c ∈ xN b, okC b.names c
  roles : ∀ x ∈ b.roles, okR b.names x.sub ∧ okR b.names x.sup
  facts : ∀ x ∈ b.facts, okI b.names x.ind
  links : ∀ x ∈ b.links, okL b.names x
  nodes : jH (xN b) ≤ 400
theorem qD1 (b : Base) : BaseOk b ↔ (wH b.names = true ∧ xX b ≤ 60 ∧ (∀ c ∈ xN b, okC b.names c) ∧ (∀ x ∈ b.roles, okR b.names x.sub ∧ okR b.names x.sup) ∧ (∀ x ∈ b.facts, okI b.names x.ind) ∧ (∀ x ∈ b.links, okL b.names x) ∧ jH (xN b) ≤ 400) :=
  ⟨fun h => ⟨h.1, h.2, h.3, h.4, h.5, h.6, h.7⟩, fun h => ⟨h.1, h.2.1, h.2.2.1, h.2.2.2.1, h.2.2.2.2.1, h.2.2.2.2.2.1, h.2.2.2.2.2.2⟩⟩
instance (b : Base) : Decidable (BaseOk b) := decidable_of_iff _ (qD1 b).symm
def vK (b : Base) : Bool := decide (BaseOk b)

set_option maxRecDepth 20000 in
set_option maxHeartbeats 8000000 in
theorem sL {R : RO} {G : List Res} {w : World} {c_b : List Value} (b : Base) (hr_b : kBase.rep R b c_b) (hw : Own w R (G)) :
    Calls Tryz.prog 10 [.agg c_b.toArray].toArray w (kK R G (.bool (vK b))) := by
 obtain ⟨c1, A3, d4, A6, d7, A9, d10, A12, d13, rfl, hr2, hs5, hs8, hs11, hs14⟩ := id hr_b
 have z27 := hs5.size
 unfold big at z27
 have z28 := hs8.size
 unfold big at z28
 have z29 := hs11.size
 unfold big at z29
 have z30 := hs14.size
 unfold big at z30
 obtain ⟨A15, d16, A19, d20, A23, d24, rfl, hs17, hs21, hs25⟩ := id hr2
 have z18 := hs17.size
 unfold big at z18
 have z22 := hs21.size
 unfold big at z22
 have z26 := hs25.size
 unfold big at z26
 refine xG (vs := [.agg #[.slice A15 b.names.concepts.length d16, .slice A19 b.names.roles.length d20, .slice A23 b.names.inds.length d24, .slice A3 b.incls.length d4, .slice A6 b.roles.length d7, .slice A9 b.facts.length d10, .slice A12 b.links.length d13]]) Tryz.func10 rfl rfl rfl ?_ hw
 refine qF <| qA ?_
 refine qX (l := [.slice A15 b.names.concepts.length d16, .slice A19 b.names.roles.length d20, .slice A23 b.names.inds.length d24, .slice A3 b.incls.length d4, .slice A6 b.roles.length d7, .slice A9 b.facts.length d10, .slice A12 b.links.length d13]) rfl rfl fun b31 => ?_
 refine tl (qD rfl) ?_
 refine qB <| qC <| qF ?_
 refine kN [(0, .agg #[.slice A15 b.names.concepts.length d16, .slice A19 b.names.roles.length d20, .slice A23 b.names.inds.length d24, .slice A3 b.incls.length d4, .slice A6 b.roles.length d7, .slice A9 b.facts.length d10, .slice A12 b.links.length d13]), (1, .pointer (some ⟨b31, 0, none⟩)), (2, .bool false), (22, .bool (decide (((!(wH b.names)) = true) ∨ (60 < (xX b : Int)))))] (.blk b31 [.slice A15 b.names.concepts.length d16, .slice A19 b.names.roles.length d20, .slice A23 b.names.inds.length d24, .slice A3 b.incls.length d4, .slice A6 b.roles.length d7, .slice A9 b.facts.length d10, .slice A12 b.links.length d13] 30 :: G) (fun _ => True) (fun K hK32 hE33 => ?_) ?_
 refine qA ?_
 refine tl (qH 0 rfl yN rfl) ?_
 refine tl (qQ 0 [.slice A15 b.names.concepts.length d16, .slice A19 b.names.roles.length d20, .slice A23 b.names.inds.length d24] rfl uR rfl rfl) ?_
 refine qY ca28 rfl (fun w hw => gP b.names hr2 hw) rfl ?_
 refine tl (wB rfl) ?_
 refine tl (qG rfl) ?_
 refine kB 18 rfl (fun h34 => ?_) (fun h34 => ?_)
 refine qE 18 rfl rfl rfl ?_
 refine qE 18 rfl rfl rfl ?_
 refine qE 18 rfl rfl rfl ?_
 refine tl (qP rfl rfl) ?_
 refine qB ?_
 exact xK hK32 (.refl _) (trivial) ⟨rfl, rfl, rfl, show some (Value.bool true) = some (Value.bool (decide (((!(wH b.names)) = true) ∨ (60 < (xX b : Int))))) by first | (simp [h34]; done) | grind | (simp [h34] <;> omega), trivial⟩ (fun w hw => hw)
 refine qJ 18 rfl rfl ?_
 refine tl (qQ 0 [.slice A15 b.names.concepts.length d16, .slice A19 b.names.roles.length d20, .slice A23 b.names.inds.length d24, .slice A3 b.incls.length d4, .slice A6 b.roles.length d7, .slice A9 b.facts.length d10, .slice A12 b.links.length d13] rfl sZ rfl rfl) ?_
 refine qJ 18 rfl rfl ?_
 refine qY ca25 rfl (fun w hw => yI b hr_b hw) rfl ?_
 refine qJ 18 rfl rfl ?_
 refine tl (jQ rfl rfl rfl) ?_
 refine tl (qN rfl rfl) ?_
 refine qB ?_
 exact xK hK32 (.refl _) (trivial) ⟨rfl, rfl, rfl, show some (Value.bool (decide (60 < (xX b : Int)))) = some (Value.bool (decide (((!(wH b.names)) = true) ∨ (60 < (xX b : Int))))) by first | (simp [h34]; done) | grind | (simp [h34] <;> omega), trivial⟩ (fun w hw => hw)
 refine fun R36 hle37 hj35 => jC hle37 ?_
 refine qR 22 rfl (fun h38 => ?_) (fun h38 => ?_)
 refine xD rfl ?_
 refine qF <| qA ?_
 refine tl (qD rfl) ?_
 refine qB <| qC <| qV <| qI ?_
 refine xC (.inl rfl) rfl rfl ?_
 have e39 : (false : Bool) = vK b := by (rw [eq_comm]; unfold vK; rw [decide_eq_false_iff_not]; intro h_; have h1_ := h_.names; have h2_ := h_.count; grind)
 exact fun w hw => ⟨congrArg Ending.returned (congrArg (fun x0 => Value.bool x0) e39), hw.drop 1⟩
 refine xW rfl ?_
 refine xA <| qC <| qF <| qA ?_
 refine tl (qD rfl) ?_
 refine qB <| qC <| qF <| qF <| qA ?_
 refine tl (qQ 0 [.slice A15 b.names.concepts.length d16, .slice A19 b.names.roles.length d20, .slice A23 b.names.inds.length d24, .slice A3 b.incls.length d4, .slice A6 b.roles.length d7, .slice A9 b.facts.length d10, .slice A12 b.links.length d13] rfl sZ rfl rfl) ?_
 refine xE ca38 rfl (fun w hw => zT b hr_b (by (have h_ : xX b ≤ 60 := (by omega)); unfold xX at h_; omega) hw) rfl ?_
 rintro _ R41 _ hle42 ⟨A_z40_0, d_z40_0, rfl, rfl, hs_z40_0⟩
 try replace hr2 := kNames.mono _ _ _ _ hle42 hr2
 try replace hs8 := hs8.mono hle42
 try replace hs11 := hs11.mono hle42
 try replace hs14 := hs14.mono hle42
 have z43 := hs_z40_0.size
 unfold big at z43
 have hf44 := pA b
 refine tl (jM rfl pZ) ?_
 refine tl (qG rfl) ?_
 refine qB <| qC <| xB ?_
 refine jL ?_
 refine jS (fun i : Nat => (xN b).length - i) (fun i : Nat => [(1, .pointer (some ⟨b31, 0, none⟩)), (24, .slice A_z40_0 ((xN b).length) d_z40_0), (25, .int .i64 ((xN b).length : Int)), (26, .int .i64 (i : Int)), (3, .int .i64 ((jH ((xN b).take i) : Nat) : Int))]) (fun i : Nat => (.blk b31 [.slice A15 b.names.concepts.length d16, .slice A19 b.names.roles.length d20, .slice A23 b.names.inds.length d24, .slice A3 b.incls.length d4, .slice A6 b.roles.length d7, .slice A9 b.facts.length d10, .slice A12 b.links.length d13] 30 :: G)) (fun (i : Nat) => i ≤ (xN b).length ∧ jH ((xN b).take i) ≤ i * 400 ∧ ∀ c ∈ (xN b).take i, okC b.names c) (0) ⟨rfl, rfl, rfl, rfl, congrArg (fun z => some (Value.int .i64 z)) (show (0 : Int) = ((jH ((xN b).take 0) : Nat) : Int) by first | rfl | omega | (simp; done) | (simp; omega)), trivial⟩ (by exact ⟨by omega, by simp [jH], by simp⟩) (fun w hw => hw) ?_
 rintro i hI45 ih46
 show TC Tryz.prog _ _ _ [] [(1, .pointer (some ⟨b31, 0, none⟩)), (24, .slice A_z40_0 ((xN b).length) d_z40_0), (25, .int .i64 ((xN b).length : Int)), (26, .int .i64 (i : Int)), (3, .int .i64 ((jH ((xN b).take i) : Nat) : Int))] R41 (.blk b31 [.slice A15 b.names.concepts.length d16, .slice A19 b.names.roles.length d20, .slice A23 b.names.inds.length d24, .slice A3 b.incls.length d4, .slice A6 b.roles.length d7, .slice A9 b.facts.length d10, .slice A12 b.links.length d13] 30 :: G)
 obtain ⟨hi1, hi2, hi3⟩ := hI45
 have hc_ := pA b
 have hx_ : xX b ≤ 60 := by omega
 unfold xX at hx_
 refine qF <| qA ?_
 refine tl (jQ rfl rfl rfl) ?_
 refine qB <| qC <| qF ?_
 refine qR 27 rfl (fun h49 => ?_) (fun h49 => ?_)
 refine xD rfl ?_
 refine xA <| qC <| qF <| xB <| qF <| qA ?_
 have hb55 : i < (xN b).length := by omega
 obtain ⟨x50, hx51⟩ : ∃ x, (xN b)[i]? = some x := ⟨_, List.getElem?_eq_getElem hb55⟩
 obtain ⟨c52, hr53, ha54⟩ := hs_z40_0.get _ x50 hx51
 obtain ⟨A56, d57, rfl, i58, i59, hs60⟩ := qM hr53
 unfold i64 at i58 i59
 have z61 := hs60.size
 unfold big at z61
 have hf62 := pH hx51
 refine tl (kC (i := i) hs_z40_0 rfl rfl rfl pZ hb55) ?_
 refine tl (jD 0 [.int .i64 x50.op, .int .i64 x50.n, .slice A56 x50.args.length d57] ha54 rfl vS rfl rfl) ?_
 refine qT fD rfl fun b63 => ?_
 refine xM 0 [.int .i64 x50.op, .int .i64 x50.n, .slice A56 x50.args.length d57] rfl rfl vS rfl rfl rfl rfl rfl rfl ?_
 refine qB <| qC <| qF <| qF <| qA ?_
 refine tl (qH 0 rfl yN rfl) ?_
 refine tl (qQ 1 [.slice A15 b.names.concepts.length d16, .slice A19 b.names.roles.length d20, .slice A23 b.names.inds.length d24] rfl uR rfl rfl) ?_
 refine tl (qQ 0 [.int .i64 x50.op, .int .i64 x50.n, .slice A56 x50.args.length d57] rfl vS rfl rfl) ?_
 refine qY ca29 rfl (fun w hw => sG b.names x50 hr2 hr53 hw) rfl ?_
 refine tl (wK rfl) ?_
 refine qB <| qC ?_
 refine qR 34 rfl (fun h64 => ?_) (fun h64 => ?_)
 refine xD rfl ?_
 refine qF <| qA ?_
 refine tl (qD rfl) ?_
 refine qB <| qC <| qV <| qI <| qO <| qI <| qI <| qO <| qI ?_
 refine xC (.inl rfl) rfl rfl ?_
 have e65 : (false : Bool) = vK b := by (rw [eq_comm]; unfold vK; rw [decide_eq_false_iff_not]; intro h_; have h1_ := h_.concepts _ (List.mem_of_getElem? hx51); unfold okC at h1_; grind)
 exact fun w hw => ⟨congrArg Ending.returned (congrArg (fun x0 => Value.bool x0) e65), (hw.drop 2).weaken hle42⟩
 refine xW rfl ?_
 refine xA <| qC <| qF <| qA ?_
 refine tl (qQ 0 [.int .i64 x50.op, .int .i64 x50.n, .slice A56 x50.args.length d57] rfl vS rfl rfl) ?_
 refine qY ca39 rfl (fun w hw => zB x50 hr53 (by grind) hw) rfl ?_
 refine tl (qG rfl) ?_
 refine tl (jE rfl rfl) ?_
 refine tl (jE rfl rfl) ?_
 refine tl (qD rfl) ?_
 refine tl (qD rfl) ?_
 refine qB <| qC <| qA ?_
 refine tl (qG rfl) ?_
 refine tl (qG rfl) ?_
 refine tl (kF rfl rfl (by omega) (by omega)) ?_
 refine tl (qD rfl) ?_
 refine qB <| jG <| qC <| qA ?_
 refine tl (kF rfl rfl (by omega) (by omega)) ?_
 refine tl (qG rfl) ?_
 refine qB ?_
 refine xY ?_
 exact fun a w ha hw => ih46.out (i + 1) (by exact ⟨by omega, by grind, vV hi3 hx51 (by unfold okC; grind)⟩) (by (try dsimp only); omega) a w (ha.sub (xS ⟨rfl, rfl, rfl, rfl, congrArg (fun z => some (Value.int .i64 z)) (show (((jH ((xN b).take i) : Nat) : Int) + (jT x50 : Int) : Int) = ((jH ((xN b).take (i + 1)) : Nat) : Int) by first | rfl | omega), trivial⟩)) (hw.drop 1)
 refine xW rfl ?_
 refine jK <| qL <| qL <| xI <| qC <| qF <| qF <| qA ?_
 refine tl (qH 4 rfl zJ rfl) ?_
 refine tl (jN 0 rfl iV rfl rfl) ?_
 refine tl (jM rfl fR) ?_
 refine tl (qG rfl) ?_
 refine qB <| qC <| xB ?_
 refine jL ?_
 refine jS (fun j : Nat => b.roles.length - j) (fun j : Nat => [(1, .pointer (some ⟨b31, 0, none⟩)), (3, .int .i64 ((jH ((xN b).take i) : Nat) : Int)), (45, .slice A6 b.roles.length d7), (46, .int .i64 (b.roles.length : Int)), (47, .int .i64 (j : Int))]) (fun j : Nat => (.blk b31 [.slice A15 b.names.concepts.length d16, .slice A19 b.names.roles.length d20, .slice A23 b.names.inds.length d24, .slice A3 b.incls.length d4, .slice A6 b.roles.length d7, .slice A9 b.facts.length d10, .slice A12 b.links.length d13] 30 :: G)) (fun (j : Nat) => j ≤ b.roles.length ∧ ∀ x ∈ b.roles.take j, okR b.names x.sub ∧ okR b.names x.sup) (0) (by repeat' constructor) (by exact ⟨by omega, by simp⟩) (fun w hw => hw) ?_
 rintro j hI66 ih67
 show TC Tryz.prog _ _ _ [] [(1, .pointer (some ⟨b31, 0, none⟩)), (3, .int .i64 ((jH ((xN b).take i) : Nat) : Int)), (45, .slice A6 b.roles.length d7), (46, .int .i64 (b.roles.length : Int)), (47, .int .i64 (j : Int))] R41 (.blk b31 [.slice A15 b.names.concepts.length d16, .slice A19 b.names.roles.length d20, .slice A23 b.names.inds.length d24, .slice A3 b.incls.length d4, .slice A6 b.roles.length d7, .slice A9 b.facts.length d10, .slice A12 b.links.length d13] 30 :: G)
 obtain ⟨hj1, hj2⟩ := hI66
 refine qF <| qA ?_
 refine tl (jQ rfl rfl rfl) ?_
 refine qB <| qC <| qF ?_
 refine qR 48 rfl (fun h70 => ?_) (fun h70 => ?_)
 refine xD rfl ?_
 refine xA <| qC <| qF <| xB <| qF <| qA ?_
 have hb76 : j < b.roles.length := by omega
 obtain ⟨x71, hx72⟩ : ∃ x, b.roles[j]? = some x := ⟨_, List.getElem?_eq_getElem hb76⟩
 obtain ⟨c73, hr74, ha75⟩ := hs8.get _ x71 hx72
 obtain ⟨rfl, i77, i78⟩ := id hr74
 unfold i64 at i77
 unfold i64 at i78
 refine tl (kC (i := j) hs8 rfl rfl rfl fR hb76) ?_
 refine tl (jD 0 [.int .i64 x71.sub, .int .i64 x71.sup] ha75 rfl ld84 rfl rfl) ?_
 refine qT zc84 rfl fun b79 => ?_
 refine xM 0 [.int .i64 x71.sub, .int .i64 x71.sup] rfl rfl ld84 rfl rfl rfl rfl rfl rfl ?_
 refine qB <| qC ?_
 refine kN [(1, .pointer (some ⟨b31, 0, none⟩)), (3, .int .i64 ((jH ((xN b).take i) : Nat) : Int)), (45, .slice A6 b.roles.length d7), (46, .int .i64 (b.roles.length : Int)), (47, .int .i64 (j : Int)), (48, .bool true), (9, .pointer (some ⟨b79, 0, none⟩)), (64, .bool (decide ((¬ (0 ≤ x71.sub ∧ x71.sub < 2 * (b.names.roles.length : Int))) ∨ (¬ (0 ≤ x71.sup ∧ x71.sup < 2 * (b.names.roles.length : Int))))))] (.blk b79 [.int .i64 x71.sub, .int .i64 x71.sup] 84 :: .blk b31 [.slice A15 b.names.concepts.length d16, .slice A19 b.names.roles.length d20, .slice A23 b.names.inds.length d24, .slice A3 b.incls.length d4, .slice A6 b.roles.length d7, .slice A9 b.facts.length d10, .slice A12 b.links.length d13] 30 :: G) (fun _ => True) (fun K hK80 hE81 => ?_) ?_
 refine qA ?_
 refine tl (qH 0 rfl yN rfl) ?_
 refine tl (qQ 1 [.slice A15 b.names.concepts.length d16, .slice A19 b.names.roles.length d20, .slice A23 b.names.inds.length d24] rfl uR rfl rfl) ?_
 refine tl (qH 0 rfl lL rfl) ?_
 refine tl (jN 0 rfl ld3 rfl rfl) ?_
 refine qY ca40 rfl (fun w hw => hC b.names x71.sub hr2 (by unfold i64; omega) hw) rfl ?_
 refine tl (wK rfl) ?_
 refine tl (qG rfl) ?_
 refine xR 57 rfl (fun h82 => ?_) (fun h82 => ?_)
 refine qE 57 rfl rfl rfl ?_
 refine qE 57 rfl rfl rfl ?_
 refine qE 57 rfl rfl rfl ?_
 refine qE 57 rfl rfl rfl ?_
 refine qE 57 rfl rfl rfl ?_
 refine qE 57 rfl rfl rfl ?_
 refine tl (qP rfl rfl) ?_
 refine qB ?_
 exact xK hK80 (.refl _) (trivial) ⟨rfl, rfl, rfl, rfl, rfl, rfl, rfl, show some (Value.bool true) = some (Value.bool (decide ((¬ (0 ≤ x71.sub ∧ x71.sub < 2 * (b.names.roles.length : Int))) ∨ (¬ (0 ≤ x71.sup ∧ x71.sup < 2 * (b.names.roles.length : Int)))))) by first | (simp [h82]; done) | grind | (simp [h82] <;> omega), trivial⟩ (fun w hw => hw)
 refine qJ 57 rfl rfl ?_
 refine tl (qH 0 rfl yN rfl) ?_
 refine qJ 57 rfl rfl ?_
 refine tl (qQ 1 [.slice A15 b.names.concepts.length d16, .slice A19 b.names.roles.length d20, .slice A23 b.names.inds.length d24] rfl uR rfl rfl) ?_
 refine qJ 57 rfl rfl ?_
 refine tl (qH 1 rfl lM rfl) ?_
 refine qJ 57 rfl rfl ?_
 refine tl (jN 0 rfl ld3 rfl rfl) ?_
 refine qJ 57 rfl rfl ?_
 refine qY ca40 rfl (fun w hw => hC b.names x71.sup hr2 (by unfold i64; omega) hw) rfl ?_
 refine qJ 57 rfl rfl ?_
 refine tl (wK rfl) ?_
 refine tl (qN rfl rfl) ?_
 refine qB ?_
 exact xK hK80 (.refl _) (trivial) ⟨rfl, rfl, rfl, rfl, rfl, rfl, rfl, show some (Value.bool (decide (¬ (0 ≤ x71.sup ∧ x71.sup < 2 * (b.names.roles.length : Int))))) = some (Value.bool (decide ((¬ (0 ≤ x71.sub ∧ x71.sub < 2 * (b.names.roles.length : Int))) ∨ (¬ (0 ≤ x71.sup ∧ x71.sup < 2 * (b.names.roles.length : Int)))))) by first | (simp [h82]; done) | grind | (simp [h82] <;> omega), trivial⟩ (fun w hw => hw)
 refine fun R84 hle85 hj83 => jC hle85 ?_
 refine qR 64 rfl (fun h86 => ?_) (fun h86 => ?_)
 refine xD rfl ?_
 refine qF <| qA ?_
 refine tl (qD rfl) ?_
 refine qB <| qC <| qV <| qO <| qI <| qI <| qO <| qI ?_
 refine xC (.inl rfl) rfl rfl ?_
 have e87 : (false : Bool) = vK b := by (rw [eq_comm]; unfold vK; rw [decide_eq_false_iff_not]; intro h_; have h1_ := h_.roles _ (List.mem_of_getElem? hx72); unfold okR at h1_; grind)
 exact fun w hw => ⟨congrArg Ending.returned (congrArg (fun x0 => Value.bool x0) e87), (hw.drop 2).weaken hle42⟩
 refine xW rfl ?_
 refine xA <| jG <| qC <| qA ?_
 refine tl (kF rfl rfl (by omega) (by omega)) ?_
 refine tl (qG rfl) ?_
 refine qB ?_
 refine xY ?_
 exact fun a w ha hw => ih67.out (j + 1) (by exact ⟨by omega, vV hj2 hx72 (by unfold okR; grind)⟩) (by (try dsimp only); omega) a w (ha.sub (xS ⟨rfl, rfl, rfl, rfl, congrArg (fun z => some (Value.int .i64 z)) (show ((j : Int) + 1 : Int) = ((j + 1) : Int) by first | rfl | omega), trivial⟩)) (hw.drop 1)
 refine xW rfl ?_
 refine jK <| qL <| qL <| xI <| qC <| qF <| qF <| qA ?_
 refine tl (qH 5 rfl gA rfl) ?_
 refine tl (jN 0 rfl mG rfl rfl) ?_
 refine tl (jM rfl iQ) ?_
 refine tl (qG rfl) ?_
 refine qB <| qC <| xB ?_
 refine jL ?_
 refine jS (fun k : Nat => b.facts.length - k) (fun k : Nat => [(1, .pointer (some ⟨b31, 0, none⟩)), (3, .int .i64 ((jH ((xN b).take i) : Nat) : Int)), (67, .slice A9 b.facts.length d10), (68, .int .i64 (b.facts.length : Int)), (69, .int .i64 (k : Int))]) (fun k : Nat => (.blk b31 [.slice A15 b.names.concepts.length d16, .slice A19 b.names.roles.length d20, .slice A23 b.names.inds.length d24, .slice A3 b.incls.length d4, .slice A6 b.roles.length d7, .slice A9 b.facts.length d10, .slice A12 b.links.length d13] 30 :: G)) (fun (k : Nat) => k ≤ b.facts.length ∧ ∀ x ∈ b.facts.take k, okI b.names x.ind) (0) (by repeat' constructor) (by exact ⟨by omega, by simp⟩) (fun w hw => hw) ?_
 rintro k hI88 ih89
 show TC Tryz.prog _ _ _ [] [(1, .pointer (some ⟨b31, 0, none⟩)), (3, .int .i64 ((jH ((xN b).take i) : Nat) : Int)), (67, .slice A9 b.facts.length d10), (68, .int .i64 (b.facts.length : Int)), (69, .int .i64 (k : Int))] R41 (.blk b31 [.slice A15 b.names.concepts.length d16, .slice A19 b.names.roles.length d20, .slice A23 b.names.inds.length d24, .slice A3 b.incls.length d4, .slice A6 b.roles.length d7, .slice A9 b.facts.length d10, .slice A12 b.links.length d13] 30 :: G)
 obtain ⟨hk1, hk2⟩ := hI88
 refine qF <| qA ?_
 refine tl (jQ rfl rfl rfl) ?_
 refine qB <| qC <| qF ?_
 refine qR 70 rfl (fun h92 => ?_) (fun h92 => ?_)
 refine xD rfl ?_
 refine xA <| qC <| qF <| xB <| qF <| qA ?_
 have hb98 : k < b.facts.length := by omega
 obtain ⟨x93, hx94⟩ : ∃ x, b.facts[k]? = some x := ⟨_, List.getElem?_eq_getElem hb98⟩
 obtain ⟨c95, hr96, ha97⟩ := hs11.get _ x93 hx94
 obtain ⟨c99, rfl, i100, hr101⟩ := id hr96
 unfold i64 at i100
 obtain ⟨A102, d103, rfl, i104, i105, hs106⟩ := qM hr101
 unfold i64 at i104 i105
 have z107 := hs106.size
 unfold big at z107
 refine tl (kC (i := k) hs11 rfl rfl rfl iQ hb98) ?_
 refine tl (jD 0 [.int .i64 x93.ind, .int .i64 x93.con.op, .int .i64 x93.con.n, .slice A102 x93.con.args.length d103] ha97 rfl qH9 rfl rfl) ?_
 refine qT zc87 rfl fun b108 => ?_
 refine xM 0 [.int .i64 x93.ind, .int .i64 x93.con.op, .int .i64 x93.con.n, .slice A102 x93.con.args.length d103] rfl rfl qH9 rfl rfl rfl rfl rfl rfl ?_
 refine qB <| qC <| qF <| qA ?_
 refine tl (qH 0 rfl yN rfl) ?_
 refine tl (qQ 1 [.slice A15 b.names.concepts.length d16, .slice A19 b.names.roles.length d20, .slice A23 b.names.inds.length d24] rfl uR rfl rfl) ?_
 refine tl (qH 0 rfl qI1 rfl) ?_
 refine tl (jN 0 rfl ld3 rfl rfl) ?_
 refine qY ca41 rfl (fun w hw => zP b.names x93.ind hr2 (by unfold i64; omega) hw) rfl ?_
 refine tl (wK rfl) ?_
 refine qB <| qC ?_
 refine qR 78 rfl (fun h109 => ?_) (fun h109 => ?_)
 refine xD rfl ?_
 refine qF <| qA ?_
 refine tl (qD rfl) ?_
 refine qB <| qC <| qV <| qO <| qI <| qI <| qO <| qI ?_
 refine xC (.inl rfl) rfl rfl ?_
 have e110 : (false : Bool) = vK b := by (rw [eq_comm]; unfold vK; rw [decide_eq_false_iff_not]; intro h_; have h1_ := h_.facts _ (List.mem_of_getElem? hx94); unfold okI at h1_; grind)
 exact fun w hw => ⟨congrArg Ending.returned (congrArg (fun x0 => Value.bool x0) e110), (hw.drop 2).weaken hle42⟩
 refine xW rfl ?_
 refine xA <| jG <| qC <| qA ?_
 refine tl (kF rfl rfl (by omega) (by omega)) ?_
 refine tl (qG rfl) ?_
 refine qB ?_
 refine xY ?_
 exact fun a w ha hw => ih89.out (k + 1) (by exact ⟨by omega, vV hk2 hx94 (by unfold okI; grind)⟩) (by (try dsimp only); omega) a w (ha.sub (xS ⟨rfl, rfl, rfl, rfl, congrArg (fun z => some (Value.int .i64 z)) (show ((k : Int) + 1 : Int) = ((k + 1) : Int) by first | rfl | omega), trivial⟩)) (hw.drop 1)
 refine xW rfl ?_
 refine jK <| qL <| qL <| xI <| qC <| qF <| qF <| qA ?_
 refine tl (qH 6 rfl uF rfl) ?_
 refine tl (jN 0 rfl qF7 rfl rfl) ?_
 refine tl (jM rfl rW) ?_
 refine tl (qG rfl) ?_
 refine qB <| qC <| xB ?_
 refine jL ?_
 refine jS (fun q : Nat => b.links.length - q) (fun q : Nat => [(1, .pointer (some ⟨b31, 0, none⟩)), (3, .int .i64 ((jH ((xN b).take i) : Nat) : Int)), (81, .slice A12 b.links.length d13), (82, .int .i64 (b.links.length : Int)), (83, .int .i64 (q : Int))]) (fun q : Nat => (.blk b31 [.slice A15 b.names.concepts.length d16, .slice A19 b.names.roles.length d20, .slice A23 b.names.inds.length d24, .slice A3 b.incls.length d4, .slice A6 b.roles.length d7, .slice A9 b.facts.length d10, .slice A12 b.links.length d13] 30 :: G)) (fun (q : Nat) => q ≤ b.links.length ∧ ∀ x ∈ b.links.take q, okL b.names x) (0) (by repeat' constructor) (by exact ⟨by omega, by simp⟩) (fun w hw => hw) ?_
 rintro q hI111 ih112
 show TC Tryz.prog _ _ _ [] [(1, .pointer (some ⟨b31, 0, none⟩)), (3, .int .i64 ((jH ((xN b).take i) : Nat) : Int)), (81, .slice A12 b.links.length d13), (82, .int .i64 (b.links.length : Int)), (83, .int .i64 (q : Int))] R41 (.blk b31 [.slice A15 b.names.concepts.length d16, .slice A19 b.names.roles.length d20, .slice A23 b.names.inds.length d24, .slice A3 b.incls.length d4, .slice A6 b.roles.length d7, .slice A9 b.facts.length d10, .slice A12 b.links.length d13] 30 :: G)
 obtain ⟨hq1, hq2⟩ := hI111
 refine qF <| qA ?_
 refine tl (jQ rfl rfl rfl) ?_
 refine qB <| qC <| qF ?_
 refine qR 84 rfl (fun h115 => ?_) (fun h115 => ?_)
 refine xD rfl ?_
 refine xA <| qC <| qF <| xB <| qF <| qA ?_
 have hb121 : q < b.links.length := by omega
 obtain ⟨x116, hx117⟩ : ∃ x, b.links[q]? = some x := ⟨_, List.getElem?_eq_getElem hb121⟩
 obtain ⟨c118, hr119, ha120⟩ := hs14.get _ x116 hx117
 obtain ⟨rfl, i122, i123, i124⟩ := id hr119
 unfold i64 at i122
 unfold i64 at i123
 unfold i64 at i124
 refine tl (kC (i := q) hs14 rfl rfl rfl rW hb121) ?_
 refine tl (jD 0 [.int .i64 x116.role, .int .i64 x116.frm, .int .i64 x116.to] ha120 rfl ld89 rfl rfl) ?_
 refine qT zc89 rfl fun b125 => ?_
 refine xM 0 [.int .i64 x116.role, .int .i64 x116.frm, .int .i64 x116.to] rfl rfl ld89 rfl rfl rfl rfl rfl rfl ?_
 refine qB <| qC ?_
 refine kN [(1, .pointer (some ⟨b31, 0, none⟩)), (3, .int .i64 ((jH ((xN b).take i) : Nat) : Int)), (81, .slice A12 b.links.length d13), (82, .int .i64 (b.links.length : Int)), (83, .int .i64 (q : Int)), (84, .bool true), (13, .pointer (some ⟨b125, 0, none⟩)), (114, .bool (decide ((((x116.role < 0) ∨ ((b.names.roles.length : Int) ≤ x116.role)) ∨ (¬ (0 ≤ x116.frm ∧ x116.frm < (b.names.inds.length : Int)))) ∨ (¬ (0 ≤ x116.to ∧ x116.to < (b.names.inds.length : Int))))))] (.blk b125 [.int .i64 x116.role, .int .i64 x116.frm, .int .i64 x116.to] 89 :: .blk b31 [.slice A15 b.names.concepts.length d16, .slice A19 b.names.roles.length d20, .slice A23 b.names.inds.length d24, .slice A3 b.incls.length d4, .slice A6 b.roles.length d7, .slice A9 b.facts.length d10, .slice A12 b.links.length d13] 30 :: G) (fun _ => True) (fun K hK126 hE127 => ?_) ?_
 refine qA ?_
 refine tl (qH 0 rfl cH rfl) ?_
 refine tl (jN 0 rfl ld3 rfl rfl) ?_
 refine tl (jQ rfl rfl rfl) ?_
 refine tl (qG rfl) ?_
 refine xR 90 rfl (fun h128 => ?_) (fun h128 => ?_)
 refine qE 90 rfl rfl rfl ?_
 refine qE 90 rfl rfl rfl ?_
 refine qE 90 rfl rfl rfl ?_
 refine qE 90 rfl rfl rfl ?_
 refine qE 90 rfl rfl rfl ?_
 refine qE 90 rfl rfl rfl ?_
 refine qE 90 rfl rfl rfl ?_
 refine tl (qP rfl rfl) ?_
 refine tl (qG rfl) ?_
 refine qE 99 rfl rfl rfl ?_
 refine qE 99 rfl rfl rfl ?_
 refine qE 99 rfl rfl rfl ?_
 refine qE 99 rfl rfl rfl ?_
 refine qE 99 rfl rfl rfl ?_
 refine qE 99 rfl rfl rfl ?_
 refine tl (qP rfl rfl) ?_
 refine tl (qG rfl) ?_
 refine qE 107 rfl rfl rfl ?_
 refine qE 107 rfl rfl rfl ?_
 refine qE 107 rfl rfl rfl ?_
 refine qE 107 rfl rfl rfl ?_
 refine qE 107 rfl rfl rfl ?_
 refine qE 107 rfl rfl rfl ?_
 refine tl (qP rfl rfl) ?_
 refine qB ?_
 exact xK hK126 (.refl _) (trivial) ⟨rfl, rfl, rfl, rfl, rfl, rfl, rfl, show some (Value.bool true) = some (Value.bool (decide ((((x116.role < 0) ∨ ((b.names.roles.length : Int) ≤ x116.role)) ∨ (¬ (0 ≤ x116.frm ∧ x116.frm < (b.names.inds.length : Int)))) ∨ (¬ (0 ≤ x116.to ∧ x116.to < (b.names.inds.length : Int)))))) by first | (simp [h128]; done) | grind | (simp [h128] <;> omega), trivial⟩ (fun w hw => hw)
 refine qJ 90 rfl rfl ?_
 refine tl (qH 0 rfl cH rfl) ?_
 refine qJ 90 rfl rfl ?_
 refine tl (jN 0 rfl ld3 rfl rfl) ?_
 refine qJ 90 rfl rfl ?_
 refine tl (qH 0 rfl yN rfl) ?_
 refine qJ 90 rfl rfl ?_
 refine tl (qH 1 rfl pG rfl) ?_
 refine qJ 90 rfl rfl ?_
 refine tl (jN 1 rfl uJ rfl rfl) ?_
 refine qJ 90 rfl rfl ?_
 refine tl (jM rfl uE) ?_
 refine qJ 90 rfl rfl ?_
 refine tl (jQ rfl rfl rfl) ?_
 refine tl (qN rfl rfl) ?_
 refine tl (qG rfl) ?_
 refine xR 99 rfl (fun h129 => ?_) (fun h129 => ?_)
 refine qE 99 rfl rfl rfl ?_
 refine qE 99 rfl rfl rfl ?_
 refine qE 99 rfl rfl rfl ?_
 refine qE 99 rfl rfl rfl ?_
 refine qE 99 rfl rfl rfl ?_
 refine qE 99 rfl rfl rfl ?_
 refine tl (qP rfl rfl) ?_
 refine tl (qG rfl) ?_
 refine qE 107 rfl rfl rfl ?_
 refine qE 107 rfl rfl rfl ?_
 refine qE 107 rfl rfl rfl ?_
 refine qE 107 rfl rfl rfl ?_
 refine qE 107 rfl rfl rfl ?_
 refine qE 107 rfl rfl rfl ?_
 refine tl (qP rfl rfl) ?_
 refine qB ?_
 exact xK hK126 (.refl _) (trivial) ⟨rfl, rfl, rfl, rfl, rfl, rfl, rfl, show some (Value.bool true) = some (Value.bool (decide ((((x116.role < 0) ∨ ((b.names.roles.length : Int) ≤ x116.role)) ∨ (¬ (0 ≤ x116.frm ∧ x116.frm < (b.names.inds.length : Int)))) ∨ (¬ (0 ≤ x116.to ∧ x116.to < (b.names.inds.length : Int)))))) by first | (simp [h128, h129]; done) | grind | (simp [h128, h129] <;> omega), trivial⟩ (fun w hw => hw)
 refine qJ 99 rfl rfl ?_
 refine tl (qH 0 rfl yN rfl) ?_
 refine qJ 99 rfl rfl ?_
 refine tl (qQ 1 [.slice A15 b.names.concepts.length d16, .slice A19 b.names.roles.length d20, .slice A23 b.names.inds.length d24] rfl uR rfl rfl) ?_
 refine qJ 99 rfl rfl ?_
 refine tl (qH 1 rfl qI2 rfl) ?_
 refine qJ 99 rfl rfl ?_
 refine tl (jN 0 rfl ld3 rfl rfl) ?_
 refine qJ 99 rfl rfl ?_
 refine qY ca41 rfl (fun w hw => zP b.names x116.frm hr2 (by unfold i64; omega) hw) rfl ?_
 refine qJ 99 rfl rfl ?_
 refine tl (wK rfl) ?_
 refine tl (qN rfl rfl) ?_
 refine tl (qG rfl) ?_
 refine xR 107 rfl (fun h130 => ?_) (fun h130 => ?_)
 refine qE 107 rfl rfl rfl ?_
 refine qE 107 rfl rfl rfl ?_
 refine qE 107 rfl rfl rfl ?_
 refine qE 107 rfl rfl rfl ?_
 refine qE 107 rfl rfl rfl ?_
 refine qE 107 rfl rfl rfl ?_
 refine tl (qP rfl rfl) ?_
 refine qB ?_
 exact xK hK126 (.refl _) (trivial) ⟨rfl, rfl, rfl, rfl, rfl, rfl, rfl, show some (Value.bool true) = some (Value.bool (decide ((((x116.role < 0) ∨ ((b.names.roles.length : Int) ≤ x116.role)) ∨ (¬ (0 ≤ x116.frm ∧ x116.frm < (b.names.inds.length : Int)))) ∨ (¬ (0 ≤ x116.to ∧ x116.to < (b.names.inds.length : Int)))))) by first | (simp [h128, h129, h130]; done) | grind | (simp [h128, h129, h130] <;> omega), trivial⟩ (fun w hw => hw)
 refine qJ 107 rfl rfl ?_
 refine tl (qH 0 rfl yN rfl) ?_
 refine qJ 107 rfl rfl ?_
 refine tl (qQ 1 [.slice A15 b.names.concepts.length d16, .slice A19 b.names.roles.length d20, .slice A23 b.names.inds.length d24] rfl uR rfl rfl) ?_
 refine qJ 107 rfl rfl ?_
 refine tl (qH 2 rfl qI3 rfl) ?_
 refine qJ 107 rfl rfl ?_
 refine tl (jN 0 rfl ld3 rfl rfl) ?_
 refine qJ 107 rfl rfl ?_
 refine qY ca41 rfl (fun w hw => zP b.names x116.to hr2 (by unfold i64; omega) hw) rfl ?_
 refine qJ 107 rfl rfl ?_
 refine tl (wK rfl) ?_
 refine tl (qN rfl rfl) ?_
 refine qB ?_
 exact xK hK126 (.refl _) (trivial) ⟨rfl, rfl, rfl, rfl, rfl, rfl, rfl, show some (Value.bool (decide (¬ (0 ≤ x116.to ∧ x116.to < (b.names.inds.length : Int))))) = some (Value.bool (decide ((((x116.role < 0) ∨ ((b.names.roles.length : Int) ≤ x116.role)) ∨ (¬ (0 ≤ x116.frm ∧ x116.frm < (b.names.inds.length : Int)))) ∨ (¬ (0 ≤ x116.to ∧ x116.to < (b.names.inds.length : Int)))))) by first | (simp [h128, h129, h130]; done) | grind | (simp [h128, h129, h130] <;> omega), trivial⟩ (fun w hw => hw)
 refine fun R132 hle133 hj131 => jC hle133 ?_
 refine qR 114 rfl (fun h134 => ?_) (fun h134 => ?_)
 refine xD rfl ?_
 refine qF <| qA ?_
 refine tl (qD rfl) ?_
 refine qB <| qC <| qV <| qO <| qI <| qI <| qO <| qI ?_
 refine xC (.inl rfl) rfl rfl ?_
 have e135 : (false : Bool) = vK b := by (rw [eq_comm]; unfold vK; rw [decide_eq_false_iff_not]; intro h_; have h1_ := h_.links _ (List.mem_of_getElem? hx117); unfold okL okI at h1_; grind)
 exact fun w hw => ⟨congrArg Ending.returned (congrArg (fun x0 => Value.bool x0) e135), (hw.drop 2).weaken hle42⟩
 refine xW rfl ?_
 refine xA <| jG <| qC <| qA ?_
 refine tl (kF rfl rfl (by omega) (by omega)) ?_
 refine tl (qG rfl) ?_
 refine qB ?_
 refine xY ?_
 exact fun a w ha hw => ih112.out (q + 1) (by exact ⟨by omega, vV hq2 hx117 (by unfold okL okI; grind)⟩) (by (try dsimp only); omega) a w (ha.sub (xS ⟨rfl, rfl, rfl, rfl, congrArg (fun z => some (Value.int .i64 z)) (show ((q : Int) + 1 : Int) = ((q + 1) : Int) by first | rfl | omega), trivial⟩)) (hw.drop 1)
 refine xW rfl ?_
 refine jK <| qL <| qL <| xI <| qC <| qF <| qA ?_
 refine tl (qG rfl) ?_
 refine tl (jQ rfl rfl rfl) ?_
 refine tl (qD rfl) ?_
 refine qB <| qC <| qV ?_
 refine xC (.inl rfl) rfl rfl ?_
 have e136 : (decide (((jH ((xN b).take i) : Nat) : Int) ≤ 400) : Bool) = vK b := by (rw [xF (by assumption) (by assumption)] at hi3 ⊢; rw [xF (by assumption) (by assumption)] at hj2; rw [xF (by assumption) (by assumption)] at hk2; rw [xF (by assumption) (by assumption)] at hq2; rw [Bool.eq_iff_iff, decide_eq_true_eq]; unfold vK; rw [decide_eq_true_eq]; exact ⟨fun h => ⟨by grind, by omega, hi3, hj2, hk2, hq2, by omega⟩, fun h => by have := h.nodes; omega⟩)
 exact fun w hw => ⟨congrArg Ending.returned (congrArg (fun x0 => Value.bool x0) e136), (hw.drop 1).weaken hle42⟩

end Go.Proofs.YtcbcdlajnmkioaaGreatDoor

namespace Go.Proofs.YtcbcdlajnmkioaaGreatDoor
open Go Go.Proofs
set_option linter.unusedSimpArgs false
set_option linter.unusedVariables false
theorem ap25 : yM Tryz.prog 25 = some (92, 6, 80, [.int .i64 0, .int .i64 0, .slice none 0 0, .int .i64 0, .int .i64 0, .slice none 0 0]) := by kernel_rfl
theorem ap26 : yM Tryz.prog 26 = some (84, 2, 16, [.int .i64 0, .int .i64 0]) := by kernel_rfl
theorem ap27 : yM Tryz.prog 27 = some (87, 4, 48, [.int .i64 0, .int .i64 0, .int .i64 0, .slice none 0 0]) := by kernel_rfl
theorem ap28 : yM Tryz.prog 28 = some (89, 3, 24, [.int .i64 0, .int .i64 0, .int .i64 0]) := by kernel_rfl
theorem ca43 : Callable Tryz.prog 43 := ⟨by kernel_rfl⟩
theorem pl30 : pJ Tryz.prog 30 = some (true, [(0, 3), (3, 1), (4, 1), (5, 1), (6, 1)], 0) := by kernel_rfl
theorem zc30 : zF Tryz.prog 30 = some [.slice none 0 0, .slice none 0 0, .slice none 0 0, .slice none 0 0, .slice none 0 0, .slice none 0 0, .slice none 0 0] := by kernel_rfl

def gR {α : Type} (l : List Int) : Nat → List α → List α
  | _, [] => []
  | i, x :: xs => if (i : Int) ∈ l then x :: gR l (i + 1) xs else gR l (i + 1) xs
theorem tT {α : Type} {l : List Int} : ∀ (xs ys : List α) (i : Nat), gR l i (xs ++ ys) = gR l i xs ++ gR l (i + xs.length) ys
  | [], ys, i => by simp [gR]
  | x :: xs, ys, i => by
    simp only [List.cons_append, gR, tT xs ys (i + 1), List.length_cons, show i + 1 + xs.length = i + (xs.length + 1) by omega]
    split <;> simp
theorem keepAt_yes {α : Type} {l : List Int} {xs : List α} {i k : Nat} {x : α} (h : xs[k]? = some x) (hm : ((i + k : Nat) : Int) ∈ l) : gR l i (xs.take (k + 1)) = gR l i (xs.take k) ++ [x] := by
  have hk := (List.getElem?_eq_some_iff.1 h).1
  rw [jP h, tT, List.length_take, Nat.min_eq_left (by omega)]
  simp only [gR]; rw [if_pos hm]
theorem keepAt_no {α : Type} {l : List Int} {xs : List α} {i k : Nat} {x : α} (h : xs[k]? = some x) (hm : ¬ ((i + k : Nat) : Int) ∈ l) : gR l i (xs.take (k + 1)) = gR l i (xs.take k) := by
  have hk := (List.getElem?_eq_some_iff.1 h).1
  rw [jP h, tT, List.length_take, Nat.min_eq_left (by omega)]
  simp only [gR]; rw [if_neg hm]; simp
def onlyB (b : Base) (l : List Int) : Base := ⟨b.names, gR l 0 b.incls, gR l b.incls.length b.roles, gR l (b.incls.length + b.roles.length) b.facts, gR l (b.incls.length + b.roles.length + b.facts.length) b.links⟩

end Go.Proofs.YtcbcdlajnmkioaaGreatDoor

namespace Go.Proofs.YtcbcdlajnmkioaaGreatDoor
open Go Go.Proofs
set_option linter.unusedSimpArgs false
set_option linter.unusedVariables false
theorem ca24 : Callable Tryz.prog 24 := ⟨by kernel_rfl⟩
theorem ca76 : Callable Tryz.prog 76 := ⟨by kernel_rfl⟩
theorem aF : kH Tryz.prog 33 0 = some 0 := by kernel_rfl
theorem gF : kH Tryz.prog 33 1 = some 1 := by kernel_rfl
theorem cI : kS Tryz.prog 31 = some (false, 1) := by kernel_rfl
theorem yO : kS Tryz.prog 33 = some (true, 2) := by kernel_rfl
theorem tA : zF Tryz.prog 33 = some [.slice none 0 0, .slice none 0 0] := by kernel_rfl

def gH (n : Names) (s : Sig) : Bool := kA s.concepts n.concepts.length && kA s.roles n.roles.length
def subB (a b : List Int) : Bool := decide (∀ x ∈ a, x ∈ b)
def zW (s : Sig) (c : Concept) : Sig := ⟨(kU c (s.concepts, s.roles)).1, (kU c (s.concepts, s.roles)).2⟩
theorem pB (s : Sig) (c : Concept) : (zW s c).concepts.length ≤ s.concepts.length + jT c ∧ (zW s c).roles.length ≤ s.roles.length + jT c := nO c _
theorem kG {b : Base} {i : Nat} {x : Incl} (hx : b.incls[i]? = some x) : x.sub ∈ xN b ∧ x.sup ∈ xN b := by
  have := List.mem_of_getElem? hx
  simp only [xN, wO, List.mem_append, List.mem_flatMap]
  exact ⟨.inl ⟨x, this, by simp⟩, .inl ⟨x, this, by simp⟩⟩
theorem wG {b : Base} {i : Nat} {x : Fact} (hx : b.facts[i]? = some x) : x.con ∈ xN b := by
  have := List.mem_of_getElem? hx
  simp only [xN, wL, List.mem_append, List.mem_map]
  exact .inr ⟨x, this, rfl⟩
theorem BaseOk.incl {b : Base} (h : BaseOk b) {i : Nat} {x : Incl} (hx : b.incls[i]? = some x) : (nnC x.sub = true ∧ jT x.sub ≤ 400) ∧ (nnC x.sup = true ∧ jT x.sup ≤ 400) := by
  have h1 := h.concepts _ (kG hx).1
  have h2 := h.concepts _ (kG hx).2
  exact ⟨⟨fP _ _ _ rfl h1.2.2, h1.1⟩, ⟨fP _ _ _ rfl h2.2.2, h2.1⟩⟩
theorem BaseOk.fact {b : Base} (h : BaseOk b) {i : Nat} {x : Fact} (hx : b.facts[i]? = some x) : nnC x.con = true ∧ jT x.con ≤ 400 := by
  have h1 := h.concepts _ (wG hx)
  exact ⟨fP _ _ _ rfl h1.2.2, h1.1⟩
theorem BaseOk.role {b : Base} (h : BaseOk b) {i : Nat} {x : RoleIncl} (hx : b.roles[i]? = some x) : 0 ≤ x.sub ∧ 0 ≤ x.sup := by
  have := h.roles _ (List.mem_of_getElem? hx)
  exact ⟨this.1.1, this.2.1⟩
theorem BaseOk.link {b : Base} (h : BaseOk b) {i : Nat} {x : Link} (hx : b.links[i]? = some x) : 0 ≤ x.role := (h.links _ (List.mem_of_getElem? hx)).1
def yE (b : Base) (k : Nat) (s : Sig) : Sig :=
  match b.incls[k]? with
  | some x => zW (zW s x.sub) x.sup
  | none => match b.roles[k - b.incls.length]? with
    | some x => ⟨s.concepts, yC (yC s.roles (x.sub / 2)) (x.sup / 2)⟩
    | none => match b.facts[k - b.incls.length - b.roles.length]? with
      | some x => zW s x.con
      | none => match b.links[k - b.incls.length - b.roles.length - b.facts.length]? with
        | some x => ⟨s.concepts, yC s.roles x.role⟩
        | none => s
theorem nP {b : Base} (h : BaseOk b) (k : Nat) (s : Sig) : (yE b k s).concepts.length ≤ s.concepts.length + 800 ∧ (yE b k s).roles.length ≤ s.roles.length + 800 := by
  unfold yE
  split
  · rename_i x hx
    have h1 := pB s x.sub; have h2 := pB (zW s x.sub) x.sup; have h3 := h.incl hx; omega
  · split
    · rename_i x hx
      have h1 := vD (l := s.roles) (n := x.sub / 2); have h2 := vD (l := yC s.roles (x.sub / 2)) (n := x.sup / 2); exact ⟨by simp, by simp only; omega⟩
    · split
      · rename_i x hx
        have h1 := pB s x.con; have h3 := h.fact hx; omega
      · split
        · rename_i x hx
          have h1 := vD (l := s.roles) (n := x.role); exact ⟨by simp, by simp only; omega⟩
        · omega
def jX (b : Base) (l : List Int) (s : Sig) : Sig := l.foldl (fun s k => yE b k.toNat s) s
theorem fS {b : Base} {l : List Int} {i : Nat} {x : Int} (h : l[i]? = some x) (s : Sig) : jX b (l.take (i + 1)) s = yE b x.toNat (jX b (l.take i) s) := by rw [jP h]; simp [jX]

set_option maxRecDepth 20000 in
set_option maxHeartbeats 8000000 in
theorem bO {R : RO} {G : List Res} {w : World} {c_n : List Value} (n : Names) {c_s : List Value} (s : Sig) (hr_n : kNames.rep R n c_n) (hr_s : kSig.rep R s c_s) (hw : Own w R (G)) :
    Calls Tryz.prog 11 [.agg c_n.toArray, .agg c_s.toArray].toArray w (kK R G (.bool (gH n s))) := by
 obtain ⟨A1, d2, A5, d6, A9, d10, rfl, hs3, hs7, hs11⟩ := id hr_n
 have z4 := hs3.size
 unfold big at z4
 have z8 := hs7.size
 unfold big at z8
 have z12 := hs11.size
 unfold big at z12
 obtain ⟨A13, d14, A17, d18, rfl, hs15, hs19⟩ := id hr_s
 have z16 := hs15.size
 unfold big at z16
 have z20 := hs19.size
 unfold big at z20
 refine xG (vs := [.agg #[.slice A1 n.concepts.length d2, .slice A5 n.roles.length d6, .slice A9 n.inds.length d10], .agg #[.slice A13 s.concepts.length d14, .slice A17 s.roles.length d18]]) Tryz.func11 rfl rfl rfl ?_ hw
 refine qF <| qA ?_
 refine qX (l := [.slice A1 n.concepts.length d2, .slice A5 n.roles.length d6, .slice A9 n.inds.length d10]) rfl rfl fun b21 => ?_
 refine qX (l := [.slice A13 s.concepts.length d14, .slice A17 s.roles.length d18]) rfl rfl fun b22 => ?_
 refine tl (qD rfl) ?_
 refine qB <| qC ?_
 refine kN [(0, .agg #[.slice A1 n.concepts.length d2, .slice A5 n.roles.length d6, .slice A9 n.inds.length d10]), (1, .agg #[.slice A13 s.concepts.length d14, .slice A17 s.roles.length d18]), (4, .bool (decide (((kA s.concepts (n.concepts.length : Int)) = true) ∧ ((kA s.roles (n.roles.length : Int)) = true))))] (.blk b22 [.slice A13 s.concepts.length d14, .slice A17 s.roles.length d18] 33 :: .blk b21 [.slice A1 n.concepts.length d2, .slice A5 n.roles.length d6, .slice A9 n.inds.length d10] 24 :: G) (fun _ => True) (fun K hK23 hE24 => ?_) ?_
 refine qA ?_
 refine tl (qH 0 rfl aF rfl) ?_
 refine tl (jN 0 rfl cI rfl rfl) ?_
 refine tl (qH 0 rfl bD rfl) ?_
 refine tl (jN 1 rfl uJ rfl rfl) ?_
 refine tl (jM rfl uE) ?_
 refine qY ca24 rfl (fun w hw => yJ s.concepts (n.concepts.length : Int) hs15 (by unfold i64; omega) hw) rfl ?_
 refine tl (qG rfl) ?_
 refine kB 11 rfl (fun h25 => ?_) (fun h25 => ?_)
 refine qJ 11 rfl rfl ?_
 refine tl (qH 1 rfl gF rfl) ?_
 refine qJ 11 rfl rfl ?_
 refine tl (jN 0 rfl cI rfl rfl) ?_
 refine qJ 11 rfl rfl ?_
 refine tl (qH 1 rfl pG rfl) ?_
 refine qJ 11 rfl rfl ?_
 refine tl (jN 1 rfl uJ rfl rfl) ?_
 refine qJ 11 rfl rfl ?_
 refine tl (jM rfl uE) ?_
 refine qJ 11 rfl rfl ?_
 refine qY ca24 rfl (fun w hw => yJ s.roles (n.roles.length : Int) hs19 (by unfold i64; omega) hw) rfl ?_
 refine tl (qP rfl rfl) ?_
 refine tl (qD rfl) ?_
 refine qB ?_
 exact xK hK23 (.refl _) (trivial) ⟨rfl, rfl, show some (Value.bool (kA s.roles (n.roles.length : Int))) = some (Value.bool (decide (((kA s.concepts (n.concepts.length : Int)) = true) ∧ ((kA s.roles (n.roles.length : Int)) = true)))) by first | (simp [h25]; done) | grind | (simp [h25] <;> omega), trivial⟩ (fun w hw => hw)
 refine qE 11 rfl rfl rfl ?_
 refine qE 11 rfl rfl rfl ?_
 refine qE 11 rfl rfl rfl ?_
 refine qE 11 rfl rfl rfl ?_
 refine qE 11 rfl rfl rfl ?_
 refine qE 11 rfl rfl rfl ?_
 refine tl (qN rfl rfl) ?_
 refine tl (qD rfl) ?_
 refine qB ?_
 exact xK hK23 (.refl _) (trivial) ⟨rfl, rfl, show some (Value.bool false) = some (Value.bool (decide (((kA s.concepts (n.concepts.length : Int)) = true) ∧ ((kA s.roles (n.roles.length : Int)) = true)))) by first | (simp [h25]; done) | grind | (simp [h25] <;> omega), trivial⟩ (fun w hw => hw)
 refine fun R27 hle28 hj26 => jC hle28 ?_
 refine qV ?_
 refine xC (.inl rfl) rfl rfl ?_
 have e29 : (decide (((kA s.concepts (n.concepts.length : Int)) = true) ∧ ((kA s.roles (n.roles.length : Int)) = true)) : Bool) = gH n s := by first | rfl | grind [gH]
 exact fun w hw => ⟨congrArg Ending.returned (congrArg (fun x0 => Value.bool x0) e29), hw.drop 2⟩

set_option maxRecDepth 20000 in
set_option maxHeartbeats 8000000 in
theorem mW {R : RO} {G : List Res} {w : World} {A_a : Option Addr} {d_a : Nat} (a : List (Int)) {A_b : Option Addr} {d_b : Nat} (b : List (Int)) (hs_a : SlAt kInt R A_a a) (hs_b : SlAt kInt R A_b b) (hw : Own w R (G)) :
    Calls Tryz.prog 15 [.slice A_a a.length d_a, .slice A_b b.length d_b].toArray w (kK R G (.bool (subB a b))) := by
 have hz_a := hs_a.size
 unfold big at hz_a
 have hz_b := hs_b.size
 unfold big at hz_b
 refine xG (vs := [.slice A_a a.length d_a, .slice A_b b.length d_b]) Tryz.func15 rfl rfl rfl ?_ hw
 refine qF <| qA ?_
 refine tl (qD rfl) ?_
 refine qB <| qC <| qF <| qF <| qA ?_
 refine tl (qG rfl) ?_
 refine tl (jM rfl pY) ?_
 refine tl (qG rfl) ?_
 refine qB <| qC <| xB ?_
 refine jL ?_
 refine jS (fun i : Nat => a.length - i) (fun i : Nat => [(1, .slice A_b b.length d_b), (7, .slice A_a a.length d_a), (8, .int .i64 (a.length : Int)), (9, .int .i64 (i : Int))]) (fun i : Nat => (G)) (fun (i : Nat) => i ≤ a.length ∧ ∀ y ∈ a.take i, y ∈ b) (0) ⟨rfl, rfl, rfl, rfl, trivial⟩ (by exact ⟨by omega, by simp⟩) (fun w hw => hw) ?_
 rintro i hI1 ih2
 show TC Tryz.prog _ _ _ [] [(1, .slice A_b b.length d_b), (7, .slice A_a a.length d_a), (8, .int .i64 (a.length : Int)), (9, .int .i64 (i : Int))] R (G)
 obtain ⟨hi1, hi2⟩ := hI1
 refine qF <| qA ?_
 refine tl (jQ rfl rfl rfl) ?_
 refine qB <| qC <| qF ?_
 refine qR 10 rfl (fun h5 => ?_) (fun h5 => ?_)
 refine xD rfl ?_
 refine xA <| qC <| qF <| xB <| qF <| qA ?_
 have hb11 : i < a.length := by omega
 obtain ⟨x6, hx7⟩ : ∃ x, a[i]? = some x := ⟨_, List.getElem?_eq_getElem hb11⟩
 obtain ⟨c8, hr9, ha10⟩ := hs_a.get _ x6 hx7
 obtain ⟨rfl, i12⟩ := hr9
 unfold i64 at i12
 refine tl (kC (i := i) hs_a rfl rfl rfl pY hb11) ?_
 refine tl (yL 0 ha10 rfl ld3 rfl rfl) ?_
 refine tl (qD rfl) ?_
 refine qB <| qC <| qF <| qA ?_
 refine tl (qG rfl) ?_
 refine tl (qG rfl) ?_
 refine qY ca43 rfl (fun w hw => vU b x6 hs_b (by unfold i64; omega) hw) rfl ?_
 refine tl (wK rfl) ?_
 refine qB <| qC ?_
 refine qR 16 rfl (fun h13 => ?_) (fun h13 => ?_)
 refine xD rfl ?_
 refine qF <| qA ?_
 refine tl (qD rfl) ?_
 refine qB <| qC <| qV <| qO <| qI <| qI <| qO <| qI ?_
 refine xC (.inl rfl) rfl rfl ?_
 have e14 : (false : Bool) = subB a b := by (rw [eq_comm]; unfold subB; rw [decide_eq_false_iff_not]; intro h_; have h2_ := h_ _ (List.mem_of_getElem? hx7); grind)
 exact fun w hw => ⟨congrArg Ending.returned (congrArg (fun x0 => Value.bool x0) e14), hw⟩
 refine xW rfl ?_
 refine xA <| jG <| qC <| qA ?_
 refine tl (kF rfl rfl (by omega) (by omega)) ?_
 refine tl (qG rfl) ?_
 refine qB ?_
 refine xY ?_
 exact fun a w ha hw => ih2.out (i + 1) (by exact ⟨by omega, vV hi2 hx7 (by grind)⟩) (by (try dsimp only); omega) a w (ha.sub (xS ⟨rfl, rfl, rfl, rfl, trivial⟩)) (hw)
 refine xW rfl ?_
 refine jK <| qL <| qL <| xI <| qC <| qF <| qA ?_
 refine tl (qD rfl) ?_
 refine qB <| qC <| qV ?_
 refine xC (.inl rfl) rfl rfl ?_
 have e15 : (true : Bool) = subB a b := by (rw [xF (by assumption) (by assumption)] at hi2; rw [eq_comm]; unfold subB; rw [decide_eq_true_eq]; exact hi2)
 exact fun w hw => ⟨congrArg Ending.returned (congrArg (fun x0 => Value.bool x0) e15), hw⟩

set_option maxRecDepth 20000 in
set_option maxHeartbeats 8000000 in
theorem zQ {R : RO} {G : List Res} {w : World} (s : Sig) {A1_s : Option Addr} {c1_s : Nat} {l1_s : List Value} {A2_s : Option Addr} {c2_s : Nat} {l2_s : List Value} {c_c : List Value} (c : Concept) (hv1_s : kInt.reps R s.concepts l1_s) (hv2_s : kInt.reps R s.roles l2_s) (hr_c : kConcept.rep R c c_c) (hb : s.concepts.length + jT c ≤ 1000000 ∧ s.roles.length + jT c ≤ 1000000) (hn : nnC c = true) (hw : Own w R (.vec (.slice A1_s s.concepts.length c1_s) s.concepts.length 3 1 l1_s :: .vec (.slice A2_s s.roles.length c2_s) s.roles.length 3 1 l2_s :: G)) :
    Calls Tryz.prog 76 [.agg #[.slice A1_s s.concepts.length c1_s, .slice A2_s s.roles.length c2_s], .agg c_c.toArray].toArray w (hY R G (fun v_ R' L_ => ∃ (A_01 : Option Addr) (c_01 : Nat) (l_01 : List Value) (A_02 : Option Addr) (c_02 : Nat) (l_02 : List Value), v_ = (.agg #[.slice A_01 ((zW s c).concepts.length) c_01, .slice A_02 ((zW s c).roles.length) c_02] : Value) ∧ L_ = ([.vec (.slice A_01 ((zW s c).concepts.length) c_01) ((zW s c).concepts.length) 3 1 l_01, .vec (.slice A_02 ((zW s c).roles.length) c_02) ((zW s c).roles.length) 3 1 l_02] : List Res) ∧ kInt.reps R' (zW s c).concepts l_01 ∧ kInt.reps R' (zW s c).roles l_02)) := by
 obtain ⟨A3, d4, rfl, i5, i6, hs7⟩ := qM hr_c
 unfold i64 at i5 i6
 have z8 := hs7.size
 unfold big at z8
 refine xG (vs := [.agg #[.slice A1_s s.concepts.length c1_s, .slice A2_s s.roles.length c2_s], .agg #[.int .i64 c.op, .int .i64 c.n, .slice A3 c.args.length d4]]) Tryz.func76 rfl rfl rfl ?_ hw
 refine qF <| qA ?_
 refine qX (l := [.slice A1_s s.concepts.length c1_s, .slice A2_s s.roles.length c2_s]) rfl rfl fun b11 => ?_
 refine qX (l := [.int .i64 c.op, .int .i64 c.n, .slice A3 c.args.length d4]) rfl rfl fun b12 => ?_
 refine qT tA rfl fun b13 => ?_
 refine qB <| qC <| qF <| qA ?_
 refine tl (qQ 1 [.int .i64 c.op, .int .i64 c.n, .slice A3 c.args.length d4] rfl vS rfl rfl) ?_
 refine tl (qH 0 rfl aF rfl) ?_
 refine tl (jN 2 rfl cI rfl rfl) ?_
 refine tl (qH 1 rfl gF rfl) ?_
 refine tl (jN 2 rfl cI rfl rfl) ?_
 refine tP (.vec (.slice A1_s s.concepts.length c1_s) s.concepts.length 3 1 l1_s :: .vec (.slice A2_s s.roles.length c2_s) s.roles.length 3 1 l2_s :: .blk b13 [.slice none 0 0, .slice none 0 0] 33 :: .blk b12 [.int .i64 c.op, .int .i64 c.n, .slice A3 c.args.length d4] 37 :: .blk b11 [.slice A1_s s.concepts.length c1_s, .slice A2_s s.roles.length c2_s] 33 :: G) (fun w hw => ((hw.pick 4).pick 4)) ?_
 refine xE ca97 rfl (fun w hw => aZ c s.concepts s.roles hr_c hv1_s hv2_s (by first | assumption | omega) (by first | assumption | omega) hw) rfl ?_
 rintro _ R15 _ hle16 ⟨A_z14_0, c_z14_0, l_z14_0, A_z14_1, c_z14_1, l_z14_1, rfl, rfl, hv_z14_0, hv_z14_1⟩
 refine tl (qG rfl) ?_
 refine tl (jE rfl rfl) ?_
 refine tl (jE rfl rfl) ?_
 refine tl (qH 0 rfl aF rfl) ?_
 refine xM 4 [.slice A_z14_0 (((kU c (s.concepts, s.roles)).1).length) c_z14_0, .slice A2_s s.roles.length c2_s] rfl rfl cI rfl rfl rfl rfl rfl rfl ?_
 refine tl (qH 1 rfl gF rfl) ?_
 refine xM 4 [.slice A_z14_0 (((kU c (s.concepts, s.roles)).1).length) c_z14_0, .slice A_z14_1 (((kU c (s.concepts, s.roles)).2).length) c_z14_1] rfl rfl cI rfl rfl rfl rfl rfl rfl ?_
 refine qB <| qC <| qF <| qA ?_
 refine tl (qQ 4 [.slice A_z14_0 (((kU c (s.concepts, s.roles)).1).length) c_z14_0, .slice A_z14_1 (((kU c (s.concepts, s.roles)).2).length) c_z14_1] rfl yO rfl rfl) ?_
 refine xM 2 [.slice A_z14_0 (((kU c (s.concepts, s.roles)).1).length) c_z14_0, .slice A_z14_1 (((kU c (s.concepts, s.roles)).2).length) c_z14_1] rfl rfl yO rfl rfl rfl rfl rfl rfl ?_
 refine qB <| qC <| qV ?_
 refine kT (cells := [.slice A_z14_0 (((kU c (s.concepts, s.roles)).1).length) c_z14_0, .slice A_z14_1 (((kU c (s.concepts, s.roles)).2).length) c_z14_1]) 2 (.inl rfl) rfl rfl yO rfl ?_
 have e17 : (Sig.mk ((kU c (s.concepts, s.roles)).1) ((kU c (s.concepts, s.roles)).2) : Sig) = zW s c := by rfl
 intro w hw
 exact ⟨_, _, [.vec (.slice A_z14_0 (((kU c (s.concepts, s.roles)).1).length) c_z14_0) (((kU c (s.concepts, s.roles)).1).length) 3 1 l_z14_0, .vec (.slice A_z14_1 (((kU c (s.concepts, s.roles)).2).length) c_z14_1) (((kU c (s.concepts, s.roles)).2).length) 3 1 l_z14_1], rfl, hle16, (((((hw.pick 2).tail.pick 2).tail.pick 2).tail.pick 1).pick 1), A_z14_0, c_z14_0, l_z14_0, A_z14_1, c_z14_1, l_z14_1, (congrArg (fun (z0_ : Sig) => (.agg #[.slice A_z14_0 (Sig.concepts z0_).length c_z14_0, .slice A_z14_1 (Sig.roles z0_).length c_z14_1] : Value)) e17), (congrArg (fun (z0_ : Sig) => ([.vec (.slice A_z14_0 (Sig.concepts z0_).length c_z14_0) (Sig.concepts z0_).length 3 1 l_z14_0, .vec (.slice A_z14_1 (Sig.roles z0_).length c_z14_1) (Sig.roles z0_).length 3 1 l_z14_1] : List Res)) e17), (Eq.mp (congrArg (fun z => kInt.reps R15 (Sig.concepts z) l_z14_0) e17) hv_z14_0), (Eq.mp (congrArg (fun z => kInt.reps R15 (Sig.roles z) l_z14_1) e17) hv_z14_1)⟩

set_option maxRecDepth 20000 in
set_option maxHeartbeats 8000000 in
theorem bA {R : RO} {G : List Res} {w : World} {c_b : List Value} (b : Base) (k : Int) (s : Sig) {A1_s : Option Addr} {c1_s : Nat} {l1_s : List Value} {A2_s : Option Addr} {c2_s : Nat} {l2_s : List Value} (hr_b : kBase.rep R b c_b) (hi_k : i64 k) (hv1_s : kInt.reps R s.concepts l1_s) (hv2_s : kInt.reps R s.roles l2_s) (hB : BaseOk b) (hk : 0 ≤ k ∧ k < xX b) (hb : s.concepts.length ≤ 999000 ∧ s.roles.length ≤ 999000) (hw : Own w R (.vec (.slice A1_s s.concepts.length c1_s) s.concepts.length 3 1 l1_s :: .vec (.slice A2_s s.roles.length c2_s) s.roles.length 3 1 l2_s :: G)) :
    Calls Tryz.prog 56 [.agg c_b.toArray, .int .i64 k, .agg #[.slice A1_s s.concepts.length c1_s, .slice A2_s s.roles.length c2_s]].toArray w (hY R G (fun v_ R' L_ => ∃ (A_01 : Option Addr) (c_01 : Nat) (l_01 : List Value) (A_02 : Option Addr) (c_02 : Nat) (l_02 : List Value), v_ = (.agg #[.slice A_01 ((yE b k.toNat s).concepts.length) c_01, .slice A_02 ((yE b k.toNat s).roles.length) c_02] : Value) ∧ L_ = ([.vec (.slice A_01 ((yE b k.toNat s).concepts.length) c_01) ((yE b k.toNat s).concepts.length) 3 1 l_01, .vec (.slice A_02 ((yE b k.toNat s).roles.length) c_02) ((yE b k.toNat s).roles.length) 3 1 l_02] : List Res) ∧ kInt.reps R' (yE b k.toNat s).concepts l_01 ∧ kInt.reps R' (yE b k.toNat s).roles l_02)) := by
 obtain ⟨c1, A3, d4, A6, d7, A9, d10, A12, d13, rfl, hr2, hs5, hs8, hs11, hs14⟩ := id hr_b
 have z27 := hs5.size
 unfold big at z27
 have z28 := hs8.size
 unfold big at z28
 have z29 := hs11.size
 unfold big at z29
 have z30 := hs14.size
 unfold big at z30
 obtain ⟨A15, d16, A19, d20, A23, d24, rfl, hs17, hs21, hs25⟩ := id hr2
 have z18 := hs17.size
 unfold big at z18
 have z22 := hs21.size
 unfold big at z22
 have z26 := hs25.size
 unfold big at z26
 unfold i64 at hi_k
 unfold xX at hk
 refine xG (vs := [.agg #[.slice A15 b.names.concepts.length d16, .slice A19 b.names.roles.length d20, .slice A23 b.names.inds.length d24, .slice A3 b.incls.length d4, .slice A6 b.roles.length d7, .slice A9 b.facts.length d10, .slice A12 b.links.length d13], .int .i64 k, .agg #[.slice A1_s s.concepts.length c1_s, .slice A2_s s.roles.length c2_s]]) Tryz.func56 rfl rfl rfl ?_ hw
 refine qF <| qA ?_
 refine qX (l := [.slice A15 b.names.concepts.length d16, .slice A19 b.names.roles.length d20, .slice A23 b.names.inds.length d24, .slice A3 b.incls.length d4, .slice A6 b.roles.length d7, .slice A9 b.facts.length d10, .slice A12 b.links.length d13]) rfl rfl fun b35 => ?_
 refine qX (l := [.slice A1_s s.concepts.length c1_s, .slice A2_s s.roles.length c2_s]) rfl rfl fun b36 => ?_
 refine qT tA rfl fun b37 => ?_
 refine qB <| qC <| qF <| qA ?_
 refine tl (qG rfl) ?_
 refine tl (qD rfl) ?_
 refine qB <| qC <| qF <| qF <| qA ?_
 refine tl (qG rfl) ?_
 refine tl (qH 3 rfl zI rfl) ?_
 refine tl (jN 2 rfl iU rfl rfl) ?_
 refine tl (jM rfl fQ) ?_
 refine tl (jQ rfl rfl rfl) ?_
 refine qB <| qC ?_
 refine qR 13 rfl (fun h38 => ?_) (fun h38 => ?_)
 refine xD rfl ?_
 refine qF ?_
 refine vW R (.blk b37 [.slice none 0 0, .slice none 0 0] 33 :: .blk b36 [.slice A1_s s.concepts.length c1_s, .slice A2_s s.roles.length c2_s] 33 :: .blk b35 [.slice A15 b.names.concepts.length d16, .slice A19 b.names.roles.length d20, .slice A23 b.names.inds.length d24, .slice A3 b.incls.length d4, .slice A6 b.roles.length d7, .slice A9 b.facts.length d10, .slice A12 b.links.length d13] 30 :: G) 15 mixed ?_
 refine td 0 rfl (by kernel_rfl) (qQ 1 [.slice A1_s s.concepts.length c1_s, .slice A2_s s.roles.length c2_s] rfl yO rfl rfl) (fun w hw => (((((hw.pick 3).tail.pick 3).tail.pick 2).pick 2).pick 2)) ?_
 refine td 1 rfl (by kernel_rfl) (qH 3 rfl zI rfl) (fun w hw => (((((hw.pick 3).tail.pick 3).tail.pick 2).pick 2).pick 2)) ?_
 refine td 2 rfl (by kernel_rfl) (jN 2 rfl iU rfl rfl) (fun w hw => (((((hw.pick 3).tail.pick 3).tail.pick 2).pick 2).pick 2)) ?_
 refine td 3 rfl (by kernel_rfl) (qG rfl) (fun w hw => (((((hw.pick 3).tail.pick 3).tail.pick 2).pick 2).pick 2)) ?_
 have hb44 : 0 ≤ k ∧ (k).toNat < b.incls.length := by omega
 obtain ⟨x39, hx40⟩ : ∃ x, b.incls[(k).toNat]? = some x := ⟨_, List.getElem?_eq_getElem hb44.2⟩
 obtain ⟨c41, hr42, ha43⟩ := hs5.get _ x39 hx40
 obtain ⟨c45, c46, rfl, hr47, hr48⟩ := id hr42
 obtain ⟨A49, d50, rfl, i51, i52, hs53⟩ := qM hr47
 unfold i64 at i51 i52
 have z54 := hs53.size
 unfold big at z54
 obtain ⟨A55, d56, rfl, i57, i58, hs59⟩ := qM hr48
 unfold i64 at i57 i58
 have z60 := hs59.size
 unfold big at z60
 have hf61 := hB.incl hx40
 refine td 4 rfl (by kernel_rfl) (zG hs5 rfl rfl rfl fQ hb44.1 hb44.2) (fun w hw => (((((hw.pick 3).tail.pick 3).tail.pick 2).pick 2).pick 2)) ?_
 refine td 5 rfl (by kernel_rfl) (qH _ rfl lJ rfl) (fun w hw => (((((hw.pick 3).tail.pick 3).tail.pick 2).pick 2).pick 2)) ?_
 refine td 6 rfl (by kernel_rfl) (jD 0 [.int .i64 x39.sub.op, .int .i64 x39.sub.n, .slice A49 x39.sub.args.length d50] ha43 rfl vS rfl rfl) (fun w hw => (((((hw.pick 3).tail.pick 3).tail.pick 2).pick 2).pick 2)) ?_
 refine td 8 rfl (by kernel_rfl) (qH 3 rfl zI rfl) (fun w hw => (((((hw.pick 3).tail.pick 3).tail.pick 2).pick 2).pick 2)) ?_
 refine td 9 rfl (by kernel_rfl) (jN 2 rfl iU rfl rfl) (fun w hw => (((((hw.pick 3).tail.pick 3).tail.pick 2).pick 2).pick 2)) ?_
 refine td 10 rfl (by kernel_rfl) (qG rfl) (fun w hw => (((((hw.pick 3).tail.pick 3).tail.pick 2).pick 2).pick 2)) ?_
 have hb67 : 0 ≤ k ∧ (k).toNat < b.incls.length := by omega
 obtain ⟨x62, hx63⟩ : ∃ x, b.incls[(k).toNat]? = some x := ⟨_, List.getElem?_eq_getElem hb67.2⟩
 obtain ⟨c64, hr65, ha66⟩ := hs5.get _ x62 hx63
 obtain ⟨c68, c69, rfl, hr70, hr71⟩ := id hr65
 obtain ⟨A72, d73, rfl, i74, i75, hs76⟩ := qM hr70
 unfold i64 at i74 i75
 have z77 := hs76.size
 unfold big at z77
 obtain ⟨A78, d79, rfl, i80, i81, hs82⟩ := qM hr71
 unfold i64 at i80 i81
 have z83 := hs82.size
 unfold big at z83
 have hf84 := hB.incl hx63
 refine td 11 rfl (by kernel_rfl) (zG hs5 rfl rfl rfl fQ hb67.1 hb67.2) (fun w hw => (((((hw.pick 3).tail.pick 3).tail.pick 2).pick 2).pick 2)) ?_
 refine td 12 rfl (by kernel_rfl) (qH _ rfl lK rfl) (fun w hw => (((((hw.pick 3).tail.pick 3).tail.pick 2).pick 2).pick 2)) ?_
 refine td 13 rfl (by kernel_rfl) (jD 3 [.int .i64 x62.sup.op, .int .i64 x62.sup.n, .slice A78 x62.sup.args.length d79] ha66 rfl vS rfl rfl) (fun w hw => (((((hw.pick 3).tail.pick 3).tail.pick 2).pick 2).pick 2)) ?_
 refine td1 7 (by kernel_rfl) rfl ?_
 refine tP (.vec (.slice A1_s s.concepts.length c1_s) s.concepts.length 3 1 l1_s :: .vec (.slice A2_s s.roles.length c2_s) s.roles.length 3 1 l2_s :: .blk b37 [.slice none 0 0, .slice none 0 0] 33 :: .blk b36 [.slice A1_s s.concepts.length c1_s, .slice A2_s s.roles.length c2_s] 33 :: .blk b35 [.slice A15 b.names.concepts.length d16, .slice A19 b.names.roles.length d20, .slice A23 b.names.inds.length d24, .slice A3 b.incls.length d4, .slice A6 b.roles.length d7, .slice A9 b.facts.length d10, .slice A12 b.links.length d13] 30 :: G) (fun w hw => ((hw.pick 4).pick 4)) ?_
 refine xE ca76 rfl (fun w hw => zQ (Sig.mk s.concepts s.roles) x39.sub hv1_s hv2_s hr47 (by first | omega | grind | (have a_ := pB (Sig.mk s.concepts s.roles) x39.sub; simp only at a_ ⊢; first | omega | grind)) (by first | omega | grind | (have a_ := pB (Sig.mk s.concepts s.roles) x39.sub; simp only at a_ ⊢; first | omega | grind)) hw) rfl ?_
 rintro _ R86 _ hle87 ⟨A_z85_01, c_z85_01, l_z85_01, A_z85_02, c_z85_02, l_z85_02, rfl, rfl, hv_z85_01, hv_z85_02⟩
 try replace hs8 := hs8.mono hle87
 try replace hs11 := hs11.mono hle87
 try replace hs14 := hs14.mono hle87
 try replace hv1_s := Kd.reps_mono hle87 hv1_s
 try replace hv2_s := Kd.reps_mono hle87 hv2_s
 try replace hr71 := kConcept.mono _ _ _ _ hle87 hr71
 refine qB ?_
 refine qW (fun w hw => (hw.drop 2).weaken hle87) ?_
 refine td1 14 (by kernel_rfl) rfl ?_
 refine xE ca76 rfl (fun w hw => zQ (Sig.mk ((zW (Sig.mk s.concepts s.roles) x39.sub).concepts) ((zW (Sig.mk s.concepts s.roles) x39.sub).roles)) x62.sup hv_z85_01 hv_z85_02 hr71 (by first | omega | grind | (have a_ := pB (Sig.mk s.concepts s.roles) x39.sub; simp only at a_ ⊢; first | omega | grind)) (by first | omega | grind | (have a_ := pB (Sig.mk s.concepts s.roles) x39.sub; simp only at a_ ⊢; first | omega | grind)) hw) rfl ?_
 rintro _ R89 _ hle90 ⟨A_z88_01, c_z88_01, l_z88_01, A_z88_02, c_z88_02, l_z88_02, rfl, rfl, hv_z88_01, hv_z88_02⟩
 try replace hs8 := hs8.mono hle90
 try replace hs11 := hs11.mono hle90
 try replace hs14 := hs14.mono hle90
 try replace hv1_s := Kd.reps_mono hle90 hv1_s
 try replace hv2_s := Kd.reps_mono hle90 hv2_s
 have hle91 := hle87.trans hle90
 refine qB ?_
 refine qW (fun w hw => (hw.drop 2).weaken hle91) ?_
 refine td1 15 (by kernel_rfl) rfl ?_
 refine xM 2 [.slice A_z88_01 ((zW (Sig.mk ((zW (Sig.mk s.concepts s.roles) x39.sub).concepts) ((zW (Sig.mk s.concepts s.roles) x39.sub).roles)) x62.sup).concepts.length) c_z88_01, .slice A_z88_02 ((zW (Sig.mk ((zW (Sig.mk s.concepts s.roles) x39.sub).concepts) ((zW (Sig.mk s.concepts s.roles) x39.sub).roles)) x62.sup).roles.length) c_z88_02] rfl rfl yO rfl rfl rfl rfl rfl rfl ?_
 refine qB ?_
 refine xZ ?_
 refine xJ (by kernel_rfl) ?_
 refine qC <| qV <| qI ?_
 refine kT (cells := [.slice A_z88_01 ((zW (Sig.mk ((zW (Sig.mk s.concepts s.roles) x39.sub).concepts) ((zW (Sig.mk s.concepts s.roles) x39.sub).roles)) x62.sup).concepts.length) c_z88_01, .slice A_z88_02 ((zW (Sig.mk ((zW (Sig.mk s.concepts s.roles) x39.sub).concepts) ((zW (Sig.mk s.concepts s.roles) x39.sub).roles)) x62.sup).roles.length) c_z88_02]) 2 (.inl rfl) rfl rfl yO rfl ?_
 have e92 : (Sig.mk ((zW (Sig.mk ((zW (Sig.mk s.concepts s.roles) x39.sub).concepts) ((zW (Sig.mk s.concepts s.roles) x39.sub).roles)) x62.sup).concepts) ((zW (Sig.mk ((zW (Sig.mk s.concepts s.roles) x39.sub).concepts) ((zW (Sig.mk s.concepts s.roles) x39.sub).roles)) x62.sup).roles) : Sig) = yE b k.toNat s := by (have q_ := hx63; rw [hx40] at q_; cases q_; unfold yE; rw [hx40])
 intro w hw
 exact ⟨_, _, [.vec (.slice A_z88_01 ((zW (Sig.mk ((zW (Sig.mk s.concepts s.roles) x39.sub).concepts) ((zW (Sig.mk s.concepts s.roles) x39.sub).roles)) x62.sup).concepts.length) c_z88_01) ((zW (Sig.mk ((zW (Sig.mk s.concepts s.roles) x39.sub).concepts) ((zW (Sig.mk s.concepts s.roles) x39.sub).roles)) x62.sup).concepts.length) 3 1 l_z88_01, .vec (.slice A_z88_02 ((zW (Sig.mk ((zW (Sig.mk s.concepts s.roles) x39.sub).concepts) ((zW (Sig.mk s.concepts s.roles) x39.sub).roles)) x62.sup).roles.length) c_z88_02) ((zW (Sig.mk ((zW (Sig.mk s.concepts s.roles) x39.sub).concepts) ((zW (Sig.mk s.concepts s.roles) x39.sub).roles)) x62.sup).roles.length) 3 1 l_z88_02], rfl, hle91, (((((hw.pick 2).tail.pick 2).tail.pick 2).tail.pick 1).pick 1), A_z88_01, c_z88_01, l_z88_01, A_z88_02, c_z88_02, l_z88_02, (congrArg (fun (z0_ : Sig) => (.agg #[.slice A_z88_01 (Sig.concepts z0_).length c_z88_01, .slice A_z88_02 (Sig.roles z0_).length c_z88_02] : Value)) e92), (congrArg (fun (z0_ : Sig) => ([.vec (.slice A_z88_01 (Sig.concepts z0_).length c_z88_01) (Sig.concepts z0_).length 3 1 l_z88_01, .vec (.slice A_z88_02 (Sig.roles z0_).length c_z88_02) (Sig.roles z0_).length 3 1 l_z88_02] : List Res)) e92), (Eq.mp (congrArg (fun z => kInt.reps R89 (Sig.concepts z) l_z88_01) e92) hv_z88_01), (Eq.mp (congrArg (fun z => kInt.reps R89 (Sig.roles z) l_z88_02) e92) hv_z88_02)⟩
 refine xW rfl ?_
 refine xA <| qC <| qF <| qA ?_
 refine tl (qG rfl) ?_
 refine tl (qH 3 rfl zI rfl) ?_
 refine tl (jN 2 rfl iU rfl rfl) ?_
 refine tl (jM rfl fQ) ?_
 refine tl (bK rfl rfl (by omega) (by omega)) ?_
 refine tl (qD rfl) ?_
 refine qB <| qC <| qF <| qF <| qA ?_
 refine tl (qG rfl) ?_
 refine tl (qH 4 rfl zJ rfl) ?_
 refine tl (jN 2 rfl iV rfl rfl) ?_
 refine tl (jM rfl fR) ?_
 refine tl (jQ rfl rfl rfl) ?_
 refine qB <| qC ?_
 refine qR 38 rfl (fun h93 => ?_) (fun h93 => ?_)
 refine xD rfl ?_
 refine qF ?_
 refine vW R (.blk b37 [.slice none 0 0, .slice none 0 0] 33 :: .blk b36 [.slice A1_s s.concepts.length c1_s, .slice A2_s s.roles.length c2_s] 33 :: .blk b35 [.slice A15 b.names.concepts.length d16, .slice A19 b.names.roles.length d20, .slice A23 b.names.inds.length d24, .slice A3 b.incls.length d4, .slice A6 b.roles.length d7, .slice A9 b.facts.length d10, .slice A12 b.links.length d13] 30 :: G) 19 mixed ?_
 refine td 0 rfl (by kernel_rfl) (qH 1 rfl gF rfl) (fun w hw => (((((hw.pick 3).tail.pick 3).tail.pick 2).pick 2).pick 2)) ?_
 refine td 1 rfl (by kernel_rfl) (jN 1 rfl cI rfl rfl) (fun w hw => (((((hw.pick 3).tail.pick 3).tail.pick 2).pick 2).pick 2)) ?_
 refine td 2 rfl (by kernel_rfl) (qH 4 rfl zJ rfl) (fun w hw => (((((hw.pick 3).tail.pick 3).tail.pick 2).pick 2).pick 2)) ?_
 refine td 3 rfl (by kernel_rfl) (jN 2 rfl iV rfl rfl) (fun w hw => (((((hw.pick 3).tail.pick 3).tail.pick 2).pick 2).pick 2)) ?_
 refine td 4 rfl (by kernel_rfl) (qG rfl) (fun w hw => (((((hw.pick 3).tail.pick 3).tail.pick 2).pick 2).pick 2)) ?_
 have hb99 : 0 ≤ k - (b.incls.length : Int) ∧ (k - (b.incls.length : Int)).toNat < b.roles.length := by omega
 obtain ⟨x94, hx95⟩ : ∃ x, b.roles[(k - (b.incls.length : Int)).toNat]? = some x := ⟨_, List.getElem?_eq_getElem hb99.2⟩
 obtain ⟨c96, hr97, ha98⟩ := hs8.get _ x94 hx95
 obtain ⟨rfl, i100, i101⟩ := id hr97
 unfold i64 at i100
 unfold i64 at i101
 have hf102 := hB.role hx95
 refine td 5 rfl (by kernel_rfl) (zG hs8 rfl rfl rfl fR hb99.1 hb99.2) (fun w hw => (((((hw.pick 3).tail.pick 3).tail.pick 2).pick 2).pick 2)) ?_
 refine td 6 rfl (by kernel_rfl) (qH _ rfl lL rfl) (fun w hw => (((((hw.pick 3).tail.pick 3).tail.pick 2).pick 2).pick 2)) ?_
 refine td 7 rfl (by kernel_rfl) (yL 0 ha98 rfl ld3 rfl rfl) (fun w hw => (((((hw.pick 3).tail.pick 3).tail.pick 2).pick 2).pick 2)) ?_
 refine td 8 rfl (by kernel_rfl) (dF rfl rfl (by omega) (by omega)) (fun w hw => (((((hw.pick 3).tail.pick 3).tail.pick 2).pick 2).pick 2)) ?_
 refine td 10 rfl (by kernel_rfl) (qH 4 rfl zJ rfl) (fun w hw => (((((hw.pick 3).tail.pick 3).tail.pick 2).pick 2).pick 2)) ?_
 refine td 11 rfl (by kernel_rfl) (jN 2 rfl iV rfl rfl) (fun w hw => (((((hw.pick 3).tail.pick 3).tail.pick 2).pick 2).pick 2)) ?_
 refine td 12 rfl (by kernel_rfl) (qG rfl) (fun w hw => (((((hw.pick 3).tail.pick 3).tail.pick 2).pick 2).pick 2)) ?_
 have hb108 : 0 ≤ k - (b.incls.length : Int) ∧ (k - (b.incls.length : Int)).toNat < b.roles.length := by omega
 obtain ⟨x103, hx104⟩ : ∃ x, b.roles[(k - (b.incls.length : Int)).toNat]? = some x := ⟨_, List.getElem?_eq_getElem hb108.2⟩
 obtain ⟨c105, hr106, ha107⟩ := hs8.get _ x103 hx104
 obtain ⟨rfl, i109, i110⟩ := id hr106
 unfold i64 at i109
 unfold i64 at i110
 have hf111 := hB.role hx104
 refine td 13 rfl (by kernel_rfl) (zG hs8 rfl rfl rfl fR hb108.1 hb108.2) (fun w hw => (((((hw.pick 3).tail.pick 3).tail.pick 2).pick 2).pick 2)) ?_
 refine td 14 rfl (by kernel_rfl) (qH _ rfl lM rfl) (fun w hw => (((((hw.pick 3).tail.pick 3).tail.pick 2).pick 2).pick 2)) ?_
 refine td 15 rfl (by kernel_rfl) (yL 1 ha107 rfl ld3 rfl rfl) (fun w hw => (((((hw.pick 3).tail.pick 3).tail.pick 2).pick 2).pick 2)) ?_
 refine td 16 rfl (by kernel_rfl) (dF rfl rfl (by omega) (by omega)) (fun w hw => (((((hw.pick 3).tail.pick 3).tail.pick 2).pick 2).pick 2)) ?_
 refine td1 9 (by kernel_rfl) rfl ?_
 refine tP (.vec (.slice A2_s s.roles.length c2_s) s.roles.length 3 1 l2_s :: .blk b37 [.slice none 0 0, .slice none 0 0] 33 :: .blk b36 [.slice A1_s s.concepts.length c1_s, .slice A2_s s.roles.length c2_s] 33 :: .blk b35 [.slice A15 b.names.concepts.length d16, .slice A19 b.names.roles.length d20, .slice A23 b.names.inds.length d24, .slice A3 b.incls.length d4, .slice A6 b.roles.length d7, .slice A9 b.facts.length d10, .slice A12 b.links.length d13] 30 :: .vec (.slice A1_s s.concepts.length c1_s) s.concepts.length 3 1 l1_s :: G) (fun w hw => (hw.pick 4)) ?_
 refine xE ca16 rfl (fun w hw => vH s.roles (x94.sub / 2) hv2_s (by unfold i64; omega) (by first | omega | (have a_ := vD (l := s.roles) (n := x94.sub / 2); omega)) hw) rfl ?_
 rintro _ R113 _ hle114 ⟨A_z112_0, c_z112_0, l_z112_0, rfl, rfl, hv_z112_0⟩
 try replace hs11 := hs11.mono hle114
 try replace hs14 := hs14.mono hle114
 try replace hv1_s := Kd.reps_mono hle114 hv1_s
 try replace hv2_s := Kd.reps_mono hle114 hv2_s
 refine qB ?_
 refine qW (fun w hw => (((((hw.tail.pick 3).tail.pick 2).pick 2).pick 2)).weaken hle114) ?_
 refine td1 17 (by kernel_rfl) rfl ?_
 refine xE ca16 rfl (fun w hw => vH (yC s.roles (x94.sub / 2)) (x103.sup / 2) hv_z112_0 (by unfold i64; omega) (by first | omega | (have a_ := vD (l := s.roles) (n := x94.sub / 2); omega)) hw) rfl ?_
 rintro _ R116 _ hle117 ⟨A_z115_0, c_z115_0, l_z115_0, rfl, rfl, hv_z115_0⟩
 try replace hs11 := hs11.mono hle117
 try replace hs14 := hs14.mono hle117
 try replace hv1_s := Kd.reps_mono hle117 hv1_s
 try replace hv2_s := Kd.reps_mono hle117 hv2_s
 have hle118 := hle114.trans hle117
 refine qB ?_
 refine qW (fun w hw => (((((hw.tail.pick 3).tail.pick 2).pick 2).pick 2)).weaken hle118) ?_
 refine td 18 rfl (by kernel_rfl) (qH 1 rfl gF rfl) (fun w hw => (((((hw.tail.pick 3).tail.pick 2).pick 2).pick 2)).weaken hle118) ?_
 refine td1 19 (by kernel_rfl) rfl ?_
 refine xM 2 [.slice A1_s s.concepts.length c1_s, .slice A_z115_0 ((yC (yC s.roles (x94.sub / 2)) (x103.sup / 2)).length) c_z115_0] rfl rfl cI rfl rfl rfl rfl rfl rfl ?_
 refine qB ?_
 refine xZ ?_
 refine xJ (by kernel_rfl) ?_
 refine qC <| qF <| qA ?_
 refine tl (qQ 2 [.slice A1_s s.concepts.length c1_s, .slice A_z115_0 ((yC (yC s.roles (x94.sub / 2)) (x103.sup / 2)).length) c_z115_0] rfl yO rfl rfl) ?_
 refine xM 1 [.slice A1_s s.concepts.length c1_s, .slice A_z115_0 ((yC (yC s.roles (x94.sub / 2)) (x103.sup / 2)).length) c_z115_0] rfl rfl yO rfl rfl rfl rfl rfl rfl ?_
 refine qB <| qC <| qV <| qI ?_
 refine kT (cells := [.slice A1_s s.concepts.length c1_s, .slice A_z115_0 ((yC (yC s.roles (x94.sub / 2)) (x103.sup / 2)).length) c_z115_0]) 1 (.inl rfl) rfl rfl yO rfl ?_
 have e119 : (Sig.mk s.concepts (yC (yC s.roles (x94.sub / 2)) (x103.sup / 2)) : Sig) = yE b k.toNat s := by (have n1_ : b.incls[k.toNat]? = none := List.getElem?_eq_none (by omega); have q_ := hx95; have q2_ := hx104; rw [q_] at q2_; cases q2_; rw [show (k - (b.incls.length : Int)).toNat = k.toNat - b.incls.length by omega] at q_; unfold yE; rw [n1_]; simp only []; rw [q_])
 intro w hw
 exact ⟨_, _, [.vec (.slice A1_s s.concepts.length c1_s) s.concepts.length 3 1 l1_s, .vec (.slice A_z115_0 ((yC (yC s.roles (x94.sub / 2)) (x103.sup / 2)).length) c_z115_0) ((yC (yC s.roles (x94.sub / 2)) (x103.sup / 2)).length) 3 1 l_z115_0], rfl, hle118, ((((hw.pick 1).tail.pick 1).tail.pick 1).tail.pick 1), A1_s, c1_s, l1_s, A_z115_0, c_z115_0, l_z115_0, (congrArg (fun (z0_ : Sig) => (.agg #[.slice A1_s (Sig.concepts z0_).length c1_s, .slice A_z115_0 (Sig.roles z0_).length c_z115_0] : Value)) e119), (congrArg (fun (z0_ : Sig) => ([.vec (.slice A1_s (Sig.concepts z0_).length c1_s) (Sig.concepts z0_).length 3 1 l1_s, .vec (.slice A_z115_0 (Sig.roles z0_).length c_z115_0) (Sig.roles z0_).length 3 1 l_z115_0] : List Res)) e119), (Eq.mp (congrArg (fun z => kInt.reps R116 (Sig.concepts z) l1_s) e119) hv1_s), (Eq.mp (congrArg (fun z => kInt.reps R116 (Sig.roles z) l_z115_0) e119) hv_z115_0)⟩
 refine xW rfl ?_
 refine xA <| qC <| qF <| qA ?_
 refine tl (qG rfl) ?_
 refine tl (qH 4 rfl zJ rfl) ?_
 refine tl (jN 2 rfl iV rfl rfl) ?_
 refine tl (jM rfl fR) ?_
 refine tl (bK rfl rfl (by omega) (by omega)) ?_
 refine tl (qD rfl) ?_
 refine qB <| qC <| qF <| qF <| qA ?_
 refine tl (qG rfl) ?_
 refine tl (qH 5 rfl gA rfl) ?_
 refine tl (jN 2 rfl mG rfl rfl) ?_
 refine tl (jM rfl iQ) ?_
 refine tl (jQ rfl rfl rfl) ?_
 refine qB <| qC ?_
 refine qR 68 rfl (fun h120 => ?_) (fun h120 => ?_)
 refine xD rfl ?_
 refine qF ?_
 refine mC 7 mixed (by kernel_rfl) ?_
 refine ts (qQ 1 [.slice A1_s s.concepts.length c1_s, .slice A2_s s.roles.length c2_s] rfl yO rfl rfl) ?_
 refine ts (qH 5 rfl gA rfl) ?_
 refine ts (jN 2 rfl mG rfl rfl) ?_
 refine ts (qG rfl) ?_
 have hb126 : 0 ≤ (k - (b.incls.length : Int)) - (b.roles.length : Int) ∧ ((k - (b.incls.length : Int)) - (b.roles.length : Int)).toNat < b.facts.length := by omega
 obtain ⟨x121, hx122⟩ : ∃ x, b.facts[((k - (b.incls.length : Int)) - (b.roles.length : Int)).toNat]? = some x := ⟨_, List.getElem?_eq_getElem hb126.2⟩
 obtain ⟨c123, hr124, ha125⟩ := hs11.get _ x121 hx122
 obtain ⟨c127, rfl, i128, hr129⟩ := id hr124
 unfold i64 at i128
 obtain ⟨A130, d131, rfl, i132, i133, hs134⟩ := qM hr129
 unfold i64 at i132 i133
 have z135 := hs134.size
 unfold big at z135
 have hf136 := hB.fact hx122
 refine ts (zG hs11 rfl rfl rfl iQ hb126.1 hb126.2) ?_
 refine ts (qH _ rfl lI rfl) ?_
 refine ts (jD 1 [.int .i64 x121.con.op, .int .i64 x121.con.n, .slice A130 x121.con.args.length d131] ha125 rfl vS rfl rfl) ?_
 refine qH3 ?_
 refine tP (.vec (.slice A1_s s.concepts.length c1_s) s.concepts.length 3 1 l1_s :: .vec (.slice A2_s s.roles.length c2_s) s.roles.length 3 1 l2_s :: .blk b37 [.slice none 0 0, .slice none 0 0] 33 :: .blk b36 [.slice A1_s s.concepts.length c1_s, .slice A2_s s.roles.length c2_s] 33 :: .blk b35 [.slice A15 b.names.concepts.length d16, .slice A19 b.names.roles.length d20, .slice A23 b.names.inds.length d24, .slice A3 b.incls.length d4, .slice A6 b.roles.length d7, .slice A9 b.facts.length d10, .slice A12 b.links.length d13] 30 :: G) (fun w hw => ((hw.pick 4).pick 4)) ?_
 refine xE ca76 rfl (fun w hw => zQ (Sig.mk s.concepts s.roles) x121.con hv1_s hv2_s hr129 (by first | omega | grind | (have a_ := pB (Sig.mk s.concepts s.roles) x121.sub; simp only at a_ ⊢; first | omega | grind)) (by first | omega | grind | (have a_ := pB (Sig.mk s.concepts s.roles) x121.sub; simp only at a_ ⊢; first | omega | grind)) hw) rfl ?_
 rintro _ R138 _ hle139 ⟨A_z137_01, c_z137_01, l_z137_01, A_z137_02, c_z137_02, l_z137_02, rfl, rfl, hv_z137_01, hv_z137_02⟩
 try replace hs14 := hs14.mono hle139
 try replace hv1_s := Kd.reps_mono hle139 hv1_s
 try replace hv2_s := Kd.reps_mono hle139 hv2_s
 refine xM 2 [.slice A_z137_01 ((zW (Sig.mk s.concepts s.roles) x121.con).concepts.length) c_z137_01, .slice A_z137_02 ((zW (Sig.mk s.concepts s.roles) x121.con).roles.length) c_z137_02] rfl rfl yO rfl rfl rfl rfl rfl rfl ?_
 refine qB <| qC <| qV <| qI ?_
 refine kT (cells := [.slice A_z137_01 ((zW (Sig.mk s.concepts s.roles) x121.con).concepts.length) c_z137_01, .slice A_z137_02 ((zW (Sig.mk s.concepts s.roles) x121.con).roles.length) c_z137_02]) 2 (.inl rfl) rfl rfl yO rfl ?_
 have e140 : (Sig.mk ((zW (Sig.mk s.concepts s.roles) x121.con).concepts) ((zW (Sig.mk s.concepts s.roles) x121.con).roles) : Sig) = yE b k.toNat s := by (have n1_ : b.incls[k.toNat]? = none := List.getElem?_eq_none (by omega); have n2_ : b.roles[k.toNat - b.incls.length]? = none := List.getElem?_eq_none (by omega); have q_ := hx122; rw [show (k - (b.incls.length : Int) - (b.roles.length : Int)).toNat = k.toNat - b.incls.length - b.roles.length by omega] at q_; unfold yE; rw [n1_]; simp only []; rw [n2_]; simp only []; rw [q_])
 intro w hw
 exact ⟨_, _, [.vec (.slice A_z137_01 ((zW (Sig.mk s.concepts s.roles) x121.con).concepts.length) c_z137_01) ((zW (Sig.mk s.concepts s.roles) x121.con).concepts.length) 3 1 l_z137_01, .vec (.slice A_z137_02 ((zW (Sig.mk s.concepts s.roles) x121.con).roles.length) c_z137_02) ((zW (Sig.mk s.concepts s.roles) x121.con).roles.length) 3 1 l_z137_02], rfl, hle139, (((((hw.pick 2).tail.pick 2).tail.pick 2).tail.pick 1).pick 1), A_z137_01, c_z137_01, l_z137_01, A_z137_02, c_z137_02, l_z137_02, (congrArg (fun (z0_ : Sig) => (.agg #[.slice A_z137_01 (Sig.concepts z0_).length c_z137_01, .slice A_z137_02 (Sig.roles z0_).length c_z137_02] : Value)) e140), (congrArg (fun (z0_ : Sig) => ([.vec (.slice A_z137_01 (Sig.concepts z0_).length c_z137_01) (Sig.concepts z0_).length 3 1 l_z137_01, .vec (.slice A_z137_02 (Sig.roles z0_).length c_z137_02) (Sig.roles z0_).length 3 1 l_z137_02] : List Res)) e140), (Eq.mp (congrArg (fun z => kInt.reps R138 (Sig.concepts z) l_z137_01) e140) hv_z137_01), (Eq.mp (congrArg (fun z => kInt.reps R138 (Sig.roles z) l_z137_02) e140) hv_z137_02)⟩
 refine xW rfl ?_
 refine xA <| qC <| qF ?_
 refine mC 12 mixed (by kernel_rfl) ?_
 refine ts (qH 1 rfl gF rfl) ?_
 refine ts (jN 1 rfl cI rfl rfl) ?_
 refine ts (qH 6 rfl uF rfl) ?_
 refine ts (jN 2 rfl qF7 rfl rfl) ?_
 refine ts (qG rfl) ?_
 refine ts (qH 5 rfl gA rfl) ?_
 refine ts (jN 2 rfl mG rfl rfl) ?_
 refine ts (jM rfl iQ) ?_
 refine ts (bK rfl rfl (by omega) (by omega)) ?_
 have hb146 : 0 ≤ ((k - (b.incls.length : Int)) - (b.roles.length : Int)) - (b.facts.length : Int) ∧ (((k - (b.incls.length : Int)) - (b.roles.length : Int)) - (b.facts.length : Int)).toNat < b.links.length := by omega
 obtain ⟨x141, hx142⟩ : ∃ x, b.links[(((k - (b.incls.length : Int)) - (b.roles.length : Int)) - (b.facts.length : Int)).toNat]? = some x := ⟨_, List.getElem?_eq_getElem hb146.2⟩
 obtain ⟨c143, hr144, ha145⟩ := hs14.get _ x141 hx142
 obtain ⟨rfl, i147, i148, i149⟩ := id hr144
 unfold i64 at i147
 unfold i64 at i148
 unfold i64 at i149
 have hf150 := hB.link hx142
 refine ts (zG hs14 rfl rfl rfl rW hb146.1 hb146.2) ?_
 refine ts (qH _ rfl cH rfl) ?_
 refine ts (yL 0 ha145 rfl ld3 rfl rfl) ?_
 refine qH3 ?_
 refine tP (.vec (.slice A2_s s.roles.length c2_s) s.roles.length 3 1 l2_s :: .blk b37 [.slice none 0 0, .slice none 0 0] 33 :: .blk b36 [.slice A1_s s.concepts.length c1_s, .slice A2_s s.roles.length c2_s] 33 :: .blk b35 [.slice A15 b.names.concepts.length d16, .slice A19 b.names.roles.length d20, .slice A23 b.names.inds.length d24, .slice A3 b.incls.length d4, .slice A6 b.roles.length d7, .slice A9 b.facts.length d10, .slice A12 b.links.length d13] 30 :: .vec (.slice A1_s s.concepts.length c1_s) s.concepts.length 3 1 l1_s :: G) (fun w hw => (hw.pick 4)) ?_
 refine xE ca16 rfl (fun w hw => vH s.roles x141.role hv2_s (by unfold i64; omega) (by first | omega | (have a_ := vD (l := s.roles) (n := x141.sub / 2); omega)) hw) rfl ?_
 rintro _ R152 _ hle153 ⟨A_z151_0, c_z151_0, l_z151_0, rfl, rfl, hv_z151_0⟩
 try replace hv1_s := Kd.reps_mono hle153 hv1_s
 refine tl (qH 1 rfl gF rfl) ?_
 refine xM 2 [.slice A1_s s.concepts.length c1_s, .slice A_z151_0 ((yC s.roles x141.role).length) c_z151_0] rfl rfl cI rfl rfl rfl rfl rfl rfl ?_
 refine qB <| qC <| qF <| qA ?_
 refine tl (qQ 2 [.slice A1_s s.concepts.length c1_s, .slice A_z151_0 ((yC s.roles x141.role).length) c_z151_0] rfl yO rfl rfl) ?_
 refine xM 1 [.slice A1_s s.concepts.length c1_s, .slice A_z151_0 ((yC s.roles x141.role).length) c_z151_0] rfl rfl yO rfl rfl rfl rfl rfl rfl ?_
 refine qB <| qC <| qV ?_
 refine kT (cells := [.slice A1_s s.concepts.length c1_s, .slice A_z151_0 ((yC s.roles x141.role).length) c_z151_0]) 1 (.inl rfl) rfl rfl yO rfl ?_
 have e154 : (Sig.mk s.concepts (yC s.roles x141.role) : Sig) = yE b k.toNat s := by (have n1_ : b.incls[k.toNat]? = none := List.getElem?_eq_none (by omega); have n2_ : b.roles[k.toNat - b.incls.length]? = none := List.getElem?_eq_none (by omega); have n3_ : b.facts[k.toNat - b.incls.length - b.roles.length]? = none := List.getElem?_eq_none (by omega); have q_ := hx142; rw [show (k - (b.incls.length : Int) - (b.roles.length : Int) - (b.facts.length : Int)).toNat = k.toNat - b.incls.length - b.roles.length - b.facts.length by omega] at q_; unfold yE; rw [n1_]; simp only []; rw [n2_]; simp only []; rw [n3_]; simp only []; rw [q_])
 intro w hw
 exact ⟨_, _, [.vec (.slice A1_s s.concepts.length c1_s) s.concepts.length 3 1 l1_s, .vec (.slice A_z151_0 ((yC s.roles x141.role).length) c_z151_0) ((yC s.roles x141.role).length) 3 1 l_z151_0], rfl, hle153, ((((hw.pick 1).tail.pick 1).tail.pick 1).tail.pick 1), A1_s, c1_s, l1_s, A_z151_0, c_z151_0, l_z151_0, (congrArg (fun (z0_ : Sig) => (.agg #[.slice A1_s (Sig.concepts z0_).length c1_s, .slice A_z151_0 (Sig.roles z0_).length c_z151_0] : Value)) e154), (congrArg (fun (z0_ : Sig) => ([.vec (.slice A1_s (Sig.concepts z0_).length c1_s) (Sig.concepts z0_).length 3 1 l1_s, .vec (.slice A_z151_0 (Sig.roles z0_).length c_z151_0) (Sig.roles z0_).length 3 1 l_z151_0] : List Res)) e154), (Eq.mp (congrArg (fun z => kInt.reps R152 (Sig.concepts z) l1_s) e154) hv1_s), (Eq.mp (congrArg (fun z => kInt.reps R152 (Sig.roles z) l_z151_0) e154) hv_z151_0)⟩

end Go.Proofs.YtcbcdlajnmkioaaGreatDoor
