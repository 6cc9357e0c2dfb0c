/- A part of the proof of the statement ModuleModules of isagogelaw19: functions walked, and plain laws on what they answer. -/
import Derived.Test.YtcbcdlajnmkioaaGreatDoorF
namespace Go.Proofs.YtcbcdlajnmkioaaGreatDoor
open Go Go.Proofs
set_option linter.unusedSimpArgs false
set_option linter.unusedVariables false
set_option maxRecDepth 20000
set_option maxHeartbeats 8000000
theorem ca25 : Callable Tryz.prog 25 := ⟨by kernel_rfl⟩
theorem ca28 : Callable Tryz.prog 28 := ⟨by kernel_rfl⟩
theorem ca29 : Callable Tryz.prog 29 := ⟨by kernel_rfl⟩
theorem ca40 : Callable Tryz.prog 40 := ⟨by kernel_rfl⟩
theorem ca41 : Callable Tryz.prog 41 := ⟨by kernel_rfl⟩
theorem lU : kG Tryz.prog 84 0 = some 0 := by kernel_rfl
theorem lV : kG Tryz.prog 84 1 = some 1 := by kernel_rfl
theorem qJ1 : kG Tryz.prog 87 0 = some 0 := by kernel_rfl
theorem cS : kG Tryz.prog 89 0 = some 0 := by kernel_rfl
theorem qJ2 : kG Tryz.prog 89 1 = some 1 := by kernel_rfl
theorem qJ3 : kG Tryz.prog 89 2 = some 2 := by kernel_rfl
theorem qG9 : kR Tryz.prog 84 = some (true, 2) := by kernel_rfl
theorem qH0 : kR Tryz.prog 89 = some (true, 3) := by kernel_rfl
theorem zc84 : zG Tryz.prog 84 = some [.int .i64 0, .int .i64 0] := by kernel_rfl
theorem zc89 : zG Tryz.prog 89 = some [.int .i64 0, .int .i64 0, .int .i64 0] := by kernel_rfl

def okC (n : Names) (c : Concept) : Prop := jW c ≤ 400 ∧ yH c ≤ 20 ∧ jZ n c = true
instance (n : Names) (c : Concept) : Decidable (okC n c) := inferInstanceAs (Decidable (_ ∧ _ ∧ _))
def okR (n : Names) (r : Int) : Prop := 0 ≤ r ∧ r < 2 * (n.roles.length : Int)
instance (n : Names) (r : Int) : Decidable (okR n r) := inferInstanceAs (Decidable (_ ∧ _))
def okI (n : Names) (r : Int) : Prop := 0 ≤ r ∧ r < (n.inds.length : Int)
instance (n : Names) (r : Int) : Decidable (okI n r) := inferInstanceAs (Decidable (_ ∧ _))
def okL (n : Names) (x : Link) : Prop := 0 ≤ x.role ∧ x.role < (n.roles.length : Int) ∧ okI n x.frm ∧ okI n x.to
instance (n : Names) (x : Link) : Decidable (okL n x) := inferInstanceAs (Decidable (_ ∧ _ ∧ _ ∧ _))
structure BaseOk (b : Base) : Prop where
  names : yG b.names = true
  count : xT b ≤ 60
  concepts : ∀ c ∈ xM b, okC b.names c
  roles : ∀ x ∈ b.roles, okR b.names x.sub ∧ okR b.names x.sup
  facts : ∀ x ∈ b.facts, okI b.names x.ind
  links : ∀ x ∈ b.links, okL b.names x
  nodes : jI (xM b) ≤ 400
theorem qE7 (b : Base) : BaseOk b ↔ (yG b.names = true ∧ xT b ≤ 60 ∧ (∀ c ∈ xM b, okC b.names c) ∧ (∀ x ∈ b.roles, okR b.names x.sub ∧ okR b.names x.sup) ∧ (∀ x ∈ b.facts, okI b.names x.ind) ∧ (∀ x ∈ b.links, okL b.names x) ∧ jI (xM b) ≤ 400) :=
  ⟨fun h => ⟨h.1, h.2, h.3, h.4, h.5, h.6, h.7⟩, fun h => ⟨h.1, h.2.1, h.2.2.1, h.2.2.2.1, h.2.2.2.2.1, h.2.2.2.2.2.1, h.2.2.2.2.2.2⟩⟩
instance (b : Base) : Decidable (BaseOk b) := decidable_of_iff _ (qE7 b).symm
def vM (b : Base) : Bool := decide (BaseOk b)

theorem cT {R : RO} {G : List Res} {w : World} {c_b : List Value} (b : Base) (hr_b : kBase.rep R b c_b) (hw : Own w R (G)) :
    Calls Tryz.prog 10 [.agg c_b.toArray].toArray w (kK R G (.bool (vM b))) := by
 obtain ⟨c1, A3, d4, A6, d7, A9, d10, A12, d13, rfl, hr2, hs5, hs8, hs11, hs14⟩ := id hr_b
 have z27 := hs5.size
 unfold big at z27
 have z28 := hs8.size
 unfold big at z28
 have z29 := hs11.size
 unfold big at z29
 have z30 := hs14.size
 unfold big at z30
 obtain ⟨A15, d16, A19, d20, A23, d24, rfl, hs17, hs21, hs25⟩ := id hr2
 have z18 := hs17.size
 unfold big at z18
 have z22 := hs21.size
 unfold big at z22
 have z26 := hs25.size
 unfold big at z26
 refine xH (vs := [.agg #[.slice A15 b.names.concepts.length d16, .slice A19 b.names.roles.length d20, .slice A23 b.names.inds.length d24, .slice A3 b.incls.length d4, .slice A6 b.roles.length d7, .slice A9 b.facts.length d10, .slice A12 b.links.length d13]]) Tryz.func10 rfl rfl rfl ?_ hw
 refine qE <| qA ?_
 refine qW (l := [.slice A15 b.names.concepts.length d16, .slice A19 b.names.roles.length d20, .slice A23 b.names.inds.length d24, .slice A3 b.incls.length d4, .slice A6 b.roles.length d7, .slice A9 b.facts.length d10, .slice A12 b.links.length d13]) rfl rfl fun b31 => ?_
 refine tl (qD rfl) ?_
 refine qB <| qC <| qE ?_
 refine vH [(0, .agg #[.slice A15 b.names.concepts.length d16, .slice A19 b.names.roles.length d20, .slice A23 b.names.inds.length d24, .slice A3 b.incls.length d4, .slice A6 b.roles.length d7, .slice A9 b.facts.length d10, .slice A12 b.links.length d13]), (1, .pointer (some ⟨b31, 0, none⟩)), (2, .bool false), (22, .bool (decide (((!(yG b.names)) = true) ∨ (60 < (xT b : Int)))))] (.blk b31 [.slice A15 b.names.concepts.length d16, .slice A19 b.names.roles.length d20, .slice A23 b.names.inds.length d24, .slice A3 b.incls.length d4, .slice A6 b.roles.length d7, .slice A9 b.facts.length d10, .slice A12 b.links.length d13] 30 :: G) (fun _ => True) (fun K hK32 hE33 => ?_) ?_
 refine qA ?_
 refine tl (qH 0 rfl zJ rfl) ?_
 refine tl (qQ 0 [.slice A15 b.names.concepts.length d16, .slice A19 b.names.roles.length d20, .slice A23 b.names.inds.length d24] rfl bT rfl rfl) ?_
 refine xC ca28 rfl (fun w hw => uY b.names hr2 hw) rfl ?_
 refine tl (wJ rfl) ?_
 refine tl (qG rfl) ?_
 refine kQ 18 rfl (fun h34 => ?_) (fun h34 => ?_)
 refine qF 18 rfl rfl rfl ?_
 refine qF 18 rfl rfl rfl ?_
 refine qF 18 rfl rfl rfl ?_
 refine tl (qR rfl rfl) ?_
 refine qB ?_
 exact xW hK32 (.refl _) (trivial) ⟨rfl, rfl, rfl, show some (Value.bool true) = some (Value.bool (decide (((!(yG b.names)) = true) ∨ (60 < (xT b : Int))))) by first | (simp [h34]; done) | grind | (simp [h34] <;> omega), trivial⟩ (fun w hw => hw)
 refine qJ 18 rfl rfl ?_
 refine tl (qQ 0 [.slice A15 b.names.concepts.length d16, .slice A19 b.names.roles.length d20, .slice A23 b.names.inds.length d24, .slice A3 b.incls.length d4, .slice A6 b.roles.length d7, .slice A9 b.facts.length d10, .slice A12 b.links.length d13] rfl pN rfl rfl) ?_
 refine qJ 18 rfl rfl ?_
 refine xC ca25 rfl (fun w hw => gF b hr_b hw) rfl ?_
 refine qJ 18 rfl rfl ?_
 refine tl (jR rfl rfl rfl) ?_
 refine tl (qO rfl rfl) ?_
 refine qB ?_
 exact xW hK32 (.refl _) (trivial) ⟨rfl, rfl, rfl, show some (Value.bool (decide (60 < (xT b : Int)))) = some (Value.bool (decide (((!(yG b.names)) = true) ∨ (60 < (xT b : Int))))) by first | (simp [h34]; done) | grind | (simp [h34] <;> omega), trivial⟩ (fun w hw => hw)
 refine fun R36 hle37 hj35 => jH hle37 ?_
 refine qP 22 rfl (fun h38 => ?_) (fun h38 => ?_)
 refine xE rfl ?_
 refine qE <| qA ?_
 refine tl (qD rfl) ?_
 refine qB <| qC <| qV <| qI ?_
 refine xB (.inl rfl) rfl rfl ?_
 have e39 : (false : Bool) = vM b := by (rw [eq_comm]; unfold vM; rw [decide_eq_false_iff_not]; intro h_; have h1_ := h_.names; have h2_ := h_.count; grind)
 exact fun w hw => ⟨congrArg Ending.returned (congrArg (fun x0 => Value.bool x0) e39), hw.drop 1⟩
 refine xV rfl ?_
 refine qZ <| qC <| qE <| qA ?_
 refine tl (qD rfl) ?_
 refine qB <| qC <| qE <| qE <| qA ?_
 refine tl (qQ 0 [.slice A15 b.names.concepts.length d16, .slice A19 b.names.roles.length d20, .slice A23 b.names.inds.length d24, .slice A3 b.incls.length d4, .slice A6 b.roles.length d7, .slice A9 b.facts.length d10, .slice A12 b.links.length d13] rfl pN rfl rfl) ?_
 refine xD ca38 rfl (fun w hw => zX b hr_b (by (have h_ : xT b ≤ 60 := (by omega)); unfold xT at h_; omega) hw) rfl ?_
 rintro _ R41 _ hle42 ⟨A_z40_0, d_z40_0, rfl, rfl, hs_z40_0⟩
 try replace hr2 := kNames.mono _ _ _ _ hle42 hr2
 try replace hs8 := hs8.mono hle42
 try replace hs11 := hs11.mono hle42
 try replace hs14 := hs14.mono hle42
 have z43 := hs_z40_0.size
 unfold big at z43
 have hf44 := pF b
 refine tl (jJ rfl sK) ?_
 refine tl (qG rfl) ?_
 refine qB <| qC <| qX ?_
 refine jF ?_
 refine jN (fun i : Nat => (xM b).length - i) (fun i : Nat => [(1, .pointer (some ⟨b31, 0, none⟩)), (24, .slice A_z40_0 ((xM b).length) d_z40_0), (25, .int .i64 ((xM b).length : Int)), (26, .int .i64 (i : Int)), (3, .int .i64 ((jI ((xM b).take i) : Nat) : Int))]) (fun i : Nat => (.blk b31 [.slice A15 b.names.concepts.length d16, .slice A19 b.names.roles.length d20, .slice A23 b.names.inds.length d24, .slice A3 b.incls.length d4, .slice A6 b.roles.length d7, .slice A9 b.facts.length d10, .slice A12 b.links.length d13] 30 :: G)) (fun (i : Nat) => i ≤ (xM b).length ∧ jI ((xM b).take i) ≤ i * 400 ∧ ∀ c ∈ (xM b).take i, okC b.names c) (0) ⟨rfl, rfl, rfl, rfl, congrArg (fun z => some (Value.int .i64 z)) (show (0 : Int) = ((jI ((xM b).take 0) : Nat) : Int) by first | rfl | omega | (simp; done) | (simp; omega)), trivial⟩ (by exact ⟨by omega, by simp [jI], by simp⟩) (fun w hw => hw) ?_
 rintro i hI45 ih46
 show TC Tryz.prog _ _ _ [] [(1, .pointer (some ⟨b31, 0, none⟩)), (24, .slice A_z40_0 ((xM b).length) d_z40_0), (25, .int .i64 ((xM b).length : Int)), (26, .int .i64 (i : Int)), (3, .int .i64 ((jI ((xM b).take i) : Nat) : Int))] R41 (.blk b31 [.slice A15 b.names.concepts.length d16, .slice A19 b.names.roles.length d20, .slice A23 b.names.inds.length d24, .slice A3 b.incls.length d4, .slice A6 b.roles.length d7, .slice A9 b.facts.length d10, .slice A12 b.links.length d13] 30 :: G)
 obtain ⟨hi1, hi2, hi3⟩ := hI45
 have hc_ := pF b
 have hx_ : xT b ≤ 60 := by omega
 unfold xT at hx_
 refine qE <| qA ?_
 refine tl (jR rfl rfl rfl) ?_
 refine qB <| qC <| qE ?_
 refine qP 27 rfl (fun h49 => ?_) (fun h49 => ?_)
 refine xE rfl ?_
 refine qZ <| qC <| qE <| qX <| qE <| qA ?_
 have hb55 : i < (xM b).length := by omega
 obtain ⟨x50, hx51⟩ : ∃ x, (xM b)[i]? = some x := ⟨_, List.getElem?_eq_getElem hb55⟩
 obtain ⟨c52, hr53, ha54⟩ := hs_z40_0.get _ x50 hx51
 obtain ⟨A56, d57, rfl, i58, i59, hs60⟩ := qM hr53
 unfold i64 at i58 i59
 have z61 := hs60.size
 unfold big at z61
 have hf62 := pQ hx51
 refine tl (jV (i := i) hs_z40_0 rfl rfl rfl sK hb55) ?_
 refine tl (jA 0 [.int .i64 x50.op, .int .i64 x50.n, .slice A56 x50.args.length d57] ha54 rfl vU rfl rfl) ?_
 refine qS eZ rfl fun b63 => ?_
 refine xN 0 [.int .i64 x50.op, .int .i64 x50.n, .slice A56 x50.args.length d57] rfl rfl vU rfl rfl rfl rfl rfl rfl ?_
 refine qB <| qC <| qE <| qE <| qA ?_
 refine tl (qH 0 rfl zJ rfl) ?_
 refine tl (qQ 1 [.slice A15 b.names.concepts.length d16, .slice A19 b.names.roles.length d20, .slice A23 b.names.inds.length d24] rfl bT rfl rfl) ?_
 refine tl (qQ 0 [.int .i64 x50.op, .int .i64 x50.n, .slice A56 x50.args.length d57] rfl vU rfl rfl) ?_
 refine xC ca29 rfl (fun w hw => cK b.names x50 hr2 hr53 hw) rfl ?_
 refine tl (wZ rfl) ?_
 refine qB <| qC ?_
 refine qP 34 rfl (fun h64 => ?_) (fun h64 => ?_)
 refine xE rfl ?_
 refine qE <| qA ?_
 refine tl (qD rfl) ?_
 refine qB <| qC <| qV <| qI <| qN <| qI <| qI <| qN <| qI ?_
 refine xB (.inl rfl) rfl rfl ?_
 have e65 : (false : Bool) = vM b := by (rw [eq_comm]; unfold vM; rw [decide_eq_false_iff_not]; intro h_; have h1_ := h_.concepts _ (List.mem_of_getElem? hx51); unfold okC at h1_; grind)
 exact fun w hw => ⟨congrArg Ending.returned (congrArg (fun x0 => Value.bool x0) e65), (hw.drop 2).weaken hle42⟩
 refine xV rfl ?_
 refine qZ <| qC <| qE <| qA ?_
 refine tl (qQ 0 [.int .i64 x50.op, .int .i64 x50.n, .slice A56 x50.args.length d57] rfl vU rfl rfl) ?_
 refine xC ca39 rfl (fun w hw => zC x50 hr53 (by grind) hw) rfl ?_
 refine tl (qG rfl) ?_
 refine tl (jG rfl rfl) ?_
 refine tl (jG rfl rfl) ?_
 refine tl (qD rfl) ?_
 refine tl (qD rfl) ?_
 refine qB <| qC <| qA ?_
 refine tl (qG rfl) ?_
 refine tl (qG rfl) ?_
 refine tl (jT rfl rfl (by omega) (by omega)) ?_
 refine tl (qD rfl) ?_
 refine qB <| jC <| qC <| qA ?_
 refine tl (jT rfl rfl (by omega) (by omega)) ?_
 refine tl (qG rfl) ?_
 refine qB ?_
 refine xQ ?_
 exact fun a w ha hw => ih46.out (i + 1) (by exact ⟨by omega, by grind, vQ hi3 hx51 (by unfold okC; grind)⟩) (by (try dsimp only); omega) a w (ha.sub (xL ⟨rfl, rfl, rfl, rfl, congrArg (fun z => some (Value.int .i64 z)) (show (((jI ((xM b).take i) : Nat) : Int) + (jW x50 : Int) : Int) = ((jI ((xM b).take (i + 1)) : Nat) : Int) by first | rfl | omega), trivial⟩)) (hw.drop 1)
 refine xV rfl ?_
 refine jE <| qK <| qK <| xG <| qC <| qE <| qE <| qA ?_
 refine tl (qH 4 rfl yL rfl) ?_
 refine tl (jM 0 rfl fH rfl rfl) ?_
 refine tl (jJ rfl eU) ?_
 refine tl (qG rfl) ?_
 refine qB <| qC <| qX ?_
 refine jF ?_
 refine jN (fun j : Nat => b.roles.length - j) (fun j : Nat => [(1, .pointer (some ⟨b31, 0, none⟩)), (3, .int .i64 ((jI ((xM b).take i) : Nat) : Int)), (45, .slice A6 b.roles.length d7), (46, .int .i64 (b.roles.length : Int)), (47, .int .i64 (j : Int))]) (fun j : Nat => (.blk b31 [.slice A15 b.names.concepts.length d16, .slice A19 b.names.roles.length d20, .slice A23 b.names.inds.length d24, .slice A3 b.incls.length d4, .slice A6 b.roles.length d7, .slice A9 b.facts.length d10, .slice A12 b.links.length d13] 30 :: G)) (fun (j : Nat) => j ≤ b.roles.length ∧ ∀ x ∈ b.roles.take j, okR b.names x.sub ∧ okR b.names x.sup) (0) (by repeat' constructor) (by exact ⟨by omega, by simp⟩) (fun w hw => hw) ?_
 rintro j hI66 ih67
 show TC Tryz.prog _ _ _ [] [(1, .pointer (some ⟨b31, 0, none⟩)), (3, .int .i64 ((jI ((xM b).take i) : Nat) : Int)), (45, .slice A6 b.roles.length d7), (46, .int .i64 (b.roles.length : Int)), (47, .int .i64 (j : Int))] R41 (.blk b31 [.slice A15 b.names.concepts.length d16, .slice A19 b.names.roles.length d20, .slice A23 b.names.inds.length d24, .slice A3 b.incls.length d4, .slice A6 b.roles.length d7, .slice A9 b.facts.length d10, .slice A12 b.links.length d13] 30 :: G)
 obtain ⟨hj1, hj2⟩ := hI66
 refine qE <| qA ?_
 refine tl (jR rfl rfl rfl) ?_
 refine qB <| qC <| qE ?_
 refine qP 48 rfl (fun h70 => ?_) (fun h70 => ?_)
 refine xE rfl ?_
 refine qZ <| qC <| qE <| qX <| qE <| qA ?_
 have hb76 : j < b.roles.length := by omega
 obtain ⟨x71, hx72⟩ : ∃ x, b.roles[j]? = some x := ⟨_, List.getElem?_eq_getElem hb76⟩
 obtain ⟨c73, hr74, ha75⟩ := hs8.get _ x71 hx72
 obtain ⟨rfl, i77, i78⟩ := id hr74
 unfold i64 at i77
 unfold i64 at i78
 refine tl (jV (i := j) hs8 rfl rfl rfl eU hb76) ?_
 refine tl (jA 0 [.int .i64 x71.sub, .int .i64 x71.sup] ha75 rfl qG9 rfl rfl) ?_
 refine qS zc84 rfl fun b79 => ?_
 refine xN 0 [.int .i64 x71.sub, .int .i64 x71.sup] rfl rfl qG9 rfl rfl rfl rfl rfl rfl ?_
 refine qB <| qC ?_
 refine vH [(1, .pointer (some ⟨b31, 0, none⟩)), (3, .int .i64 ((jI ((xM b).take i) : Nat) : Int)), (45, .slice A6 b.roles.length d7), (46, .int .i64 (b.roles.length : Int)), (47, .int .i64 (j : Int)), (48, .bool true), (9, .pointer (some ⟨b79, 0, none⟩)), (64, .bool (decide ((¬ (0 ≤ x71.sub ∧ x71.sub < 2 * (b.names.roles.length : Int))) ∨ (¬ (0 ≤ x71.sup ∧ x71.sup < 2 * (b.names.roles.length : Int))))))] (.blk b79 [.int .i64 x71.sub, .int .i64 x71.sup] 84 :: .blk b31 [.slice A15 b.names.concepts.length d16, .slice A19 b.names.roles.length d20, .slice A23 b.names.inds.length d24, .slice A3 b.incls.length d4, .slice A6 b.roles.length d7, .slice A9 b.facts.length d10, .slice A12 b.links.length d13] 30 :: G) (fun _ => True) (fun K hK80 hE81 => ?_) ?_
 refine qA ?_
 refine tl (qH 0 rfl zJ rfl) ?_
 refine tl (qQ 1 [.slice A15 b.names.concepts.length d16, .slice A19 b.names.roles.length d20, .slice A23 b.names.inds.length d24] rfl bT rfl rfl) ?_
 refine tl (qH 0 rfl lU rfl) ?_
 refine tl (jM 0 rfl ld3 rfl rfl) ?_
 refine xC ca40 rfl (fun w hw => hY b.names x71.sub hr2 (by unfold i64; omega) hw) rfl ?_
 refine tl (wZ rfl) ?_
 refine tl (qG rfl) ?_
 refine xX 57 rfl (fun h82 => ?_) (fun h82 => ?_)
 refine qF 57 rfl rfl rfl ?_
 refine qF 57 rfl rfl rfl ?_
 refine qF 57 rfl rfl rfl ?_
 refine qF 57 rfl rfl rfl ?_
 refine qF 57 rfl rfl rfl ?_
 refine qF 57 rfl rfl rfl ?_
 refine tl (qR rfl rfl) ?_
 refine qB ?_
 exact xW hK80 (.refl _) (trivial) ⟨rfl, rfl, rfl, rfl, rfl, rfl, rfl, show some (Value.bool true) = some (Value.bool (decide ((¬ (0 ≤ x71.sub ∧ x71.sub < 2 * (b.names.roles.length : Int))) ∨ (¬ (0 ≤ x71.sup ∧ x71.sup < 2 * (b.names.roles.length : Int)))))) by first | (simp [h82]; done) | grind | (simp [h82] <;> omega), trivial⟩ (fun w hw => hw)
 refine qJ 57 rfl rfl ?_
 refine tl (qH 0 rfl zJ rfl) ?_
 refine qJ 57 rfl rfl ?_
 refine tl (qQ 1 [.slice A15 b.names.concepts.length d16, .slice A19 b.names.roles.length d20, .slice A23 b.names.inds.length d24] rfl bT rfl rfl) ?_
 refine qJ 57 rfl rfl ?_
 refine tl (qH 1 rfl lV rfl) ?_
 refine qJ 57 rfl rfl ?_
 refine tl (jM 0 rfl ld3 rfl rfl) ?_
 refine qJ 57 rfl rfl ?_
 refine xC ca40 rfl (fun w hw => hY b.names x71.sup hr2 (by unfold i64; omega) hw) rfl ?_
 refine qJ 57 rfl rfl ?_
 refine tl (wZ rfl) ?_
 refine tl (qO rfl rfl) ?_
 refine qB ?_
 exact xW hK80 (.refl _) (trivial) ⟨rfl, rfl, rfl, rfl, rfl, rfl, rfl, show some (Value.bool (decide (¬ (0 ≤ x71.sup ∧ x71.sup < 2 * (b.names.roles.length : Int))))) = some (Value.bool (decide ((¬ (0 ≤ x71.sub ∧ x71.sub < 2 * (b.names.roles.length : Int))) ∨ (¬ (0 ≤ x71.sup ∧ x71.sup < 2 * (b.names.roles.length : Int)))))) by first | (simp [h82]; done) | grind | (simp [h82] <;> omega), trivial⟩ (fun w hw => hw)
 refine fun R84 hle85 hj83 => jH hle85 ?_
 refine qP 64 rfl (fun h86 => ?_) (fun h86 => ?_)
 refine xE rfl ?_
 refine qE <| qA ?_
 refine tl (qD rfl) ?_
 refine qB <| qC <| qV <| qN <| qI <| qI <| qN <| qI ?_
 refine xB (.inl rfl) rfl rfl ?_
 have e87 : (false : Bool) = vM b := by (rw [eq_comm]; unfold vM; rw [decide_eq_false_iff_not]; intro h_; have h1_ := h_.roles _ (List.mem_of_getElem? hx72); unfold okR at h1_; grind)
 exact fun w hw => ⟨congrArg Ending.returned (congrArg (fun x0 => Value.bool x0) e87), (hw.drop 2).weaken hle42⟩
 refine xV rfl ?_
 refine qZ <| jC <| qC <| qA ?_
 refine tl (jT rfl rfl (by omega) (by omega)) ?_
 refine tl (qG rfl) ?_
 refine qB ?_
 refine xQ ?_
 exact fun a w ha hw => ih67.out (j + 1) (by exact ⟨by omega, vQ hj2 hx72 (by unfold okR; grind)⟩) (by (try dsimp only); omega) a w (ha.sub (xL ⟨rfl, rfl, rfl, rfl, congrArg (fun z => some (Value.int .i64 z)) (show ((j : Int) + 1 : Int) = ((j + 1) : Int) by first | rfl | omega), trivial⟩)) (hw.drop 1)
 refine xV rfl ?_
 refine jE <| qK <| qK <| xG <| qC <| qE <| qE <| qA ?_
 refine tl (qH 5 rfl zB rfl) ?_
 refine tl (jM 0 rfl iZ rfl rfl) ?_
 refine tl (jJ rfl fI) ?_
 refine tl (qG rfl) ?_
 refine qB <| qC <| qX ?_
 refine jF ?_
 refine jN (fun k : Nat => b.facts.length - k) (fun k : Nat => [(1, .pointer (some ⟨b31, 0, none⟩)), (3, .int .i64 ((jI ((xM b).take i) : Nat) : Int)), (67, .slice A9 b.facts.length d10), (68, .int .i64 (b.facts.length : Int)), (69, .int .i64 (k : Int))]) (fun k : Nat => (.blk b31 [.slice A15 b.names.concepts.length d16, .slice A19 b.names.roles.length d20, .slice A23 b.names.inds.length d24, .slice A3 b.incls.length d4, .slice A6 b.roles.length d7, .slice A9 b.facts.length d10, .slice A12 b.links.length d13] 30 :: G)) (fun (k : Nat) => k ≤ b.facts.length ∧ ∀ x ∈ b.facts.take k, okI b.names x.ind) (0) (by repeat' constructor) (by exact ⟨by omega, by simp⟩) (fun w hw => hw) ?_
 rintro k hI88 ih89
 show TC Tryz.prog _ _ _ [] [(1, .pointer (some ⟨b31, 0, none⟩)), (3, .int .i64 ((jI ((xM b).take i) : Nat) : Int)), (67, .slice A9 b.facts.length d10), (68, .int .i64 (b.facts.length : Int)), (69, .int .i64 (k : Int))] R41 (.blk b31 [.slice A15 b.names.concepts.length d16, .slice A19 b.names.roles.length d20, .slice A23 b.names.inds.length d24, .slice A3 b.incls.length d4, .slice A6 b.roles.length d7, .slice A9 b.facts.length d10, .slice A12 b.links.length d13] 30 :: G)
 obtain ⟨hk1, hk2⟩ := hI88
 refine qE <| qA ?_
 refine tl (jR rfl rfl rfl) ?_
 refine qB <| qC <| qE ?_
 refine qP 70 rfl (fun h92 => ?_) (fun h92 => ?_)
 refine xE rfl ?_
 refine qZ <| qC <| qE <| qX <| qE <| qA ?_
 have hb98 : k < b.facts.length := by omega
 obtain ⟨x93, hx94⟩ : ∃ x, b.facts[k]? = some x := ⟨_, List.getElem?_eq_getElem hb98⟩
 obtain ⟨c95, hr96, ha97⟩ := hs11.get _ x93 hx94
 obtain ⟨c99, rfl, i100, hr101⟩ := id hr96
 unfold i64 at i100
 obtain ⟨A102, d103, rfl, i104, i105, hs106⟩ := qM hr101
 unfold i64 at i104 i105
 have z107 := hs106.size
 unfold big at z107
 refine tl (jV (i := k) hs11 rfl rfl rfl fI hb98) ?_
 refine tl (jA 0 [.int .i64 x93.ind, .int .i64 x93.con.op, .int .i64 x93.con.n, .slice A102 x93.con.args.length d103] ha97 rfl qB0 rfl rfl) ?_
 refine qS zc87 rfl fun b108 => ?_
 refine xN 0 [.int .i64 x93.ind, .int .i64 x93.con.op, .int .i64 x93.con.n, .slice A102 x93.con.args.length d103] rfl rfl qB0 rfl rfl rfl rfl rfl rfl ?_
 refine qB <| qC <| qE <| qA ?_
 refine tl (qH 0 rfl zJ rfl) ?_
 refine tl (qQ 1 [.slice A15 b.names.concepts.length d16, .slice A19 b.names.roles.length d20, .slice A23 b.names.inds.length d24] rfl bT rfl rfl) ?_
 refine tl (qH 0 rfl qJ1 rfl) ?_
 refine tl (jM 0 rfl ld3 rfl rfl) ?_
 refine xC ca41 rfl (fun w hw => zT b.names x93.ind hr2 (by unfold i64; omega) hw) rfl ?_
 refine tl (wZ rfl) ?_
 refine qB <| qC ?_
 refine qP 78 rfl (fun h109 => ?_) (fun h109 => ?_)
 refine xE rfl ?_
 refine qE <| qA ?_
 refine tl (qD rfl) ?_
 refine qB <| qC <| qV <| qN <| qI <| qI <| qN <| qI ?_
 refine xB (.inl rfl) rfl rfl ?_
 have e110 : (false : Bool) = vM b := by (rw [eq_comm]; unfold vM; rw [decide_eq_false_iff_not]; intro h_; have h1_ := h_.facts _ (List.mem_of_getElem? hx94); unfold okI at h1_; grind)
 exact fun w hw => ⟨congrArg Ending.returned (congrArg (fun x0 => Value.bool x0) e110), (hw.drop 2).weaken hle42⟩
 refine xV rfl ?_
 refine qZ <| jC <| qC <| qA ?_
 refine tl (jT rfl rfl (by omega) (by omega)) ?_
 refine tl (qG rfl) ?_
 refine qB ?_
 refine xQ ?_
 exact fun a w ha hw => ih89.out (k + 1) (by exact ⟨by omega, vQ hk2 hx94 (by unfold okI; grind)⟩) (by (try dsimp only); omega) a w (ha.sub (xL ⟨rfl, rfl, rfl, rfl, congrArg (fun z => some (Value.int .i64 z)) (show ((k : Int) + 1 : Int) = ((k + 1) : Int) by first | rfl | omega), trivial⟩)) (hw.drop 1)
 refine xV rfl ?_
 refine jE <| qK <| qK <| xG <| qC <| qE <| qE <| qA ?_
 refine tl (qH 6 rfl pV rfl) ?_
 refine tl (jM 0 rfl rK rfl rfl) ?_
 refine tl (jJ rfl rA) ?_
 refine tl (qG rfl) ?_
 refine qB <| qC <| qX ?_
 refine jF ?_
 refine jN (fun q : Nat => b.links.length - q) (fun q : Nat => [(1, .pointer (some ⟨b31, 0, none⟩)), (3, .int .i64 ((jI ((xM b).take i) : Nat) : Int)), (81, .slice A12 b.links.length d13), (82, .int .i64 (b.links.length : Int)), (83, .int .i64 (q : Int))]) (fun q : Nat => (.blk b31 [.slice A15 b.names.concepts.length d16, .slice A19 b.names.roles.length d20, .slice A23 b.names.inds.length d24, .slice A3 b.incls.length d4, .slice A6 b.roles.length d7, .slice A9 b.facts.length d10, .slice A12 b.links.length d13] 30 :: G)) (fun (q : Nat) => q ≤ b.links.length ∧ ∀ x ∈ b.links.take q, okL b.names x) (0) (by repeat' constructor) (by exact ⟨by omega, by simp⟩) (fun w hw => hw) ?_
 rintro q hI111 ih112
 show TC Tryz.prog _ _ _ [] [(1, .pointer (some ⟨b31, 0, none⟩)), (3, .int .i64 ((jI ((xM b).take i) : Nat) : Int)), (81, .slice A12 b.links.length d13), (82, .int .i64 (b.links.length : Int)), (83, .int .i64 (q : Int))] R41 (.blk b31 [.slice A15 b.names.concepts.length d16, .slice A19 b.names.roles.length d20, .slice A23 b.names.inds.length d24, .slice A3 b.incls.length d4, .slice A6 b.roles.length d7, .slice A9 b.facts.length d10, .slice A12 b.links.length d13] 30 :: G)
 obtain ⟨hq1, hq2⟩ := hI111
 refine qE <| qA ?_
 refine tl (jR rfl rfl rfl) ?_
 refine qB <| qC <| qE ?_
 refine qP 84 rfl (fun h115 => ?_) (fun h115 => ?_)
 refine xE rfl ?_
 refine qZ <| qC <| qE <| qX <| qE <| qA ?_
 have hb121 : q < b.links.length := by omega
 obtain ⟨x116, hx117⟩ : ∃ x, b.links[q]? = some x := ⟨_, List.getElem?_eq_getElem hb121⟩
 obtain ⟨c118, hr119, ha120⟩ := hs14.get _ x116 hx117
 obtain ⟨rfl, i122, i123, i124⟩ := id hr119
 unfold i64 at i122
 unfold i64 at i123
 unfold i64 at i124
 refine tl (jV (i := q) hs14 rfl rfl rfl rA hb121) ?_
 refine tl (jA 0 [.int .i64 x116.role, .int .i64 x116.frm, .int .i64 x116.to] ha120 rfl qH0 rfl rfl) ?_
 refine qS zc89 rfl fun b125 => ?_
 refine xN 0 [.int .i64 x116.role, .int .i64 x116.frm, .int .i64 x116.to] rfl rfl qH0 rfl rfl rfl rfl rfl rfl ?_
 refine qB <| qC ?_
 refine vH [(1, .pointer (some ⟨b31, 0, none⟩)), (3, .int .i64 ((jI ((xM b).take i) : Nat) : Int)), (81, .slice A12 b.links.length d13), (82, .int .i64 (b.links.length : Int)), (83, .int .i64 (q : Int)), (84, .bool true), (13, .pointer (some ⟨b125, 0, none⟩)), (114, .bool (decide ((((x116.role < 0) ∨ ((b.names.roles.length : Int) ≤ x116.role)) ∨ (¬ (0 ≤ x116.frm ∧ x116.frm < (b.names.inds.length : Int)))) ∨ (¬ (0 ≤ x116.to ∧ x116.to < (b.names.inds.length : Int))))))] (.blk b125 [.int .i64 x116.role, .int .i64 x116.frm, .int .i64 x116.to] 89 :: .blk b31 [.slice A15 b.names.concepts.length d16, .slice A19 b.names.roles.length d20, .slice A23 b.names.inds.length d24, .slice A3 b.incls.length d4, .slice A6 b.roles.length d7, .slice A9 b.facts.length d10, .slice A12 b.links.length d13] 30 :: G) (fun _ => True) (fun K hK126 hE127 => ?_) ?_
 refine qA ?_
 refine tl (qH 0 rfl cS rfl) ?_
 refine tl (jM 0 rfl ld3 rfl rfl) ?_
 refine tl (jR rfl rfl rfl) ?_
 refine tl (qG rfl) ?_
 refine xX 90 rfl (fun h128 => ?_) (fun h128 => ?_)
 refine qF 90 rfl rfl rfl ?_
 refine qF 90 rfl rfl rfl ?_
 refine qF 90 rfl rfl rfl ?_
 refine qF 90 rfl rfl rfl ?_
 refine qF 90 rfl rfl rfl ?_
 refine qF 90 rfl rfl rfl ?_
 refine qF 90 rfl rfl rfl ?_
 refine tl (qR rfl rfl) ?_
 refine tl (qG rfl) ?_
 refine qF 99 rfl rfl rfl ?_
 refine qF 99 rfl rfl rfl ?_
 refine qF 99 rfl rfl rfl ?_
 refine qF 99 rfl rfl rfl ?_
 refine qF 99 rfl rfl rfl ?_
 refine qF 99 rfl rfl rfl ?_
 refine tl (qR rfl rfl) ?_
 refine tl (qG rfl) ?_
 refine qF 107 rfl rfl rfl ?_
 refine qF 107 rfl rfl rfl ?_
 refine qF 107 rfl rfl rfl ?_
 refine qF 107 rfl rfl rfl ?_
 refine qF 107 rfl rfl rfl ?_
 refine qF 107 rfl rfl rfl ?_
 refine tl (qR rfl rfl) ?_
 refine qB ?_
 exact xW hK126 (.refl _) (trivial) ⟨rfl, rfl, rfl, rfl, rfl, rfl, rfl, show some (Value.bool true) = some (Value.bool (decide ((((x116.role < 0) ∨ ((b.names.roles.length : Int) ≤ x116.role)) ∨ (¬ (0 ≤ x116.frm ∧ x116.frm < (b.names.inds.length : Int)))) ∨ (¬ (0 ≤ x116.to ∧ x116.to < (b.names.inds.length : Int)))))) by first | (simp [h128]; done) | grind | (simp [h128] <;> omega), trivial⟩ (fun w hw => hw)
 refine qJ 90 rfl rfl ?_
 refine tl (qH 0 rfl cS rfl) ?_
 refine qJ 90 rfl rfl ?_
 refine tl (jM 0 rfl ld3 rfl rfl) ?_
 refine qJ 90 rfl rfl ?_
 refine tl (qH 0 rfl zJ rfl) ?_
 refine qJ 90 rfl rfl ?_
 refine tl (qH 1 rfl pP rfl) ?_
 refine qJ 90 rfl rfl ?_
 refine tl (jM 1 rfl uO rfl rfl) ?_
 refine qJ 90 rfl rfl ?_
 refine tl (jJ rfl uK) ?_
 refine qJ 90 rfl rfl ?_
 refine tl (jR rfl rfl rfl) ?_
 refine tl (qO rfl rfl) ?_
 refine tl (qG rfl) ?_
 refine xX 99 rfl (fun h129 => ?_) (fun h129 => ?_)
 refine qF 99 rfl rfl rfl ?_
 refine qF 99 rfl rfl rfl ?_
 refine qF 99 rfl rfl rfl ?_
 refine qF 99 rfl rfl rfl ?_
 refine qF 99 rfl rfl rfl ?_
 refine qF 99 rfl rfl rfl ?_
 refine tl (qR rfl rfl) ?_
 refine tl (qG rfl) ?_
 refine qF 107 rfl rfl rfl ?_
 refine qF 107 rfl rfl rfl ?_
 refine qF 107 rfl rfl rfl ?_
 refine qF 107 rfl rfl rfl ?_
 refine qF 107 rfl rfl rfl ?_
 refine qF 107 rfl rfl rfl ?_
 refine tl (qR rfl rfl) ?_
 refine qB ?_
 exact xW hK126 (.refl _) (trivial) ⟨rfl, rfl, rfl, rfl, rfl, rfl, rfl, show some (Value.bool true) = some (Value.bool (decide ((((x116.role < 0) ∨ ((b.names.roles.length : Int) ≤ x116.role)) ∨ (¬ (0 ≤ x116.frm ∧ x116.frm < (b.names.inds.length : Int)))) ∨ (¬ (0 ≤ x116.to ∧ x116.to < (b.names.inds.length : Int)))))) by first | (simp [h128, h129]; done) | grind | (simp [h128, h129] <;> omega), trivial⟩ (fun w hw => hw)
 refine qJ 99 rfl rfl ?_
 refine tl (qH 0 rfl zJ rfl) ?_
 refine qJ 99 rfl rfl ?_
 refine tl (qQ 1 [.slice A15 b.names.concepts.length d16, .slice A19 b.names.roles.length d20, .slice A23 b.names.inds.length d24] rfl bT rfl rfl) ?_
 refine qJ 99 rfl rfl ?_
 refine tl (qH 1 rfl qJ2 rfl) ?_
 refine qJ 99 rfl rfl ?_
 refine tl (jM 0 rfl ld3 rfl rfl) ?_
 refine qJ 99 rfl rfl ?_
 refine xC ca41 rfl (fun w hw => zT b.names x116.frm hr2 (by unfold i64; omega) hw) rfl ?_
 refine qJ 99 rfl rfl ?_
 refine tl (wZ rfl) ?_
 refine tl (qO rfl rfl) ?_
 refine tl (qG rfl) ?_
 refine xX 107 rfl (fun h130 => ?_) (fun h130 => ?_)
 refine qF 107 rfl rfl rfl ?_
 refine qF 107 rfl rfl rfl ?_
 refine qF 107 rfl rfl rfl ?_
 refine qF 107 rfl rfl rfl ?_
 refine qF 107 rfl rfl rfl ?_
 refine qF 107 rfl rfl rfl ?_
 refine tl (qR rfl rfl) ?_
 refine qB ?_
 exact xW hK126 (.refl _) (trivial) ⟨rfl, rfl, rfl, rfl, rfl, rfl, rfl, show some (Value.bool true) = some (Value.bool (decide ((((x116.role < 0) ∨ ((b.names.roles.length : Int) ≤ x116.role)) ∨ (¬ (0 ≤ x116.frm ∧ x116.frm < (b.names.inds.length : Int)))) ∨ (¬ (0 ≤ x116.to ∧ x116.to < (b.names.inds.length : Int)))))) by first | (simp [h128, h129, h130]; done) | grind | (simp [h128, h129, h130] <;> omega), trivial⟩ (fun w hw => hw)
 refine qJ 107 rfl rfl ?_
 refine tl (qH 0 rfl zJ rfl) ?_
 refine qJ 107 rfl rfl ?_
 refine tl (qQ 1 [.slice A15 b.names.concepts.length d16, .slice A19 b.names.roles.length d20, .slice A23 b.names.inds.length d24] rfl bT rfl rfl) ?_
 refine qJ 107 rfl rfl ?_
 refine tl (qH 2 rfl qJ3 rfl) ?_
 refine qJ 107 rfl rfl ?_
 refine tl (jM 0 rfl ld3 rfl rfl) ?_
 refine qJ 107 rfl rfl ?_
 refine xC ca41 rfl (fun w hw => zT b.names x116.to hr2 (by unfold i64; omega) hw) rfl ?_
 refine qJ 107 rfl rfl ?_
 refine tl (wZ rfl) ?_
 refine tl (qO rfl rfl) ?_
 refine qB ?_
 exact xW hK126 (.refl _) (trivial) ⟨rfl, rfl, rfl, rfl, rfl, rfl, rfl, show some (Value.bool (decide (¬ (0 ≤ x116.to ∧ x116.to < (b.names.inds.length : Int))))) = some (Value.bool (decide ((((x116.role < 0) ∨ ((b.names.roles.length : Int) ≤ x116.role)) ∨ (¬ (0 ≤ x116.frm ∧ x116.frm < (b.names.inds.length : Int)))) ∨ (¬ (0 ≤ x116.to ∧ x116.to < (b.names.inds.length : Int)))))) by first | (simp [h128, h129, h130]; done) | grind | (simp [h128, h129, h130] <;> omega), trivial⟩ (fun w hw => hw)
 refine fun R132 hle133 hj131 => jH hle133 ?_
 refine qP 114 rfl (fun h134 => ?_) (fun h134 => ?_)
 refine xE rfl ?_
 refine qE <| qA ?_
 refine tl (qD rfl) ?_
 refine qB <| qC <| qV <| qN <| qI <| qI <| qN <| qI ?_
 refine xB (.inl rfl) rfl rfl ?_
 have e135 : (false : Bool) = vM b := by (rw [eq_comm]; unfold vM; rw [decide_eq_false_iff_not]; intro h_; have h1_ := h_.links _ (List.mem_of_getElem? hx117); unfold okL okI at h1_; grind)
 exact fun w hw => ⟨congrArg Ending.returned (congrArg (fun x0 => Value.bool x0) e135), (hw.drop 2).weaken hle42⟩
 refine xV rfl ?_
 refine qZ <| jC <| qC <| qA ?_
 refine tl (jT rfl rfl (by omega) (by omega)) ?_
 refine tl (qG rfl) ?_
 refine qB ?_
 refine xQ ?_
 exact fun a w ha hw => ih112.out (q + 1) (by exact ⟨by omega, vQ hq2 hx117 (by unfold okL okI; grind)⟩) (by (try dsimp only); omega) a w (ha.sub (xL ⟨rfl, rfl, rfl, rfl, congrArg (fun z => some (Value.int .i64 z)) (show ((q : Int) + 1 : Int) = ((q + 1) : Int) by first | rfl | omega), trivial⟩)) (hw.drop 1)
 refine xV rfl ?_
 refine jE <| qK <| qK <| xG <| qC <| qE <| qA ?_
 refine tl (qG rfl) ?_
 refine tl (jR rfl rfl rfl) ?_
 refine tl (qD rfl) ?_
 refine qB <| qC <| qV ?_
 refine xB (.inl rfl) rfl rfl ?_
 have e136 : (decide (((jI ((xM b).take i) : Nat) : Int) ≤ 400) : Bool) = vM b := by (rw [xF (by assumption) (by assumption)] at hi3 ⊢; rw [xF (by assumption) (by assumption)] at hj2; rw [xF (by assumption) (by assumption)] at hk2; rw [xF (by assumption) (by assumption)] at hq2; rw [Bool.eq_iff_iff, decide_eq_true_eq]; unfold vM; rw [decide_eq_true_eq]; exact ⟨fun h => ⟨by grind, by omega, hi3, hj2, hk2, hq2, by omega⟩, fun h => by have := h.nodes; omega⟩)
 exact fun w hw => ⟨congrArg Ending.returned (congrArg (fun x0 => Value.bool x0) e136), (hw.drop 1).weaken hle42⟩

theorem ap25 : yO Tryz.prog 25 = some (92, 6, 80, [.int .i64 0, .int .i64 0, .slice none 0 0, .int .i64 0, .int .i64 0, .slice none 0 0]) := by kernel_rfl
theorem ap26 : yO Tryz.prog 26 = some (84, 2, 16, [.int .i64 0, .int .i64 0]) := by kernel_rfl
theorem ap27 : yO Tryz.prog 27 = some (87, 4, 48, [.int .i64 0, .int .i64 0, .int .i64 0, .slice none 0 0]) := by kernel_rfl
theorem ap28 : yO Tryz.prog 28 = some (89, 3, 24, [.int .i64 0, .int .i64 0, .int .i64 0]) := by kernel_rfl
theorem qJ4 : Callable Tryz.prog 43 := ⟨by kernel_rfl⟩
theorem pl30 : pR Tryz.prog 30 = some (true, [(0, 3), (3, 1), (4, 1), (5, 1), (6, 1)], 0) := by kernel_rfl
theorem qJ5 : zG Tryz.prog 30 = some [.slice none 0 0, .slice none 0 0, .slice none 0 0, .slice none 0 0, .slice none 0 0, .slice none 0 0, .slice none 0 0] := by kernel_rfl

def wI {α : Type} (l : List Int) : Nat → List α → List α
  | _, [] => []
  | i, x :: xs => if (i : Int) ∈ l then x :: wI l (i + 1) xs else wI l (i + 1) xs
theorem pG {α : Type} {l : List Int} : ∀ (xs ys : List α) (i : Nat), wI l i (xs ++ ys) = wI l i xs ++ wI l (i + xs.length) ys
  | [], ys, i => by simp [wI]
  | x :: xs, ys, i => by
    simp only [List.cons_append, wI, pG xs ys (i + 1), List.length_cons, show i + 1 + xs.length = i + (xs.length + 1) by omega]
    split <;> simp
theorem bB {α : Type} {l : List Int} {xs : List α} {i k : Nat} {x : α} (h : xs[k]? = some x) (hm : ((i + k : Nat) : Int) ∈ l) : wI l i (xs.take (k + 1)) = wI l i (xs.take k) ++ [x] := by
  have hk := (List.getElem?_eq_some_iff.1 h).1
  rw [jQ h, pG, List.length_take, Nat.min_eq_left (by omega)]
  simp only [wI]; rw [if_pos hm]
theorem cU {α : Type} {l : List Int} {xs : List α} {i k : Nat} {x : α} (h : xs[k]? = some x) (hm : ¬ ((i + k : Nat) : Int) ∈ l) : wI l i (xs.take (k + 1)) = wI l i (xs.take k) := by
  have hk := (List.getElem?_eq_some_iff.1 h).1
  rw [jQ h, pG, List.length_take, Nat.min_eq_left (by omega)]
  simp only [wI]; rw [if_neg hm]; simp
def wP (b : Base) (l : List Int) : Base := ⟨b.names, wI l 0 b.incls, wI l b.incls.length b.roles, wI l (b.incls.length + b.roles.length) b.facts, wI l (b.incls.length + b.roles.length + b.facts.length) b.links⟩

theorem bJ {R : RO} {G : List Res} {w : World} {c_b : List Value} (b : Base) {A_l : Option Addr} {d_l : Nat} (l : List (Int)) (hr_b : kBase.rep R b c_b) (hs_l : SlAt kInt R A_l l) (hb : xT b ≤ 1000) (hw : Own w R (G)) :
    Calls Tryz.prog 14 [.agg c_b.toArray, .slice A_l l.length d_l].toArray w (gZ R G (fun v_ R' L_ => ∃ (cs_0 : List Value), v_ = (.agg cs_0.toArray : Value) ∧ L_ = ([] : List Res) ∧ kBase.rep R' (wP b l) cs_0)) := by
 obtain ⟨c1, A3, d4, A6, d7, A9, d10, A12, d13, rfl, hr2, hs5, hs8, hs11, hs14⟩ := id hr_b
 have z27 := hs5.size
 unfold big at z27
 have z28 := hs8.size
 unfold big at z28
 have z29 := hs11.size
 unfold big at z29
 have z30 := hs14.size
 unfold big at z30
 obtain ⟨A15, d16, A19, d20, A23, d24, rfl, hs17, hs21, hs25⟩ := id hr2
 have z18 := hs17.size
 unfold big at z18
 have z22 := hs21.size
 unfold big at z22
 have z26 := hs25.size
 unfold big at z26
 have hz_l := hs_l.size
 unfold big at hz_l
 have hb_ := hb
 unfold xT at hb_
 refine xH (vs := [.agg #[.slice A15 b.names.concepts.length d16, .slice A19 b.names.roles.length d20, .slice A23 b.names.inds.length d24, .slice A3 b.incls.length d4, .slice A6 b.roles.length d7, .slice A9 b.facts.length d10, .slice A12 b.links.length d13], .slice A_l l.length d_l]) Tryz.func14 rfl rfl rfl ?_ hw
 refine qE <| qA ?_
 refine qW (l := [.slice A15 b.names.concepts.length d16, .slice A19 b.names.roles.length d20, .slice A23 b.names.inds.length d24, .slice A3 b.incls.length d4, .slice A6 b.roles.length d7, .slice A9 b.facts.length d10, .slice A12 b.links.length d13]) rfl rfl fun b31 => ?_
 refine qS qJ5 rfl fun b32 => ?_
 refine qB <| qC <| qE <| qA ?_
 refine tl (qH 0 rfl zJ rfl) ?_
 refine tl (qQ 1 [.slice A15 b.names.concepts.length d16, .slice A19 b.names.roles.length d20, .slice A23 b.names.inds.length d24] rfl bT rfl rfl) ?_
 refine tl (xP [.slice A15 b.names.concepts.length d16, .slice A19 b.names.roles.length d20, .slice A23 b.names.inds.length d24, .slice none 0 0, .slice none 0 0, .slice none 0 0, .slice none 0 0] qJ5 pl30 rfl rfl) ?_
 refine qS qJ5 rfl fun b33 => ?_
 refine xN 0 [.slice A15 b.names.concepts.length d16, .slice A19 b.names.roles.length d20, .slice A23 b.names.inds.length d24, .slice none 0 0, .slice none 0 0, .slice none 0 0, .slice none 0 0] rfl rfl pN rfl rfl rfl rfl rfl rfl ?_
 refine qB <| qC <| qE <| qA ?_
 refine tl (qD rfl) ?_
 refine qB <| qC <| qE <| qE <| qA ?_
 refine tl (qH 3 rfl yK rfl) ?_
 refine tl (jM 2 rfl fG rfl rfl) ?_
 refine tl (jJ rfl eS) ?_
 refine tl (qG rfl) ?_
 refine qB <| qC <| qX ?_
 refine rH _ (fun w hw => hw.vecnil 92 6) ?_
 have hv34 : (kIncl).reps R [] [] := rfl
 refine jF ?_
 refine jN (fun b_ : Nat × List (Incl) × Option Addr × Nat × List Value => match b_ with | (i, p, A_p, c_p, l_p) => b.incls.length - i) (fun b_ : Nat × List (Incl) × Option Addr × Nat × List Value => match b_ with | (i, p, A_p, c_p, l_p) => [(1, .slice A_l l.length d_l), (2, .pointer (some ⟨b31, 0, none⟩)), (4, .pointer (some ⟨b32, 0, none⟩)), (5, .pointer (some ⟨b33, 0, none⟩)), (19, .slice A3 b.incls.length d4), (20, .int .i64 (b.incls.length : Int)), (21, .int .i64 (i : Int)), (6, .int .i64 ((0 + i : Nat) : Int))]) (fun b_ : Nat × List (Incl) × Option Addr × Nat × List Value => match b_ with | (i, p, A_p, c_p, l_p) => (.vec (.slice A_p p.length c_p) p.length 92 6 l_p :: .blk b33 [.slice A15 b.names.concepts.length d16, .slice A19 b.names.roles.length d20, .slice A23 b.names.inds.length d24, .slice A_p p.length c_p, .slice none 0 0, .slice none 0 0, .slice none 0 0] 30 :: .blk b32 [.slice none 0 0, .slice none 0 0, .slice none 0 0, .slice none 0 0, .slice none 0 0, .slice none 0 0, .slice none 0 0] 30 :: .blk b31 [.slice A15 b.names.concepts.length d16, .slice A19 b.names.roles.length d20, .slice A23 b.names.inds.length d24, .slice A3 b.incls.length d4, .slice A6 b.roles.length d7, .slice A9 b.facts.length d10, .slice A12 b.links.length d13] 30 :: G)) (fun (b_ : Nat × List (Incl) × Option Addr × Nat × List Value) => match b_ with | (i, p, A_p, c_p, l_p) => (kIncl).reps R p l_p ∧ (i ≤ b.incls.length ∧ p = wI l (0) (b.incls.take i) ∧ p.length ≤ i)) (0, ([] : List (Incl)), none, 0, []) ⟨rfl, rfl, rfl, rfl, rfl, rfl, rfl, congrArg (fun z => some (Value.int .i64 z)) (show (0 : Int) = ((0 + 0 : Nat) : Int) by first | rfl | omega | (simp; done) | (simp; omega)), trivial⟩ (by refine ⟨hv34, ?_⟩; exact ⟨by omega, rfl, by simp⟩) (fun w hw => hw) ?_
 rintro ⟨i, p, A_p, c_p, l_p⟩ hI38 ih39
 show TC Tryz.prog _ _ _ [] [(1, .slice A_l l.length d_l), (2, .pointer (some ⟨b31, 0, none⟩)), (4, .pointer (some ⟨b32, 0, none⟩)), (5, .pointer (some ⟨b33, 0, none⟩)), (19, .slice A3 b.incls.length d4), (20, .int .i64 (b.incls.length : Int)), (21, .int .i64 (i : Int)), (6, .int .i64 ((0 + i : Nat) : Int))] R (.vec (.slice A_p p.length c_p) p.length 92 6 l_p :: .blk b33 [.slice A15 b.names.concepts.length d16, .slice A19 b.names.roles.length d20, .slice A23 b.names.inds.length d24, .slice A_p p.length c_p, .slice none 0 0, .slice none 0 0, .slice none 0 0] 30 :: .blk b32 [.slice none 0 0, .slice none 0 0, .slice none 0 0, .slice none 0 0, .slice none 0 0, .slice none 0 0, .slice none 0 0] 30 :: .blk b31 [.slice A15 b.names.concepts.length d16, .slice A19 b.names.roles.length d20, .slice A23 b.names.inds.length d24, .slice A3 b.incls.length d4, .slice A6 b.roles.length d7, .slice A9 b.facts.length d10, .slice A12 b.links.length d13] 30 :: G)
 obtain ⟨hv37, hI42⟩ := hI38
 obtain ⟨hi1, hi2, hi3⟩ := hI42
 refine qE <| qA ?_
 refine tl (jR rfl rfl rfl) ?_
 refine qB <| qC <| qE ?_
 refine qP 22 rfl (fun h43 => ?_) (fun h43 => ?_)
 refine xE rfl ?_
 refine qZ <| qC <| qE <| qX <| qE <| qA ?_
 have hb49 : i < b.incls.length := by omega
 obtain ⟨x44, hx45⟩ : ∃ x, b.incls[i]? = some x := ⟨_, List.getElem?_eq_getElem hb49⟩
 obtain ⟨c46, hr47, ha48⟩ := hs5.get _ x44 hx45
 obtain ⟨c50, c51, rfl, hr52, hr53⟩ := id hr47
 obtain ⟨A54, d55, rfl, i56, i57, hs58⟩ := qM hr52
 unfold i64 at i56 i57
 have z59 := hs58.size
 unfold big at z59
 obtain ⟨A60, d61, rfl, i62, i63, hs64⟩ := qM hr53
 unfold i64 at i62 i63
 have z65 := hs64.size
 unfold big at z65
 refine tl (jV (i := i) hs5 rfl rfl rfl eS hb49) ?_
 refine tl (jA 0 [.int .i64 x44.sub.op, .int .i64 x44.sub.n, .slice A54 x44.sub.args.length d55, .int .i64 x44.sup.op, .int .i64 x44.sup.n, .slice A60 x44.sup.args.length d61] ha48 rfl qG8 rfl rfl) ?_
 refine qS zc92 rfl fun b66 => ?_
 refine xN 0 [.int .i64 x44.sub.op, .int .i64 x44.sub.n, .slice A54 x44.sub.args.length d55, .int .i64 x44.sup.op, .int .i64 x44.sup.n, .slice A60 x44.sup.args.length d61] rfl rfl qG8 rfl rfl rfl rfl rfl rfl ?_
 refine qB <| qC <| qE <| qE <| qA ?_
 refine tl (qG rfl) ?_
 refine tl (qG rfl) ?_
 refine xC qJ4 rfl (fun w hw => kB l ((0 + i : Nat) : Int) hs_l (by unfold i64; omega) hw) rfl ?_
 refine qB <| qC ?_
 refine qP 27 rfl (fun h67 => ?_) (fun h67 => ?_)
 refine xE rfl ?_
 refine qA ?_
 refine tl (qH 3 rfl yK rfl) ?_
 refine tl (jM 2 rfl fG rfl rfl) ?_
 refine tl (qQ 0 [.int .i64 x44.sub.op, .int .i64 x44.sub.n, .slice A54 x44.sub.args.length d55, .int .i64 x44.sup.op, .int .i64 x44.sup.n, .slice A60 x44.sup.args.length d61] rfl qG8 rfl rfl) ?_
 refine jB [.int .i64 x44.sub.op, .int .i64 x44.sub.n, .slice A54 x44.sub.args.length d55, .int .i64 x44.sup.op, .int .i64 x44.sup.n, .slice A60 x44.sup.args.length d61] ap25 rfl rfl rfl rfl rfl rfl rfl fun b68 => ?_
 refine yJ (k := kIncl) (e := x44) 2 0 hv37 (hr47) ap25 rfl rfl rfl rfl rfl (by omega) rfl rfl fun A69 c70 l71 hv72 => ?_
 refine tl (qH 3 rfl yK rfl) ?_
 refine xN 3 [.slice A15 b.names.concepts.length d16, .slice A19 b.names.roles.length d20, .slice A23 b.names.inds.length d24, .slice A69 ((p ++ [x44]).length) c70, .slice none 0 0, .slice none 0 0, .slice none 0 0] rfl rfl fG rfl rfl rfl rfl rfl rfl ?_
 refine qB <| qC <| qA ?_
 refine tl (qG rfl) ?_
 refine tl (jT rfl rfl (by omega) (by omega)) ?_
 refine tl (qD rfl) ?_
 refine qB <| jC <| qC <| qA ?_
 refine tl (jT rfl rfl (by omega) (by omega)) ?_
 refine tl (qG rfl) ?_
 refine qB ?_
 refine xQ ?_
 exact fun a w ha hw => ih39.out (i + 1, (p ++ [x44]), A69, c70, l71) (by refine ⟨hv72, ?_⟩; exact ⟨by omega, by rw [hi2]; exact (bB hx45 (by assumption)).symm, by simp; omega⟩) (by (try dsimp only); omega) a w (ha.sub (xL ⟨rfl, rfl, rfl, rfl, rfl, rfl, rfl, congrArg (fun z => some (Value.int .i64 z)) (show (((0 + i : Nat) : Int) + 1 : Int) = ((0 + (i + 1) : Nat) : Int) by omega), trivial⟩)) (hw.drop 2)
 refine xV rfl ?_
 refine qZ <| qC <| qA ?_
 refine tl (qG rfl) ?_
 refine tl (jT rfl rfl (by omega) (by omega)) ?_
 refine tl (qD rfl) ?_
 refine qB <| jC <| qC <| qA ?_
 refine tl (jT rfl rfl (by omega) (by omega)) ?_
 refine tl (qG rfl) ?_
 refine qB ?_
 refine xQ ?_
 exact fun a w ha hw => ih39.out (i + 1, p, A_p, c_p, l_p) (by refine ⟨hv37, ?_⟩; exact ⟨by omega, by rw [hi2]; exact (cU hx45 (by assumption)).symm, by omega⟩) (by (try dsimp only); omega) a w (ha.sub (xL ⟨rfl, rfl, rfl, rfl, rfl, rfl, rfl, congrArg (fun z => some (Value.int .i64 z)) (show (((0 + i : Nat) : Int) + 1 : Int) = ((0 + (i + 1) : Nat) : Int) by omega), trivial⟩)) (hw.drop 1)
 refine xV rfl ?_
 refine jE <| qK <| qK <| xG <| qC <| qE <| qE <| qA ?_
 refine tl (qH 4 rfl yL rfl) ?_
 refine tl (jM 3 rfl fH rfl rfl) ?_
 refine tl (jJ rfl eU) ?_
 refine tl (qG rfl) ?_
 refine qB <| qC <| qX ?_
 refine rH _ (fun w hw => hw.vecnil 84 2) ?_
 have hv74 : (kRoleIncl).reps R [] [] := rfl
 refine jF ?_
 refine jN (fun b_ : Nat × List (RoleIncl) × Option Addr × Nat × List Value => match b_ with | (j, q, A_q, c_q, l_q) => b.roles.length - j) (fun b_ : Nat × List (RoleIncl) × Option Addr × Nat × List Value => match b_ with | (j, q, A_q, c_q, l_q) => [(1, .slice A_l l.length d_l), (2, .pointer (some ⟨b31, 0, none⟩)), (4, .pointer (some ⟨b32, 0, none⟩)), (5, .pointer (some ⟨b33, 0, none⟩)), (38, .slice A6 b.roles.length d7), (39, .int .i64 (b.roles.length : Int)), (40, .int .i64 (j : Int)), (6, .int .i64 ((b.incls.length + j : Nat) : Int))]) (fun b_ : Nat × List (RoleIncl) × Option Addr × Nat × List Value => match b_ with | (j, q, A_q, c_q, l_q) => (.vec (.slice A_q q.length c_q) q.length 84 2 l_q :: .vec (.slice A_p p.length c_p) p.length 92 6 l_p :: .blk b33 [.slice A15 b.names.concepts.length d16, .slice A19 b.names.roles.length d20, .slice A23 b.names.inds.length d24, .slice A_p p.length c_p, .slice A_q q.length c_q, .slice none 0 0, .slice none 0 0] 30 :: .blk b32 [.slice none 0 0, .slice none 0 0, .slice none 0 0, .slice none 0 0, .slice none 0 0, .slice none 0 0, .slice none 0 0] 30 :: .blk b31 [.slice A15 b.names.concepts.length d16, .slice A19 b.names.roles.length d20, .slice A23 b.names.inds.length d24, .slice A3 b.incls.length d4, .slice A6 b.roles.length d7, .slice A9 b.facts.length d10, .slice A12 b.links.length d13] 30 :: G)) (fun (b_ : Nat × List (RoleIncl) × Option Addr × Nat × List Value) => match b_ with | (j, q, A_q, c_q, l_q) => (kRoleIncl).reps R q l_q ∧ (j ≤ b.roles.length ∧ q = wI l (b.incls.length) (b.roles.take j) ∧ q.length ≤ j)) (0, ([] : List (RoleIncl)), none, 0, []) ⟨rfl, rfl, rfl, rfl, rfl, rfl, rfl, congrArg (fun z => some (Value.int .i64 z)) (show (((0 + i : Nat) : Int) : Int) = ((b.incls.length + 0 : Nat) : Int) by first | rfl | omega | (simp; done) | (simp; omega)), trivial⟩ (by refine ⟨hv74, ?_⟩; exact ⟨by omega, rfl, by simp⟩) (fun w hw => hw) ?_
 rintro ⟨j, q, A_q, c_q, l_q⟩ hI78 ih79
 show TC Tryz.prog _ _ _ [] [(1, .slice A_l l.length d_l), (2, .pointer (some ⟨b31, 0, none⟩)), (4, .pointer (some ⟨b32, 0, none⟩)), (5, .pointer (some ⟨b33, 0, none⟩)), (38, .slice A6 b.roles.length d7), (39, .int .i64 (b.roles.length : Int)), (40, .int .i64 (j : Int)), (6, .int .i64 ((b.incls.length + j : Nat) : Int))] R (.vec (.slice A_q q.length c_q) q.length 84 2 l_q :: .vec (.slice A_p p.length c_p) p.length 92 6 l_p :: .blk b33 [.slice A15 b.names.concepts.length d16, .slice A19 b.names.roles.length d20, .slice A23 b.names.inds.length d24, .slice A_p p.length c_p, .slice A_q q.length c_q, .slice none 0 0, .slice none 0 0] 30 :: .blk b32 [.slice none 0 0, .slice none 0 0, .slice none 0 0, .slice none 0 0, .slice none 0 0, .slice none 0 0, .slice none 0 0] 30 :: .blk b31 [.slice A15 b.names.concepts.length d16, .slice A19 b.names.roles.length d20, .slice A23 b.names.inds.length d24, .slice A3 b.incls.length d4, .slice A6 b.roles.length d7, .slice A9 b.facts.length d10, .slice A12 b.links.length d13] 30 :: G)
 obtain ⟨hv77, hI82⟩ := hI78
 obtain ⟨hj1, hj2, hj3⟩ := hI82
 refine qE <| qA ?_
 refine tl (jR rfl rfl rfl) ?_
 refine qB <| qC <| qE ?_
 refine qP 41 rfl (fun h83 => ?_) (fun h83 => ?_)
 refine xE rfl ?_
 refine qZ <| qC <| qE <| qX <| qE <| qA ?_
 have hb89 : j < b.roles.length := by omega
 obtain ⟨x84, hx85⟩ : ∃ x, b.roles[j]? = some x := ⟨_, List.getElem?_eq_getElem hb89⟩
 obtain ⟨c86, hr87, ha88⟩ := hs8.get _ x84 hx85
 obtain ⟨rfl, i90, i91⟩ := id hr87
 unfold i64 at i90
 unfold i64 at i91
 refine tl (jV (i := j) hs8 rfl rfl rfl eU hb89) ?_
 refine tl (jA 0 [.int .i64 x84.sub, .int .i64 x84.sup] ha88 rfl qG9 rfl rfl) ?_
 refine qS zc84 rfl fun b92 => ?_
 refine xN 0 [.int .i64 x84.sub, .int .i64 x84.sup] rfl rfl qG9 rfl rfl rfl rfl rfl rfl ?_
 refine qB <| qC <| qE <| qE <| qA ?_
 refine tl (qG rfl) ?_
 refine tl (qG rfl) ?_
 refine xC qJ4 rfl (fun w hw => kB l ((b.incls.length + j : Nat) : Int) hs_l (by unfold i64; omega) hw) rfl ?_
 refine qB <| qC ?_
 refine qP 46 rfl (fun h93 => ?_) (fun h93 => ?_)
 refine xE rfl ?_
 refine qA ?_
 refine tl (qH 4 rfl yL rfl) ?_
 refine tl (jM 3 rfl fH rfl rfl) ?_
 refine tl (qQ 0 [.int .i64 x84.sub, .int .i64 x84.sup] rfl qG9 rfl rfl) ?_
 refine jB [.int .i64 x84.sub, .int .i64 x84.sup] ap26 rfl rfl rfl rfl rfl rfl rfl fun b94 => ?_
 refine yJ (k := kRoleIncl) (e := x84) 2 0 hv77 (hr87) ap26 rfl rfl rfl rfl rfl (by omega) rfl rfl fun A95 c96 l97 hv98 => ?_
 refine tl (qH 4 rfl yL rfl) ?_
 refine xN 4 [.slice A15 b.names.concepts.length d16, .slice A19 b.names.roles.length d20, .slice A23 b.names.inds.length d24, .slice A_p p.length c_p, .slice A95 ((q ++ [x84]).length) c96, .slice none 0 0, .slice none 0 0] rfl rfl fH rfl rfl rfl rfl rfl rfl ?_
 refine qB <| qC <| qA ?_
 refine tl (qG rfl) ?_
 refine tl (jT rfl rfl (by omega) (by omega)) ?_
 refine tl (qD rfl) ?_
 refine qB <| jC <| qC <| qA ?_
 refine tl (jT rfl rfl (by omega) (by omega)) ?_
 refine tl (qG rfl) ?_
 refine qB ?_
 refine xQ ?_
 exact fun a w ha hw => ih79.out (j + 1, (q ++ [x84]), A95, c96, l97) (by refine ⟨hv98, ?_⟩; exact ⟨by omega, by rw [hj2]; exact (bB hx85 (by assumption)).symm, by simp; omega⟩) (by (try dsimp only); omega) a w (ha.sub (xL ⟨rfl, rfl, rfl, rfl, rfl, rfl, congrArg (fun z => some (Value.int .i64 z)) (show ((j : Int) + 1 : Int) = ((j + 1) : Int) by first | rfl | omega), congrArg (fun z => some (Value.int .i64 z)) (show (((b.incls.length + j : Nat) : Int) + 1 : Int) = ((b.incls.length + (j + 1) : Nat) : Int) by omega), trivial⟩)) (hw.drop 2)
 refine xV rfl ?_
 refine qZ <| qC <| qA ?_
 refine tl (qG rfl) ?_
 refine tl (jT rfl rfl (by omega) (by omega)) ?_
 refine tl (qD rfl) ?_
 refine qB <| jC <| qC <| qA ?_
 refine tl (jT rfl rfl (by omega) (by omega)) ?_
 refine tl (qG rfl) ?_
 refine qB ?_
 refine xQ ?_
 exact fun a w ha hw => ih79.out (j + 1, q, A_q, c_q, l_q) (by refine ⟨hv77, ?_⟩; exact ⟨by omega, by rw [hj2]; exact (cU hx85 (by assumption)).symm, by omega⟩) (by (try dsimp only); omega) a w (ha.sub (xL ⟨rfl, rfl, rfl, rfl, rfl, rfl, congrArg (fun z => some (Value.int .i64 z)) (show ((j : Int) + 1 : Int) = ((j + 1) : Int) by first | rfl | omega), congrArg (fun z => some (Value.int .i64 z)) (show (((b.incls.length + j : Nat) : Int) + 1 : Int) = ((b.incls.length + (j + 1) : Nat) : Int) by omega), trivial⟩)) (hw.drop 1)
 refine xV rfl ?_
 refine jE <| qK <| qK <| xG <| qC <| qE <| qE <| qA ?_
 refine tl (qH 5 rfl zB rfl) ?_
 refine tl (jM 4 rfl iZ rfl rfl) ?_
 refine tl (jJ rfl fI) ?_
 refine tl (qG rfl) ?_
 refine qB <| qC <| qX ?_
 refine rH _ (fun w hw => hw.vecnil 87 4) ?_
 have hv100 : (kFact).reps R [] [] := rfl
 refine jF ?_
 refine jN (fun b_ : Nat × List (Fact) × Option Addr × Nat × List Value => match b_ with | (k, u, A_u, c_u, l_u) => b.facts.length - k) (fun b_ : Nat × List (Fact) × Option Addr × Nat × List Value => match b_ with | (k, u, A_u, c_u, l_u) => [(1, .slice A_l l.length d_l), (2, .pointer (some ⟨b31, 0, none⟩)), (4, .pointer (some ⟨b32, 0, none⟩)), (5, .pointer (some ⟨b33, 0, none⟩)), (57, .slice A9 b.facts.length d10), (58, .int .i64 (b.facts.length : Int)), (59, .int .i64 (k : Int)), (6, .int .i64 ((b.incls.length + b.roles.length + k : Nat) : Int))]) (fun b_ : Nat × List (Fact) × Option Addr × Nat × List Value => match b_ with | (k, u, A_u, c_u, l_u) => (.vec (.slice A_u u.length c_u) u.length 87 4 l_u :: .vec (.slice A_q q.length c_q) q.length 84 2 l_q :: .vec (.slice A_p p.length c_p) p.length 92 6 l_p :: .blk b33 [.slice A15 b.names.concepts.length d16, .slice A19 b.names.roles.length d20, .slice A23 b.names.inds.length d24, .slice A_p p.length c_p, .slice A_q q.length c_q, .slice A_u u.length c_u, .slice none 0 0] 30 :: .blk b32 [.slice none 0 0, .slice none 0 0, .slice none 0 0, .slice none 0 0, .slice none 0 0, .slice none 0 0, .slice none 0 0] 30 :: .blk b31 [.slice A15 b.names.concepts.length d16, .slice A19 b.names.roles.length d20, .slice A23 b.names.inds.length d24, .slice A3 b.incls.length d4, .slice A6 b.roles.length d7, .slice A9 b.facts.length d10, .slice A12 b.links.length d13] 30 :: G)) (fun (b_ : Nat × List (Fact) × Option Addr × Nat × List Value) => match b_ with | (k, u, A_u, c_u, l_u) => (kFact).reps R u l_u ∧ (k ≤ b.facts.length ∧ u = wI l (b.incls.length + b.roles.length) (b.facts.take k) ∧ u.length ≤ k)) (0, ([] : List (Fact)), none, 0, []) ⟨rfl, rfl, rfl, rfl, rfl, rfl, rfl, congrArg (fun z => some (Value.int .i64 z)) (show (((b.incls.length + j : Nat) : Int) : Int) = ((b.incls.length + b.roles.length + 0 : Nat) : Int) by first | rfl | omega | (simp; done) | (simp; omega)), trivial⟩ (by refine ⟨hv100, ?_⟩; exact ⟨by omega, rfl, by simp⟩) (fun w hw => hw) ?_
 rintro ⟨k, u, A_u, c_u, l_u⟩ hI104 ih105
 show TC Tryz.prog _ _ _ [] [(1, .slice A_l l.length d_l), (2, .pointer (some ⟨b31, 0, none⟩)), (4, .pointer (some ⟨b32, 0, none⟩)), (5, .pointer (some ⟨b33, 0, none⟩)), (57, .slice A9 b.facts.length d10), (58, .int .i64 (b.facts.length : Int)), (59, .int .i64 (k : Int)), (6, .int .i64 ((b.incls.length + b.roles.length + k : Nat) : Int))] R (.vec (.slice A_u u.length c_u) u.length 87 4 l_u :: .vec (.slice A_q q.length c_q) q.length 84 2 l_q :: .vec (.slice A_p p.length c_p) p.length 92 6 l_p :: .blk b33 [.slice A15 b.names.concepts.length d16, .slice A19 b.names.roles.length d20, .slice A23 b.names.inds.length d24, .slice A_p p.length c_p, .slice A_q q.length c_q, .slice A_u u.length c_u, .slice none 0 0] 30 :: .blk b32 [.slice none 0 0, .slice none 0 0, .slice none 0 0, .slice none 0 0, .slice none 0 0, .slice none 0 0, .slice none 0 0] 30 :: .blk b31 [.slice A15 b.names.concepts.length d16, .slice A19 b.names.roles.length d20, .slice A23 b.names.inds.length d24, .slice A3 b.incls.length d4, .slice A6 b.roles.length d7, .slice A9 b.facts.length d10, .slice A12 b.links.length d13] 30 :: G)
 obtain ⟨hv103, hI108⟩ := hI104
 obtain ⟨hk1, hk2, hk3⟩ := hI108
 refine qE <| qA ?_
 refine tl (jR rfl rfl rfl) ?_
 refine qB <| qC <| qE ?_
 refine qP 60 rfl (fun h109 => ?_) (fun h109 => ?_)
 refine xE rfl ?_
 refine qZ <| qC <| qE <| qX <| qE <| qA ?_
 have hb115 : k < b.facts.length := by omega
 obtain ⟨x110, hx111⟩ : ∃ x, b.facts[k]? = some x := ⟨_, List.getElem?_eq_getElem hb115⟩
 obtain ⟨c112, hr113, ha114⟩ := hs11.get _ x110 hx111
 obtain ⟨c116, rfl, i117, hr118⟩ := id hr113
 unfold i64 at i117
 obtain ⟨A119, d120, rfl, i121, i122, hs123⟩ := qM hr118
 unfold i64 at i121 i122
 have z124 := hs123.size
 unfold big at z124
 refine tl (jV (i := k) hs11 rfl rfl rfl fI hb115) ?_
 refine tl (jA 0 [.int .i64 x110.ind, .int .i64 x110.con.op, .int .i64 x110.con.n, .slice A119 x110.con.args.length d120] ha114 rfl qB0 rfl rfl) ?_
 refine qS zc87 rfl fun b125 => ?_
 refine xN 0 [.int .i64 x110.ind, .int .i64 x110.con.op, .int .i64 x110.con.n, .slice A119 x110.con.args.length d120] rfl rfl qB0 rfl rfl rfl rfl rfl rfl ?_
 refine qB <| qC <| qE <| qE <| qA ?_
 refine tl (qG rfl) ?_
 refine tl (qG rfl) ?_
 refine xC qJ4 rfl (fun w hw => kB l ((b.incls.length + b.roles.length + k : Nat) : Int) hs_l (by unfold i64; omega) hw) rfl ?_
 refine qB <| qC ?_
 refine qP 65 rfl (fun h126 => ?_) (fun h126 => ?_)
 refine xE rfl ?_
 refine qA ?_
 refine tl (qH 5 rfl zB rfl) ?_
 refine tl (jM 4 rfl iZ rfl rfl) ?_
 refine tl (qQ 0 [.int .i64 x110.ind, .int .i64 x110.con.op, .int .i64 x110.con.n, .slice A119 x110.con.args.length d120] rfl qB0 rfl rfl) ?_
 refine jB [.int .i64 x110.ind, .int .i64 x110.con.op, .int .i64 x110.con.n, .slice A119 x110.con.args.length d120] ap27 rfl rfl rfl rfl rfl rfl rfl fun b127 => ?_
 refine yJ (k := kFact) (e := x110) 2 0 hv103 (hr113) ap27 rfl rfl rfl rfl rfl (by omega) rfl rfl fun A128 c129 l130 hv131 => ?_
 refine tl (qH 5 rfl zB rfl) ?_
 refine xN 5 [.slice A15 b.names.concepts.length d16, .slice A19 b.names.roles.length d20, .slice A23 b.names.inds.length d24, .slice A_p p.length c_p, .slice A_q q.length c_q, .slice A128 ((u ++ [x110]).length) c129, .slice none 0 0] rfl rfl iZ rfl rfl rfl rfl rfl rfl ?_
 refine qB <| qC <| qA ?_
 refine tl (qG rfl) ?_
 refine tl (jT rfl rfl (by omega) (by omega)) ?_
 refine tl (qD rfl) ?_
 refine qB <| jC <| qC <| qA ?_
 refine tl (jT rfl rfl (by omega) (by omega)) ?_
 refine tl (qG rfl) ?_
 refine qB ?_
 refine xQ ?_
 exact fun a w ha hw => ih105.out (k + 1, (u ++ [x110]), A128, c129, l130) (by refine ⟨hv131, ?_⟩; exact ⟨by omega, by rw [hk2]; exact (bB hx111 (by assumption)).symm, by simp; omega⟩) (by (try dsimp only); omega) a w (ha.sub (xL ⟨rfl, rfl, rfl, rfl, rfl, rfl, congrArg (fun z => some (Value.int .i64 z)) (show ((k : Int) + 1 : Int) = ((k + 1) : Int) by first | rfl | omega), congrArg (fun z => some (Value.int .i64 z)) (show (((b.incls.length + b.roles.length + k : Nat) : Int) + 1 : Int) = ((b.incls.length + b.roles.length + (k + 1) : Nat) : Int) by omega), trivial⟩)) (hw.drop 2)
 refine xV rfl ?_
 refine qZ <| qC <| qA ?_
 refine tl (qG rfl) ?_
 refine tl (jT rfl rfl (by omega) (by omega)) ?_
 refine tl (qD rfl) ?_
 refine qB <| jC <| qC <| qA ?_
 refine tl (jT rfl rfl (by omega) (by omega)) ?_
 refine tl (qG rfl) ?_
 refine qB ?_
 refine xQ ?_
 exact fun a w ha hw => ih105.out (k + 1, u, A_u, c_u, l_u) (by refine ⟨hv103, ?_⟩; exact ⟨by omega, by rw [hk2]; exact (cU hx111 (by assumption)).symm, by omega⟩) (by (try dsimp only); omega) a w (ha.sub (xL ⟨rfl, rfl, rfl, rfl, rfl, rfl, congrArg (fun z => some (Value.int .i64 z)) (show ((k : Int) + 1 : Int) = ((k + 1) : Int) by first | rfl | omega), congrArg (fun z => some (Value.int .i64 z)) (show (((b.incls.length + b.roles.length + k : Nat) : Int) + 1 : Int) = ((b.incls.length + b.roles.length + (k + 1) : Nat) : Int) by omega), trivial⟩)) (hw.drop 1)
 refine xV rfl ?_
 refine jE <| qK <| qK <| xG <| qC <| qE <| qE <| qA ?_
 refine tl (qH 6 rfl pV rfl) ?_
 refine tl (jM 5 rfl rK rfl rfl) ?_
 refine tl (jJ rfl rA) ?_
 refine tl (qG rfl) ?_
 refine qB <| qC <| qX ?_
 refine rH _ (fun w hw => hw.vecnil 89 3) ?_
 have hv133 : (kLink).reps R [] [] := rfl
 refine jF ?_
 refine jN (fun b_ : Nat × List (Link) × Option Addr × Nat × List Value => match b_ with | (m, v, A_v, c_v, l_v) => b.links.length - m) (fun b_ : Nat × List (Link) × Option Addr × Nat × List Value => match b_ with | (m, v, A_v, c_v, l_v) => [(1, .slice A_l l.length d_l), (4, .pointer (some ⟨b32, 0, none⟩)), (5, .pointer (some ⟨b33, 0, none⟩)), (76, .slice A12 b.links.length d13), (77, .int .i64 (b.links.length : Int)), (78, .int .i64 (m : Int)), (6, .int .i64 ((b.incls.length + b.roles.length + b.facts.length + m : Nat) : Int))]) (fun b_ : Nat × List (Link) × Option Addr × Nat × List Value => match b_ with | (m, v, A_v, c_v, l_v) => (.vec (.slice A_v v.length c_v) v.length 89 3 l_v :: .vec (.slice A_u u.length c_u) u.length 87 4 l_u :: .vec (.slice A_q q.length c_q) q.length 84 2 l_q :: .vec (.slice A_p p.length c_p) p.length 92 6 l_p :: .blk b33 [.slice A15 b.names.concepts.length d16, .slice A19 b.names.roles.length d20, .slice A23 b.names.inds.length d24, .slice A_p p.length c_p, .slice A_q q.length c_q, .slice A_u u.length c_u, .slice A_v v.length c_v] 30 :: .blk b32 [.slice none 0 0, .slice none 0 0, .slice none 0 0, .slice none 0 0, .slice none 0 0, .slice none 0 0, .slice none 0 0] 30 :: .blk b31 [.slice A15 b.names.concepts.length d16, .slice A19 b.names.roles.length d20, .slice A23 b.names.inds.length d24, .slice A3 b.incls.length d4, .slice A6 b.roles.length d7, .slice A9 b.facts.length d10, .slice A12 b.links.length d13] 30 :: G)) (fun (b_ : Nat × List (Link) × Option Addr × Nat × List Value) => match b_ with | (m, v, A_v, c_v, l_v) => (kLink).reps R v l_v ∧ (m ≤ b.links.length ∧ v = wI l (b.incls.length + b.roles.length + b.facts.length) (b.links.take m) ∧ v.length ≤ m)) (0, ([] : List (Link)), none, 0, []) ⟨rfl, rfl, rfl, rfl, rfl, rfl, congrArg (fun z => some (Value.int .i64 z)) (show (((b.incls.length + b.roles.length + k : Nat) : Int) : Int) = ((b.incls.length + b.roles.length + b.facts.length + 0 : Nat) : Int) by first | rfl | omega | (simp; done) | (simp; omega)), trivial⟩ (by refine ⟨hv133, ?_⟩; exact ⟨by omega, rfl, by simp⟩) (fun w hw => hw) ?_
 rintro ⟨m, v, A_v, c_v, l_v⟩ hI137 ih138
 show TC Tryz.prog _ _ _ [] [(1, .slice A_l l.length d_l), (4, .pointer (some ⟨b32, 0, none⟩)), (5, .pointer (some ⟨b33, 0, none⟩)), (76, .slice A12 b.links.length d13), (77, .int .i64 (b.links.length : Int)), (78, .int .i64 (m : Int)), (6, .int .i64 ((b.incls.length + b.roles.length + b.facts.length + m : Nat) : Int))] R (.vec (.slice A_v v.length c_v) v.length 89 3 l_v :: .vec (.slice A_u u.length c_u) u.length 87 4 l_u :: .vec (.slice A_q q.length c_q) q.length 84 2 l_q :: .vec (.slice A_p p.length c_p) p.length 92 6 l_p :: .blk b33 [.slice A15 b.names.concepts.length d16, .slice A19 b.names.roles.length d20, .slice A23 b.names.inds.length d24, .slice A_p p.length c_p, .slice A_q q.length c_q, .slice A_u u.length c_u, .slice A_v v.length c_v] 30 :: .blk b32 [.slice none 0 0, .slice none 0 0, .slice none 0 0, .slice none 0 0, .slice none 0 0, .slice none 0 0, .slice none 0 0] 30 :: .blk b31 [.slice A15 b.names.concepts.length d16, .slice A19 b.names.roles.length d20, .slice A23 b.names.inds.length d24, .slice A3 b.incls.length d4, .slice A6 b.roles.length d7, .slice A9 b.facts.length d10, .slice A12 b.links.length d13] 30 :: G)
 obtain ⟨hv136, hI141⟩ := hI137
 obtain ⟨hm1, hm2, hm3⟩ := hI141
 refine qE <| qA ?_
 refine tl (jR rfl rfl rfl) ?_
 refine qB <| qC <| qE ?_
 refine qP 79 rfl (fun h142 => ?_) (fun h142 => ?_)
 refine xE rfl ?_
 refine qZ <| qC <| qE <| qX <| qE <| qA ?_
 have hb148 : m < b.links.length := by omega
 obtain ⟨x143, hx144⟩ : ∃ x, b.links[m]? = some x := ⟨_, List.getElem?_eq_getElem hb148⟩
 obtain ⟨c145, hr146, ha147⟩ := hs14.get _ x143 hx144
 obtain ⟨rfl, i149, i150, i151⟩ := id hr146
 unfold i64 at i149
 unfold i64 at i150
 unfold i64 at i151
 refine tl (jV (i := m) hs14 rfl rfl rfl rA hb148) ?_
 refine tl (jA 0 [.int .i64 x143.role, .int .i64 x143.frm, .int .i64 x143.to] ha147 rfl qH0 rfl rfl) ?_
 refine qS zc89 rfl fun b152 => ?_
 refine xN 0 [.int .i64 x143.role, .int .i64 x143.frm, .int .i64 x143.to] rfl rfl qH0 rfl rfl rfl rfl rfl rfl ?_
 refine qB <| qC <| qE <| qE <| qA ?_
 refine tl (qG rfl) ?_
 refine tl (qG rfl) ?_
 refine xC qJ4 rfl (fun w hw => kB l ((b.incls.length + b.roles.length + b.facts.length + m : Nat) : Int) hs_l (by unfold i64; omega) hw) rfl ?_
 refine qB <| qC ?_
 refine qP 84 rfl (fun h153 => ?_) (fun h153 => ?_)
 refine xE rfl ?_
 refine qA ?_
 refine tl (qH 6 rfl pV rfl) ?_
 refine tl (jM 5 rfl rK rfl rfl) ?_
 refine tl (qQ 0 [.int .i64 x143.role, .int .i64 x143.frm, .int .i64 x143.to] rfl qH0 rfl rfl) ?_
 refine jB [.int .i64 x143.role, .int .i64 x143.frm, .int .i64 x143.to] ap28 rfl rfl rfl rfl rfl rfl rfl fun b154 => ?_
 refine yJ (k := kLink) (e := x143) 2 0 hv136 (hr146) ap28 rfl rfl rfl rfl rfl (by omega) rfl rfl fun A155 c156 l157 hv158 => ?_
 refine tl (qH 6 rfl pV rfl) ?_
 refine xN 6 [.slice A15 b.names.concepts.length d16, .slice A19 b.names.roles.length d20, .slice A23 b.names.inds.length d24, .slice A_p p.length c_p, .slice A_q q.length c_q, .slice A_u u.length c_u, .slice A155 ((v ++ [x143]).length) c156] rfl rfl rK rfl rfl rfl rfl rfl rfl ?_
 refine qB <| qC <| qA ?_
 refine tl (qG rfl) ?_
 refine tl (jT rfl rfl (by omega) (by omega)) ?_
 refine tl (qD rfl) ?_
 refine qB <| jC <| qC <| qA ?_
 refine tl (jT rfl rfl (by omega) (by omega)) ?_
 refine tl (qG rfl) ?_
 refine qB ?_
 refine xQ ?_
 exact fun a w ha hw => ih138.out (m + 1, (v ++ [x143]), A155, c156, l157) (by refine ⟨hv158, ?_⟩; exact ⟨by omega, by rw [hm2]; exact (bB hx144 (by assumption)).symm, by simp; omega⟩) (by (try dsimp only); omega) a w (ha.sub (xL ⟨rfl, rfl, rfl, rfl, rfl, congrArg (fun z => some (Value.int .i64 z)) (show ((m : Int) + 1 : Int) = ((m + 1) : Int) by first | rfl | omega), congrArg (fun z => some (Value.int .i64 z)) (show (((b.incls.length + b.roles.length + b.facts.length + m : Nat) : Int) + 1 : Int) = ((b.incls.length + b.roles.length + b.facts.length + (m + 1) : Nat) : Int) by omega), trivial⟩)) (hw.drop 2)
 refine xV rfl ?_
 refine qZ <| qC <| qA ?_
 refine tl (qG rfl) ?_
 refine tl (jT rfl rfl (by omega) (by omega)) ?_
 refine tl (qD rfl) ?_
 refine qB <| jC <| qC <| qA ?_
 refine tl (jT rfl rfl (by omega) (by omega)) ?_
 refine tl (qG rfl) ?_
 refine qB ?_
 refine xQ ?_
 exact fun a w ha hw => ih138.out (m + 1, v, A_v, c_v, l_v) (by refine ⟨hv136, ?_⟩; exact ⟨by omega, by rw [hm2]; exact (cU hx144 (by assumption)).symm, by omega⟩) (by (try dsimp only); omega) a w (ha.sub (xL ⟨rfl, rfl, rfl, rfl, rfl, congrArg (fun z => some (Value.int .i64 z)) (show ((m : Int) + 1 : Int) = ((m + 1) : Int) by first | rfl | omega), congrArg (fun z => some (Value.int .i64 z)) (show (((b.incls.length + b.roles.length + b.facts.length + m : Nat) : Int) + 1 : Int) = ((b.incls.length + b.roles.length + b.facts.length + (m + 1) : Nat) : Int) by omega), trivial⟩)) (hw.drop 1)
 refine xV rfl ?_
 refine jE <| qK <| qK <| xG <| qC <| qE <| qA ?_
 refine tl (qQ 4 [.slice A15 b.names.concepts.length d16, .slice A19 b.names.roles.length d20, .slice A23 b.names.inds.length d24, .slice A_p p.length c_p, .slice A_q q.length c_q, .slice A_u u.length c_u, .slice A_v v.length c_v] rfl pN rfl rfl) ?_
 refine xN 5 [.slice A15 b.names.concepts.length d16, .slice A19 b.names.roles.length d20, .slice A23 b.names.inds.length d24, .slice A_p p.length c_p, .slice A_q q.length c_q, .slice A_u u.length c_u, .slice A_v v.length c_v] rfl rfl pN rfl rfl rfl rfl rfl rfl ?_
 refine qB <| qC <| qV ?_
 refine kZ (k := kIncl) (l := p) 3 rfl hv37 rfl (by unfold big; first | omega | (simp; omega)) fun R161 hle162 hs160 => ?_
 try replace hr2 := kNames.mono _ _ _ _ hle162 hr2
 try replace hv77 := Kd.reps_mono hle162 hv77
 try replace hv103 := Kd.reps_mono hle162 hv103
 try replace hv136 := Kd.reps_mono hle162 hv136
 have z163 := hs160.size
 unfold big at z163
 refine kZ (k := kRoleIncl) (l := q) 2 rfl hv77 rfl (by unfold big; first | omega | (simp; omega)) fun R165 hle166 hs164 => ?_
 try replace hr2 := kNames.mono _ _ _ _ hle166 hr2
 try replace hv103 := Kd.reps_mono hle166 hv103
 try replace hv136 := Kd.reps_mono hle166 hv136
 try replace hs160 := hs160.mono hle166
 have hle167 := hle162.trans hle166
 have z168 := hs164.size
 unfold big at z168
 refine kZ (k := kFact) (l := u) 1 rfl hv103 rfl (by unfold big; first | omega | (simp; omega)) fun R170 hle171 hs169 => ?_
 try replace hr2 := kNames.mono _ _ _ _ hle171 hr2
 try replace hv136 := Kd.reps_mono hle171 hv136
 try replace hs160 := hs160.mono hle171
 try replace hs164 := hs164.mono hle171
 have hle172 := hle167.trans hle171
 have hle173 := hle166.trans hle171
 have z174 := hs169.size
 unfold big at z174
 refine kZ (k := kLink) (l := v) 0 rfl hv136 rfl (by unfold big; first | omega | (simp; omega)) fun R176 hle177 hs175 => ?_
 try replace hr2 := kNames.mono _ _ _ _ hle177 hr2
 try replace hs160 := hs160.mono hle177
 try replace hs164 := hs164.mono hle177
 try replace hs169 := hs169.mono hle177
 have hle178 := hle172.trans hle177
 have hle179 := hle173.trans hle177
 have hle180 := hle171.trans hle177
 have z181 := hs175.size
 unfold big at z181
 refine kO (cells := [.slice A15 b.names.concepts.length d16, .slice A19 b.names.roles.length d20, .slice A23 b.names.inds.length d24, .slice A_p p.length c_p, .slice A_q q.length c_q, .slice A_u u.length c_u, .slice A_v v.length c_v]) 1 (.inl rfl) rfl rfl pN rfl ?_
 have e182 : ((Base.mk b.names p q u v) : Base) = wP b l := by (rw [hi2, hj2, hk2, hm2, xF (l := b.incls) (by assumption) (by assumption), xF (l := b.roles) (by assumption) (by assumption), xF (l := b.facts) (by assumption) (by assumption), xF (l := b.links) (by assumption) (by assumption)]; rfl)
 intro w hw
 exact ⟨_, _, [], rfl, hle178, hw.drop 3, ([.slice A15 b.names.concepts.length d16, .slice A19 b.names.roles.length d20, .slice A23 b.names.inds.length d24, .slice A_p p.length c_p, .slice A_q q.length c_q, .slice A_u u.length c_u, .slice A_v v.length c_v]), rfl, rfl, (Eq.mp (congrArg (fun z => kBase.rep R176 z [.slice A15 b.names.concepts.length d16, .slice A19 b.names.roles.length d20, .slice A23 b.names.inds.length d24, .slice A_p p.length c_p, .slice A_q q.length c_q, .slice A_u u.length c_u, .slice A_v v.length c_v]) e182) ⟨[.slice A15 b.names.concepts.length d16, .slice A19 b.names.roles.length d20, .slice A23 b.names.inds.length d24], _, _, _, _, _, _, _, _, rfl, hr2, hs160, hs164, hs169, hs175⟩)⟩

end Go.Proofs.YtcbcdlajnmkioaaGreatDoor
