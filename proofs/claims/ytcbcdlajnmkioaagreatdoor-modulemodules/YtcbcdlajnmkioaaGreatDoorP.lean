/- A part of the proof of the statement ModuleModules of isagogelaw19: functions walked, and plain laws on what they answer. -/
import Derived.Test.YtcbcdlajnmkioaaGreatDoorL
import Derived.Test.YtcbcdlajnmkioaaGreatDoorS0
namespace Go.Proofs.YtcbcdlajnmkioaaGreatDoor
open Go Go.Proofs
set_option linter.unusedSimpArgs false
set_option linter.unusedVariables false
set_option maxRecDepth 20000
set_option maxHeartbeats 8000000
theorem ca12 : Callable Tryz.prog 12 := ⟨by kernel_rfl⟩
theorem ca42 : Callable Tryz.prog 42 := ⟨by kernel_rfl⟩

def qB5 (n : Nat) : List Int := (List.range n).map fun (i : Nat) => (i : Int)
theorem kM (n : Nat) : (qB5 n).length = n := by simp [qB5]
theorem oH (n : Nat) : qB5 (n + 1) = qB5 n ++ [(n : Int)] := by simp [qB5, List.range_succ]
def mY (b : Base) : List Int := qB5 (xT b)
theorem allL_len (b : Base) : (mY b).length = xT b := kM _
theorem allL_mem {b : Base} {x : Int} : x ∈ mY b ↔ 0 ≤ x ∧ x < xT b := by
  simp only [mY, qB5, List.mem_map, List.mem_range]
  constructor
  · rintro ⟨i, hi, rfl⟩; omega
  · rintro ⟨h1, h2⟩; exact ⟨x.toNat, by omega, by omega⟩
theorem uC (b : Base) : Up (mY b) := by
  unfold mY qB5 Up
  rw [List.pairwise_map]
  exact List.Pairwise.imp (fun {a c} h => by omega) List.pairwise_lt_range
theorem iF {b : Base} {l : List Int} {s : Sig} {top : Bool} (h : Up l) : Up (modL b l s top) := by classical exact List.Pairwise.filter _ h
theorem sU {b : Base} {l : List Int} {s : Sig} {top : Bool} : ∀ x ∈ modL b l s top, x ∈ l := by classical exact fun x hx => (List.mem_filter.1 hx).1
theorem vV {b : Base} {l : List Int} {s : Sig} {top : Bool} : (modL b l s top).length ≤ l.length := by classical exact List.length_filter_le _ _
theorem pY {b : Base} {l : List Int} {s : Sig} {top : Bool} (h : ¬ modL b l s top = l) : (modL b l s top).length < l.length := by
  classical
  have h1 : (modL b l s top).Sublist l := List.filter_sublist
  rcases Nat.lt_or_ge (modL b l s top).length l.length with h2 | h2
  · exact h2
  · exact absurd (h1.eq_of_length_le h2) h
open Classical in
noncomputable def star (b : Base) (s : Sig) (same : Nat) (top : Bool) (l : List Int) : List Int :=
  if same ≥ 2 then l else star b s (if modL b l s top = l then same + 1 else 0) (!top) (modL b l s top)
  termination_by 3 * l.length + (2 - same)
  decreasing_by
  split
  · rename_i h; rw [h]; omega
  · rename_i h; have := pY h; omega
theorem wL {b : Base} {s : Sig} {same : Nat} {top : Bool} {l : List Int} (h : 2 ≤ same) : star b s same top l = l := by rw [star, if_pos h]
theorem yR {b : Base} {s : Sig} {same : Nat} {top : Bool} {l : List Int} (h : ¬ 2 ≤ same) (he : modL b l s top = l) : star b s (same + 1) (!top) (modL b l s top) = star b s same top l := by rw [star.eq_1 b s same top l, if_neg h, if_pos he]
theorem yF {b : Base} {s : Sig} {same : Nat} {top : Bool} {l : List Int} (h : ¬ 2 ≤ same) (he : ¬ modL b l s top = l) : star b s 0 (!top) (modL b l s top) = star b s same top l := by rw [star.eq_1 b s same top l, if_neg h, if_neg he]
noncomputable def kF (b : Base) (s : Sig) (kind : Int) : List Int := if kind < 2 then modL b (mY b) s (decide (kind = 1)) else star b s 0 false (mY b)

theorem uS {R : RO} {G : List Res} {w : World} {c_b : List Value} (b : Base) {c_s : List Value} (s : Sig) (kind : Int) (hr_b : kBase.rep R b c_b) (hr_s : kSig.rep R s c_s) (hi_kind : i64 kind) (hB : BaseOk b) (hb : s.concepts.length ≤ 1000 ∧ s.roles.length ≤ 1000) (hw : Own w R (G)) :
    Calls Tryz.prog 13 [.agg c_b.toArray, .agg c_s.toArray, .int .i64 kind].toArray w (gZ R G (fun v_ R' L_ => ∃ (A_0 : Option Addr) (d_0 : Nat), v_ = (.slice A_0 ((kF b s kind).length) d_0 : Value) ∧ L_ = ([] : List Res) ∧ SlAt kInt R' A_0 (kF b s kind))) := by
 obtain ⟨c1, A3, d4, A6, d7, A9, d10, A12, d13, rfl, hr2, hs5, hs8, hs11, hs14⟩ := id hr_b
 have z27 := hs5.size
 unfold big at z27
 have z28 := hs8.size
 unfold big at z28
 have z29 := hs11.size
 unfold big at z29
 have z30 := hs14.size
 unfold big at z30
 obtain ⟨A15, d16, A19, d20, A23, d24, rfl, hs17, hs21, hs25⟩ := id hr2
 have z18 := hs17.size
 unfold big at z18
 have z22 := hs21.size
 unfold big at z22
 have z26 := hs25.size
 unfold big at z26
 obtain ⟨A31, d32, A35, d36, rfl, hs33, hs37⟩ := id hr_s
 have z34 := hs33.size
 unfold big at z34
 have z38 := hs37.size
 unfold big at z38
 unfold i64 at hi_kind
 have hn60 := hB.count
 refine xH (vs := [.agg #[.slice A15 b.names.concepts.length d16, .slice A19 b.names.roles.length d20, .slice A23 b.names.inds.length d24, .slice A3 b.incls.length d4, .slice A6 b.roles.length d7, .slice A9 b.facts.length d10, .slice A12 b.links.length d13], .agg #[.slice A31 s.concepts.length d32, .slice A35 s.roles.length d36], .int .i64 kind]) Tryz.func13 rfl rfl rfl ?_ hw
 refine qE <| qA ?_
 refine qW (l := [.slice A15 b.names.concepts.length d16, .slice A19 b.names.roles.length d20, .slice A23 b.names.inds.length d24, .slice A3 b.incls.length d4, .slice A6 b.roles.length d7, .slice A9 b.facts.length d10, .slice A12 b.links.length d13]) rfl rfl fun b39 => ?_
 refine qW (l := [.slice A31 s.concepts.length d32, .slice A35 s.roles.length d36]) rfl rfl fun b40 => ?_
 refine tl (qD rfl) ?_
 refine qB <| qC <| qE <| qA ?_
 refine cR 3 1 ?_
 have hv41 : (kInt).reps R [] [] := rfl
 refine tl (qD rfl) ?_
 refine qB <| qC <| qE <| qE <| qA ?_
 refine tl (qQ 2 [.slice A15 b.names.concepts.length d16, .slice A19 b.names.roles.length d20, .slice A23 b.names.inds.length d24, .slice A3 b.incls.length d4, .slice A6 b.roles.length d7, .slice A9 b.facts.length d10, .slice A12 b.links.length d13] rfl pN rfl rfl) ?_
 refine xC ca25 rfl (fun w hw => gF b hr_b hw) rfl ?_
 refine tl (qG rfl) ?_
 refine qB <| qC <| qX ?_
 refine jF ?_
 refine jN (fun b_ : Nat × List (Int) × Option Addr × Nat × List Value => match b_ with | (i, al, A_al, c_al, l_al) => xT b - i) (fun b_ : Nat × List (Int) × Option Addr × Nat × List Value => match b_ with | (i, al, A_al, c_al, l_al) => [(2, .int .i64 kind), (3, .pointer (some ⟨b39, 0, none⟩)), (4, .pointer (some ⟨b40, 0, none⟩)), (6, .slice none 0 0), (13, .int .i64 (xT b : Int)), (14, .int .i64 (i : Int)), (7, .slice A_al al.length c_al)]) (fun b_ : Nat × List (Int) × Option Addr × Nat × List Value => match b_ with | (i, al, A_al, c_al, l_al) => (.vec (.slice A_al al.length c_al) al.length 3 1 l_al :: .blk b40 [.slice A31 s.concepts.length d32, .slice A35 s.roles.length d36] 33 :: .blk b39 [.slice A15 b.names.concepts.length d16, .slice A19 b.names.roles.length d20, .slice A23 b.names.inds.length d24, .slice A3 b.incls.length d4, .slice A6 b.roles.length d7, .slice A9 b.facts.length d10, .slice A12 b.links.length d13] 30 :: G)) (fun (b_ : Nat × List (Int) × Option Addr × Nat × List Value) => match b_ with | (i, al, A_al, c_al, l_al) => (kInt).reps R al l_al ∧ (i ≤ xT b ∧ al = qB5 i)) (0, ([] : List (Int)), none, 0, []) (by repeat' constructor) (by refine ⟨hv41, ?_⟩; exact ⟨by omega, rfl⟩) (fun w hw => hw) ?_
 rintro ⟨i, al, A_al, c_al, l_al⟩ hI45 ih46
 show TC Tryz.prog _ _ _ [] [(2, .int .i64 kind), (3, .pointer (some ⟨b39, 0, none⟩)), (4, .pointer (some ⟨b40, 0, none⟩)), (6, .slice none 0 0), (13, .int .i64 (xT b : Int)), (14, .int .i64 (i : Int)), (7, .slice A_al al.length c_al)] R (.vec (.slice A_al al.length c_al) al.length 3 1 l_al :: .blk b40 [.slice A31 s.concepts.length d32, .slice A35 s.roles.length d36] 33 :: .blk b39 [.slice A15 b.names.concepts.length d16, .slice A19 b.names.roles.length d20, .slice A23 b.names.inds.length d24, .slice A3 b.incls.length d4, .slice A6 b.roles.length d7, .slice A9 b.facts.length d10, .slice A12 b.links.length d13] 30 :: G)
 obtain ⟨hv44, hI49⟩ := hI45
 obtain ⟨hi1, hi2⟩ := hI49
 refine qE <| qA ?_
 refine tl (jR rfl rfl rfl) ?_
 refine qB <| qC <| qE ?_
 refine qP 15 rfl (fun h50 => ?_) (fun h50 => ?_)
 refine xE rfl ?_
 refine qZ <| qC <| qE <| qX <| qE <| qA ?_
 refine tl (qG rfl) ?_
 refine tl (qD rfl) ?_
 refine qB <| qC <| qA ?_
 refine tl (qG rfl) ?_
 refine tl (qG rfl) ?_
 refine jB [.int .i64 (i : Int)] zR rfl rfl rfl rfl rfl rfl rfl fun b51 => ?_
 refine yJ (k := kInt) (e := (i : Int)) 1 0 hv44 (⟨rfl, by unfold i64; omega⟩) zR rfl rfl rfl rfl rfl (by (rw [hi2, kM]; omega)) rfl rfl fun A52 c53 l54 hv55 => ?_
 refine tl (qD rfl) ?_
 refine qB <| jC <| qC <| qA ?_
 refine tl (jT rfl rfl (by omega) (by omega)) ?_
 refine tl (qG rfl) ?_
 refine qB ?_
 refine xQ ?_
 exact fun a w ha hw => ih46.out (i + 1, (al ++ [(i : Int)]), A52, c53, l54) (by refine ⟨hv55, ?_⟩; exact ⟨by omega, by rw [hi2, oH]⟩) (by (try dsimp only); omega) a w (ha.sub (xL (by repeat' constructor))) (hw.drop 1)
 refine xV rfl ?_
 refine jE <| qK <| qK <| xG <| qC <| qE <| qE <| qA ?_
 refine tl (qG rfl) ?_
 refine tl (jR rfl rfl rfl) ?_
 refine qB <| qC ?_
 refine qP 23 rfl (fun h57 => ?_) (fun h57 => ?_)
 refine xE rfl ?_
 refine qE <| qA ?_
 refine tl (qQ 2 [.slice A15 b.names.concepts.length d16, .slice A19 b.names.roles.length d20, .slice A23 b.names.inds.length d24, .slice A3 b.incls.length d4, .slice A6 b.roles.length d7, .slice A9 b.facts.length d10, .slice A12 b.links.length d13] rfl pN rfl rfl) ?_
 refine tl (qG rfl) ?_
 refine tl (qQ 1 [.slice A31 s.concepts.length d32, .slice A35 s.roles.length d36] rfl yM rfl rfl) ?_
 refine tl (qG rfl) ?_
 refine tl (jR rfl rfl rfl) ?_
 refine pM (k := kInt) (l := al) 0 rfl hv44 rfl (by (unfold big; rw [hi2, kM]; omega)) fun R59 hle60 hs58 => ?_
 try replace hr_b := kBase.mono _ _ _ _ hle60 hr_b
 try replace hr_s := kSig.mono _ _ _ _ hle60 hr_s
 try replace hv44 := Kd.reps_mono hle60 hv44
 have z61 := hs58.size
 unfold big at z61
 refine xD ca42 rfl (fun w hw => hZ b al s (decide (kind = 1)) hr_b hs58 hr_s (by first | assumption | exact ⟨hw1, by omega, hw2⟩ | (have e_ : i = xT b := (by omega); subst e_; subst hi2; exact ⟨uC b, by rw [kM]; omega, fun x hx => allL_mem.1 hx⟩)) (by first | assumption | exact ⟨hw1, by omega, hw2⟩ | (have e_ : i = xT b := (by omega); subst e_; subst hi2; exact ⟨uC b, by rw [kM]; omega, fun x hx => allL_mem.1 hx⟩)) (by first | assumption | exact ⟨hw1, by omega, hw2⟩ | (have e_ : i = xT b := (by omega); subst e_; subst hi2; exact ⟨uC b, by rw [kM]; omega, fun x hx => allL_mem.1 hx⟩)) hw) rfl ?_
 rintro _ R63 _ hle64 ⟨A_z62_0, d_z62_0, rfl, rfl, hs_z62_0⟩
 try replace hr_b := kBase.mono _ _ _ _ hle64 hr_b
 try replace hr_s := kSig.mono _ _ _ _ hle64 hr_s
 try replace hv44 := Kd.reps_mono hle64 hv44
 have hle65 := hle60.trans hle64
 have z66 := hs_z62_0.size
 unfold big at z66
 refine tl (qD rfl) ?_
 refine qB <| qC <| qV <| qI ?_
 refine xB (.inl rfl) rfl rfl ?_
 have e67 : ((modL b al s (decide (kind = 1))) : List (Int)) = kF b s kind := by ((have e_ : i = xT b := by omega); subst e_; subst hi2; unfold kF; rw [if_pos (by omega)]; rfl)
 intro w hw
 exact ⟨_, _, [], rfl, hle65, hw.drop 2, A_z62_0, d_z62_0, (congrArg (fun (z0_ : List (Int)) => (.slice A_z62_0 z0_.length d_z62_0 : Value)) e67), rfl, (Eq.mp (congrArg (fun z => SlAt kInt R63 A_z62_0 z) e67) hs_z62_0)⟩
 refine xV rfl ?_
 refine qZ <| qC <| qE <| qA ?_
 refine tl (qD rfl) ?_
 refine qB <| qC <| qE <| qE <| qA ?_
 refine tl (qD rfl) ?_
 refine qB <| qC <| qX ?_
 refine lP (k := kInt) (l := al) 0 rfl hv44 rfl (by (unfold big; rw [hi2, kM]; omega)) fun R69 hle70 hs68 => ?_
 try replace hr_b := kBase.mono _ _ _ _ hle70 hr_b
 try replace hr_s := kSig.mono _ _ _ _ hle70 hr_s
 have z71 := hs68.size
 unfold big at z71
 refine jF ?_
 refine wD (fun b_ : Nat × Bool × List (Int) × Option Addr × Nat => match b_ with | (q, top, wl, A_wl, d_wl) => 3 * wl.length + (2 - q)) (fun b_ : Nat × Bool × List (Int) × Option Addr × Nat => match b_ with | (q, top, wl, A_wl, d_wl) => [(3, .pointer (some ⟨b39, 0, none⟩)), (4, .pointer (some ⟨b40, 0, none⟩)), (6, .slice none 0 0), (9, .int .i64 (q : Int)), (10, .bool top), (7, .slice A_wl wl.length d_wl)]) (fun b_ : Nat × Bool × List (Int) × Option Addr × Nat => match b_ with | (q, top, wl, A_wl, d_wl) => (.blk b40 [.slice A31 s.concepts.length d32, .slice A35 s.roles.length d36] 33 :: .blk b39 [.slice A15 b.names.concepts.length d16, .slice A19 b.names.roles.length d20, .slice A23 b.names.inds.length d24, .slice A3 b.incls.length d4, .slice A6 b.roles.length d7, .slice A9 b.facts.length d10, .slice A12 b.links.length d13] 30 :: G)) (fun (b_ : Nat × Bool × List (Int) × Option Addr × Nat) (R_ : RO) => match b_ with | (q, top, wl, A_wl, d_wl) => SlAt kInt R_ A_wl wl ∧ (Up wl ∧ (∀ x ∈ wl, 0 ≤ x ∧ x < xT b) ∧ wl.length ≤ 60 ∧ star b s q top wl = star b s 0 false (mY b))) (0, false, al, A_al, c_al) (by repeat' constructor) (by refine ⟨hs68, ?_⟩; (have e_ : i = xT b := by omega); subst e_; subst hi2; exact ⟨uC b, fun x hx => allL_mem.1 hx, by rw [kM]; omega, rfl⟩) (fun w hw => hw) ?_
 rintro ⟨q, top, wl, A_wl, d_wl⟩ R75 hle76 hI73 ih74
 try replace hr_b := kBase.mono _ _ _ _ hle76 hr_b
 try replace hr_s := kSig.mono _ _ _ _ hle76 hr_s
 have hle77 := hle70.trans hle76
 show TC Tryz.prog _ _ _ [] [(3, .pointer (some ⟨b39, 0, none⟩)), (4, .pointer (some ⟨b40, 0, none⟩)), (6, .slice none 0 0), (9, .int .i64 (q : Int)), (10, .bool top), (7, .slice A_wl wl.length d_wl)] R75 (.blk b40 [.slice A31 s.concepts.length d32, .slice A35 s.roles.length d36] 33 :: .blk b39 [.slice A15 b.names.concepts.length d16, .slice A19 b.names.roles.length d20, .slice A23 b.names.inds.length d24, .slice A3 b.incls.length d4, .slice A6 b.roles.length d7, .slice A9 b.facts.length d10, .slice A12 b.links.length d13] 30 :: G)
 obtain ⟨hs72, hI78⟩ := hI73
 have z79 := hs72.size
 unfold big at z79
 obtain ⟨hw1, hw2, hw3, hw4⟩ := hI78
 refine qE <| qE <| qA ?_
 refine tl (qG rfl) ?_
 refine tl (jR rfl rfl rfl) ?_
 refine qB <| qC ?_
 refine qP 31 rfl (fun h80 => ?_) (fun h80 => ?_)
 refine xE rfl ?_
 refine qZ <| qC <| qE <| qX <| qE <| qA ?_
 refine tl (qQ 1 [.slice A15 b.names.concepts.length d16, .slice A19 b.names.roles.length d20, .slice A23 b.names.inds.length d24, .slice A3 b.incls.length d4, .slice A6 b.roles.length d7, .slice A9 b.facts.length d10, .slice A12 b.links.length d13] rfl pN rfl rfl) ?_
 refine tl (qG rfl) ?_
 refine tl (qQ 0 [.slice A31 s.concepts.length d32, .slice A35 s.roles.length d36] rfl yM rfl rfl) ?_
 refine tl (qG rfl) ?_
 refine xD ca42 rfl (fun w hw => hZ b wl s top hr_b hs72 hr_s (by first | assumption | exact ⟨hw1, by omega, hw2⟩ | (have e_ : i = xT b := (by omega); subst e_; subst hi2; exact ⟨uC b, by rw [kM]; omega, fun x hx => allL_mem.1 hx⟩)) (by first | assumption | exact ⟨hw1, by omega, hw2⟩ | (have e_ : i = xT b := (by omega); subst e_; subst hi2; exact ⟨uC b, by rw [kM]; omega, fun x hx => allL_mem.1 hx⟩)) (by first | assumption | exact ⟨hw1, by omega, hw2⟩ | (have e_ : i = xT b := (by omega); subst e_; subst hi2; exact ⟨uC b, by rw [kM]; omega, fun x hx => allL_mem.1 hx⟩)) hw) rfl ?_
 rintro _ R82 _ hle83 ⟨A_z81_0, d_z81_0, rfl, rfl, hs_z81_0⟩
 try replace hs72 := hs72.mono hle83
 have hle84 := hle77.trans hle83
 have hle85 := hle76.trans hle83
 have z86 := hs_z81_0.size
 unfold big at z86
 refine tl (qD rfl) ?_
 refine qB <| qC <| qE <| qA ?_
 refine tl (qG rfl) ?_
 refine tl (jT rfl rfl (by omega) (by omega)) ?_
 refine tl (qD rfl) ?_
 refine qB <| qC <| qE <| qE <| qA ?_
 refine tl (qG rfl) ?_
 refine tl (qG rfl) ?_
 refine xC ca12 rfl (fun w hw => wT (modL b wl s top) wl hs_z81_0 hs72 hw) rfl ?_
 refine tl (wZ rfl) ?_
 refine qB <| qC ?_
 refine qP 44 rfl (fun h87 => ?_) (fun h87 => ?_)
 refine xE rfl ?_
 refine qA ?_
 refine tl (qD rfl) ?_
 refine qB <| qC <| qA ?_
 refine tl (qG rfl) ?_
 refine tl (qD rfl) ?_
 refine qB <| jC <| qC <| qA ?_
 refine tl (qG rfl) ?_
 refine tl (wJ rfl) ?_
 refine tl (qD rfl) ?_
 refine qB ?_
 refine xQ ?_
 exact fun a w ha hw => ih74.out (0, !top, (modL b wl s top), A_z81_0, d_z81_0) _ (hle83) (by refine ⟨hs_z81_0, ?_⟩; exact ⟨iF hw1, fun x hx => hw2 x (sU x hx), Nat.le_trans vV hw3, by rw [← hw4]; exact yF (by omega) (by grind)⟩) (by (dsimp only; first | (have := pY (b := b) (l := wl) (s := s) (top := top) (by grind); omega) | (have := vV (b := b) (l := wl) (s := s) (top := top); omega))) a w (ha.sub (xL ⟨rfl, rfl, rfl, congrArg (fun z => some (Value.int .i64 z)) (show (0 : Int) = (0 : Int) by first | rfl | omega), rfl, rfl, trivial⟩)) (hw)
 refine xV rfl ?_
 refine qZ <| qC <| qA ?_
 refine tl (qG rfl) ?_
 refine tl (qD rfl) ?_
 refine qB <| jC <| qC <| qA ?_
 refine tl (qG rfl) ?_
 refine tl (wJ rfl) ?_
 refine tl (qD rfl) ?_
 refine qB ?_
 refine xQ ?_
 exact fun a w ha hw => ih74.out (q + 1, !top, (modL b wl s top), A_z81_0, d_z81_0) _ (hle83) (by refine ⟨hs_z81_0, ?_⟩; exact ⟨iF hw1, fun x hx => hw2 x (sU x hx), Nat.le_trans vV hw3, by rw [← hw4]; exact yR (by omega) (by grind)⟩) (by (dsimp only; first | (have := pY (b := b) (l := wl) (s := s) (top := top) (by grind); omega) | (have := vV (b := b) (l := wl) (s := s) (top := top); omega))) a w (ha.sub (xL ⟨rfl, rfl, rfl, congrArg (fun z => some (Value.int .i64 z)) (show ((q : Int) + 1 : Int) = ((q + 1) : Int) by first | rfl | omega), rfl, rfl, trivial⟩)) (hw)
 refine xV rfl ?_
 refine jE <| qK <| qK <| xG <| qC <| qE <| qA ?_
 refine tl (qG rfl) ?_
 refine tl (qD rfl) ?_
 refine qB <| qC <| qV ?_
 refine xB (.inl rfl) rfl rfl ?_
 have e88 : (wl : List (Int)) = kF b s kind := by (rw [wL (by omega)] at hw4; unfold kF; rw [if_neg (by omega)]; exact hw4)
 intro w hw
 exact ⟨_, _, [], rfl, hle77, hw.drop 2, A_wl, d_wl, (congrArg (fun (z0_ : List (Int)) => (.slice A_wl z0_.length d_wl : Value)) e88), rfl, (Eq.mp (congrArg (fun z => SlAt kInt R75 A_wl z) e88) hs72)⟩

theorem ca108 : Callable Tryz.prog 108 := ⟨by kernel_rfl⟩
theorem ca109 : Callable Tryz.prog 109 := ⟨by kernel_rfl⟩

theorem uD (b : UInt8) (l sub : List UInt8) : Lib.contains (b :: l) sub = (sub.isPrefixOf (b :: l) || Lib.contains l sub) := by
  unfold Lib.contains
  have h := Lib.index_ge l sub
  rw [Lib.index]
  cases hp : sub.isPrefixOf (b :: l)
  · simp only [Bool.false_eq_true, if_false, Bool.false_or, decide_eq_decide, beq_iff_eq]
    split <;> omega
  · simp
theorem cZ {sub : List UInt8} : ∀ (t r : List UInt8), ¬ (32 : UInt8) ∈ t → Lib.contains (t ++ r) (32 :: sub) = Lib.contains r (32 :: sub)
  | [], r, _ => rfl
  | x :: t, r, h => by
    have hx : ¬ 32 = x := fun e => h (by simp [e])
    rw [List.cons_append, uD, cZ t r fun k => h (by simp [k])]
    simp [List.isPrefixOf, hx]
theorem qB6 : ∀ (u t r : List UInt8), ¬ (32 : UInt8) ∈ u → ¬ (32 : UInt8) ∈ t → (u ++ [32]).isPrefixOf (t ++ 32 :: r) = decide (u = t)
  | [], [], r, _, _ => by simp
  | [], y :: t, r, _, h => by
    have hy : ¬ 32 = y := fun e => h (by simp [e])
    simp [List.isPrefixOf, hy]
  | x :: u, [], r, h, _ => by
    have hx : ¬ x = 32 := fun e => h (by simp [e])
    simp [List.isPrefixOf, hx]
  | x :: u, y :: t, r, h, k => by
    have ih := qB6 u t r (fun e => h (by simp [e])) (fun e => k (by simp [e]))
    simp only [List.cons_append, List.isPrefixOf, ih]
    rw [Bool.eq_iff_iff]; simp
theorem bR {u : List UInt8} (hu : ¬ (32 : UInt8) ∈ u) : ∀ ts : List (List UInt8), (∀ t ∈ ts, ¬ (32 : UInt8) ∈ t) → Lib.contains (32 :: ts.flatMap (· ++ [32])) (32 :: (u ++ [32])) = ts.any fun t => decide (u = t)
  | [], _ => by
    have : Lib.contains [] (32 :: (u ++ [32])) = false := by simp [Lib.contains, Lib.index]
    rw [List.flatMap_nil, uD, this]
    cases u <;> simp [List.isPrefixOf]
  | t :: ts, h => by
    have e : (32 : UInt8) :: (t :: ts).flatMap (· ++ [32]) = 32 :: (t ++ (32 :: ts.flatMap (· ++ [32]))) := by simp
    have hp : (32 :: (u ++ [32])).isPrefixOf (32 :: (t ++ (32 :: ts.flatMap (· ++ [32])))) = decide (u = t) := by
      rw [← qB6 u t (ts.flatMap (· ++ [32])) hu (h t (by simp))]; simp [List.isPrefixOf]
    rw [e, uD, hp, cZ t _ (h t (by simp)), bR hu ts fun t ht => h t (by simp [ht])]; simp
def resvA : ByteArray := ⟨#[32, 116, 111, 112, 32, 98, 111, 116, 32, 110, 111, 116, 32, 97, 110, 100, 32, 111, 114, 32, 115, 111, 109, 101, 32, 97, 108, 108, 32, 99, 111, 110, 99, 101, 112, 116, 32, 114, 111, 108, 101, 32, 105, 110, 100, 32]⟩
theorem qF5 : resvA.data.toList = 32 :: (reserved.map (·.data.toList)).flatMap (· ++ [32]) := by decide
theorem bt_mem {s : ByteArray} {x : UInt8} (h : x ∈ s.data.toList) : ∃ i, i < s.size ∧ bt s i = x.toNat := by
  obtain ⟨i, hi, rfl⟩ := List.getElem_of_mem h
  have hl : i < s.size := by simpa using hi
  refine ⟨i, hl, ?_⟩
  unfold bt; rw [dif_pos hl]; rfl
theorem eM {s : ByteArray} (h : ¬ (32 : UInt8) ∈ s.data.toList) : Lib.contains resvA.data.toList (32 :: (s.data.toList ++ [32])) = bS s := by
  rw [qF5, bR h _ (by decide)]
  unfold bS
  rw [List.any_map]
  congr 1
  funext t
  simp only [Function.comp, decide_eq_decide]
  exact ⟨fun e => fD (by simpa using congrArg List.toArray e), fun e => by rw [e]⟩
theorem qF6 {i : Nat} {c : Int} (h : okB i c = true) : hD c = true := by unfold okB at h; unfold hD; grind
theorem qB7 {s : ByteArray} (h : ∀ i, i < s.size → hD (bt s i) = true) : ¬ (32 : UInt8) ∈ s.data.toList := fun k => by
  obtain ⟨i, hi, e⟩ := bt_mem k
  have := h i hi
  rw [e] at this
  revert this; decide
theorem sz32 : (⟨#[32]⟩ : ByteArray).size = 1 := rfl
def spc (s : ByteArray) : ByteArray := (⟨#[32]⟩ ++ s) ++ ⟨#[32]⟩
theorem qB8 (s : ByteArray) : (spc s).data.toList = 32 :: (s.data.toList ++ [32]) := by simp [spc]
theorem name_yes {s : ByteArray} (h1 : ¬ s = ⟨#[]⟩) (h2 : s.size ≤ 12) (h3 : vN (bt s 0) = true) (h4 : ¬ Lib.contains resvA.data.toList (spc s).data.toList = true) (h5 : ∀ i, i < s.size → hD (bt s i) = true) : sD s = true := by
  rw [qB8, eM (qB7 h5)] at h4
  unfold sD dW
  simp only [Bool.and_eq_true, decide_eq_true_eq, Bool.not_eq_true']
  refine ⟨⟨h2, h1, fun i hi => ?_⟩, by simpa using h4⟩
  have := h5 i hi
  rcases Nat.eq_zero_or_pos i with e | e
  · subst e; unfold okB; simp [h3]
  · unfold okB; unfold hD at this; grind
theorem qJ9 {s : ByteArray} (h : sD s = true) : ¬ s = ⟨#[]⟩ ∧ s.size ≤ 12 ∧ vN (bt s 0) = true ∧ ¬ Lib.contains resvA.data.toList (spc s).data.toList = true ∧ ∀ i, i < s.size → hD (bt s i) = true := by
  unfold sD dW at h
  simp only [Bool.and_eq_true, decide_eq_true_eq, Bool.not_eq_true'] at h
  obtain ⟨⟨h2, h1, h3⟩, h4⟩ := h
  have h5 : ∀ i, i < s.size → hD (bt s i) = true := fun i hi => qF6 (h3 i hi)
  have h0 : 0 < s.size := by
    rcases Nat.eq_zero_or_pos s.size with e | e
    · exact absurd (fD (Array.eq_empty_of_size_eq_zero e)) h1
    · exact e
  refine ⟨h1, h2, ?_, ?_, h5⟩
  · have := h3 0 h0; unfold okB at this; simpa using this
  · rw [qB8, eM (qB7 h5)]; simpa using h4
theorem qB9 {s : ByteArray} (h : ¬ s = ⟨#[]⟩) : 0 < s.size := by
  rcases Nat.eq_zero_or_pos s.size with e | e
  · exact absurd (fD (Array.eq_empty_of_size_eq_zero e)) h
  · exact e
structure Glob (R : RO) : Prop where
  args : R.at 0 0 [.int .i64 0, .int .i64 0, .int .i64 0, .int .i64 1, .int .i64 2, .int .i64 2, .int .i64 1, .int .i64 1]
  maxLen : ∃ m, R.at 1 0 [.int .i64 m]
theorem Glob.mono {R R' : RO} (h : Glob R) (k : R.le R') : Glob R' := ⟨h.args.mono k, let ⟨m, hm⟩ := h.maxLen; ⟨m, hm.mono k⟩⟩
theorem rO {R : RO} {G : List Res} {w : World} (s sub : ByteArray) (hs : s.size < 4294967281) (hG : Glob R) (hw : Own w R G) : Calls Tryz.prog 108 [.string s, .string sub].toArray w (kK R G (.bool (Lib.contains s.data.toList sub.data.toList))) := by
  obtain ⟨m, hm⟩ := hG.maxLen
  exact (Tryz.strings_Contains s sub m w hs (hm.cell (j := 0) hw rfl)).mono fun e w' ⟨he, hw'⟩ => ⟨he, hw' ▸ hw⟩

theorem iG {R : RO} {G : List Res} {w : World} (s : ByteArray) (hz_s : s.size ≤ big) (hG : Glob R) (hw : Own w R (G)) :
    Calls Tryz.prog 101 [.string s].toArray w (kK R G (.bool (sD s))) := by
 unfold big at hz_s
 refine xH (vs := [.string s]) Tryz.func101 rfl rfl rfl ?_ hw
 refine qE <| qA ?_
 refine tl (qD rfl) ?_
 refine qB <| qC <| qE ?_
 refine vH [(0, .string s), (2, .bool false), (22, .bool (decide ((((s = (⟨#[]⟩)) ∨ (12 < (s.size : Int))) ∨ ((!(vN (bt s 0))) = true)) ∨ ((Lib.contains resvA.data.toList (spc s).data.toList) = true))))] (G) (fun _ => True) (fun K hK1 hE2 => ?_) ?_
 refine qA ?_
 refine tl (qG rfl) ?_
 refine tl (eR rfl rfl) ?_
 refine tl (qG rfl) ?_
 refine xX 6 rfl (fun h3 => ?_) (fun h3 => ?_)
 refine qF 6 rfl rfl rfl ?_
 refine qF 6 rfl rfl rfl ?_
 refine qF 6 rfl rfl rfl ?_
 refine tl (qR rfl rfl) ?_
 refine tl (qG rfl) ?_
 refine qF 11 rfl rfl rfl ?_
 refine qF 11 rfl rfl rfl ?_
 refine qF 11 rfl rfl rfl ?_
 refine qF 11 rfl rfl rfl ?_
 refine tl (qR rfl rfl) ?_
 refine tl (qG rfl) ?_
 refine qF 17 rfl rfl rfl ?_
 refine qF 17 rfl rfl rfl ?_
 refine qF 17 rfl rfl rfl ?_
 refine qF 17 rfl rfl rfl ?_
 refine tl (qR rfl rfl) ?_
 refine qB ?_
 exact xW hK1 (.refl _) (trivial) ⟨rfl, rfl, show some (Value.bool true) = some (Value.bool (decide ((((s = (⟨#[]⟩)) ∨ (12 < (s.size : Int))) ∨ ((!(vN (bt s 0))) = true)) ∨ ((Lib.contains resvA.data.toList (spc s).data.toList) = true)))) by first | (simp [h3]; done) | grind | (simp [h3] <;> omega), trivial⟩ (fun w hw => hw)
 refine qJ 6 rfl rfl ?_
 refine tl (qG rfl) ?_
 refine qJ 6 rfl rfl ?_
 refine tl (aG rfl st9) ?_
 refine qJ 6 rfl rfl ?_
 refine tl (jR rfl rfl rfl) ?_
 refine tl (qO rfl rfl) ?_
 refine tl (qG rfl) ?_
 refine xX 11 rfl (fun h4 => ?_) (fun h4 => ?_)
 refine qF 11 rfl rfl rfl ?_
 refine qF 11 rfl rfl rfl ?_
 refine qF 11 rfl rfl rfl ?_
 refine qF 11 rfl rfl rfl ?_
 refine tl (qR rfl rfl) ?_
 refine tl (qG rfl) ?_
 refine qF 17 rfl rfl rfl ?_
 refine qF 17 rfl rfl rfl ?_
 refine qF 17 rfl rfl rfl ?_
 refine qF 17 rfl rfl rfl ?_
 refine tl (qR rfl rfl) ?_
 refine qB ?_
 exact xW hK1 (.refl _) (trivial) ⟨rfl, rfl, show some (Value.bool true) = some (Value.bool (decide ((((s = (⟨#[]⟩)) ∨ (12 < (s.size : Int))) ∨ ((!(vN (bt s 0))) = true)) ∨ ((Lib.contains resvA.data.toList (spc s).data.toList) = true)))) by first | (simp [h3, h4]; done) | grind | (simp [h3, h4] <;> omega), trivial⟩ (fun w hw => hw)
 refine qJ 11 rfl rfl ?_
 refine tl (qG rfl) ?_
 refine qJ 11 rfl rfl ?_
 have hb5 : 0 < s.size := by first | omega | exact qB9 (by first | assumption | grind)
 have hr6 := cQ s 0
 refine tl (nT (i := 0) rfl rfl st9 hb5) ?_
 refine qJ 11 rfl rfl ?_
 refine xC ca107 rfl (fun w hw => tI (bt s 0) (by omega) hw) rfl ?_
 refine qJ 11 rfl rfl ?_
 refine tl (wJ rfl) ?_
 refine tl (qO rfl rfl) ?_
 refine tl (qG rfl) ?_
 refine kQ 17 rfl (fun h7 => ?_) (fun h7 => ?_)
 refine qF 17 rfl rfl rfl ?_
 refine qF 17 rfl rfl rfl ?_
 refine qF 17 rfl rfl rfl ?_
 refine qF 17 rfl rfl rfl ?_
 refine tl (qR rfl rfl) ?_
 refine qB ?_
 exact xW hK1 (.refl _) (trivial) ⟨rfl, rfl, show some (Value.bool true) = some (Value.bool (decide ((((s = (⟨#[]⟩)) ∨ (12 < (s.size : Int))) ∨ ((!(vN (bt s 0))) = true)) ∨ ((Lib.contains resvA.data.toList (spc s).data.toList) = true)))) by first | (simp [h3, h4, h7]; done) | grind | (simp [h3, h4, h7] <;> omega), trivial⟩ (fun w hw => hw)
 refine qJ 17 rfl rfl ?_
 refine tl (qG rfl) ?_
 refine qJ 17 rfl rfl ?_
 refine tl (v_sadd rfl rfl (by first | (rw [sz32]; omega) | (rw [ByteArray.size_append, sz32]; omega))) ?_
 refine qJ 17 rfl rfl ?_
 refine tl (v_sadd rfl rfl (by first | (rw [sz32]; omega) | (rw [ByteArray.size_append, sz32]; omega))) ?_
 refine qJ 17 rfl rfl ?_
 refine xC ca108 rfl (fun w hw => rO resvA (spc s) (by decide) hG hw) rfl ?_
 refine tl (qO rfl rfl) ?_
 refine qB ?_
 exact xW hK1 (.refl _) (trivial) ⟨rfl, rfl, show some (Value.bool (Lib.contains resvA.data.toList (spc s).data.toList)) = some (Value.bool (decide ((((s = (⟨#[]⟩)) ∨ (12 < (s.size : Int))) ∨ ((!(vN (bt s 0))) = true)) ∨ ((Lib.contains resvA.data.toList (spc s).data.toList) = true)))) by first | (simp [h3, h4, h7]; done) | grind | (simp [h3, h4, h7] <;> omega), trivial⟩ (fun w hw => hw)
 refine fun R9 hle10 hj8 => jH hle10 ?_
 refine qP 22 rfl (fun h11 => ?_) (fun h11 => ?_)
 refine xE rfl ?_
 refine qE <| qA ?_
 refine tl (qD rfl) ?_
 refine qB <| qC <| qV <| qI ?_
 refine xB (.inl rfl) rfl rfl ?_
 have e12 : (false : Bool) = sD s := by (rw [eq_comm, ← Bool.not_eq_true]; intro h_; have n_ := qJ9 h_; grind)
 exact fun w hw => ⟨congrArg Ending.returned (congrArg (fun x0 => Value.bool x0) e12), hw⟩
 refine xV rfl ?_
 refine qZ <| qC <| qE <| qE <| qA ?_
 refine tl (qD rfl) ?_
 refine qB <| qC <| qX ?_
 refine jF ?_
 refine jN (fun i : Nat => s.size - i) (fun i : Nat => [(0, .string s), (3, .int .i64 (i : Int))]) (fun i : Nat => (G)) (fun (i : Nat) => i ≤ s.size ∧ ∀ j : Nat, j < i → hD (bt s j) = true) (0) ⟨rfl, rfl, trivial⟩ (by exact ⟨by omega, fun j h => by omega⟩) (fun w hw => hw) ?_
 rintro i hI13 ih14
 show TC Tryz.prog _ _ _ [] [(0, .string s), (3, .int .i64 (i : Int))] R (G)
 obtain ⟨hi1, hi2⟩ := hI13
 refine qE <| qE <| qA ?_
 refine tl (qG rfl) ?_
 refine tl (qG rfl) ?_
 refine tl (aG rfl st9) ?_
 refine tl (jR rfl rfl rfl) ?_
 refine qB <| qC ?_
 refine qP 26 rfl (fun h17 => ?_) (fun h17 => ?_)
 refine xE rfl ?_
 refine qZ <| qC <| qE <| qX <| qE <| qA ?_
 refine tl (qG rfl) ?_
 refine tl (qG rfl) ?_
 have hb18 : i < s.size := by first | omega | exact qB9 (by first | assumption | grind)
 have hr19 := cQ s i
 refine tl (nT (i := i) rfl rfl st9 hb18) ?_
 refine xC ca109 rfl (fun w hw => dJ (bt s i) (by omega) hw) rfl ?_
 refine tl (wJ rfl) ?_
 refine qB <| qC ?_
 refine vI 33 rfl (fun h20 => ?_) (fun h20 => ?_)
 refine xE rfl ?_
 refine qE <| qA ?_
 refine tl (qD rfl) ?_
 refine qB <| qC <| qV <| qN <| qI <| qI <| qN <| qI ?_
 refine xB (.inl rfl) rfl rfl ?_
 have e21 : (false : Bool) = sD s := by (rw [eq_comm, ← Bool.not_eq_true]; intro h_; have n_ := (qJ9 h_).2.2.2.2 i (by omega); grind)
 exact fun w hw => ⟨congrArg Ending.returned (congrArg (fun x0 => Value.bool x0) e21), hw⟩
 refine xV rfl ?_
 refine qZ <| jC <| qC <| qA ?_
 refine tl (qG rfl) ?_
 refine tl (jT rfl rfl (by omega) (by omega)) ?_
 refine tl (qD rfl) ?_
 refine qB ?_
 refine xQ ?_
 exact fun a w ha hw => ih14.out (i + 1) (by refine ⟨by omega, fun j h => ?_⟩; by_cases e : j = i; (subst e; grind); exact hi2 j (by omega)) (by (try dsimp only); omega) a w (ha.sub (xL ⟨rfl, rfl, trivial⟩)) (hw)
 refine xV rfl ?_
 refine jE <| qK <| qK <| xG <| qC <| qE <| qA ?_
 refine tl (qD rfl) ?_
 refine qB <| qC <| qV ?_
 refine xB (.inl rfl) rfl rfl ?_
 have e22 : (true : Bool) = sD s := by (symm; have q_ : s.size = i := (by omega); rw [← q_] at hi2; exact name_yes (by grind) (by grind) (by grind) (by grind) hi2)
 exact fun w hw => ⟨congrArg Ending.returned (congrArg (fun x0 => Value.bool x0) e22), hw⟩

theorem ca100 : Callable Tryz.prog 100 := ⟨by kernel_rfl⟩
theorem ca101 : Callable Tryz.prog 101 := ⟨by kernel_rfl⟩
theorem ca106 : Callable Tryz.prog 106 := ⟨by kernel_rfl⟩
theorem ii3 : isInt Tryz.prog 3 = true := by kernel_rfl
theorem mi154 : aK keyS Tryz.prog 154 = true := by kernel_rfl

theorem pI {R : RO} {G : List Res} {w : World} (m : Int) (hi_m : i64 m) (hb : 0 ≤ m ∧ m ≤ 1000) (hw : Own w R (G)) :
    Calls Tryz.prog 106 [.slice none 0 0, .int .i64 m].toArray w (gZ R G (fun v_ R' L_ => ∃ (A_0 : Option Addr) (c_0 : Nat) (l_0 : List Value), v_ = (.slice A_0 (([] : List ByteArray).length) c_0 : Value) ∧ L_ = ([.vec (.slice A_0 (([] : List ByteArray).length) c_0) (([] : List ByteArray).length) 9 1 l_0] : List Res) ∧ (kStr).reps R' ([] : List ByteArray) l_0)) := by
 unfold i64 at hi_m
 refine xH (vs := [.slice none 0 0, .int .i64 m]) Tryz.func106 rfl rfl rfl ?_ hw
 refine qE <| qA ?_
 refine tl (qD rfl) ?_
 refine qB <| qC <| qE <| qE <| qA ?_
 refine tl (qG rfl) ?_
 refine tl (jR rfl rfl rfl) ?_
 refine qB <| qC ?_
 refine qP 6 rfl (fun h2 => ?_) (fun h2 => ?_)
 refine xE rfl ?_
 exfalso
 omega
 refine xV rfl ?_
 refine qZ <| qC <| qE <| qE <| qA ?_
 refine tl (qG rfl) ?_
 refine tl (qG rfl) ?_
 refine tl (v_cap rfl uK) ?_
 refine tl (qG rfl) ?_
 refine tl (jJ rfl uK) ?_
 refine tl (bV rfl rfl (by omega) (by omega)) ?_
 refine tl (bV rfl rfl (by omega) (by omega)) ?_
 refine tl_head (show Value.int .i64 (m - (0 - 0)) = Value.int .i64 (m.toNat : Int) from congrArg _ (by omega)) ?_
 refine tl (qD rfl) ?_
 refine qB <| qC <| qE <| qA ?_
 refine tl (qG rfl) ?_
 refine tl (jR rfl rfl rfl) ?_
 refine qB <| qC ?_
 refine qP 16 rfl (fun h3 => ?_) (fun h3 => ?_)
 refine xE rfl ?_
 refine qA ?_
 refine tl (qG rfl) ?_
 refine tl (qG rfl) ?_
 refine tl (v_cap rfl uK) ?_
 refine tl (v_sliceN rfl uK rfl) ?_
 refine tl (qG rfl) ?_
 refine tl_appz (k := m.toNat) ap22 ii3 rfl rfl rfl (by omega) (by omega) rfl rfl fun A4 c5 => ?_
 have hv6 : (kStr).reps R (List.replicate m.toNat (⟨#[]⟩ : ByteArray)) (List.replicate m.toNat (.string (⟨#[]⟩))) := fP (k := kStr) (⟨rfl, by unfold big; exact Nat.zero_le _⟩) _
 have hl7 : m.toNat = (List.replicate m.toNat (⟨#[]⟩ : ByteArray)).length := List.length_replicate.symm
 refine lM [(0, .slice none 0 0), (1, .int .i64 (m.toNat : Int)), (4, .slice none 0 0), (5, .int .i64 m), (6, .bool false), (8, .int .i64 m), (9, .slice none 0 0), (10, .int .i64 0), (11, .slice none 0 0), (12, .int .i64 0), (13, .int .i64 (0 - 0)), (14, .int .i64 (m.toNat : Int)), (15, .int .i64 (m.toNat : Int)), (16, .bool true), (17, .slice none 0 0), (18, .slice none 0 0), (19, .int .i64 0), (20, .slice none 0 0), (21, .int .i64 (m.toNat : Int)), (22, .slice A4 ((List.replicate m.toNat (⟨#[]⟩ : ByteArray)).length) c5)] (by rw [← hl7]; exact (by repeat' constructor)) ?_
 refine tR (.vec (.slice A4 ((List.replicate m.toNat (⟨#[]⟩ : ByteArray)).length) c5) ((List.replicate m.toNat (⟨#[]⟩ : ByteArray)).length) 9 1 (List.replicate m.toNat (.string (⟨#[]⟩))) :: G) (fun w hw => by rw [← hl7]; exact hw) ?_
 refine tl (qG rfl) ?_
 refine tl (jJ rfl uK) ?_
 have hm9 : 0 ≤ (List.replicate m.toNat (⟨#[]⟩ : ByteArray)).length := by omega
 have hv10 := Kd.reps_take 0 hv6
 have hl11 : 0 = ((List.replicate m.toNat (⟨#[]⟩ : ByteArray)).take 0).length := by rw [List.length_take]; omega
 refine nO (m := 0) 0 rfl rfl uK rfl hm9 rfl ?_
 refine lM [(0, .slice none 0 0), (1, .int .i64 (m.toNat : Int)), (4, .slice none 0 0), (5, .int .i64 m), (6, .bool false), (8, .int .i64 m), (9, .slice none 0 0), (10, .int .i64 0), (11, .slice none 0 0), (12, .int .i64 0), (13, .int .i64 (0 - 0)), (14, .int .i64 (m.toNat : Int)), (15, .int .i64 (m.toNat : Int)), (16, .bool true), (17, .slice none 0 0), (18, .slice none 0 0), (19, .int .i64 0), (20, .slice none 0 0), (21, .int .i64 (m.toNat : Int)), (23, .slice none 0 0), (24, .int .i64 0), (25, .slice A4 (((List.replicate m.toNat (⟨#[]⟩ : ByteArray)).take 0).length) c5)] (by rw [← hl11]; exact (by repeat' constructor)) ?_
 refine tR (.vec (.slice A4 (((List.replicate m.toNat (⟨#[]⟩ : ByteArray)).take 0).length) c5) (((List.replicate m.toNat (⟨#[]⟩ : ByteArray)).take 0).length) 9 1 ((List.replicate m.toNat (.string (⟨#[]⟩))).take (0 * 1)) :: G) (fun w hw => by rw [← hl11]; exact hw) ?_
 refine tl (qD rfl) ?_
 refine qB <| qC <| qE <| qA ?_
 refine tl (qG rfl) ?_
 refine tl (qD rfl) ?_
 refine qB <| qC <| qV ?_
 refine xB (.inl rfl) rfl rfl ?_
 have e13 : (((List.replicate m.toNat (⟨#[]⟩ : ByteArray)).take 0) : List (ByteArray)) = ([] : List ByteArray) := by first | rfl | simp
 intro w hw
 exact ⟨_, _, [.vec (.slice A4 (((List.replicate m.toNat (⟨#[]⟩ : ByteArray)).take 0).length) c5) (((List.replicate m.toNat (⟨#[]⟩ : ByteArray)).take 0).length) 9 1 ((List.replicate m.toNat (.string (⟨#[]⟩))).take (0 * 1))], rfl, .refl _, hw, A4, c5, ((List.replicate m.toNat (.string (⟨#[]⟩))).take (0 * 1)), (congrArg (fun (z0_ : List (ByteArray)) => (.slice A4 z0_.length c5 : Value)) e13), (congrArg (fun (z0_ : List (ByteArray)) => ([.vec (.slice A4 z0_.length c5) z0_.length 9 1 ((List.replicate m.toNat (.string (⟨#[]⟩))).take (0 * 1))] : List Res)) e13), (Eq.mp (congrArg (fun z => (kStr).reps R z ((List.replicate m.toNat (.string (⟨#[]⟩))).take (0 * 1))) e13) hv10)⟩
 refine xV rfl ?_
 refine qZ <| qC <| qE <| qA ?_
 refine tl (qG rfl) ?_
 refine tl (qD rfl) ?_
 refine qB <| qC <| qV ?_
 refine tx_G _ (fun w hw => hw.vecnil 9 1) ?_
 have hv14 : (kStr).reps R [] [] := rfl
 refine xB (.inl rfl) rfl rfl ?_
 have e16 : (([] : List (ByteArray)) : List (ByteArray)) = ([] : List ByteArray) := by first | rfl | simp
 intro w hw
 exact ⟨_, _, [.vec (.slice none 0 0) 0 9 1 []], rfl, .refl _, hw, none, 0, [], (congrArg (fun (z0_ : List (ByteArray)) => (.slice none z0_.length 0 : Value)) e16), (congrArg (fun (z0_ : List (ByteArray)) => ([.vec (.slice none z0_.length 0) z0_.length 9 1 []] : List Res)) e16), (Eq.mp (congrArg (fun z => (kStr).reps R z []) e16) hv14)⟩

theorem sV {α : Type} {L : List (List α)} (i : Nat) : (L.take i).flatten.length ≤ L.flatten.length := by
  have : L.flatten = (L.take i).flatten ++ (L.drop i).flatten := by rw [← List.flatten_append, List.take_append_drop]
  rw [this, List.length_append]; omega
theorem dA {α : Type} {L : List (List α)} {i : Nat} {x : List α} (hx : L[i]? = some x) : (L.take (i + 1)).flatten.length = (L.take i).flatten.length + x.length := by rw [fN hx, List.length_append]
theorem mZ {α : Type} {L : List (List α)} {i : Nat} (h : i ≤ L.length) (h2 : ¬ ((i : Int) < (L.length : Int))) : (L.take i).flatten = L.flatten := by rw [xF h h2]

theorem gU {R : RO} {G : List Res} {w : World} {A_l : Option Addr} {d_l : Nat} (l : List (List (ByteArray))) (hs_l : SlAt kStr.sl R A_l l) (hb : l.flatten.length ≤ 1000) (hw : Own w R (G)) :
    Calls Tryz.prog 100 [.slice A_l l.length d_l].toArray w (gZ R G (fun v_ R' L_ => ∃ (A_0 : Option Addr) (c_0 : Nat) (l_0 : List Value), v_ = (.slice A_0 l.flatten.length c_0 : Value) ∧ L_ = ([.vec (.slice A_0 l.flatten.length c_0) l.flatten.length 9 1 l_0] : List Res) ∧ (kStr).reps R' l.flatten l_0)) := by
 have hz_l := hs_l.size
 unfold big at hz_l
 refine xH (vs := [.slice A_l l.length d_l]) Tryz.func100 rfl rfl rfl ?_ hw
 refine qE <| qA ?_
 refine tl (qD rfl) ?_
 refine qB <| qC <| qE <| qA ?_
 refine tl (qD rfl) ?_
 refine qB <| qC <| qE <| qE <| qA ?_
 refine tl (qG rfl) ?_
 refine tl (jJ rfl nG) ?_
 refine tl (qG rfl) ?_
 refine qB <| qC <| qX ?_
 refine jF ?_
 refine jN (fun i : Nat => l.length - i) (fun i : Nat => [(0, .slice A_l l.length d_l), (2, .slice none 0 0), (9, .slice A_l l.length d_l), (10, .int .i64 (l.length : Int)), (11, .int .i64 (i : Int)), (3, .int .i64 ((l.take i).flatten.length : Int))]) (fun i : Nat => (G)) (fun (i : Nat) => i ≤ l.length) (0) ⟨rfl, rfl, rfl, rfl, rfl, congrArg (fun z => some (Value.int .i64 z)) (show (0 : Int) = ((l.take 0).flatten.length : Int) by simp), trivial⟩ (by omega) (fun w hw => hw) ?_
 rintro i hI2 ih3
 show TC Tryz.prog _ _ _ [] [(0, .slice A_l l.length d_l), (2, .slice none 0 0), (9, .slice A_l l.length d_l), (10, .int .i64 (l.length : Int)), (11, .int .i64 (i : Int)), (3, .int .i64 ((l.take i).flatten.length : Int))] R (G)
 have hfl1 := sV (L := l) i
 refine qE <| qA ?_
 refine tl (jR rfl rfl rfl) ?_
 refine qB <| qC <| qE ?_
 refine qP 12 rfl (fun h6 => ?_) (fun h6 => ?_)
 refine xE rfl ?_
 refine qZ <| qC <| qE <| qX <| qE <| qA ?_
 have hb12 : i < l.length := by omega
 obtain ⟨x7, hx8⟩ : ∃ x, l[i]? = some x := ⟨_, List.getElem?_eq_getElem hb12⟩
 obtain ⟨c9, hr10, ha11⟩ := hs_l.get _ x7 hx8
 obtain ⟨A13, d14, rfl, hs15⟩ := hr10
 have z16 := hs15.size
 unfold big at z16
 have hf17 := dA hx8
 have hf18 := sV (L := l) (i + 1)
 refine tl (jV (i := i) hs_l rfl rfl rfl nG hb12) ?_
 refine tl (yN 0 ha11 rfl uO rfl rfl) ?_
 refine tl (qD rfl) ?_
 refine qB <| qC <| qE <| qA ?_
 refine tl (qG rfl) ?_
 refine tl (qG rfl) ?_
 refine tl (jJ rfl uK) ?_
 refine tl (jT rfl rfl (by omega) (by omega)) ?_
 refine tl (qD rfl) ?_
 refine qB <| qC <| qE <| qA ?_
 refine tl (qG rfl) ?_
 refine tl (jR rfl rfl rfl) ?_
 refine qB <| qC ?_
 refine qP 20 rfl (fun h19 => ?_) (fun h19 => ?_)
 refine xE rfl ?_
 exfalso
 omega
 refine xV rfl ?_
 refine qZ <| jC <| qC <| qA ?_
 refine tl (jT rfl rfl (by omega) (by omega)) ?_
 refine tl (qG rfl) ?_
 refine qB ?_
 refine xQ ?_
 exact fun a w ha hw => ih3.out (i + 1) (by omega) (by (try dsimp only); omega) a w (ha.sub (xL ⟨rfl, rfl, rfl, rfl, rfl, congrArg (fun z => some (Value.int .i64 z)) (show (((l.take i).flatten.length : Int) + (x7.length : Int) : Int) = ((l.take (i + 1)).flatten.length : Int) by omega), trivial⟩)) (hw)
 refine xV rfl ?_
 refine jE <| qK <| qK <| xG <| qC <| qE <| qA ?_
 refine tl (qG rfl) ?_
 refine xD ca106 rfl (fun w hw => pI ((l.take i).flatten.length : Int) (by unfold i64; omega) (by first | assumption | omega) hw) rfl ?_
 rintro _ R21 _ hle22 ⟨A_z20_0, c_z20_0, l_z20_0, rfl, rfl, hv_z20_0⟩
 try replace hs_l := hs_l.mono hle22
 refine tl (qD rfl) ?_
 refine qB <| qC <| qE <| qE <| qA ?_
 refine tl (qG rfl) ?_
 refine tl (jJ rfl nG) ?_
 refine tl (qG rfl) ?_
 refine qB <| qC <| qX ?_
 refine jF ?_
 refine jN (fun b_ : Nat × List (ByteArray) × Option Addr × Nat × List Value => match b_ with | (i, u, A_u, c_u, l_u) => l.length - i) (fun b_ : Nat × List (ByteArray) × Option Addr × Nat × List Value => match b_ with | (i, u, A_u, c_u, l_u) => [(2, .slice none 0 0), (25, .slice A_l l.length d_l), (26, .int .i64 (l.length : Int)), (27, .int .i64 (i : Int)), (6, .slice A_u u.length c_u)]) (fun b_ : Nat × List (ByteArray) × Option Addr × Nat × List Value => match b_ with | (i, u, A_u, c_u, l_u) => (.vec (.slice A_u u.length c_u) u.length 9 1 l_u :: G)) (fun (b_ : Nat × List (ByteArray) × Option Addr × Nat × List Value) => match b_ with | (i, u, A_u, c_u, l_u) => (kStr).reps R21 u l_u ∧ (i ≤ l.length ∧ u = (l.take i).flatten)) (0, ([] : List ByteArray), A_z20_0, c_z20_0, l_z20_0) (by repeat' constructor) (by refine ⟨hv_z20_0, ?_⟩; exact ⟨by omega, rfl⟩) (fun w hw => hw) ?_
 rintro ⟨i, u, A_u, c_u, l_u⟩ hI25 ih26
 show TC Tryz.prog _ _ _ [] [(2, .slice none 0 0), (25, .slice A_l l.length d_l), (26, .int .i64 (l.length : Int)), (27, .int .i64 (i : Int)), (6, .slice A_u u.length c_u)] R21 (.vec (.slice A_u u.length c_u) u.length 9 1 l_u :: G)
 obtain ⟨hv24, hI29⟩ := hI25
 obtain ⟨hj1, hj2⟩ := hI29
 have hfl := sV (L := l) i
 rw [← hj2] at hfl
 refine qE <| qA ?_
 refine tl (jR rfl rfl rfl) ?_
 refine qB <| qC <| qE ?_
 refine qP 28 rfl (fun h30 => ?_) (fun h30 => ?_)
 refine xE rfl ?_
 refine qZ <| qC <| qE <| qX <| qE <| qA ?_
 have hb36 : i < l.length := by omega
 obtain ⟨x31, hx32⟩ : ∃ x, l[i]? = some x := ⟨_, List.getElem?_eq_getElem hb36⟩
 obtain ⟨c33, hr34, ha35⟩ := hs_l.get _ x31 hx32
 obtain ⟨A37, d38, rfl, hs39⟩ := hr34
 have z40 := hs39.size
 unfold big at z40
 have hf41 := dA hx32
 have hf42 := sV (L := l) (i + 1)
 refine tl (jV (i := i) hs_l rfl rfl rfl nG hb36) ?_
 refine tl (yN 0 ha35 rfl uO rfl rfl) ?_
 refine tl (qD rfl) ?_
 refine qB <| qC <| qA ?_
 refine tl (qG rfl) ?_
 refine tl (qG rfl) ?_
 obtain ⟨ds47, rp48, src49⟩ := kX qA8 hs39
 refine kH (k := kStr) (m := x31) 0 hv24 (rp48) ap22 rfl rfl rfl (rfl) (src49 _) (by first | omega | (simp only [List.length_append]; omega)) rfl rfl fun A43 c44 l45 hv46 => ?_
 refine tl (qD rfl) ?_
 refine qB <| jC <| qC <| qA ?_
 refine tl (jT rfl rfl (by omega) (by omega)) ?_
 refine tl (qG rfl) ?_
 refine qB ?_
 refine xQ ?_
 exact fun a w ha hw => ih26.out (i + 1, (u ++ x31), A43, c44, l45) (by refine ⟨hv46, ?_⟩; exact ⟨by omega, by rw [hj2, fN hx32]⟩) (by (try dsimp only); omega) a w (ha.sub (xL (by repeat' constructor))) (hw)
 refine xV rfl ?_
 refine jE <| qK <| qK <| xG <| qC <| qE <| qA ?_
 refine tl (qG rfl) ?_
 refine tl (qD rfl) ?_
 refine qB <| qC <| qV ?_
 refine xB (.inl rfl) rfl rfl ?_
 have e51 : (u : List (ByteArray)) = l.flatten := by exact hj2.trans (mZ (by omega) (by assumption))
 intro w hw
 exact ⟨_, _, [.vec (.slice A_u u.length c_u) u.length 9 1 l_u], rfl, hle22, hw, A_u, c_u, l_u, (congrArg (fun (z0_ : List (ByteArray)) => (.slice A_u z0_.length c_u : Value)) e51), (congrArg (fun (z0_ : List (ByteArray)) => ([.vec (.slice A_u z0_.length c_u) z0_.length 9 1 l_u] : List Res)) e51), (Eq.mp (congrArg (fun z => (kStr).reps R21 z l_u) e51) hv24)⟩

theorem insK_new {κ : Type} [DecidableEq κ] {ks : List κ} {k : κ} (h : ¬ k ∈ ks) : zE ks k = ks ++ [k] := by unfold zE; rw [if_neg h]
theorem iH (n : Names) : ([n.concepts, n.roles, n.inds] : List (List ByteArray)).flatten = zF n := by simp [zF]
theorem iI {n : Names} {i : Nat} {x : ByteArray} (h : (([n.concepts, n.roles, n.inds] : List (List ByteArray)).flatten)[i]? = some x) : (zF n)[i]? = some x := by rw [← iH]; exact h
theorem qF7 (n : Names) : (zF n).length = n.concepts.length + n.roles.length + n.inds.length := by simp [zF]; omega
theorem rP {n : Names} {i : Nat} {x : ByteArray} (h : (zF n)[i]? = some x) : zF n = (zF n).take i ++ x :: (zF n).drop (i + 1) := by
  obtain ⟨hi, rfl⟩ := List.getElem?_eq_some_iff.1 h
  rw [← List.drop_eq_getElem_cons hi, List.take_append_drop]

theorem gV {R : RO} {G : List Res} {w : World} {c_n : List Value} (n : Names) (hr_n : kNames.rep R n c_n) (hG : Glob R) (hw : Own w R (G)) :
    Calls Tryz.prog 80 [.agg c_n.toArray].toArray w (kK R G (.bool (yG n))) := by
 obtain ⟨A1, d2, A5, d6, A9, d10, rfl, hs3, hs7, hs11⟩ := id hr_n
 have z4 := hs3.size
 unfold big at z4
 have z8 := hs7.size
 unfold big at z8
 have z12 := hs11.size
 unfold big at z12
 have hnl := qF7 n
 have h3n := iH n
 have hcl := congrArg List.length h3n
 refine xH (vs := [.agg #[.slice A1 n.concepts.length d2, .slice A5 n.roles.length d6, .slice A9 n.inds.length d10]]) Tryz.func80 rfl rfl rfl ?_ hw
 refine qE <| qA ?_
 refine qW (l := [.slice A1 n.concepts.length d2, .slice A5 n.roles.length d6, .slice A9 n.inds.length d10]) rfl rfl fun b13 => ?_
 refine tl (qD rfl) ?_
 refine qB <| qC <| qE ?_
 refine vH [(0, .agg #[.slice A1 n.concepts.length d2, .slice A5 n.roles.length d6, .slice A9 n.inds.length d10]), (1, .pointer (some ⟨b13, 0, none⟩)), (2, .bool false), (21, .bool (decide (((16 < (n.concepts.length : Int)) ∨ (6 < (n.roles.length : Int))) ∨ (10 < (n.inds.length : Int)))))] (.blk b13 [.slice A1 n.concepts.length d2, .slice A5 n.roles.length d6, .slice A9 n.inds.length d10] 24 :: G) (fun _ => True) (fun K hK14 hE15 => ?_) ?_
 refine qA ?_
 refine tl (qH 0 rfl bN rfl) ?_
 refine tl (jM 0 rfl uO rfl rfl) ?_
 refine tl (jJ rfl uK) ?_
 refine tl (jR rfl rfl rfl) ?_
 refine tl (qG rfl) ?_
 refine xX 10 rfl (fun h16 => ?_) (fun h16 => ?_)
 refine qF 10 rfl rfl rfl ?_
 refine qF 10 rfl rfl rfl ?_
 refine qF 10 rfl rfl rfl ?_
 refine qF 10 rfl rfl rfl ?_
 refine tl (qR rfl rfl) ?_
 refine tl (qG rfl) ?_
 refine qF 16 rfl rfl rfl ?_
 refine qF 16 rfl rfl rfl ?_
 refine qF 16 rfl rfl rfl ?_
 refine qF 16 rfl rfl rfl ?_
 refine tl (qR rfl rfl) ?_
 refine qB ?_
 exact xW hK14 (.refl _) (trivial) ⟨rfl, rfl, rfl, show some (Value.bool true) = some (Value.bool (decide (((16 < (n.concepts.length : Int)) ∨ (6 < (n.roles.length : Int))) ∨ (10 < (n.inds.length : Int))))) by first | (simp [h16]; done) | grind | (simp [h16] <;> omega), trivial⟩ (fun w hw => hw)
 refine qJ 10 rfl rfl ?_
 refine tl (qH 1 rfl pP rfl) ?_
 refine qJ 10 rfl rfl ?_
 refine tl (jM 0 rfl uO rfl rfl) ?_
 refine qJ 10 rfl rfl ?_
 refine tl (jJ rfl uK) ?_
 refine qJ 10 rfl rfl ?_
 refine tl (jR rfl rfl rfl) ?_
 refine tl (qO rfl rfl) ?_
 refine tl (qG rfl) ?_
 refine xX 16 rfl (fun h17 => ?_) (fun h17 => ?_)
 refine qF 16 rfl rfl rfl ?_
 refine qF 16 rfl rfl rfl ?_
 refine qF 16 rfl rfl rfl ?_
 refine qF 16 rfl rfl rfl ?_
 refine tl (qR rfl rfl) ?_
 refine qB ?_
 exact xW hK14 (.refl _) (trivial) ⟨rfl, rfl, rfl, show some (Value.bool true) = some (Value.bool (decide (((16 < (n.concepts.length : Int)) ∨ (6 < (n.roles.length : Int))) ∨ (10 < (n.inds.length : Int))))) by first | (simp [h16, h17]; done) | grind | (simp [h16, h17] <;> omega), trivial⟩ (fun w hw => hw)
 refine qJ 16 rfl rfl ?_
 refine tl (qH 2 rfl eC rfl) ?_
 refine qJ 16 rfl rfl ?_
 refine tl (jM 0 rfl uO rfl rfl) ?_
 refine qJ 16 rfl rfl ?_
 refine tl (jJ rfl uK) ?_
 refine qJ 16 rfl rfl ?_
 refine tl (jR rfl rfl rfl) ?_
 refine tl (qO rfl rfl) ?_
 refine qB ?_
 exact xW hK14 (.refl _) (trivial) ⟨rfl, rfl, rfl, show some (Value.bool (decide (10 < (n.inds.length : Int)))) = some (Value.bool (decide (((16 < (n.concepts.length : Int)) ∨ (6 < (n.roles.length : Int))) ∨ (10 < (n.inds.length : Int))))) by first | (simp [h16, h17]; done) | grind | (simp [h16, h17] <;> omega), trivial⟩ (fun w hw => hw)
 refine fun R19 hle20 hj18 => jH hle20 ?_
 refine qP 21 rfl (fun h21 => ?_) (fun h21 => ?_)
 refine xE rfl ?_
 refine qE <| qA ?_
 refine tl (qD rfl) ?_
 refine qB <| qC <| qV <| qI ?_
 refine xB (.inl rfl) rfl rfl ?_
 have e22 : (false : Bool) = yG n := by (unfold yG; rw [eq_comm, decide_eq_false_iff_not]; rintro ⟨h_, h2_, h3_, -⟩; omega)
 exact fun w hw => ⟨congrArg Ending.returned (congrArg (fun x0 => Value.bool x0) e22), hw.drop 1⟩
 refine xV rfl ?_
 refine qZ <| qC <| qE <| qA ?_
 refine xJ keyS rfl fun b23 => ?_
 refine tl (qD rfl) ?_
 refine qB <| qC <| qE <| qE <| qA ?_
 refine tl (qH 0 rfl bN rfl) ?_
 refine tl (jM 1 rfl uO rfl rfl) ?_
 refine tl (qH 1 rfl pP rfl) ?_
 refine tl (jM 1 rfl uO rfl rfl) ?_
 refine tl (qH 2 rfl eC rfl) ?_
 refine tl (jM 1 rfl uO rfl rfl) ?_
 refine jB [.slice A1 n.concepts.length d2, .slice A5 n.roles.length d6, .slice A9 n.inds.length d10] ap115 rfl rfl rfl rfl rfl rfl rfl fun b24 => ?_
 refine zI (k := kStr.sl) (l := ([n.concepts, n.roles, n.inds] : List (List (ByteArray)))) 0 rfl (⟨_, _, rfl, ⟨_, _, rfl, hs3⟩, ⟨_, _, rfl, ⟨_, _, rfl, hs7⟩, ⟨_, _, rfl, ⟨_, _, rfl, hs11⟩, rfl⟩⟩⟩) (by show 3 ≤ big; unfold big; omega) fun R26 hle27 hs25 => ?_
 try replace hG := hG.mono hle27
 have z28 := hs25.size
 unfold big at z28
 refine xD ca100 rfl (fun w hw => gU ([n.concepts, n.roles, n.inds] : List (List (ByteArray))) hs25 (by rw [h3n]; grind) hw) rfl ?_
 rintro _ R30 _ hle31 ⟨A_z29_0, c_z29_0, l_z29_0, rfl, rfl, hv_z29_0⟩
 try replace hG := hG.mono hle31
 have hle32 := hle27.trans hle31
 refine pM (k := kStr) (l := (([n.concepts, n.roles, n.inds] : List (List (ByteArray))).flatten)) 0 rfl hv_z29_0 rfl (by unfold big; rw [h3n]; omega) fun R34 hle35 hs33 => ?_
 try replace hG := hG.mono hle35
 have hle36 := hle32.trans hle35
 have hle37 := hle31.trans hle35
 have z38 := hs33.size
 unfold big at z38
 refine tl (jJ rfl uK) ?_
 refine tl (qG rfl) ?_
 refine qB <| qC <| qX ?_
 refine jF ?_
 refine jN (fun b_ : Nat × List ByteArray => match b_ with | (i, seen) => (zF n).length - i) (fun b_ : Nat × List ByteArray => match b_ with | (i, seen) => [(3, .map (some b23)), (30, .slice A_z29_0 ((([n.concepts, n.roles, n.inds] : List (List (ByteArray))).flatten).length) c_z29_0), (31, .int .i64 ((([n.concepts, n.roles, n.inds] : List (List (ByteArray))).flatten).length : Int)), (32, .int .i64 (i : Int))]) (fun b_ : Nat × List ByteArray => match b_ with | (i, seen) => (.set keyS b23 seen :: .blk b13 [.slice A1 n.concepts.length d2, .slice A5 n.roles.length d6, .slice A9 n.inds.length d10] 24 :: G)) (fun (b_ : Nat × List ByteArray) => match b_ with | (i, seen) => i ≤ (zF n).length ∧ seen = (zF n).take i ∧ (∀ s ∈ seen, sD s = true) ∧ seen.Nodup) (0, ([] : List ByteArray)) ⟨rfl, rfl, rfl, rfl, trivial⟩ (by exact ⟨by omega, rfl, by simp, by simp⟩) (fun w hw => hw) ?_
 rintro ⟨i, seen⟩ hI39 ih40
 show TC Tryz.prog _ _ _ [] [(3, .map (some b23)), (30, .slice A_z29_0 ((([n.concepts, n.roles, n.inds] : List (List (ByteArray))).flatten).length) c_z29_0), (31, .int .i64 ((([n.concepts, n.roles, n.inds] : List (List (ByteArray))).flatten).length : Int)), (32, .int .i64 (i : Int))] R34 (.set keyS b23 seen :: .blk b13 [.slice A1 n.concepts.length d2, .slice A5 n.roles.length d6, .slice A9 n.inds.length d10] 24 :: G)
 obtain ⟨hi1, hi2, hi3, hi4⟩ := hI39
 refine qE <| qA ?_
 refine tl (jR rfl rfl rfl) ?_
 refine qB <| qC <| qE ?_
 refine qP 33 rfl (fun h43 => ?_) (fun h43 => ?_)
 refine xE rfl ?_
 refine qZ <| qC <| qE <| qX <| qE <| qA ?_
 have hb49 : i < (([n.concepts, n.roles, n.inds] : List (List (ByteArray))).flatten).length := by omega
 obtain ⟨x44, hx45⟩ : ∃ x, (([n.concepts, n.roles, n.inds] : List (List (ByteArray))).flatten)[i]? = some x := ⟨_, List.getElem?_eq_getElem hb49⟩
 obtain ⟨c46, hr47, ha48⟩ := hs33.get _ x44 hx45
 obtain ⟨rfl, z50⟩ := hr47
 unfold big at z50
 have hf51 := iI hx45
 refine tl (jV (i := i) hs33 rfl rfl rfl uK hb49) ?_
 refine tl (yN 0 ha48 rfl ld9 rfl rfl) ?_
 refine tl (qD rfl) ?_
 refine qB <| qC <| qE ?_
 refine vH [(3, .map (some b23)), (30, .slice A_z29_0 ((([n.concepts, n.roles, n.inds] : List (List (ByteArray))).flatten).length) c_z29_0), (31, .int .i64 ((([n.concepts, n.roles, n.inds] : List (List (ByteArray))).flatten).length : Int)), (32, .int .i64 (i : Int)), (33, .bool true), (5, .string x44), (43, .bool (decide (((!(sD x44)) = true) ∨ (x44 ∈ seen))))] (.set keyS b23 seen :: .blk b13 [.slice A1 n.concepts.length d2, .slice A5 n.roles.length d6, .slice A9 n.inds.length d10] 24 :: G) (fun _ => True) (fun K hK52 hE53 => ?_) ?_
 refine qA ?_
 refine tl (qG rfl) ?_
 refine xC ca101 rfl (fun w hw => iG x44 (by first | assumption | (unfold big; omega)) (by first | assumption | omega) hw) rfl ?_
 refine tl (wJ rfl) ?_
 refine tl (qG rfl) ?_
 refine kQ 39 rfl (fun h54 => ?_) (fun h54 => ?_)
 refine qF 39 rfl rfl rfl ?_
 refine qF 39 rfl rfl rfl ?_
 refine qF 39 rfl rfl rfl ?_
 refine tl (qR rfl rfl) ?_
 refine qB ?_
 exact xW hK52 (.refl _) (trivial) ⟨rfl, rfl, rfl, rfl, rfl, rfl, show some (Value.bool true) = some (Value.bool (decide (((!(sD x44)) = true) ∨ (x44 ∈ seen)))) by first | (simp [h54]; done) | grind | (simp [h54] <;> omega), trivial⟩ (fun w hw => hw)
 refine qJ 39 rfl rfl ?_
 refine tl (qG rfl) ?_
 refine qJ 39 rfl rfl ?_
 refine tl (qG rfl) ?_
 refine qJ 39 rfl rfl ?_
 refine tl (mQ (K := keyS) (ks := seen) (k := x44) 0 mi154 rfl rfl rfl) ?_
 refine tl (qO rfl rfl) ?_
 refine qB ?_
 exact xW hK52 (.refl _) (trivial) ⟨rfl, rfl, rfl, rfl, rfl, rfl, show some (Value.bool (decide (x44 ∈ seen))) = some (Value.bool (decide (((!(sD x44)) = true) ∨ (x44 ∈ seen)))) by first | (simp [h54]; done) | grind | (simp [h54] <;> omega), trivial⟩ (fun w hw => hw)
 refine fun R56 hle57 hj55 => jH hle57 ?_
 refine qP 43 rfl (fun h58 => ?_) (fun h58 => ?_)
 refine xE rfl ?_
 refine qE <| qA ?_
 refine tl (qD rfl) ?_
 refine qB <| qC <| qV <| qI <| qN <| qI <| qI <| qN <| qI ?_
 refine xB (.inl rfl) rfl rfl ?_
 have e59 : (false : Bool) = yG n := by (symm; refine eD (rP (iI hx45)) ?_; rw [← hi2]; grind)
 exact fun w hw => ⟨congrArg Ending.returned (congrArg (fun x0 => Value.bool x0) e59), (hw.drop 2).weaken hle36⟩
 refine xV rfl ?_
 refine qZ <| qC <| qA ?_
 refine tl (qG rfl) ?_
 refine tl (qG rfl) ?_
 refine wX (K := keyS) (ks := seen) (k := x44) 0 mi154 rfl rfl rfl ?_
 refine qB <| jC <| qC <| qA ?_
 refine tl (jT rfl rfl (by omega) (by omega)) ?_
 refine tl (qG rfl) ?_
 refine qB ?_
 refine xQ ?_
 exact fun a w ha hw => ih40.out (i + 1, (zE seen x44)) (by (have hq_ : sD x44 = true ∧ ¬ x44 ∈ seen := (by grind); have ht_ := jQ (iI hx45); rw [insK_new hq_.2]; exact ⟨by rw [hcl] at *; omega, by rw [hi2, ht_], fun s_ hs_ => by (rw [List.mem_append] at hs_; rcases hs_ with hs_ | hs_; exact hi3 s_ hs_; simp at hs_; subst hs_; exact hq_.1), lL hi4 hq_.2⟩)) (by (try dsimp only); omega) a w (ha.sub (xL ⟨rfl, rfl, rfl, rfl, trivial⟩)) (hw)
 refine xV rfl ?_
 refine jE <| qK <| qK <| xG <| qC <| qE <| qA ?_
 refine tl (qD rfl) ?_
 refine qB <| qC <| qV ?_
 refine xB (.inl rfl) rfl rfl ?_
 have e60 : (true : Bool) = yG n := by ((have e_ := xF (l := zF n) (i := i) (by omega) (by omega)); rw [e_] at hi2; subst hi2; symm; unfold yG; rw [decide_eq_true_eq]; exact ⟨by omega, by omega, by omega, hi3, hi4⟩)
 exact fun w hw => ⟨congrArg Ending.returned (congrArg (fun x0 => Value.bool x0) e60), (hw.drop 2).weaken hle36⟩

end Go.Proofs.YtcbcdlajnmkioaaGreatDoor
