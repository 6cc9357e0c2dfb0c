/- A part of the proof of the statement ModuleShapes of isagogelaw19: functions walked, and plain laws on what they answer. -/
import Derived.Test.YtcbcdlajnmkioaaGreatDoorK
import Derived.Test.YtcbcdlajnmkioaaGreatDoorE12
namespace Go.Proofs.YtcbcdlajnmkioaaGreatDoor
open Go Go.Proofs
set_option linter.unusedSimpArgs false
set_option linter.unusedVariables false


theorem BaseOk.inclW {b : Base} (h : BaseOk b) {i : Nat} {x : Incl} (hx : b.incls[i]? = some x) : wfC x.sub = true ∧ wfC x.sup = true :=
  ⟨cJ _ _ _ rfl (h.concepts _ (kG hx).1).2.2, cJ _ _ _ rfl (h.concepts _ (kG hx).2).2.2⟩
theorem BaseOk.factW {b : Base} (h : BaseOk b) {i : Nat} {x : Fact} (hx : b.facts[i]? = some x) : wfC x.con = true :=
  cJ _ _ _ rfl (h.concepts _ (wG hx)).2.2
def kQ (b : Base) (k : Nat) (s : Sig) (top : Bool) : Bool :=
  match b.incls[k]? with
  | some x => (qK s top x.sub).1 || (qK s top x.sup).2
  | none => match b.roles[k - b.incls.length]? with
    | some x => if top then !decide (x.sup / 2 ∈ s.roles) else !decide (x.sub / 2 ∈ s.roles)
    | none => match b.facts[k - b.incls.length - b.roles.length]? with
      | some x => (qK s top x.con).2
      | none => match b.links[k - b.incls.length - b.roles.length - b.facts.length]? with
        | some x => top && !decide (x.role ∈ s.roles)
        | none => false

set_option maxRecDepth 20000 in
set_option maxHeartbeats 8000000 in
theorem aI {R : RO} {G : List Res} {w : World} {c_b : List Value} (b : Base) (k : Int) {c_s : List Value} (s : Sig) (top : Bool) (hr_b : kBase.rep R b c_b) (hi_k : i64 k) (hr_s : kSig.rep R s c_s) (hB : BaseOk b) (hk : 0 ≤ k ∧ k < xX b) (hw : Own w R (G)) :
    Calls Tryz.prog 27 [.agg c_b.toArray, .int .i64 k, .agg c_s.toArray, .bool top].toArray w (kK R G (.bool (kQ b k.toNat s top))) := by
 obtain ⟨c1, A3, d4, A6, d7, A9, d10, A12, d13, rfl, hr2, hs5, hs8, hs11, hs14⟩ := id hr_b
 have z27 := hs5.size
 unfold big at z27
 have z28 := hs8.size
 unfold big at z28
 have z29 := hs11.size
 unfold big at z29
 have z30 := hs14.size
 unfold big at z30
 obtain ⟨A15, d16, A19, d20, A23, d24, rfl, hs17, hs21, hs25⟩ := id hr2
 have z18 := hs17.size
 unfold big at z18
 have z22 := hs21.size
 unfold big at z22
 have z26 := hs25.size
 unfold big at z26
 unfold i64 at hi_k
 obtain ⟨A31, d32, A35, d36, rfl, hs33, hs37⟩ := id hr_s
 have z34 := hs33.size
 unfold big at z34
 have z38 := hs37.size
 unfold big at z38
 unfold xX at hk
 refine xG (vs := [.agg #[.slice A15 b.names.concepts.length d16, .slice A19 b.names.roles.length d20, .slice A23 b.names.inds.length d24, .slice A3 b.incls.length d4, .slice A6 b.roles.length d7, .slice A9 b.facts.length d10, .slice A12 b.links.length d13], .int .i64 k, .agg #[.slice A31 s.concepts.length d32, .slice A35 s.roles.length d36], .bool top]) Tryz.func27 rfl rfl rfl ?_ hw
 refine qF <| qA ?_
 refine qX (l := [.slice A15 b.names.concepts.length d16, .slice A19 b.names.roles.length d20, .slice A23 b.names.inds.length d24, .slice A3 b.incls.length d4, .slice A6 b.roles.length d7, .slice A9 b.facts.length d10, .slice A12 b.links.length d13]) rfl rfl fun b39 => ?_
 refine qX (l := [.slice A31 s.concepts.length d32, .slice A35 s.roles.length d36]) rfl rfl fun b40 => ?_
 refine tl (qD rfl) ?_
 refine qB <| qC <| qF <| qA ?_
 refine tl (qG rfl) ?_
 refine tl (qD rfl) ?_
 refine qB <| qC <| qF <| qF <| qA ?_
 refine tl (qG rfl) ?_
 refine tl (qH 3 rfl zI rfl) ?_
 refine tl (jN 1 rfl iU rfl rfl) ?_
 refine tl (jM rfl fQ) ?_
 refine tl (jQ rfl rfl rfl) ?_
 refine qB <| qC ?_
 refine qR 21 rfl (fun h41 => ?_) (fun h41 => ?_)
 refine xD rfl ?_
 refine qF ?_
 refine wD mixed (by kernel_rfl) ?_
 refine tq (qH 3 rfl zI rfl) ?_
 refine tq (jN 1 rfl iU rfl rfl) ?_
 refine tq (qG rfl) ?_
 have hb47 : 0 ≤ k ∧ (k).toNat < b.incls.length := by omega
 obtain ⟨x42, hx43⟩ : ∃ x, b.incls[(k).toNat]? = some x := ⟨_, List.getElem?_eq_getElem hb47.2⟩
 obtain ⟨c44, hr45, ha46⟩ := hs5.get _ x42 hx43
 obtain ⟨c48, c49, rfl, hr50, hr51⟩ := id hr45
 obtain ⟨A52, d53, rfl, i54, i55, hs56⟩ := qM hr50
 unfold i64 at i54 i55
 have z57 := hs56.size
 unfold big at z57
 obtain ⟨A58, d59, rfl, i60, i61, hs62⟩ := qM hr51
 unfold i64 at i60 i61
 have z63 := hs62.size
 unfold big at z63
 have hf64 := hB.inclW hx43
 refine tq (zG hs5 rfl rfl rfl fQ hb47.1 hb47.2) ?_
 refine tq (qH _ rfl lJ rfl) ?_
 refine tq (jD 0 [.int .i64 x42.sub.op, .int .i64 x42.sub.n, .slice A52 x42.sub.args.length d53] ha46 rfl vS rfl rfl) ?_
 refine tq (qQ 0 [.slice A31 s.concepts.length d32, .slice A35 s.roles.length d36] rfl yO rfl rfl) ?_
 refine tq (qG rfl) ?_
 refine gM ca30 rfl (fun w hw => wP x42.sub s top hr50 hr_s (by first | assumption | grind) hw) rfl ?_
 refine tq (qG rfl) ?_
 refine tq (jE rfl rfl) ?_
 refine tq (jE rfl rfl) ?_
 refine tq (qD rfl) ?_
 refine tq (qD rfl) ?_
 refine vB <| qC <| qF ?_
 refine wD mixed (by kernel_rfl) ?_
 refine tq (qH 3 rfl zI rfl) ?_
 refine tq (jN 1 rfl iU rfl rfl) ?_
 refine tq (qG rfl) ?_
 have hb70 : 0 ≤ k ∧ (k).toNat < b.incls.length := by omega
 obtain ⟨x65, hx66⟩ : ∃ x, b.incls[(k).toNat]? = some x := ⟨_, List.getElem?_eq_getElem hb70.2⟩
 obtain ⟨c67, hr68, ha69⟩ := hs5.get _ x65 hx66
 obtain ⟨c71, c72, rfl, hr73, hr74⟩ := id hr68
 obtain ⟨A75, d76, rfl, i77, i78, hs79⟩ := qM hr73
 unfold i64 at i77 i78
 have z80 := hs79.size
 unfold big at z80
 obtain ⟨A81, d82, rfl, i83, i84, hs85⟩ := qM hr74
 unfold i64 at i83 i84
 have z86 := hs85.size
 unfold big at z86
 have hf87 := hB.inclW hx66
 refine tq (zG hs5 rfl rfl rfl fQ hb70.1 hb70.2) ?_
 refine tq (qH _ rfl lK rfl) ?_
 refine tq (jD 3 [.int .i64 x65.sup.op, .int .i64 x65.sup.n, .slice A81 x65.sup.args.length d82] ha69 rfl vS rfl rfl) ?_
 refine tq (qQ 0 [.slice A31 s.concepts.length d32, .slice A35 s.roles.length d36] rfl yO rfl rfl) ?_
 refine tq (qG rfl) ?_
 refine gM ca30 rfl (fun w hw => wP x65.sup s top hr74 hr_s (by first | assumption | grind) hw) rfl ?_
 refine tq (qG rfl) ?_
 refine tq (jE rfl rfl) ?_
 refine tq (jE rfl rfl) ?_
 refine tq (qD rfl) ?_
 refine tq (qD rfl) ?_
 refine vB <| qC ?_
 refine kN [(0, .agg #[.slice A15 b.names.concepts.length d16, .slice A19 b.names.roles.length d20, .slice A23 b.names.inds.length d24, .slice A3 b.incls.length d4, .slice A6 b.roles.length d7, .slice A9 b.facts.length d10, .slice A12 b.links.length d13]), (1, .int .i64 k), (2, .agg #[.slice A31 s.concepts.length d32, .slice A35 s.roles.length d36]), (3, .bool top), (4, .pointer (some ⟨b39, 0, none⟩)), (6, .pointer (some ⟨b40, 0, none⟩)), (9, .int .i64 k), (21, .bool true), (8, .bool (decide ((((qK s top x42.sub).1) = true) ∨ (((qK s top x65.sup).2) = true))))] (.blk b40 [.slice A31 s.concepts.length d32, .slice A35 s.roles.length d36] 33 :: .blk b39 [.slice A15 b.names.concepts.length d16, .slice A19 b.names.roles.length d20, .slice A23 b.names.inds.length d24, .slice A3 b.incls.length d4, .slice A6 b.roles.length d7, .slice A9 b.facts.length d10, .slice A12 b.links.length d13] 30 :: G) (fun _ => True) (fun K hK88 hE89 => ?_) ?_
 refine qA ?_
 refine tl (qG rfl) ?_
 refine tl (qG rfl) ?_
 refine kB 47 rfl (fun h90 => ?_) (fun h90 => ?_)
 refine qE 47 rfl rfl rfl ?_
 refine tl (qP rfl rfl) ?_
 refine tl (qD rfl) ?_
 refine qB ?_
 exact xK hK88 (.refl _) (trivial) ⟨rfl, rfl, rfl, rfl, rfl, rfl, rfl, rfl, show some (Value.bool true) = some (Value.bool (decide ((((qK s top x42.sub).1) = true) ∨ (((qK s top x65.sup).2) = true)))) by first | (simp [h90]; done) | grind | (simp [h90] <;> omega), trivial⟩ (fun w hw => hw)
 refine qJ 47 rfl rfl ?_
 refine tl (qG rfl) ?_
 refine tl (qN rfl rfl) ?_
 refine tl (qD rfl) ?_
 refine qB ?_
 exact xK hK88 (.refl _) (trivial) ⟨rfl, rfl, rfl, rfl, rfl, rfl, rfl, rfl, show some (Value.bool ((qK s top x65.sup).2)) = some (Value.bool (decide ((((qK s top x42.sub).1) = true) ∨ (((qK s top x65.sup).2) = true)))) by first | (simp [h90]; done) | grind | (simp [h90] <;> omega), trivial⟩ (fun w hw => hw)
 refine fun R92 hle93 hj91 => jC hle93 ?_
 refine qV <| qI ?_
 refine xC (.inl rfl) rfl rfl ?_
 have e94 : (decide ((((qK s top x42.sub).1) = true) ∨ (((qK s top x65.sup).2) = true)) : Bool) = kQ b k.toNat s top := by (have q_ := hx43; have q2_ := hx66; rw [q_] at q2_; cases q2_; unfold kQ; rw [q_]; grind)
 exact fun w hw => ⟨congrArg Ending.returned (congrArg (fun x0 => Value.bool x0) e94), hw.drop 2⟩
 refine xW rfl ?_
 refine xA <| qC <| qF <| qA ?_
 refine tl (qG rfl) ?_
 refine tl (qH 3 rfl zI rfl) ?_
 refine tl (jN 1 rfl iU rfl rfl) ?_
 refine tl (jM rfl fQ) ?_
 refine tl (bK rfl rfl (by omega) (by omega)) ?_
 refine tl (qD rfl) ?_
 refine qB <| qC <| qF <| qF <| qA ?_
 refine tl (qG rfl) ?_
 refine tl (qH 4 rfl zJ rfl) ?_
 refine tl (jN 1 rfl iV rfl rfl) ?_
 refine tl (jM rfl fR) ?_
 refine tl (jQ rfl rfl rfl) ?_
 refine qB <| qC ?_
 refine qR 59 rfl (fun h95 => ?_) (fun h95 => ?_)
 refine xD rfl ?_
 refine qF <| qF <| qA ?_
 refine tl (qG rfl) ?_
 refine qB <| qC ?_
 refine vG 60 rfl (fun h96 => ?_) (fun h96 => ?_)
 refine xD rfl ?_
 refine qF ?_
 refine wD mixed (by kernel_rfl) ?_
 refine tq (qH 1 rfl gF rfl) ?_
 refine tq (jN 0 rfl cI rfl rfl) ?_
 refine tq (qH 4 rfl zJ rfl) ?_
 refine tq (jN 1 rfl iV rfl rfl) ?_
 refine tq (qG rfl) ?_
 have hb102 : 0 ≤ k - (b.incls.length : Int) ∧ (k - (b.incls.length : Int)).toNat < b.roles.length := by omega
 obtain ⟨x97, hx98⟩ : ∃ x, b.roles[(k - (b.incls.length : Int)).toNat]? = some x := ⟨_, List.getElem?_eq_getElem hb102.2⟩
 obtain ⟨c99, hr100, ha101⟩ := hs8.get _ x97 hx98
 obtain ⟨rfl, i103, i104⟩ := id hr100
 unfold i64 at i103
 unfold i64 at i104
 have hf105 := hB.role hx98
 refine tq (zG hs8 rfl rfl rfl fR hb102.1 hb102.2) ?_
 refine tq (qH _ rfl lM rfl) ?_
 refine tq (yL 1 ha101 rfl ld3 rfl rfl) ?_
 refine tq (dF rfl rfl (by omega) (by omega)) ?_
 refine gM ca43 rfl (fun w hw => vU s.roles (x97.sup / 2) hs37 (by unfold i64; omega) hw) rfl ?_
 refine tq (wK rfl) ?_
 refine tq (qD rfl) ?_
 refine vB <| qC <| qV <| qI <| qI ?_
 refine xC (.inl rfl) rfl rfl ?_
 have e106 : (decide (¬ ((x97.sup / 2) ∈ s.roles)) : Bool) = kQ b k.toNat s top := by (have n1_ : b.incls[k.toNat]? = none := List.getElem?_eq_none (by omega); have q_ := hx98; rw [show (k - (b.incls.length : Int)).toNat = k.toNat - b.incls.length by omega] at q_; unfold kQ; rw [n1_]; simp only []; rw [q_]; grind)
 exact fun w hw => ⟨congrArg Ending.returned (congrArg (fun x0 => Value.bool x0) e106), hw.drop 2⟩
 refine xW rfl ?_
 refine xA <| qC <| qF ?_
 refine wD mixed (by kernel_rfl) ?_
 refine tq (qH 1 rfl gF rfl) ?_
 refine tq (jN 0 rfl cI rfl rfl) ?_
 refine tq (qH 4 rfl zJ rfl) ?_
 refine tq (jN 1 rfl iV rfl rfl) ?_
 refine tq (qG rfl) ?_
 have hb112 : 0 ≤ k - (b.incls.length : Int) ∧ (k - (b.incls.length : Int)).toNat < b.roles.length := by omega
 obtain ⟨x107, hx108⟩ : ∃ x, b.roles[(k - (b.incls.length : Int)).toNat]? = some x := ⟨_, List.getElem?_eq_getElem hb112.2⟩
 obtain ⟨c109, hr110, ha111⟩ := hs8.get _ x107 hx108
 obtain ⟨rfl, i113, i114⟩ := id hr110
 unfold i64 at i113
 unfold i64 at i114
 have hf115 := hB.role hx108
 refine tq (zG hs8 rfl rfl rfl fR hb112.1 hb112.2) ?_
 refine tq (qH _ rfl lL rfl) ?_
 refine tq (yL 0 ha111 rfl ld3 rfl rfl) ?_
 refine tq (dF rfl rfl (by omega) (by omega)) ?_
 refine gM ca43 rfl (fun w hw => vU s.roles (x107.sub / 2) hs37 (by unfold i64; omega) hw) rfl ?_
 refine tq (wK rfl) ?_
 refine tq (qD rfl) ?_
 refine vB <| qC <| qV <| qI ?_
 refine xC (.inl rfl) rfl rfl ?_
 have e116 : (decide (¬ ((x107.sub / 2) ∈ s.roles)) : Bool) = kQ b k.toNat s top := by (have n1_ : b.incls[k.toNat]? = none := List.getElem?_eq_none (by omega); have q_ := hx108; rw [show (k - (b.incls.length : Int)).toNat = k.toNat - b.incls.length by omega] at q_; unfold kQ; rw [n1_]; simp only []; rw [q_]; grind)
 exact fun w hw => ⟨congrArg Ending.returned (congrArg (fun x0 => Value.bool x0) e116), hw.drop 2⟩
 refine xW rfl ?_
 refine xA <| qC <| qF <| qA ?_
 refine tl (qG rfl) ?_
 refine tl (qH 4 rfl zJ rfl) ?_
 refine tl (jN 1 rfl iV rfl rfl) ?_
 refine tl (jM rfl fR) ?_
 refine tl (bK rfl rfl (by omega) (by omega)) ?_
 refine tl (qD rfl) ?_
 refine qB <| qC <| qF <| qF <| qA ?_
 refine tl (qG rfl) ?_
 refine tl (qH 5 rfl gA rfl) ?_
 refine tl (jN 1 rfl mG rfl rfl) ?_
 refine tl (jM rfl iQ) ?_
 refine tl (jQ rfl rfl rfl) ?_
 refine qB <| qC ?_
 refine qR 92 rfl (fun h117 => ?_) (fun h117 => ?_)
 refine xD rfl ?_
 refine qF ?_
 refine wD mixed (by kernel_rfl) ?_
 refine tq (qH 5 rfl gA rfl) ?_
 refine tq (jN 1 rfl mG rfl rfl) ?_
 refine tq (qG rfl) ?_
 have hb123 : 0 ≤ (k - (b.incls.length : Int)) - (b.roles.length : Int) ∧ ((k - (b.incls.length : Int)) - (b.roles.length : Int)).toNat < b.facts.length := by omega
 obtain ⟨x118, hx119⟩ : ∃ x, b.facts[((k - (b.incls.length : Int)) - (b.roles.length : Int)).toNat]? = some x := ⟨_, List.getElem?_eq_getElem hb123.2⟩
 obtain ⟨c120, hr121, ha122⟩ := hs11.get _ x118 hx119
 obtain ⟨c124, rfl, i125, hr126⟩ := id hr121
 unfold i64 at i125
 obtain ⟨A127, d128, rfl, i129, i130, hs131⟩ := qM hr126
 unfold i64 at i129 i130
 have z132 := hs131.size
 unfold big at z132
 have hf133 := hB.factW hx119
 refine tq (zG hs11 rfl rfl rfl iQ hb123.1 hb123.2) ?_
 refine tq (qH _ rfl lI rfl) ?_
 refine tq (jD 1 [.int .i64 x118.con.op, .int .i64 x118.con.n, .slice A127 x118.con.args.length d128] ha122 rfl vS rfl rfl) ?_
 refine tq (qQ 0 [.slice A31 s.concepts.length d32, .slice A35 s.roles.length d36] rfl yO rfl rfl) ?_
 refine tq (qG rfl) ?_
 refine gM ca30 rfl (fun w hw => wP x118.con s top hr126 hr_s (by first | assumption | grind) hw) rfl ?_
 refine tq (qG rfl) ?_
 refine tq (jE rfl rfl) ?_
 refine tq (jE rfl rfl) ?_
 refine tq (qD rfl) ?_
 refine tq (qD rfl) ?_
 refine vB <| qC <| qF <| qA ?_
 refine tl (qG rfl) ?_
 refine tl (qD rfl) ?_
 refine qB <| qC <| qV <| qI ?_
 refine xC (.inl rfl) rfl rfl ?_
 have e134 : ((qK s top x118.con).2 : Bool) = kQ b k.toNat s top := by (have n1_ : b.incls[k.toNat]? = none := List.getElem?_eq_none (by omega); have n2_ : b.roles[k.toNat - b.incls.length]? = none := List.getElem?_eq_none (by omega); have q_ := hx119; rw [show (k - (b.incls.length : Int) - (b.roles.length : Int)).toNat = k.toNat - b.incls.length - b.roles.length by omega] at q_; unfold kQ; rw [n1_]; simp only []; rw [n2_]; simp only []; rw [q_])
 exact fun w hw => ⟨congrArg Ending.returned (congrArg (fun x0 => Value.bool x0) e134), hw.drop 2⟩
 refine xW rfl ?_
 refine xA <| qC <| qF ?_
 refine wD mixed (by kernel_rfl) ?_
 refine tq (qG rfl) ?_
 refine tq (qG rfl) ?_
 refine wC 107 rfl (fun h135 => ?_) (fun h135 => ?_)
 refine xU 107 rfl rfl ?_
 refine tq (qH 1 rfl gF rfl) ?_
 refine xU 107 rfl rfl ?_
 refine tq (jN 0 rfl cI rfl rfl) ?_
 refine xU 107 rfl rfl ?_
 refine tq (qH 6 rfl uF rfl) ?_
 refine xU 107 rfl rfl ?_
 refine tq (jN 1 rfl qF7 rfl rfl) ?_
 refine xU 107 rfl rfl ?_
 refine tq (qG rfl) ?_
 refine xU 107 rfl rfl ?_
 refine tq (qH 5 rfl gA rfl) ?_
 refine xU 107 rfl rfl ?_
 refine tq (jN 1 rfl mG rfl rfl) ?_
 refine xU 107 rfl rfl ?_
 refine tq (jM rfl iQ) ?_
 refine xU 107 rfl rfl ?_
 refine tq (bK rfl rfl (by omega) (by omega)) ?_
 refine xU 107 rfl rfl ?_
 have hb141 : 0 ≤ ((k - (b.incls.length : Int)) - (b.roles.length : Int)) - (b.facts.length : Int) ∧ (((k - (b.incls.length : Int)) - (b.roles.length : Int)) - (b.facts.length : Int)).toNat < b.links.length := by omega
 obtain ⟨x136, hx137⟩ : ∃ x, b.links[(((k - (b.incls.length : Int)) - (b.roles.length : Int)) - (b.facts.length : Int)).toNat]? = some x := ⟨_, List.getElem?_eq_getElem hb141.2⟩
 obtain ⟨c138, hr139, ha140⟩ := hs14.get _ x136 hx137
 obtain ⟨rfl, i142, i143, i144⟩ := id hr139
 unfold i64 at i142
 unfold i64 at i143
 unfold i64 at i144
 have hf145 := hB.link hx137
 refine tq (zG hs14 rfl rfl rfl rW hb141.1 hb141.2) ?_
 refine xU 107 rfl rfl ?_
 refine tq (qH _ rfl cH rfl) ?_
 refine xU 107 rfl rfl ?_
 refine tq (yL 0 ha140 rfl ld3 rfl rfl) ?_
 refine xU 107 rfl rfl ?_
 refine gM ca43 rfl (fun w hw => vU s.roles x136.role hs37 (by unfold i64; omega) hw) rfl ?_
 refine xU 107 rfl rfl ?_
 refine tq (wK rfl) ?_
 refine tq (qP rfl rfl) ?_
 refine tq (qD rfl) ?_
 refine vB <| qC <| qV ?_
 refine xC (.inl rfl) rfl rfl ?_
 have e146 : (decide (¬ (x136.role ∈ s.roles)) : Bool) = kQ b k.toNat s top := by (have n1_ : b.incls[k.toNat]? = none := List.getElem?_eq_none (by omega); have n2_ : b.roles[k.toNat - b.incls.length]? = none := List.getElem?_eq_none (by omega); have n3_ : b.facts[k.toNat - b.incls.length - b.roles.length]? = none := List.getElem?_eq_none (by omega); have q_ := hx137; rw [show (k - (b.incls.length : Int) - (b.roles.length : Int) - (b.facts.length : Int)).toNat = k.toNat - b.incls.length - b.roles.length - b.facts.length by omega] at q_; unfold kQ; rw [n1_]; simp only []; rw [n2_]; simp only []; rw [n3_]; simp only []; rw [q_]; grind)
 exact fun w hw => ⟨congrArg Ending.returned (congrArg (fun x0 => Value.bool x0) e146), hw.drop 2⟩
 refine qZ 107 rfl rfl rfl ?_
 refine qZ 107 rfl rfl rfl ?_
 refine qZ 107 rfl rfl rfl ?_
 refine qZ 107 rfl rfl rfl ?_
 refine qZ 107 rfl rfl rfl ?_
 refine qZ 107 rfl rfl rfl ?_
 refine qZ 107 rfl rfl rfl ?_
 refine qZ 107 rfl rfl rfl ?_
 refine qZ 107 rfl rfl rfl ?_
 refine qZ 107 rfl rfl rfl ?_
 refine qZ 107 rfl rfl rfl ?_
 refine qZ 107 rfl rfl rfl ?_
 refine qZ 107 rfl rfl rfl ?_
 refine qZ 107 rfl rfl rfl ?_
 refine tq (qN rfl rfl) ?_
 refine tq (qD rfl) ?_
 refine vB <| qC <| qV ?_
 refine xC (.inl rfl) rfl rfl ?_
 have e147 : (false : Bool) = kQ b k.toNat s top := by (have n1_ : b.incls[k.toNat]? = none := List.getElem?_eq_none (by omega); have n2_ : b.roles[k.toNat - b.incls.length]? = none := List.getElem?_eq_none (by omega); have n3_ : b.facts[k.toNat - b.incls.length - b.roles.length]? = none := List.getElem?_eq_none (by omega); unfold kQ; rw [n1_]; simp only []; rw [n2_]; simp only []; rw [n3_]; simp only []; cases b.links[k.toNat - b.incls.length - b.roles.length - b.facts.length]? <;> grind)
 exact fun w hw => ⟨congrArg Ending.returned (congrArg (fun x0 => Value.bool x0) e147), hw.drop 2⟩

end Go.Proofs.YtcbcdlajnmkioaaGreatDoor

namespace Go.Proofs.YtcbcdlajnmkioaaGreatDoor
open Go Go.Proofs
set_option linter.unusedSimpArgs false
set_option linter.unusedVariables false


mutual
def inC : Concept → Int → Prop
  | .mk op n args, x => (op = 0 ∧ x = n) ∨ inCs args x
def inCs : List Concept → Int → Prop
  | [], _ => False
  | c :: cs, x => inC c x ∨ inCs cs x
end
mutual
def inR : Concept → Int → Prop
  | .mk op n args, x => ((op = 6 ∨ op = 7) ∧ x = n / 2) ∨ inRs args x
def inRs : List Concept → Int → Prop
  | [], _ => False
  | c :: cs, x => inR c x ∨ inRs cs x
end
mutual
theorem nQ : ∀ (c : Concept) (s : List Int × List Int) (x : Int), (x ∈ (kU c s).1 ↔ x ∈ s.1 ∨ inC c x) ∧ (x ∈ (kU c s).2 ↔ x ∈ s.2 ∨ inR c x)
  | .mk op n args, s, x => by
    rw [kU, inC, inR]
    have h := nR args (if op = 0 then yC s.1 n else s.1, if op = 6 ∨ op = 7 then yC s.2 (n / 2) else s.2) x
    have h1 : x ∈ (if op = 0 then yC s.1 n else s.1) ↔ x ∈ s.1 ∨ (op = 0 ∧ x = n) := by split <;> simp [insI_mem, *]
    have h2 : x ∈ (if op = 6 ∨ op = 7 then yC s.2 (n / 2) else s.2) ↔ x ∈ s.2 ∨ ((op = 6 ∨ op = 7) ∧ x = n / 2) := by split <;> simp [insI_mem, *]
    rw [h.1, h.2]
    dsimp only
    rw [h1, h2]
    exact ⟨or_assoc, or_assoc⟩
theorem nR : ∀ (l : List Concept) (s : List Int × List Int) (x : Int), (x ∈ (zO l s).1 ↔ x ∈ s.1 ∨ inCs l x) ∧ (x ∈ (zO l s).2 ↔ x ∈ s.2 ∨ inRs l x)
  | [], s, x => by simp [zO, inCs, inRs]
  | c :: cs, s, x => by
    rw [zO, inCs, inRs]
    have h := nR cs (kU c s) x
    have h1 := nQ c s x
    rw [h.1, h.2, h1.1, h1.2]
    exact ⟨or_assoc, or_assoc⟩
end
/-- The names that an entry of a base uses. -/
def axC (b : Base) (k : Nat) (x : Int) : Prop := x ∈ (yE b k ⟨[], []⟩).concepts
def axR (b : Base) (k : Nat) (x : Int) : Prop := x ∈ (yE b k ⟨[], []⟩).roles
theorem gO (s : Sig) (c : Concept) (x : Int) : (x ∈ (zW s c).concepts ↔ x ∈ s.concepts ∨ inC c x) ∧ (x ∈ (zW s c).roles ↔ x ∈ s.roles ∨ inR c x) := nQ c (s.concepts, s.roles) x
theorem cK (b : Base) (k : Nat) (s : Sig) (x : Int) : (x ∈ (yE b k s).concepts ↔ x ∈ s.concepts ∨ axC b k x) ∧ (x ∈ (yE b k s).roles ↔ x ∈ s.roles ∨ axR b k x) := by
  unfold axC axR yE
  split
  · simp only [(gO _ _ _).1, (gO _ _ _).2]; simp [or_assoc]
  · split
    · simp [insI_mem, or_assoc]
    · split
      · simp only [(gO _ _ _).1, (gO _ _ _).2]; simp
      · split
        · simp [insI_mem]
        · simp
theorem gI (b : Base) (x : Int) : ∀ (l : List Int) (s : Sig), (x ∈ (jX b l s).concepts ↔ x ∈ s.concepts ∨ ∃ k ∈ l, axC b k.toNat x) ∧ (x ∈ (jX b l s).roles ↔ x ∈ s.roles ∨ ∃ k ∈ l, axR b k.toNat x)
  | [], s => by simp [jX]
  | k :: l, s => by
    have h := gI b x l (yE b k.toNat s)
    have e : jX b (k :: l) s = jX b l (yE b k.toNat s) := rfl
    rw [e, h.1, h.2, (cK b k.toNat s x).1, (cK b k.toNat s x).2]
    constructor <;> simp [or_assoc]
def Sig.le (s t : Sig) : Prop := (∀ x ∈ s.concepts, x ∈ t.concepts) ∧ (∀ x ∈ s.roles, x ∈ t.roles)
theorem nS {b : Base} {l m : List Int} {s t : Sig} (h : ∀ x ∈ l, x ∈ m) (hs : s.le t) : (jX b l s).le (jX b m t) := by
  constructor
  · intro x hx
    rw [(gI b x l s).1] at hx
    rw [(gI b x m t).1]
    rcases hx with hx | ⟨k, hk, hx⟩
    · exact .inl (hs.1 x hx)
    · exact .inr ⟨k, h k hk, hx⟩
  · intro x hx
    rw [(gI b x l s).2] at hx
    rw [(gI b x m t).2]
    rcases hx with hx | ⟨k, hk, hx⟩
    · exact .inl (hs.2 x hx)
    · exact .inr ⟨k, h k hk, hx⟩
def pleB (p q : Bool × Bool) : Prop := (p.1 = true → q.1 = true) ∧ (p.2 = true → q.2 = true)
theorem nT {l m : List (Bool × Bool)} (hlen : l.length = m.length) (h : ∀ (i : Nat) p q, l[i]? = some p → m[i]? = some q → pleB p q) (i : Nat) : (shE l i = true → shE m i = true) ∧ (shF l i = true → shF m i = true) := by
  unfold shE shF
  cases hl : l[i]? with
  | none => simp
  | some p =>
    have : i < m.length := by have := (List.getElem?_eq_some_iff.1 hl).1; omega
    have hm : m[i]? = some m[i] := List.getElem?_eq_getElem this
    rw [hm]
    exact h i p _ hl hm
theorem qD3 {s t : Sig} (hs : s.le t) (top : Bool) (op n : Int) {l m : List (Bool × Bool)} (hlen : l.length = m.length) (h : ∀ (i : Nat) p q, l[i]? = some p → m[i]? = some q → pleB p q) : pleB (jI t top op n l) (jI s top op n m) := by
  have h0 := nT hlen h 0
  have h1 := nT hlen h 1
  have hc : ¬ n ∈ t.concepts → ¬ n ∈ s.concepts := fun k k2 => k (hs.1 n k2)
  have ho : yH t op n = true → yH s op n = true := by
    unfold yH; simp only [decide_eq_true_eq]
    exact fun k => ⟨k.1, fun k2 => k.2 (hs.2 _ k2)⟩
  unfold jI pleB
  grind
mutual
theorem tH {s t : Sig} (hs : s.le t) (top : Bool) : ∀ c : Concept, pleB (qK t top c) (qK s top c)
  | .mk op n args => by
    rw [qK, qK]
    exact qD3 hs top op n (by rw [xQ, xQ]) (lO hs top args)
theorem lO {s t : Sig} (hs : s.le t) (top : Bool) : ∀ (l : List Concept) (i : Nat) (p q : Bool × Bool), (jJ t top l)[i]? = some p → (jJ s top l)[i]? = some q → pleB p q
  | [], i, p, q, h, k => by simp [jJ] at h
  | c :: cs, 0, p, q, h, k => by
    simp only [jJ, List.getElem?_cons_zero, Option.some.injEq] at h k
    rw [← h, ← k]; exact tH hs top c
  | c :: cs, i + 1, p, q, h, k => by
    simp only [jJ, List.getElem?_cons_succ] at h k
    exact lO hs top cs i p q h k
end
theorem tI {s t : Sig} (hs : s.le t) (b : Base) (k : Nat) (top : Bool) (h : kQ b k t top = true) : kQ b k s top = true := by
  unfold kQ at *
  split
  · rename_i x hx
    rw [hx] at h
    have h1 := tH hs top x.sub; have h2 := tH hs top x.sup
    unfold pleB at h1 h2
    simp only [Bool.or_eq_true] at h ⊢
    exact h.imp h1.1 h2.2
  · rename_i hx
    rw [hx] at h
    simp only [] at h
    split
    · rename_i x hx2
      rw [hx2] at h
      simp only [] at h
      have h1 := hs.2 (x.sup / 2); have h2 := hs.2 (x.sub / 2)
      grind
    · rename_i hx2
      rw [hx2] at h
      simp only [] at h
      split
      · rename_i x hx3
        rw [hx3] at h
        exact (tH hs top x.con).2 h
      · rename_i hx3
        rw [hx3] at h
        simp only [] at h
        split
        · rename_i x hx4
          rw [hx4] at h
          have h1 := hs.2 x.role
          grind
        · rename_i hx4
          rw [hx4] at h
          simp only [] at h
          cases h
/-- Closed: what is outside is local. -/
def dK (b : Base) (l : List Int) (s : Sig) (top : Bool) (X : List Int) : Prop := ∀ i ∈ l, ¬ i ∈ X → kQ b i.toNat (jX b X s) top = true
def modP (b : Base) (l : List Int) (s : Sig) (top : Bool) (i : Int) : Prop := ∀ X : List Int, dK b l s top X → i ∈ X
open Classical in
noncomputable def aJ (b : Base) (l : List Int) (s : Sig) (top : Bool) : List Int := l.filter fun i => decide (modP b l s top i)
theorem fT {b : Base} {l : List Int} {s : Sig} {top : Bool} {o : List Int} {i : Int} {t : Sig} (ho : ∀ x ∈ o, modP b l s top x) (hi : i ∈ l) (ht : t.le (jX b o s)) (hn : ¬ kQ b i.toNat t top = true) : modP b l s top i := by
  intro X hX
  by_cases hm : i ∈ X
  · exact hm
  · have h1 := hX i hi hm
    have h2 : (jX b o s).le (jX b X s) := nS (fun x hx => ho x hx X hX) ⟨fun _ h => h, fun _ h => h⟩
    have h3 := tI h2 b i.toNat top h1
    exact absurd (tI ht b i.toNat top h3) hn
theorem qI4 {b : Base} {l : List Int} {s : Sig} {top : Bool} {r : List Int} (hl : Up l) (hr : Up r) (hs : ∀ x ∈ r, x ∈ l ∧ modP b l s top x) (hc : dK b l s top r) : r = aJ b l s top := by
  classical
  refine nB hr ?_ fun x => ?_
  · exact List.Pairwise.filter _ hl
  · unfold aJ
    rw [List.mem_filter]
    constructor
    · intro hx; exact ⟨(hs x hx).1, by simpa using (hs x hx).2⟩
    · intro hx
      have : modP b l s top x := by simpa using hx.2
      exact this r hc

end Go.Proofs.YtcbcdlajnmkioaaGreatDoor

namespace Go.Proofs.YtcbcdlajnmkioaaGreatDoor
open Go Go.Proofs
set_option linter.unusedSimpArgs false
set_option linter.unusedVariables false
theorem ca26 : Callable Tryz.prog 26 := ⟨by kernel_rfl⟩
theorem ca27 : Callable Tryz.prog 27 := ⟨by kernel_rfl⟩

theorem nU {n : Int} : ∀ {l : List Int}, ¬ n ∈ l → (yC l n).length = l.length + 1
  | [], _ => rfl
  | x :: xs, h => by
    unfold yC
    rw [if_neg (fun e => h (by simp [e]))]
    split
    · simp
    · have := nU (l := xs) fun k => h (List.mem_cons_of_mem _ k)
      simp [this]
theorem tU : ∀ {o l : List Int}, o.Nodup → (∀ x ∈ o, x ∈ l) → o.length ≤ l.length
  | [], _, _, _ => by simp
  | x :: xs, l, h, k => by
    have h' := List.nodup_cons.1 h
    have hx : x ∈ l := k x (by simp)
    have := tU (o := xs) (l := l.erase x) h'.2 fun y hy => (List.mem_erase_of_ne (fun e : y = x => h'.1 (e ▸ hy))).2 (k y (by simp [hy]))
    rw [List.length_erase_of_mem hx] at this
    have : 0 < l.length := List.length_pos_of_mem hx
    simp only [List.length_cons]; omega
theorem eY {l : List Int} (h : Up l) : l.Nodup := List.Pairwise.imp (fun {a b} (k : a < b) => (by omega : a ≠ b)) h
theorem fU (s : Sig) : s.le s := ⟨fun _ h => h, fun _ h => h⟩

end Go.Proofs.YtcbcdlajnmkioaaGreatDoor

namespace Go.Proofs.YtcbcdlajnmkioaaGreatDoor
open Go Go.Proofs
set_option linter.unusedSimpArgs false
set_option linter.unusedVariables false
theorem ca12 : Callable Tryz.prog 12 := ⟨by kernel_rfl⟩
theorem ca42 : Callable Tryz.prog 42 := ⟨by kernel_rfl⟩

def qI9 (n : Nat) : List Int := (List.range n).map fun (i : Nat) => (i : Int)
theorem vO (n : Nat) : (qI9 n).length = n := by simp [qI9]
theorem qJ0 (n : Nat) : qI9 (n + 1) = qI9 n ++ [(n : Int)] := by simp [qI9, List.range_succ]
def allL (b : Base) : List Int := qI9 (xX b)
theorem allL_len (b : Base) : (allL b).length = xX b := vO _
theorem allL_mem {b : Base} {x : Int} : x ∈ allL b ↔ 0 ≤ x ∧ x < xX b := by
  simp only [allL, qI9, List.mem_map, List.mem_range]
  constructor
  · rintro ⟨i, hi, rfl⟩; omega
  · rintro ⟨h1, h2⟩; exact ⟨x.toNat, by omega, by omega⟩
theorem allL_up (b : Base) : Up (allL b) := by
  unfold allL qI9 Up
  rw [List.pairwise_map]
  exact List.Pairwise.imp (fun {a c} h => by omega) List.pairwise_lt_range
theorem modL_up {b : Base} {l : List Int} {s : Sig} {top : Bool} (h : Up l) : Up (aJ b l s top) := by classical exact List.Pairwise.filter _ h
theorem rZ {b : Base} {l : List Int} {s : Sig} {top : Bool} : ∀ x ∈ aJ b l s top, x ∈ l := by classical exact fun x hx => (List.mem_filter.1 hx).1
theorem wS {b : Base} {l : List Int} {s : Sig} {top : Bool} : (aJ b l s top).length ≤ l.length := by classical exact List.length_filter_le _ _
theorem mO {b : Base} {l : List Int} {s : Sig} {top : Bool} (h : ¬ aJ b l s top = l) : (aJ b l s top).length < l.length := by
  classical
  have h1 : (aJ b l s top).Sublist l := List.filter_sublist
  rcases Nat.lt_or_ge (aJ b l s top).length l.length with h2 | h2
  · exact h2
  · exact absurd (h1.eq_of_length_le h2) h
open Classical in
noncomputable def star (b : Base) (s : Sig) (same : Nat) (top : Bool) (l : List Int) : List Int :=
  if same ≥ 2 then l else star b s (if aJ b l s top = l then same + 1 else 0) (!top) (aJ b l s top)
  termination_by 3 * l.length + (2 - same)
  decreasing_by
  split
  · rename_i h; rw [h]; omega
  · rename_i h; have := mO h; omega
theorem nZ {b : Base} {s : Sig} {same : Nat} {top : Bool} {l : List Int} (h : 2 ≤ same) : star b s same top l = l := by rw [star, if_pos h]
theorem fX {b : Base} {s : Sig} {same : Nat} {top : Bool} {l : List Int} (h : ¬ 2 ≤ same) (he : aJ b l s top = l) : star b s (same + 1) (!top) (aJ b l s top) = star b s same top l := by rw [star.eq_1 b s same top l, if_neg h, if_pos he]
theorem dM {b : Base} {s : Sig} {same : Nat} {top : Bool} {l : List Int} (h : ¬ 2 ≤ same) (he : ¬ aJ b l s top = l) : star b s 0 (!top) (aJ b l s top) = star b s same top l := by rw [star.eq_1 b s same top l, if_neg h, if_neg he]
noncomputable def bP (b : Base) (s : Sig) (kind : Int) : List Int := if kind < 2 then aJ b (allL b) s (decide (kind = 1)) else star b s 0 false (allL b)

end Go.Proofs.YtcbcdlajnmkioaaGreatDoor

namespace Go.Proofs.YtcbcdlajnmkioaaGreatDoor
open Go Go.Proofs
set_option linter.unusedSimpArgs false
set_option linter.unusedVariables false
theorem ca108 : Callable Tryz.prog 108 := ⟨by kernel_rfl⟩
theorem ca109 : Callable Tryz.prog 109 := ⟨by kernel_rfl⟩

theorem tV (b : UInt8) (l sub : List UInt8) : Lib.contains (b :: l) sub = (sub.isPrefixOf (b :: l) || Lib.contains l sub) := by
  unfold Lib.contains
  have h := Lib.index_ge l sub
  rw [Lib.index]
  cases hp : sub.isPrefixOf (b :: l)
  · simp only [Bool.false_eq_true, if_false, Bool.false_or, decide_eq_decide, beq_iff_eq]
    split <;> omega
  · simp
theorem cM {sub : List UInt8} : ∀ (t r : List UInt8), ¬ (32 : UInt8) ∈ t → Lib.contains (t ++ r) (32 :: sub) = Lib.contains r (32 :: sub)
  | [], r, _ => rfl
  | x :: t, r, h => by
    have hx : ¬ 32 = x := fun e => h (by simp [e])
    rw [List.cons_append, tV, cM t r fun k => h (by simp [k])]
    simp [List.isPrefixOf, hx]
theorem qA0 : ∀ (u t r : List UInt8), ¬ (32 : UInt8) ∈ u → ¬ (32 : UInt8) ∈ t → (u ++ [32]).isPrefixOf (t ++ 32 :: r) = decide (u = t)
  | [], [], r, _, _ => by simp
  | [], y :: t, r, _, h => by
    have hy : ¬ 32 = y := fun e => h (by simp [e])
    simp [List.isPrefixOf, hy]
  | x :: u, [], r, h, _ => by
    have hx : ¬ x = 32 := fun e => h (by simp [e])
    simp [List.isPrefixOf, hx]
  | x :: u, y :: t, r, h, k => by
    have ih := qA0 u t r (fun e => h (by simp [e])) (fun e => k (by simp [e]))
    simp only [List.cons_append, List.isPrefixOf, ih]
    rw [Bool.eq_iff_iff]; simp
theorem bH {u : List UInt8} (hu : ¬ (32 : UInt8) ∈ u) : ∀ ts : List (List UInt8), (∀ t ∈ ts, ¬ (32 : UInt8) ∈ t) → Lib.contains (32 :: ts.flatMap (· ++ [32])) (32 :: (u ++ [32])) = ts.any fun t => decide (u = t)
  | [], _ => by
    have : Lib.contains [] (32 :: (u ++ [32])) = false := by simp [Lib.contains, Lib.index]
    rw [List.flatMap_nil, tV, this]
    cases u <;> simp [List.isPrefixOf]
  | t :: ts, h => by
    have e : (32 : UInt8) :: (t :: ts).flatMap (· ++ [32]) = 32 :: (t ++ (32 :: ts.flatMap (· ++ [32]))) := by simp
    have hp : (32 :: (u ++ [32])).isPrefixOf (32 :: (t ++ (32 :: ts.flatMap (· ++ [32])))) = decide (u = t) := by
      rw [← qA0 u t (ts.flatMap (· ++ [32])) hu (h t (by simp))]; simp [List.isPrefixOf]
    rw [e, tV, hp, cM t _ (h t (by simp)), bH hu ts fun t ht => h t (by simp [ht])]; simp
def resvA : ByteArray := ⟨#[32, 116, 111, 112, 32, 98, 111, 116, 32, 110, 111, 116, 32, 97, 110, 100, 32, 111, 114, 32, 115, 111, 109, 101, 32, 97, 108, 108, 32, 99, 111, 110, 99, 101, 112, 116, 32, 114, 111, 108, 101, 32, 105, 110, 100, 32]⟩
theorem qE0 : resvA.data.toList = 32 :: (reserved.map (·.data.toList)).flatMap (· ++ [32]) := by decide
theorem bt_mem {s : ByteArray} {x : UInt8} (h : x ∈ s.data.toList) : ∃ i, i < s.size ∧ bt s i = x.toNat := by
  obtain ⟨i, hi, rfl⟩ := List.getElem_of_mem h
  have hl : i < s.size := by simpa using hi
  refine ⟨i, hl, ?_⟩
  unfold bt; rw [dif_pos hl]; rfl
theorem eG {s : ByteArray} (h : ¬ (32 : UInt8) ∈ s.data.toList) : Lib.contains resvA.data.toList (32 :: (s.data.toList ++ [32])) = bI s := by
  rw [qE0, bH h _ (by decide)]
  unfold bI
  rw [List.any_map]
  congr 1
  funext t
  simp only [Function.comp, decide_eq_decide]
  exact ⟨fun e => eV (by simpa using congrArg List.toArray e), fun e => by rw [e]⟩
theorem qE1 {i : Nat} {c : Int} (h : okB i c = true) : gW c = true := by unfold okB at h; unfold gW; grind
theorem qA1 {s : ByteArray} (h : ∀ i, i < s.size → gW (bt s i) = true) : ¬ (32 : UInt8) ∈ s.data.toList := fun k => by
  obtain ⟨i, hi, e⟩ := bt_mem k
  have := h i hi
  rw [e] at this
  revert this; decide
theorem sz32 : (⟨#[32]⟩ : ByteArray).size = 1 := rfl
def spc (s : ByteArray) : ByteArray := (⟨#[32]⟩ ++ s) ++ ⟨#[32]⟩
theorem qA2 (s : ByteArray) : (spc s).data.toList = 32 :: (s.data.toList ++ [32]) := by simp [spc]
theorem name_yes {s : ByteArray} (h1 : ¬ s = ⟨#[]⟩) (h2 : s.size ≤ 12) (h3 : vP (bt s 0) = true) (h4 : ¬ Lib.contains resvA.data.toList (spc s).data.toList = true) (h5 : ∀ i, i < s.size → gW (bt s i) = true) : pQ s = true := by
  rw [qA2, eG (qA1 h5)] at h4
  unfold pQ dO
  simp only [Bool.and_eq_true, decide_eq_true_eq, Bool.not_eq_true']
  refine ⟨⟨h2, h1, fun i hi => ?_⟩, by simpa using h4⟩
  have := h5 i hi
  rcases Nat.eq_zero_or_pos i with e | e
  · subst e; unfold okB; simp [h3]
  · unfold okB; unfold gW at this; grind
theorem qJ1 {s : ByteArray} (h : pQ s = true) : ¬ s = ⟨#[]⟩ ∧ s.size ≤ 12 ∧ vP (bt s 0) = true ∧ ¬ Lib.contains resvA.data.toList (spc s).data.toList = true ∧ ∀ i, i < s.size → gW (bt s i) = true := by
  unfold pQ dO at h
  simp only [Bool.and_eq_true, decide_eq_true_eq, Bool.not_eq_true'] at h
  obtain ⟨⟨h2, h1, h3⟩, h4⟩ := h
  have h5 : ∀ i, i < s.size → gW (bt s i) = true := fun i hi => qE1 (h3 i hi)
  have h0 : 0 < s.size := by
    rcases Nat.eq_zero_or_pos s.size with e | e
    · exact absurd (eV (Array.eq_empty_of_size_eq_zero e)) h1
    · exact e
  refine ⟨h1, h2, ?_, ?_, h5⟩
  · have := h3 0 h0; unfold okB at this; simpa using this
  · rw [qA2, eG (qA1 h5)]; simpa using h4
theorem qA3 {s : ByteArray} (h : ¬ s = ⟨#[]⟩) : 0 < s.size := by
  rcases Nat.eq_zero_or_pos s.size with e | e
  · exact absurd (eV (Array.eq_empty_of_size_eq_zero e)) h
  · exact e
structure Glob (R : RO) : Prop where
  args : R.at 0 0 [.int .i64 0, .int .i64 0, .int .i64 0, .int .i64 1, .int .i64 2, .int .i64 2, .int .i64 1, .int .i64 1]
  maxLen : ∃ m, R.at 1 0 [.int .i64 m]
theorem Glob.mono {R R' : RO} (h : Glob R) (k : R.le R') : Glob R' := ⟨h.args.mono k, let ⟨m, hm⟩ := h.maxLen; ⟨m, hm.mono k⟩⟩
theorem rC {R : RO} {G : List Res} {w : World} (s sub : ByteArray) (hs : s.size < 4294967281) (hG : Glob R) (hw : Own w R G) : Calls Tryz.prog 108 [.string s, .string sub].toArray w (kK R G (.bool (Lib.contains s.data.toList sub.data.toList))) := by
  obtain ⟨m, hm⟩ := hG.maxLen
  exact (Tryz.strings_Contains s sub m w hs (hm.cell (j := 0) hw rfl)).mono fun e w' ⟨he, hw'⟩ => ⟨he, hw' ▸ hw⟩

set_option maxRecDepth 20000 in
set_option maxHeartbeats 8000000 in
theorem fY {R : RO} {G : List Res} {w : World} (s : ByteArray) (hz_s : s.size ≤ big) (hG : Glob R) (hw : Own w R (G)) :
    Calls Tryz.prog 101 [.string s].toArray w (kK R G (.bool (pQ s))) := by
 unfold big at hz_s
 refine xG (vs := [.string s]) Tryz.func101 rfl rfl rfl ?_ hw
 refine qF <| qA ?_
 refine tl (qD rfl) ?_
 refine qB <| qC <| qF ?_
 refine kN [(0, .string s), (2, .bool false), (22, .bool (decide ((((s = (⟨#[]⟩)) ∨ (12 < (s.size : Int))) ∨ ((!(vP (bt s 0))) = true)) ∨ ((Lib.contains resvA.data.toList (spc s).data.toList) = true))))] (G) (fun _ => True) (fun K hK1 hE2 => ?_) ?_
 refine qA ?_
 refine tl (qG rfl) ?_
 refine tl (eL rfl rfl) ?_
 refine tl (qG rfl) ?_
 refine xR 6 rfl (fun h3 => ?_) (fun h3 => ?_)
 refine qE 6 rfl rfl rfl ?_
 refine qE 6 rfl rfl rfl ?_
 refine qE 6 rfl rfl rfl ?_
 refine tl (qP rfl rfl) ?_
 refine tl (qG rfl) ?_
 refine qE 11 rfl rfl rfl ?_
 refine qE 11 rfl rfl rfl ?_
 refine qE 11 rfl rfl rfl ?_
 refine qE 11 rfl rfl rfl ?_
 refine tl (qP rfl rfl) ?_
 refine tl (qG rfl) ?_
 refine qE 17 rfl rfl rfl ?_
 refine qE 17 rfl rfl rfl ?_
 refine qE 17 rfl rfl rfl ?_
 refine qE 17 rfl rfl rfl ?_
 refine tl (qP rfl rfl) ?_
 refine qB ?_
 exact xK hK1 (.refl _) (trivial) ⟨rfl, rfl, show some (Value.bool true) = some (Value.bool (decide ((((s = (⟨#[]⟩)) ∨ (12 < (s.size : Int))) ∨ ((!(vP (bt s 0))) = true)) ∨ ((Lib.contains resvA.data.toList (spc s).data.toList) = true)))) by first | (simp [h3]; done) | grind | (simp [h3] <;> omega), trivial⟩ (fun w hw => hw)
 refine qJ 6 rfl rfl ?_
 refine tl (qG rfl) ?_
 refine qJ 6 rfl rfl ?_
 refine tl (uZ rfl st9) ?_
 refine qJ 6 rfl rfl ?_
 refine tl (jQ rfl rfl rfl) ?_
 refine tl (qN rfl rfl) ?_
 refine tl (qG rfl) ?_
 refine xR 11 rfl (fun h4 => ?_) (fun h4 => ?_)
 refine qE 11 rfl rfl rfl ?_
 refine qE 11 rfl rfl rfl ?_
 refine qE 11 rfl rfl rfl ?_
 refine qE 11 rfl rfl rfl ?_
 refine tl (qP rfl rfl) ?_
 refine tl (qG rfl) ?_
 refine qE 17 rfl rfl rfl ?_
 refine qE 17 rfl rfl rfl ?_
 refine qE 17 rfl rfl rfl ?_
 refine qE 17 rfl rfl rfl ?_
 refine tl (qP rfl rfl) ?_
 refine qB ?_
 exact xK hK1 (.refl _) (trivial) ⟨rfl, rfl, show some (Value.bool true) = some (Value.bool (decide ((((s = (⟨#[]⟩)) ∨ (12 < (s.size : Int))) ∨ ((!(vP (bt s 0))) = true)) ∨ ((Lib.contains resvA.data.toList (spc s).data.toList) = true)))) by first | (simp [h3, h4]; done) | grind | (simp [h3, h4] <;> omega), trivial⟩ (fun w hw => hw)
 refine qJ 11 rfl rfl ?_
 refine tl (qG rfl) ?_
 refine qJ 11 rfl rfl ?_
 have hb5 : 0 < s.size := by first | omega | exact qA3 (by first | assumption | grind)
 have hr6 := cG s 0
 refine tl (nJ (i := 0) rfl rfl st9 hb5) ?_
 refine qJ 11 rfl rfl ?_
 refine qY ca107 rfl (fun w hw => tC (bt s 0) (by omega) hw) rfl ?_
 refine qJ 11 rfl rfl ?_
 refine tl (wB rfl) ?_
 refine tl (qN rfl rfl) ?_
 refine tl (qG rfl) ?_
 refine kB 17 rfl (fun h7 => ?_) (fun h7 => ?_)
 refine qE 17 rfl rfl rfl ?_
 refine qE 17 rfl rfl rfl ?_
 refine qE 17 rfl rfl rfl ?_
 refine qE 17 rfl rfl rfl ?_
 refine tl (qP rfl rfl) ?_
 refine qB ?_
 exact xK hK1 (.refl _) (trivial) ⟨rfl, rfl, show some (Value.bool true) = some (Value.bool (decide ((((s = (⟨#[]⟩)) ∨ (12 < (s.size : Int))) ∨ ((!(vP (bt s 0))) = true)) ∨ ((Lib.contains resvA.data.toList (spc s).data.toList) = true)))) by first | (simp [h3, h4, h7]; done) | grind | (simp [h3, h4, h7] <;> omega), trivial⟩ (fun w hw => hw)
 refine qJ 17 rfl rfl ?_
 refine tl (qG rfl) ?_
 refine qJ 17 rfl rfl ?_
 refine tl (v_sadd rfl rfl (by first | (rw [sz32]; omega) | (rw [ByteArray.size_append, sz32]; omega))) ?_
 refine qJ 17 rfl rfl ?_
 refine tl (v_sadd rfl rfl (by first | (rw [sz32]; omega) | (rw [ByteArray.size_append, sz32]; omega))) ?_
 refine qJ 17 rfl rfl ?_
 refine qY ca108 rfl (fun w hw => rC resvA (spc s) (by decide) hG hw) rfl ?_
 refine tl (qN rfl rfl) ?_
 refine qB ?_
 exact xK hK1 (.refl _) (trivial) ⟨rfl, rfl, show some (Value.bool (Lib.contains resvA.data.toList (spc s).data.toList)) = some (Value.bool (decide ((((s = (⟨#[]⟩)) ∨ (12 < (s.size : Int))) ∨ ((!(vP (bt s 0))) = true)) ∨ ((Lib.contains resvA.data.toList (spc s).data.toList) = true)))) by first | (simp [h3, h4, h7]; done) | grind | (simp [h3, h4, h7] <;> omega), trivial⟩ (fun w hw => hw)
 refine fun R9 hle10 hj8 => jC hle10 ?_
 refine qR 22 rfl (fun h11 => ?_) (fun h11 => ?_)
 refine xD rfl ?_
 refine qF <| qA ?_
 refine tl (qD rfl) ?_
 refine qB <| qC <| qV <| qI ?_
 refine xC (.inl rfl) rfl rfl ?_
 have e12 : (false : Bool) = pQ s := by (rw [eq_comm, ← Bool.not_eq_true]; intro h_; have n_ := qJ1 h_; grind)
 exact fun w hw => ⟨congrArg Ending.returned (congrArg (fun x0 => Value.bool x0) e12), hw⟩
 refine xW rfl ?_
 refine xA <| qC <| qF <| qF <| qA ?_
 refine tl (qD rfl) ?_
 refine qB <| qC <| xB ?_
 refine jL ?_
 refine jS (fun i : Nat => s.size - i) (fun i : Nat => [(0, .string s), (3, .int .i64 (i : Int))]) (fun i : Nat => (G)) (fun (i : Nat) => i ≤ s.size ∧ ∀ j : Nat, j < i → gW (bt s j) = true) (0) ⟨rfl, rfl, trivial⟩ (by exact ⟨by omega, fun j h => by omega⟩) (fun w hw => hw) ?_
 rintro i hI13 ih14
 show TC Tryz.prog _ _ _ [] [(0, .string s), (3, .int .i64 (i : Int))] R (G)
 obtain ⟨hi1, hi2⟩ := hI13
 refine qF <| qF <| qA ?_
 refine tl (qG rfl) ?_
 refine tl (qG rfl) ?_
 refine tl (uZ rfl st9) ?_
 refine tl (jQ rfl rfl rfl) ?_
 refine qB <| qC ?_
 refine qR 26 rfl (fun h17 => ?_) (fun h17 => ?_)
 refine xD rfl ?_
 refine xA <| qC <| qF <| xB <| qF <| qA ?_
 refine tl (qG rfl) ?_
 refine tl (qG rfl) ?_
 have hb18 : i < s.size := by first | omega | exact qA3 (by first | assumption | grind)
 have hr19 := cG s i
 refine tl (nJ (i := i) rfl rfl st9 hb18) ?_
 refine qY ca109 rfl (fun w hw => cX (bt s i) (by omega) hw) rfl ?_
 refine tl (wB rfl) ?_
 refine qB <| qC ?_
 refine vG 33 rfl (fun h20 => ?_) (fun h20 => ?_)
 refine xD rfl ?_
 refine qF <| qA ?_
 refine tl (qD rfl) ?_
 refine qB <| qC <| qV <| qO <| qI <| qI <| qO <| qI ?_
 refine xC (.inl rfl) rfl rfl ?_
 have e21 : (false : Bool) = pQ s := by (rw [eq_comm, ← Bool.not_eq_true]; intro h_; have n_ := (qJ1 h_).2.2.2.2 i (by omega); grind)
 exact fun w hw => ⟨congrArg Ending.returned (congrArg (fun x0 => Value.bool x0) e21), hw⟩
 refine xW rfl ?_
 refine xA <| jG <| qC <| qA ?_
 refine tl (qG rfl) ?_
 refine tl (kF rfl rfl (by omega) (by omega)) ?_
 refine tl (qD rfl) ?_
 refine qB ?_
 refine xY ?_
 exact fun a w ha hw => ih14.out (i + 1) (by refine ⟨by omega, fun j h => ?_⟩; by_cases e : j = i; (subst e; grind); exact hi2 j (by omega)) (by (try dsimp only); omega) a w (ha.sub (xS ⟨rfl, rfl, trivial⟩)) (hw)
 refine xW rfl ?_
 refine jK <| qL <| qL <| xI <| qC <| qF <| qA ?_
 refine tl (qD rfl) ?_
 refine qB <| qC <| qV ?_
 refine xC (.inl rfl) rfl rfl ?_
 have e22 : (true : Bool) = pQ s := by (symm; have q_ : s.size = i := (by omega); rw [← q_] at hi2; exact name_yes (by grind) (by grind) (by grind) (by grind) hi2)
 exact fun w hw => ⟨congrArg Ending.returned (congrArg (fun x0 => Value.bool x0) e22), hw⟩

end Go.Proofs.YtcbcdlajnmkioaaGreatDoor

namespace Go.Proofs.YtcbcdlajnmkioaaGreatDoor
open Go Go.Proofs
set_option linter.unusedSimpArgs false
set_option linter.unusedVariables false
theorem ca100 : Callable Tryz.prog 100 := ⟨by kernel_rfl⟩
theorem ca101 : Callable Tryz.prog 101 := ⟨by kernel_rfl⟩
theorem ca106 : Callable Tryz.prog 106 := ⟨by kernel_rfl⟩
theorem ii3 : isInt Tryz.prog 3 = true := by kernel_rfl
theorem mi154 : aC keyS Tryz.prog 154 = true := by kernel_rfl

set_option maxRecDepth 20000 in
set_option maxHeartbeats 8000000 in
theorem pC {R : RO} {G : List Res} {w : World} (m : Int) (hi_m : i64 m) (hb : 0 ≤ m ∧ m ≤ 1000) (hw : Own w R (G)) :
    Calls Tryz.prog 106 [.slice none 0 0, .int .i64 m].toArray w (hY R G (fun v_ R' L_ => ∃ (A_0 : Option Addr) (c_0 : Nat) (l_0 : List Value), v_ = (.slice A_0 (([] : List ByteArray).length) c_0 : Value) ∧ L_ = ([.vec (.slice A_0 (([] : List ByteArray).length) c_0) (([] : List ByteArray).length) 9 1 l_0] : List Res) ∧ (kStr).reps R' ([] : List ByteArray) l_0)) := by
 unfold i64 at hi_m
 refine xG (vs := [.slice none 0 0, .int .i64 m]) Tryz.func106 rfl rfl rfl ?_ hw
 refine qF <| qA ?_
 refine tl (qD rfl) ?_
 refine qB <| qC <| qF <| qF <| qA ?_
 refine tl (qG rfl) ?_
 refine tl (jQ rfl rfl rfl) ?_
 refine qB <| qC ?_
 refine qR 6 rfl (fun h2 => ?_) (fun h2 => ?_)
 refine xD rfl ?_
 exfalso
 omega
 refine xW rfl ?_
 refine xA <| qC <| qF <| qF <| qA ?_
 refine tl (qG rfl) ?_
 refine tl (qG rfl) ?_
 refine tl (v_cap rfl uE) ?_
 refine tl (qG rfl) ?_
 refine tl (jM rfl uE) ?_
 refine tl (bK rfl rfl (by omega) (by omega)) ?_
 refine tl (bK rfl rfl (by omega) (by omega)) ?_
 refine tl_head (show Value.int .i64 (m - (0 - 0)) = Value.int .i64 (m.toNat : Int) from congrArg _ (by omega)) ?_
 refine tl (qD rfl) ?_
 refine qB <| qC <| qF <| qA ?_
 refine tl (qG rfl) ?_
 refine tl (jQ rfl rfl rfl) ?_
 refine qB <| qC ?_
 refine qR 16 rfl (fun h3 => ?_) (fun h3 => ?_)
 refine xD rfl ?_
 refine qA ?_
 refine tl (qG rfl) ?_
 refine tl (qG rfl) ?_
 refine tl (v_cap rfl uE) ?_
 refine tl (v_sliceN rfl uE rfl) ?_
 refine tl (qG rfl) ?_
 refine tl_appz (k := m.toNat) ap22 ii3 rfl rfl rfl (by omega) (by omega) rfl rfl fun A4 c5 => ?_
 have hv6 : (kStr).reps R (List.replicate m.toNat (⟨#[]⟩ : ByteArray)) (List.replicate m.toNat (.string (⟨#[]⟩))) := fF (k := kStr) (⟨rfl, by unfold big; exact Nat.zero_le _⟩) _
 have hl7 : m.toNat = (List.replicate m.toNat (⟨#[]⟩ : ByteArray)).length := List.length_replicate.symm
 refine lE [(0, .slice none 0 0), (1, .int .i64 (m.toNat : Int)), (4, .slice none 0 0), (5, .int .i64 m), (6, .bool false), (8, .int .i64 m), (9, .slice none 0 0), (10, .int .i64 0), (11, .slice none 0 0), (12, .int .i64 0), (13, .int .i64 (0 - 0)), (14, .int .i64 (m.toNat : Int)), (15, .int .i64 (m.toNat : Int)), (16, .bool true), (17, .slice none 0 0), (18, .slice none 0 0), (19, .int .i64 0), (20, .slice none 0 0), (21, .int .i64 (m.toNat : Int)), (22, .slice A4 ((List.replicate m.toNat (⟨#[]⟩ : ByteArray)).length) c5)] (by rw [← hl7]; exact (by repeat' constructor)) ?_
 refine tP (.vec (.slice A4 ((List.replicate m.toNat (⟨#[]⟩ : ByteArray)).length) c5) ((List.replicate m.toNat (⟨#[]⟩ : ByteArray)).length) 9 1 (List.replicate m.toNat (.string (⟨#[]⟩))) :: G) (fun w hw => by rw [← hl7]; exact hw) ?_
 refine tl (qG rfl) ?_
 refine tl (jM rfl uE) ?_
 have hm9 : 0 ≤ (List.replicate m.toNat (⟨#[]⟩ : ByteArray)).length := by omega
 have hv10 := Kd.reps_take 0 hv6
 have hl11 : 0 = ((List.replicate m.toNat (⟨#[]⟩ : ByteArray)).take 0).length := by rw [List.length_take]; omega
 refine nE (m := 0) 0 rfl rfl uE rfl hm9 rfl ?_
 refine lE [(0, .slice none 0 0), (1, .int .i64 (m.toNat : Int)), (4, .slice none 0 0), (5, .int .i64 m), (6, .bool false), (8, .int .i64 m), (9, .slice none 0 0), (10, .int .i64 0), (11, .slice none 0 0), (12, .int .i64 0), (13, .int .i64 (0 - 0)), (14, .int .i64 (m.toNat : Int)), (15, .int .i64 (m.toNat : Int)), (16, .bool true), (17, .slice none 0 0), (18, .slice none 0 0), (19, .int .i64 0), (20, .slice none 0 0), (21, .int .i64 (m.toNat : Int)), (23, .slice none 0 0), (24, .int .i64 0), (25, .slice A4 (((List.replicate m.toNat (⟨#[]⟩ : ByteArray)).take 0).length) c5)] (by rw [← hl11]; exact (by repeat' constructor)) ?_
 refine tP (.vec (.slice A4 (((List.replicate m.toNat (⟨#[]⟩ : ByteArray)).take 0).length) c5) (((List.replicate m.toNat (⟨#[]⟩ : ByteArray)).take 0).length) 9 1 ((List.replicate m.toNat (.string (⟨#[]⟩))).take (0 * 1)) :: G) (fun w hw => by rw [← hl11]; exact hw) ?_
 refine tl (qD rfl) ?_
 refine qB <| qC <| qF <| qA ?_
 refine tl (qG rfl) ?_
 refine tl (qD rfl) ?_
 refine qB <| qC <| qV ?_
 refine xC (.inl rfl) rfl rfl ?_
 have e13 : (((List.replicate m.toNat (⟨#[]⟩ : ByteArray)).take 0) : List (ByteArray)) = ([] : List ByteArray) := by first | rfl | simp
 intro w hw
 exact ⟨_, _, [.vec (.slice A4 (((List.replicate m.toNat (⟨#[]⟩ : ByteArray)).take 0).length) c5) (((List.replicate m.toNat (⟨#[]⟩ : ByteArray)).take 0).length) 9 1 ((List.replicate m.toNat (.string (⟨#[]⟩))).take (0 * 1))], rfl, .refl _, hw, A4, c5, ((List.replicate m.toNat (.string (⟨#[]⟩))).take (0 * 1)), (congrArg (fun (z0_ : List (ByteArray)) => (.slice A4 z0_.length c5 : Value)) e13), (congrArg (fun (z0_ : List (ByteArray)) => ([.vec (.slice A4 z0_.length c5) z0_.length 9 1 ((List.replicate m.toNat (.string (⟨#[]⟩))).take (0 * 1))] : List Res)) e13), (Eq.mp (congrArg (fun z => (kStr).reps R z ((List.replicate m.toNat (.string (⟨#[]⟩))).take (0 * 1))) e13) hv10)⟩
 refine xW rfl ?_
 refine xA <| qC <| qF <| qA ?_
 refine tl (qG rfl) ?_
 refine tl (qD rfl) ?_
 refine qB <| qC <| qV ?_
 refine tx_G _ (fun w hw => hw.vecnil 9 1) ?_
 have hv14 : (kStr).reps R [] [] := rfl
 refine xC (.inl rfl) rfl rfl ?_
 have e16 : (([] : List (ByteArray)) : List (ByteArray)) = ([] : List ByteArray) := by first | rfl | simp
 intro w hw
 exact ⟨_, _, [.vec (.slice none 0 0) 0 9 1 []], rfl, .refl _, hw, none, 0, [], (congrArg (fun (z0_ : List (ByteArray)) => (.slice none z0_.length 0 : Value)) e16), (congrArg (fun (z0_ : List (ByteArray)) => ([.vec (.slice none z0_.length 0) z0_.length 9 1 []] : List Res)) e16), (Eq.mp (congrArg (fun z => (kStr).reps R z []) e16) hv14)⟩

theorem sM {α : Type} {L : List (List α)} (i : Nat) : (L.take i).flatten.length ≤ L.flatten.length := by
  have : L.flatten = (L.take i).flatten ++ (L.drop i).flatten := by rw [← List.flatten_append, List.take_append_drop]
  rw [this, List.length_append]; omega
theorem cN {α : Type} {L : List (List α)} {i : Nat} {x : List α} (hx : L[i]? = some x) : (L.take (i + 1)).flatten.length = (L.take i).flatten.length + x.length := by rw [fC hx, List.length_append]
theorem mP {α : Type} {L : List (List α)} {i : Nat} (h : i ≤ L.length) (h2 : ¬ ((i : Int) < (L.length : Int))) : (L.take i).flatten = L.flatten := by rw [xF h h2]

set_option maxRecDepth 20000 in
set_option maxHeartbeats 8000000 in
theorem gS {R : RO} {G : List Res} {w : World} {A_l : Option Addr} {d_l : Nat} (l : List (List (ByteArray))) (hs_l : SlAt kStr.sl R A_l l) (hb : l.flatten.length ≤ 1000) (hw : Own w R (G)) :
    Calls Tryz.prog 100 [.slice A_l l.length d_l].toArray w (hY R G (fun v_ R' L_ => ∃ (A_0 : Option Addr) (c_0 : Nat) (l_0 : List Value), v_ = (.slice A_0 l.flatten.length c_0 : Value) ∧ L_ = ([.vec (.slice A_0 l.flatten.length c_0) l.flatten.length 9 1 l_0] : List Res) ∧ (kStr).reps R' l.flatten l_0)) := by
 have hz_l := hs_l.size
 unfold big at hz_l
 refine xG (vs := [.slice A_l l.length d_l]) Tryz.func100 rfl rfl rfl ?_ hw
 refine qF <| qA ?_
 refine tl (qD rfl) ?_
 refine qB <| qC <| qF <| qA ?_
 refine tl (qD rfl) ?_
 refine qB <| qC <| qF <| qF <| qA ?_
 refine tl (qG rfl) ?_
 refine tl (jM rfl mX) ?_
 refine tl (qG rfl) ?_
 refine qB <| qC <| xB ?_
 refine jL ?_
 refine jS (fun i : Nat => l.length - i) (fun i : Nat => [(0, .slice A_l l.length d_l), (2, .slice none 0 0), (9, .slice A_l l.length d_l), (10, .int .i64 (l.length : Int)), (11, .int .i64 (i : Int)), (3, .int .i64 ((l.take i).flatten.length : Int))]) (fun i : Nat => (G)) (fun (i : Nat) => i ≤ l.length) (0) ⟨rfl, rfl, rfl, rfl, rfl, congrArg (fun z => some (Value.int .i64 z)) (show (0 : Int) = ((l.take 0).flatten.length : Int) by simp), trivial⟩ (by omega) (fun w hw => hw) ?_
 rintro i hI2 ih3
 show TC Tryz.prog _ _ _ [] [(0, .slice A_l l.length d_l), (2, .slice none 0 0), (9, .slice A_l l.length d_l), (10, .int .i64 (l.length : Int)), (11, .int .i64 (i : Int)), (3, .int .i64 ((l.take i).flatten.length : Int))] R (G)
 have hfl1 := sM (L := l) i
 refine qF <| qA ?_
 refine tl (jQ rfl rfl rfl) ?_
 refine qB <| qC <| qF ?_
 refine qR 12 rfl (fun h6 => ?_) (fun h6 => ?_)
 refine xD rfl ?_
 refine xA <| qC <| qF <| xB <| qF <| qA ?_
 have hb12 : i < l.length := by omega
 obtain ⟨x7, hx8⟩ : ∃ x, l[i]? = some x := ⟨_, List.getElem?_eq_getElem hb12⟩
 obtain ⟨c9, hr10, ha11⟩ := hs_l.get _ x7 hx8
 obtain ⟨A13, d14, rfl, hs15⟩ := hr10
 have z16 := hs15.size
 unfold big at z16
 have hf17 := cN hx8
 have hf18 := sM (L := l) (i + 1)
 refine tl (kC (i := i) hs_l rfl rfl rfl mX hb12) ?_
 refine tl (yL 0 ha11 rfl uJ rfl rfl) ?_
 refine tl (qD rfl) ?_
 refine qB <| qC <| qF <| qA ?_
 refine tl (qG rfl) ?_
 refine tl (qG rfl) ?_
 refine tl (jM rfl uE) ?_
 refine tl (kF rfl rfl (by omega) (by omega)) ?_
 refine tl (qD rfl) ?_
 refine qB <| qC <| qF <| qA ?_
 refine tl (qG rfl) ?_
 refine tl (jQ rfl rfl rfl) ?_
 refine qB <| qC ?_
 refine qR 20 rfl (fun h19 => ?_) (fun h19 => ?_)
 refine xD rfl ?_
 exfalso
 omega
 refine xW rfl ?_
 refine xA <| jG <| qC <| qA ?_
 refine tl (kF rfl rfl (by omega) (by omega)) ?_
 refine tl (qG rfl) ?_
 refine qB ?_
 refine xY ?_
 exact fun a w ha hw => ih3.out (i + 1) (by omega) (by (try dsimp only); omega) a w (ha.sub (xS ⟨rfl, rfl, rfl, rfl, rfl, congrArg (fun z => some (Value.int .i64 z)) (show (((l.take i).flatten.length : Int) + (x7.length : Int) : Int) = ((l.take (i + 1)).flatten.length : Int) by omega), trivial⟩)) (hw)
 refine xW rfl ?_
 refine jK <| qL <| qL <| xI <| qC <| qF <| qA ?_
 refine tl (qG rfl) ?_
 refine xE ca106 rfl (fun w hw => pC ((l.take i).flatten.length : Int) (by unfold i64; omega) (by first | assumption | omega) hw) rfl ?_
 rintro _ R21 _ hle22 ⟨A_z20_0, c_z20_0, l_z20_0, rfl, rfl, hv_z20_0⟩
 try replace hs_l := hs_l.mono hle22
 refine tl (qD rfl) ?_
 refine qB <| qC <| qF <| qF <| qA ?_
 refine tl (qG rfl) ?_
 refine tl (jM rfl mX) ?_
 refine tl (qG rfl) ?_
 refine qB <| qC <| xB ?_
 refine jL ?_
 refine jS (fun b_ : Nat × List (ByteArray) × Option Addr × Nat × List Value => match b_ with | (i, u, A_u, c_u, l_u) => l.length - i) (fun b_ : Nat × List (ByteArray) × Option Addr × Nat × List Value => match b_ with | (i, u, A_u, c_u, l_u) => [(2, .slice none 0 0), (25, .slice A_l l.length d_l), (26, .int .i64 (l.length : Int)), (27, .int .i64 (i : Int)), (6, .slice A_u u.length c_u)]) (fun b_ : Nat × List (ByteArray) × Option Addr × Nat × List Value => match b_ with | (i, u, A_u, c_u, l_u) => (.vec (.slice A_u u.length c_u) u.length 9 1 l_u :: G)) (fun (b_ : Nat × List (ByteArray) × Option Addr × Nat × List Value) => match b_ with | (i, u, A_u, c_u, l_u) => (kStr).reps R21 u l_u ∧ (i ≤ l.length ∧ u = (l.take i).flatten)) (0, ([] : List ByteArray), A_z20_0, c_z20_0, l_z20_0) (by repeat' constructor) (by refine ⟨hv_z20_0, ?_⟩; exact ⟨by omega, rfl⟩) (fun w hw => hw) ?_
 rintro ⟨i, u, A_u, c_u, l_u⟩ hI25 ih26
 show TC Tryz.prog _ _ _ [] [(2, .slice none 0 0), (25, .slice A_l l.length d_l), (26, .int .i64 (l.length : Int)), (27, .int .i64 (i : Int)), (6, .slice A_u u.length c_u)] R21 (.vec (.slice A_u u.length c_u) u.length 9 1 l_u :: G)
 obtain ⟨hv24, hI29⟩ := hI25
 obtain ⟨hj1, hj2⟩ := hI29
 have hfl := sM (L := l) i
 rw [← hj2] at hfl
 refine qF <| qA ?_
 refine tl (jQ rfl rfl rfl) ?_
 refine qB <| qC <| qF ?_
 refine qR 28 rfl (fun h30 => ?_) (fun h30 => ?_)
 refine xD rfl ?_
 refine xA <| qC <| qF <| xB <| qF <| qA ?_
 have hb36 : i < l.length := by omega
 obtain ⟨x31, hx32⟩ : ∃ x, l[i]? = some x := ⟨_, List.getElem?_eq_getElem hb36⟩
 obtain ⟨c33, hr34, ha35⟩ := hs_l.get _ x31 hx32
 obtain ⟨A37, d38, rfl, hs39⟩ := hr34
 have z40 := hs39.size
 unfold big at z40
 have hf41 := cN hx32
 have hf42 := sM (L := l) (i + 1)
 refine tl (kC (i := i) hs_l rfl rfl rfl mX hb36) ?_
 refine tl (yL 0 ha35 rfl uJ rfl rfl) ?_
 refine tl (qD rfl) ?_
 refine qB <| qC <| qA ?_
 refine tl (qG rfl) ?_
 refine tl (qG rfl) ?_
 obtain ⟨ds47, rp48, src49⟩ := kZ rU hs39
 refine kI (k := kStr) (m := x31) 0 hv24 (rp48) ap22 rfl rfl rfl (rfl) (src49 _) (by first | omega | (simp only [List.length_append]; omega)) rfl rfl fun A43 c44 l45 hv46 => ?_
 refine tl (qD rfl) ?_
 refine qB <| jG <| qC <| qA ?_
 refine tl (kF rfl rfl (by omega) (by omega)) ?_
 refine tl (qG rfl) ?_
 refine qB ?_
 refine xY ?_
 exact fun a w ha hw => ih26.out (i + 1, (u ++ x31), A43, c44, l45) (by refine ⟨hv46, ?_⟩; exact ⟨by omega, by rw [hj2, fC hx32]⟩) (by (try dsimp only); omega) a w (ha.sub (xS (by repeat' constructor))) (hw)
 refine xW rfl ?_
 refine jK <| qL <| qL <| xI <| qC <| qF <| qA ?_
 refine tl (qG rfl) ?_
 refine tl (qD rfl) ?_
 refine qB <| qC <| qV ?_
 refine xC (.inl rfl) rfl rfl ?_
 have e51 : (u : List (ByteArray)) = l.flatten := by exact hj2.trans (mP (by omega) (by assumption))
 intro w hw
 exact ⟨_, _, [.vec (.slice A_u u.length c_u) u.length 9 1 l_u], rfl, hle22, hw, A_u, c_u, l_u, (congrArg (fun (z0_ : List (ByteArray)) => (.slice A_u z0_.length c_u : Value)) e51), (congrArg (fun (z0_ : List (ByteArray)) => ([.vec (.slice A_u z0_.length c_u) z0_.length 9 1 l_u] : List Res)) e51), (Eq.mp (congrArg (fun z => (kStr).reps R21 z l_u) e51) hv24)⟩

theorem insK_new {κ : Type} [DecidableEq κ] {ks : List κ} {k : κ} (h : ¬ k ∈ ks) : zD ks k = ks ++ [k] := by unfold zD; rw [if_neg h]
theorem fZ (n : Names) : ([n.concepts, n.roles, n.inds] : List (List ByteArray)).flatten = zE n := by simp [zE]
theorem iA {n : Names} {i : Nat} {x : ByteArray} (h : (([n.concepts, n.roles, n.inds] : List (List ByteArray)).flatten)[i]? = some x) : (zE n)[i]? = some x := by rw [← fZ]; exact h
theorem qE2 (n : Names) : (zE n).length = n.concepts.length + n.roles.length + n.inds.length := by simp [zE]; omega
theorem rD {n : Names} {i : Nat} {x : ByteArray} (h : (zE n)[i]? = some x) : zE n = (zE n).take i ++ x :: (zE n).drop (i + 1) := by
  obtain ⟨hi, rfl⟩ := List.getElem?_eq_some_iff.1 h
  rw [← List.drop_eq_getElem_cons hi, List.take_append_drop]

set_option maxRecDepth 20000 in
set_option maxHeartbeats 8000000 in
theorem gT {R : RO} {G : List Res} {w : World} {c_n : List Value} (n : Names) (hr_n : kNames.rep R n c_n) (hG : Glob R) (hw : Own w R (G)) :
    Calls Tryz.prog 80 [.agg c_n.toArray].toArray w (kK R G (.bool (wH n))) := by
 obtain ⟨A1, d2, A5, d6, A9, d10, rfl, hs3, hs7, hs11⟩ := id hr_n
 have z4 := hs3.size
 unfold big at z4
 have z8 := hs7.size
 unfold big at z8
 have z12 := hs11.size
 unfold big at z12
 have hnl := qE2 n
 have h3n := fZ n
 have hcl := congrArg List.length h3n
 refine xG (vs := [.agg #[.slice A1 n.concepts.length d2, .slice A5 n.roles.length d6, .slice A9 n.inds.length d10]]) Tryz.func80 rfl rfl rfl ?_ hw
 refine qF <| qA ?_
 refine qX (l := [.slice A1 n.concepts.length d2, .slice A5 n.roles.length d6, .slice A9 n.inds.length d10]) rfl rfl fun b13 => ?_
 refine tl (qD rfl) ?_
 refine qB <| qC <| qF ?_
 refine kN [(0, .agg #[.slice A1 n.concepts.length d2, .slice A5 n.roles.length d6, .slice A9 n.inds.length d10]), (1, .pointer (some ⟨b13, 0, none⟩)), (2, .bool false), (21, .bool (decide (((16 < (n.concepts.length : Int)) ∨ (6 < (n.roles.length : Int))) ∨ (10 < (n.inds.length : Int)))))] (.blk b13 [.slice A1 n.concepts.length d2, .slice A5 n.roles.length d6, .slice A9 n.inds.length d10] 24 :: G) (fun _ => True) (fun K hK14 hE15 => ?_) ?_
 refine qA ?_
 refine tl (qH 0 rfl bD rfl) ?_
 refine tl (jN 0 rfl uJ rfl rfl) ?_
 refine tl (jM rfl uE) ?_
 refine tl (jQ rfl rfl rfl) ?_
 refine tl (qG rfl) ?_
 refine xR 10 rfl (fun h16 => ?_) (fun h16 => ?_)
 refine qE 10 rfl rfl rfl ?_
 refine qE 10 rfl rfl rfl ?_
 refine qE 10 rfl rfl rfl ?_
 refine qE 10 rfl rfl rfl ?_
 refine tl (qP rfl rfl) ?_
 refine tl (qG rfl) ?_
 refine qE 16 rfl rfl rfl ?_
 refine qE 16 rfl rfl rfl ?_
 refine qE 16 rfl rfl rfl ?_
 refine qE 16 rfl rfl rfl ?_
 refine tl (qP rfl rfl) ?_
 refine qB ?_
 exact xK hK14 (.refl _) (trivial) ⟨rfl, rfl, rfl, show some (Value.bool true) = some (Value.bool (decide (((16 < (n.concepts.length : Int)) ∨ (6 < (n.roles.length : Int))) ∨ (10 < (n.inds.length : Int))))) by first | (simp [h16]; done) | grind | (simp [h16] <;> omega), trivial⟩ (fun w hw => hw)
 refine qJ 10 rfl rfl ?_
 refine tl (qH 1 rfl pG rfl) ?_
 refine qJ 10 rfl rfl ?_
 refine tl (jN 0 rfl uJ rfl rfl) ?_
 refine qJ 10 rfl rfl ?_
 refine tl (jM rfl uE) ?_
 refine qJ 10 rfl rfl ?_
 refine tl (jQ rfl rfl rfl) ?_
 refine tl (qN rfl rfl) ?_
 refine tl (qG rfl) ?_
 refine xR 16 rfl (fun h17 => ?_) (fun h17 => ?_)
 refine qE 16 rfl rfl rfl ?_
 refine qE 16 rfl rfl rfl ?_
 refine qE 16 rfl rfl rfl ?_
 refine qE 16 rfl rfl rfl ?_
 refine tl (qP rfl rfl) ?_
 refine qB ?_
 exact xK hK14 (.refl _) (trivial) ⟨rfl, rfl, rfl, show some (Value.bool true) = some (Value.bool (decide (((16 < (n.concepts.length : Int)) ∨ (6 < (n.roles.length : Int))) ∨ (10 < (n.inds.length : Int))))) by first | (simp [h16, h17]; done) | grind | (simp [h16, h17] <;> omega), trivial⟩ (fun w hw => hw)
 refine qJ 16 rfl rfl ?_
 refine tl (qH 2 rfl dY rfl) ?_
 refine qJ 16 rfl rfl ?_
 refine tl (jN 0 rfl uJ rfl rfl) ?_
 refine qJ 16 rfl rfl ?_
 refine tl (jM rfl uE) ?_
 refine qJ 16 rfl rfl ?_
 refine tl (jQ rfl rfl rfl) ?_
 refine tl (qN rfl rfl) ?_
 refine qB ?_
 exact xK hK14 (.refl _) (trivial) ⟨rfl, rfl, rfl, show some (Value.bool (decide (10 < (n.inds.length : Int)))) = some (Value.bool (decide (((16 < (n.concepts.length : Int)) ∨ (6 < (n.roles.length : Int))) ∨ (10 < (n.inds.length : Int))))) by first | (simp [h16, h17]; done) | grind | (simp [h16, h17] <;> omega), trivial⟩ (fun w hw => hw)
 refine fun R19 hle20 hj18 => jC hle20 ?_
 refine qR 21 rfl (fun h21 => ?_) (fun h21 => ?_)
 refine xD rfl ?_
 refine qF <| qA ?_
 refine tl (qD rfl) ?_
 refine qB <| qC <| qV <| qI ?_
 refine xC (.inl rfl) rfl rfl ?_
 have e22 : (false : Bool) = wH n := by (unfold wH; rw [eq_comm, decide_eq_false_iff_not]; rintro ⟨h_, h2_, h3_, -⟩; omega)
 exact fun w hw => ⟨congrArg Ending.returned (congrArg (fun x0 => Value.bool x0) e22), hw.drop 1⟩
 refine xW rfl ?_
 refine xA <| qC <| qF <| qA ?_
 refine xH keyS rfl fun b23 => ?_
 refine tl (qD rfl) ?_
 refine qB <| qC <| qF <| qF <| qA ?_
 refine tl (qH 0 rfl bD rfl) ?_
 refine tl (jN 1 rfl uJ rfl rfl) ?_
 refine tl (qH 1 rfl pG rfl) ?_
 refine tl (jN 1 rfl uJ rfl rfl) ?_
 refine tl (qH 2 rfl dY rfl) ?_
 refine tl (jN 1 rfl uJ rfl rfl) ?_
 refine jF [.slice A1 n.concepts.length d2, .slice A5 n.roles.length d6, .slice A9 n.inds.length d10] ap115 rfl rfl rfl rfl rfl rfl rfl fun b24 => ?_
 refine zH (k := kStr.sl) (l := ([n.concepts, n.roles, n.inds] : List (List (ByteArray)))) 0 rfl (⟨_, _, rfl, ⟨_, _, rfl, hs3⟩, ⟨_, _, rfl, ⟨_, _, rfl, hs7⟩, ⟨_, _, rfl, ⟨_, _, rfl, hs11⟩, rfl⟩⟩⟩) (by show 3 ≤ big; unfold big; omega) fun R26 hle27 hs25 => ?_
 try replace hG := hG.mono hle27
 have z28 := hs25.size
 unfold big at z28
 refine xE ca100 rfl (fun w hw => gS ([n.concepts, n.roles, n.inds] : List (List (ByteArray))) hs25 (by rw [h3n]; grind) hw) rfl ?_
 rintro _ R30 _ hle31 ⟨A_z29_0, c_z29_0, l_z29_0, rfl, rfl, hv_z29_0⟩
 try replace hG := hG.mono hle31
 have hle32 := hle27.trans hle31
 refine dH (k := kStr) (l := (([n.concepts, n.roles, n.inds] : List (List (ByteArray))).flatten)) 0 rfl hv_z29_0 rfl (by unfold big; rw [h3n]; omega) fun R34 hle35 hs33 => ?_
 try replace hG := hG.mono hle35
 have hle36 := hle32.trans hle35
 have hle37 := hle31.trans hle35
 have z38 := hs33.size
 unfold big at z38
 refine tl (jM rfl uE) ?_
 refine tl (qG rfl) ?_
 refine qB <| qC <| xB ?_
 refine jL ?_
 refine jS (fun b_ : Nat × List ByteArray => match b_ with | (i, seen) => (zE n).length - i) (fun b_ : Nat × List ByteArray => match b_ with | (i, seen) => [(3, .map (some b23)), (30, .slice A_z29_0 ((([n.concepts, n.roles, n.inds] : List (List (ByteArray))).flatten).length) c_z29_0), (31, .int .i64 ((([n.concepts, n.roles, n.inds] : List (List (ByteArray))).flatten).length : Int)), (32, .int .i64 (i : Int))]) (fun b_ : Nat × List ByteArray => match b_ with | (i, seen) => (.set keyS b23 seen :: .blk b13 [.slice A1 n.concepts.length d2, .slice A5 n.roles.length d6, .slice A9 n.inds.length d10] 24 :: G)) (fun (b_ : Nat × List ByteArray) => match b_ with | (i, seen) => i ≤ (zE n).length ∧ seen = (zE n).take i ∧ (∀ s ∈ seen, pQ s = true) ∧ seen.Nodup) (0, ([] : List ByteArray)) ⟨rfl, rfl, rfl, rfl, trivial⟩ (by exact ⟨by omega, rfl, by simp, by simp⟩) (fun w hw => hw) ?_
 rintro ⟨i, seen⟩ hI39 ih40
 show TC Tryz.prog _ _ _ [] [(3, .map (some b23)), (30, .slice A_z29_0 ((([n.concepts, n.roles, n.inds] : List (List (ByteArray))).flatten).length) c_z29_0), (31, .int .i64 ((([n.concepts, n.roles, n.inds] : List (List (ByteArray))).flatten).length : Int)), (32, .int .i64 (i : Int))] R34 (.set keyS b23 seen :: .blk b13 [.slice A1 n.concepts.length d2, .slice A5 n.roles.length d6, .slice A9 n.inds.length d10] 24 :: G)
 obtain ⟨hi1, hi2, hi3, hi4⟩ := hI39
 refine qF <| qA ?_
 refine tl (jQ rfl rfl rfl) ?_
 refine qB <| qC <| qF ?_
 refine qR 33 rfl (fun h43 => ?_) (fun h43 => ?_)
 refine xD rfl ?_
 refine xA <| qC <| qF <| xB <| qF <| qA ?_
 have hb49 : i < (([n.concepts, n.roles, n.inds] : List (List (ByteArray))).flatten).length := by omega
 obtain ⟨x44, hx45⟩ : ∃ x, (([n.concepts, n.roles, n.inds] : List (List (ByteArray))).flatten)[i]? = some x := ⟨_, List.getElem?_eq_getElem hb49⟩
 obtain ⟨c46, hr47, ha48⟩ := hs33.get _ x44 hx45
 obtain ⟨rfl, z50⟩ := hr47
 unfold big at z50
 have hf51 := iA hx45
 refine tl (kC (i := i) hs33 rfl rfl rfl uE hb49) ?_
 refine tl (yL 0 ha48 rfl ld9 rfl rfl) ?_
 refine tl (qD rfl) ?_
 refine qB <| qC <| qF ?_
 refine kN [(3, .map (some b23)), (30, .slice A_z29_0 ((([n.concepts, n.roles, n.inds] : List (List (ByteArray))).flatten).length) c_z29_0), (31, .int .i64 ((([n.concepts, n.roles, n.inds] : List (List (ByteArray))).flatten).length : Int)), (32, .int .i64 (i : Int)), (33, .bool true), (5, .string x44), (43, .bool (decide (((!(pQ x44)) = true) ∨ (x44 ∈ seen))))] (.set keyS b23 seen :: .blk b13 [.slice A1 n.concepts.length d2, .slice A5 n.roles.length d6, .slice A9 n.inds.length d10] 24 :: G) (fun _ => True) (fun K hK52 hE53 => ?_) ?_
 refine qA ?_
 refine tl (qG rfl) ?_
 refine qY ca101 rfl (fun w hw => fY x44 (by first | assumption | (unfold big; omega)) (by first | assumption | omega) hw) rfl ?_
 refine tl (wB rfl) ?_
 refine tl (qG rfl) ?_
 refine kB 39 rfl (fun h54 => ?_) (fun h54 => ?_)
 refine qE 39 rfl rfl rfl ?_
 refine qE 39 rfl rfl rfl ?_
 refine qE 39 rfl rfl rfl ?_
 refine tl (qP rfl rfl) ?_
 refine qB ?_
 exact xK hK52 (.refl _) (trivial) ⟨rfl, rfl, rfl, rfl, rfl, rfl, show some (Value.bool true) = some (Value.bool (decide (((!(pQ x44)) = true) ∨ (x44 ∈ seen)))) by first | (simp [h54]; done) | grind | (simp [h54] <;> omega), trivial⟩ (fun w hw => hw)
 refine qJ 39 rfl rfl ?_
 refine tl (qG rfl) ?_
 refine qJ 39 rfl rfl ?_
 refine tl (qG rfl) ?_
 refine qJ 39 rfl rfl ?_
 refine tl (mF (K := keyS) (ks := seen) (k := x44) 0 mi154 rfl rfl rfl) ?_
 refine tl (qN rfl rfl) ?_
 refine qB ?_
 exact xK hK52 (.refl _) (trivial) ⟨rfl, rfl, rfl, rfl, rfl, rfl, show some (Value.bool (decide (x44 ∈ seen))) = some (Value.bool (decide (((!(pQ x44)) = true) ∨ (x44 ∈ seen)))) by first | (simp [h54]; done) | grind | (simp [h54] <;> omega), trivial⟩ (fun w hw => hw)
 refine fun R56 hle57 hj55 => jC hle57 ?_
 refine qR 43 rfl (fun h58 => ?_) (fun h58 => ?_)
 refine xD rfl ?_
 refine qF <| qA ?_
 refine tl (qD rfl) ?_
 refine qB <| qC <| qV <| qI <| qO <| qI <| qI <| qO <| qI ?_
 refine xC (.inl rfl) rfl rfl ?_
 have e59 : (false : Bool) = wH n := by (symm; refine dZ (rD (iA hx45)) ?_; rw [← hi2]; grind)
 exact fun w hw => ⟨congrArg Ending.returned (congrArg (fun x0 => Value.bool x0) e59), (hw.drop 2).weaken hle36⟩
 refine xW rfl ?_
 refine xA <| qC <| qA ?_
 refine tl (qG rfl) ?_
 refine tl (qG rfl) ?_
 refine wZ (K := keyS) (ks := seen) (k := x44) 0 mi154 rfl rfl rfl ?_
 refine qB <| jG <| qC <| qA ?_
 refine tl (kF rfl rfl (by omega) (by omega)) ?_
 refine tl (qG rfl) ?_
 refine qB ?_
 refine xY ?_
 exact fun a w ha hw => ih40.out (i + 1, (zD seen x44)) (by (have hq_ : pQ x44 = true ∧ ¬ x44 ∈ seen := (by grind); have ht_ := jP (iA hx45); rw [insK_new hq_.2]; exact ⟨by rw [hcl] at *; omega, by rw [hi2, ht_], fun s_ hs_ => by (rw [List.mem_append] at hs_; rcases hs_ with hs_ | hs_; exact hi3 s_ hs_; simp at hs_; subst hs_; exact hq_.1), lD hi4 hq_.2⟩)) (by (try dsimp only); omega) a w (ha.sub (xS ⟨rfl, rfl, rfl, rfl, trivial⟩)) (hw)
 refine xW rfl ?_
 refine jK <| qL <| qL <| xI <| qC <| qF <| qA ?_
 refine tl (qD rfl) ?_
 refine qB <| qC <| qV ?_
 refine xC (.inl rfl) rfl rfl ?_
 have e60 : (true : Bool) = wH n := by ((have e_ := xF (l := zE n) (i := i) (by omega) (by omega)); rw [e_] at hi2; subst hi2; symm; unfold wH; rw [decide_eq_true_eq]; exact ⟨by omega, by omega, by omega, hi3, hi4⟩)
 exact fun w hw => ⟨congrArg Ending.returned (congrArg (fun x0 => Value.bool x0) e60), (hw.drop 2).weaken hle36⟩

end Go.Proofs.YtcbcdlajnmkioaaGreatDoor
