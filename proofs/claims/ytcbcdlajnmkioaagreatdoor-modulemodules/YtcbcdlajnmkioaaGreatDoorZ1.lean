/- A part of the proof of the statement ModuleModules of isagogelaw19: functions walked, and plain laws on what they answer. -/
import Derived.Test.YtcbcdlajnmkioaaGreatDoorY
namespace Go.Proofs.YtcbcdlajnmkioaaGreatDoor
open Go Go.Proofs
set_option linter.unusedSimpArgs false
set_option linter.unusedVariables false
set_option maxRecDepth 20000
set_option maxHeartbeats 8000000
theorem tP : Callable Tryz.prog 55 := ⟨by kernel_rfl⟩
theorem dY : kG Tryz.prog 101 0 = some 0 := by kernel_rfl
theorem qM2 : kG Tryz.prog 101 1 = some 1 := by kernel_rfl
theorem dZ : kG Tryz.prog 101 2 = some 2 := by kernel_rfl
theorem eA : kG Tryz.prog 112 0 = some 0 := by kernel_rfl
theorem tG : kG Tryz.prog 112 1 = some 1 := by kernel_rfl
theorem kP : kR Tryz.prog 101 = some (true, 4) := by kernel_rfl
theorem ld97 : kR Tryz.prog 97 = some (false, 1) := by kernel_rfl

def JOk (f : Nat) (c : Concept) : Prop := ∀ {R : RO} {G : List Res} {w : World} (t : Bool) (a r : List Int) {ba br bh : Nat} {cs : List Value}, Res.set jS ba a ∈ G → Res.set jS br r ∈ G → R.at bh 0 rB → kConcept.rep R c cs → Own w R G →
  Calls Tryz.prog f [.agg #[.iface (jU t) (.agg #[]), .map (some ba), .map (some br), .pointer (some ⟨bh, 0, none⟩)], .agg cs.toArray].toArray w (kK R G (.agg #[.bool (qL ⟨a, r⟩ t c).1, .bool (qL ⟨a, r⟩ t c).2]))
structure OfArgs (c : Concept) : Prop where
  of : ∀ d ∈ c.args, JOk 55 d
theorem vF {a r : List Int} {op n : Int} : yE ⟨a, r⟩ op n = decide ((op = 6 ∨ op = 7) ∧ ¬ n / 2 ∈ r) := rfl
theorem zM {s : Sig} {t : Bool} {l : List Concept} {i : Nat} {x : Concept} (h : l[i]? = some x) : shE (jL s t l) i = (qL s t x).1 ∧ shF (jL s t l) i = (qL s t x).2 := by
  have : (jL s t l)[i]? = some (qL s t x) := by
    induction l generalizing i with
    | nil => simp at h
    | cons y ys ih =>
      cases i with
      | zero => simp at h; subst h; rfl
      | succ i => simpa [jL] using ih (by simpa using h)
  unfold shE shF; rw [this]; exact ⟨rfl, rfl⟩
theorem wf_n {c : Concept} (h : wfC c = true) : 0 ≤ c.n := ((gA c).1 h).1.2

theorem bM {R : RO} {G : List Res} {w : World} (j_t : Bool) (j_a j_r : List Int) {b_j_a b_j_r b_j_h : Nat} {c_c : List Value} (c : Concept) (hm_j_a : Res.set jS b_j_a j_a ∈ G) (hm_j_r : Res.set jS b_j_r j_r ∈ G) (hh_j : R.at b_j_h 0 rB) (hr_c : kConcept.rep R c c_c) (hw_ : wfC c = true) (hop : c.op = 0) (hO : OfArgs c) (hw : Own w R (G)) :
    Calls Tryz.prog 85 [.agg #[.iface (jU j_t) (.agg #[]), .map (some b_j_a), .map (some b_j_r), .pointer (some ⟨b_j_h, 0, none⟩)], .agg c_c.toArray].toArray w (kK R G (.agg #[.bool (qL (Sig.mk j_a j_r) j_t c).1, .bool (qL (Sig.mk j_a j_r) j_t c).2])) := by
 obtain ⟨A1, d2, rfl, i3, i4, hs5⟩ := qM hr_c
 unfold i64 at i3 i4
 have z6 := hs5.size
 unfold big at z6
 have hwf := (gA c).1 hw_
 have har := hwf.1.1
 unfold kI at har
 have hn0 := hwf.1.2
 refine xH (vs := [.agg #[.iface (jU j_t) (.agg #[]), .map (some b_j_a), .map (some b_j_r), .pointer (some ⟨b_j_h, 0, none⟩)], .agg #[.int .i64 c.op, .int .i64 c.n, .slice A1 c.args.length d2]]) Tryz.func85 rfl rfl rfl ?_ hw
 refine qE <| qA ?_
 refine qW (l := [.iface (jU j_t) (.agg #[]), .map (some b_j_a), .map (some b_j_r), .pointer (some ⟨b_j_h, 0, none⟩)]) rfl rfl fun b7 => ?_
 refine qW (l := [.int .i64 c.op, .int .i64 c.n, .slice A1 c.args.length d2]) rfl rfl fun b8 => ?_
 refine qS vB rfl fun b9 => ?_
 refine qB <| qC <| qE <| qE <| qA ?_
 refine tl (qH 1 rfl qM2 rfl) ?_
 refine tl (jM 2 rfl rR rfl rfl) ?_
 refine tl (qH 1 rfl zA rfl) ?_
 refine tl (jM 1 rfl ld3 rfl rfl) ?_
 refine tl (gJ (K := jS) (ks := j_a) (k := c.n) lJ (.tail _ (.tail _ (.tail _ (hm_j_a)))) rfl rfl) ?_
 refine qB <| qC ?_
 refine qP 9 rfl (fun h10 => ?_) (fun h10 => ?_)
 refine xE rfl ?_
 refine qE <| qA ?_
 refine tl (xP [.bool false, .bool false] vB aT rfl rfl) ?_
 refine xN 0 [.bool false, .bool false] rfl rfl jX rfl rfl rfl rfl rfl rfl ?_
 refine qB <| qC <| qV <| qI ?_
 refine kO (cells := [.bool false, .bool false]) 0 (.inl rfl) rfl rfl jX rfl ?_
 have e11 : ((false, false) : Bool × Bool) = qL (Sig.mk j_a j_r) j_t c := by (rw [xO (Sig.mk j_a j_r) j_t c, hop]; show _ = (((!decide (c.n ∈ j_a)) && !j_t, (!decide (c.n ∈ j_a)) && j_t) : Bool × Bool); (first | rfl | (cases j_t <;> grind [vF]) | (rw [Prod.mk.injEq]; constructor <;> cases j_t <;> grind [vF])))
 exact fun w hw => ⟨congrArg (fun (z : Bool × Bool) => Ending.returned (Value.agg #[.bool z.1, .bool z.2])) e11, hw.drop 3⟩
 refine xV rfl ?_
 refine qZ <| qC <| qE ?_
 refine vS R (.blk b9 [.bool false, .bool false] 112 :: .blk b8 [.int .i64 c.op, .int .i64 c.n, .slice A1 c.args.length d2] 37 :: .blk b7 [.iface (jU j_t) (.agg #[]), .map (some b_j_a), .map (some b_j_r), .pointer (some ⟨b_j_h, 0, none⟩)] 101 :: G) 8 mixed ?_
 refine td 0 rfl (by kernel_rfl) (qH 0 rfl dY rfl) (fun w hw => hw) ?_
 refine td 1 rfl (by kernel_rfl) (jM 2 rfl ld97 rfl rfl) (fun w hw => hw) ?_
 refine td 3 rfl (by kernel_rfl) (qH 0 rfl dY rfl) (fun w hw => hw) ?_
 refine td 4 rfl (by kernel_rfl) (jM 2 rfl ld97 rfl rfl) (fun w hw => hw) ?_
 refine td1 2 (by kernel_rfl) rfl ?_
 refine wV (gO (qC5 j_t) (qC4 j_t) rfl rfl) (fun w hw => eO j_t  hw) rfl ?_
 refine qB ?_
 refine qY (fun w hw => hw) ?_
 refine td1 5 (by kernel_rfl) rfl ?_
 refine wV (gO (qC5 j_t) (qC4 j_t) rfl rfl) (fun w hw => eO j_t  hw) rfl ?_
 refine qB ?_
 refine qY (fun w hw => hw) ?_
 refine td 6 rfl (by kernel_rfl) (wJ rfl) (fun w hw => hw) ?_
 refine td 7 rfl (by kernel_rfl) (xP [.bool (!j_t), .bool (!(!j_t))] vB aT rfl rfl) (fun w hw => hw) ?_
 refine td1 8 (by kernel_rfl) rfl ?_
 refine xN 0 [.bool (!j_t), .bool (!(!j_t))] rfl rfl jX rfl rfl rfl rfl rfl rfl ?_
 refine qB ?_
 refine xZ ?_
 refine xK (by kernel_rfl) ?_
 refine qC <| qV ?_
 refine kO (cells := [.bool (!j_t), .bool (!(!j_t))]) 0 (.inl rfl) rfl rfl jX rfl ?_
 have e12 : ((!j_t, !(!j_t)) : Bool × Bool) = qL (Sig.mk j_a j_r) j_t c := by (rw [xO (Sig.mk j_a j_r) j_t c, hop]; show _ = (((!decide (c.n ∈ j_a)) && !j_t, (!decide (c.n ∈ j_a)) && j_t) : Bool × Bool); (first | rfl | (cases j_t <;> grind [vF]) | (rw [Prod.mk.injEq]; constructor <;> cases j_t <;> grind [vF])))
 exact fun w hw => ⟨congrArg (fun (z : Bool × Bool) => Ending.returned (Value.agg #[.bool z.1, .bool z.2])) e12, hw.drop 3⟩

theorem cB {R : RO} {G : List Res} {w : World} (j_t : Bool) (j_a j_r : List Int) {b_j_a b_j_r b_j_h : Nat} {c_c : List Value} (c : Concept) (hm_j_a : Res.set jS b_j_a j_a ∈ G) (hm_j_r : Res.set jS b_j_r j_r ∈ G) (hh_j : R.at b_j_h 0 rB) (hr_c : kConcept.rep R c c_c) (hw_ : wfC c = true) (hop : c.op = 1) (hO : OfArgs c) (hw : Own w R (G)) :
    Calls Tryz.prog 86 [.agg #[.iface (jU j_t) (.agg #[]), .map (some b_j_a), .map (some b_j_r), .pointer (some ⟨b_j_h, 0, none⟩)], .agg c_c.toArray].toArray w (kK R G (.agg #[.bool (qL (Sig.mk j_a j_r) j_t c).1, .bool (qL (Sig.mk j_a j_r) j_t c).2])) := by
 obtain ⟨A1, d2, rfl, i3, i4, hs5⟩ := qM hr_c
 unfold i64 at i3 i4
 have z6 := hs5.size
 unfold big at z6
 have hwf := (gA c).1 hw_
 have har := hwf.1.1
 unfold kI at har
 have hn0 := hwf.1.2
 refine xH (vs := [.agg #[.iface (jU j_t) (.agg #[]), .map (some b_j_a), .map (some b_j_r), .pointer (some ⟨b_j_h, 0, none⟩)], .agg #[.int .i64 c.op, .int .i64 c.n, .slice A1 c.args.length d2]]) Tryz.func86 rfl rfl rfl ?_ hw
 refine qE <| qA ?_
 refine qW (l := [.iface (jU j_t) (.agg #[]), .map (some b_j_a), .map (some b_j_r), .pointer (some ⟨b_j_h, 0, none⟩)]) rfl rfl fun b7 => ?_
 refine qW (l := [.int .i64 c.op, .int .i64 c.n, .slice A1 c.args.length d2]) rfl rfl fun b8 => ?_
 refine qS vB rfl fun b9 => ?_
 refine qB <| qC <| qE <| qA ?_
 refine tl (xP [.bool false, .bool true] vB aT rfl rfl) ?_
 refine xN 0 [.bool false, .bool true] rfl rfl jX rfl rfl rfl rfl rfl rfl ?_
 refine qB <| qC <| qV ?_
 refine kO (cells := [.bool false, .bool true]) 0 (.inl rfl) rfl rfl jX rfl ?_
 have e10 : ((false, true) : Bool × Bool) = qL (Sig.mk j_a j_r) j_t c := by (rw [xO (Sig.mk j_a j_r) j_t c, hop]; show _ = ((false, true) : Bool × Bool); (first | rfl | (cases j_t <;> grind [vF]) | (rw [Prod.mk.injEq]; constructor <;> cases j_t <;> grind [vF])))
 exact fun w hw => ⟨congrArg (fun (z : Bool × Bool) => Ending.returned (Value.agg #[.bool z.1, .bool z.2])) e10, hw.drop 3⟩

theorem cC {R : RO} {G : List Res} {w : World} (j_t : Bool) (j_a j_r : List Int) {b_j_a b_j_r b_j_h : Nat} {c_c : List Value} (c : Concept) (hm_j_a : Res.set jS b_j_a j_a ∈ G) (hm_j_r : Res.set jS b_j_r j_r ∈ G) (hh_j : R.at b_j_h 0 rB) (hr_c : kConcept.rep R c c_c) (hw_ : wfC c = true) (hop : c.op = 2) (hO : OfArgs c) (hw : Own w R (G)) :
    Calls Tryz.prog 87 [.agg #[.iface (jU j_t) (.agg #[]), .map (some b_j_a), .map (some b_j_r), .pointer (some ⟨b_j_h, 0, none⟩)], .agg c_c.toArray].toArray w (kK R G (.agg #[.bool (qL (Sig.mk j_a j_r) j_t c).1, .bool (qL (Sig.mk j_a j_r) j_t c).2])) := by
 obtain ⟨A1, d2, rfl, i3, i4, hs5⟩ := qM hr_c
 unfold i64 at i3 i4
 have z6 := hs5.size
 unfold big at z6
 have hwf := (gA c).1 hw_
 have har := hwf.1.1
 unfold kI at har
 have hn0 := hwf.1.2
 refine xH (vs := [.agg #[.iface (jU j_t) (.agg #[]), .map (some b_j_a), .map (some b_j_r), .pointer (some ⟨b_j_h, 0, none⟩)], .agg #[.int .i64 c.op, .int .i64 c.n, .slice A1 c.args.length d2]]) Tryz.func87 rfl rfl rfl ?_ hw
 refine qE <| qA ?_
 refine qW (l := [.iface (jU j_t) (.agg #[]), .map (some b_j_a), .map (some b_j_r), .pointer (some ⟨b_j_h, 0, none⟩)]) rfl rfl fun b7 => ?_
 refine qW (l := [.int .i64 c.op, .int .i64 c.n, .slice A1 c.args.length d2]) rfl rfl fun b8 => ?_
 refine qS vB rfl fun b9 => ?_
 refine qB <| qC <| qE <| qA ?_
 refine tl (xP [.bool true, .bool false] vB aT rfl rfl) ?_
 refine xN 0 [.bool true, .bool false] rfl rfl jX rfl rfl rfl rfl rfl rfl ?_
 refine qB <| qC <| qV ?_
 refine kO (cells := [.bool true, .bool false]) 0 (.inl rfl) rfl rfl jX rfl ?_
 have e10 : ((true, false) : Bool × Bool) = qL (Sig.mk j_a j_r) j_t c := by (rw [xO (Sig.mk j_a j_r) j_t c, hop]; show _ = ((true, false) : Bool × Bool); (first | rfl | (cases j_t <;> grind [vF]) | (rw [Prod.mk.injEq]; constructor <;> cases j_t <;> grind [vF])))
 exact fun w hw => ⟨congrArg (fun (z : Bool × Bool) => Ending.returned (Value.agg #[.bool z.1, .bool z.2])) e10, hw.drop 3⟩

theorem cD {R : RO} {G : List Res} {w : World} (j_t : Bool) (j_a j_r : List Int) {b_j_a b_j_r b_j_h : Nat} {c_c : List Value} (c : Concept) (hm_j_a : Res.set jS b_j_a j_a ∈ G) (hm_j_r : Res.set jS b_j_r j_r ∈ G) (hh_j : R.at b_j_h 0 rB) (hr_c : kConcept.rep R c c_c) (hw_ : wfC c = true) (hop : c.op = 3) (hO : OfArgs c) (hw : Own w R (G)) :
    Calls Tryz.prog 88 [.agg #[.iface (jU j_t) (.agg #[]), .map (some b_j_a), .map (some b_j_r), .pointer (some ⟨b_j_h, 0, none⟩)], .agg c_c.toArray].toArray w (kK R G (.agg #[.bool (qL (Sig.mk j_a j_r) j_t c).1, .bool (qL (Sig.mk j_a j_r) j_t c).2])) := by
 obtain ⟨A1, d2, rfl, i3, i4, hs5⟩ := qM hr_c
 unfold i64 at i3 i4
 have z6 := hs5.size
 unfold big at z6
 have hwf := (gA c).1 hw_
 have har := hwf.1.1
 unfold kI at har
 have hn0 := hwf.1.2
 have hb12 : 0 < c.args.length := by (rw [hop] at har; simp at har; omega)
 obtain ⟨x7, hx8⟩ : ∃ x, c.args[0]? = some x := ⟨_, List.getElem?_eq_getElem hb12⟩
 obtain ⟨c9, hr10, ha11⟩ := hs5.get _ x7 hx8
 obtain ⟨A13, d14, rfl, i15, i16, hs17⟩ := qM hr10
 unfold i64 at i15 i16
 have z18 := hs17.size
 unfold big at z18
 refine xH (vs := [.agg #[.iface (jU j_t) (.agg #[]), .map (some b_j_a), .map (some b_j_r), .pointer (some ⟨b_j_h, 0, none⟩)], .agg #[.int .i64 c.op, .int .i64 c.n, .slice A1 c.args.length d2]]) Tryz.func88 rfl rfl rfl ?_ hw
 refine qE <| qA ?_
 refine qW (l := [.iface (jU j_t) (.agg #[]), .map (some b_j_a), .map (some b_j_r), .pointer (some ⟨b_j_h, 0, none⟩)]) rfl rfl fun b19 => ?_
 refine qW (l := [.int .i64 c.op, .int .i64 c.n, .slice A1 c.args.length d2]) rfl rfl fun b20 => ?_
 refine qS vB rfl fun b21 => ?_
 refine qB <| qC ?_
 refine aJ (X := Nat) (fun (b22 : Nat) => [(4, .pointer (some ⟨b21, 0, none⟩)), (5, .pointer (some ⟨b22, 0, none⟩))]) (fun (b22 : Nat) => (.blk b22 [.bool ((qL (Sig.mk j_a j_r) j_t x7).1), .bool ((qL (Sig.mk j_a j_r) j_t x7).2)] 112 :: .blk b21 [.bool false, .bool false] 112 :: .blk b20 [.int .i64 c.op, .int .i64 c.n, .slice A1 c.args.length d2] 37 :: .blk b19 [.iface (jU j_t) (.agg #[]), .map (some b_j_a), .map (some b_j_r), .pointer (some ⟨b_j_h, 0, none⟩)] 101 :: G)) (fun (b22 : Nat) (R_ : RO) => True) (fun K hK23 hE24 => ?_) ?_
 refine vS R (.blk b21 [.bool false, .bool false] 112 :: .blk b20 [.int .i64 c.op, .int .i64 c.n, .slice A1 c.args.length d2] 37 :: .blk b19 [.iface (jU j_t) (.agg #[]), .map (some b_j_a), .map (some b_j_r), .pointer (some ⟨b_j_h, 0, none⟩)] 101 :: G) 7 mixed ?_
 refine td 0 rfl (by kernel_rfl) (qQ 2 [.iface (jU j_t) (.agg #[]), .map (some b_j_a), .map (some b_j_r), .pointer (some ⟨b_j_h, 0, none⟩)] rfl kP rfl rfl) (fun w hw => hw) ?_
 refine td 1 rfl (by kernel_rfl) (qH 2 rfl wR rfl) (fun w hw => hw) ?_
 refine td 2 rfl (by kernel_rfl) (jM 1 rfl dH rfl rfl) (fun w hw => hw) ?_
 refine td 3 rfl (by kernel_rfl) (jV (i := 0) hs5 rfl rfl rfl sK hb12) (fun w hw => hw) ?_
 refine td 4 rfl (by kernel_rfl) (jA 0 [.int .i64 x7.op, .int .i64 x7.n, .slice A13 x7.args.length d14] ha11 rfl vU rfl rfl) (fun w hw => hw) ?_
 refine jO [5, 6] (by kernel_rfl) rfl ?_
 refine tds rfl ?_ ?_
 refine xC tP rfl (fun w hw => hO.of _ (List.mem_of_getElem? hx8) j_t j_a j_r (.tail _ (.tail _ (.tail _ (hm_j_a)))) (.tail _ (.tail _ (.tail _ (hm_j_r)))) hh_j hr10 hw) rfl ?_
 refine qB ?_
 refine qY (fun w hw => hw) ?_
 refine td1 6 (by kernel_rfl) rfl ?_
 refine qS vB rfl fun b25 => ?_
 refine qB ?_
 refine qY (fun w hw => hw.drop 1) ?_
 refine td1 7 (by kernel_rfl) rfl ?_
 refine xN 0 [.bool ((qL (Sig.mk j_a j_r) j_t x7).1), .bool ((qL (Sig.mk j_a j_r) j_t x7).2)] rfl rfl jX rfl rfl rfl rfl rfl rfl ?_
 refine qB ?_
 refine xZ ?_
 refine xK (by kernel_rfl) ?_
 exact xR hK23 (b25) (.refl _) (trivial) ⟨rfl, rfl, trivial⟩ (fun w hw => hw)
 refine tds rfl ?_ ?_
 refine qS vB rfl fun b26 => ?_
 refine qB ?_
 refine qY (fun w hw => hw.drop 1) ?_
 refine td1 5 (by kernel_rfl) rfl ?_
 refine xC tP rfl (fun w hw => hO.of _ (List.mem_of_getElem? hx8) j_t j_a j_r (.tail _ (.tail _ (.tail _ (.tail _ (hm_j_a))))) (.tail _ (.tail _ (.tail _ (.tail _ (hm_j_r))))) hh_j hr10 hw) rfl ?_
 refine qB ?_
 refine qY (fun w hw => hw.drop 1) ?_
 refine td1 7 (by kernel_rfl) rfl ?_
 refine xN 0 [.bool ((qL (Sig.mk j_a j_r) j_t x7).1), .bool ((qL (Sig.mk j_a j_r) j_t x7).2)] rfl rfl jX rfl rfl rfl rfl rfl rfl ?_
 refine qB ?_
 refine xZ ?_
 refine xK (by kernel_rfl) ?_
 exact xR hK23 (b26) (.refl _) (trivial) ⟨rfl, rfl, trivial⟩ (fun w hw => hw)
 exact jD
 rintro b22 R28 hle29 hj27
 try replace hh_j := hh_j.mono hle29
 show TC Tryz.prog _ _ _ [] [(4, .pointer (some ⟨b21, 0, none⟩)), (5, .pointer (some ⟨b22, 0, none⟩))] R28 (.blk b22 [.bool ((qL (Sig.mk j_a j_r) j_t x7).1), .bool ((qL (Sig.mk j_a j_r) j_t x7).2)] 112 :: .blk b21 [.bool false, .bool false] 112 :: .blk b20 [.int .i64 c.op, .int .i64 c.n, .slice A1 c.args.length d2] 37 :: .blk b19 [.iface (jU j_t) (.agg #[]), .map (some b_j_a), .map (some b_j_r), .pointer (some ⟨b_j_h, 0, none⟩)] 101 :: G)
 refine qE <| qA ?_
 refine tl (qH 1 rfl tG rfl) ?_
 refine tl (jM 0 rfl ld4 rfl rfl) ?_
 refine tl (qH 0 rfl eA rfl) ?_
 refine tl (jM 0 rfl ld4 rfl rfl) ?_
 refine tl (xP [.bool ((qL (Sig.mk j_a j_r) j_t x7).2), .bool ((qL (Sig.mk j_a j_r) j_t x7).1)] vB aT rfl rfl) ?_
 refine xN 1 [.bool ((qL (Sig.mk j_a j_r) j_t x7).2), .bool ((qL (Sig.mk j_a j_r) j_t x7).1)] rfl rfl jX rfl rfl rfl rfl rfl rfl ?_
 refine qB <| qC <| qV ?_
 refine kO (cells := [.bool ((qL (Sig.mk j_a j_r) j_t x7).2), .bool ((qL (Sig.mk j_a j_r) j_t x7).1)]) 1 (.inl rfl) rfl rfl jX rfl ?_
 have e30 : (((qL (Sig.mk j_a j_r) j_t x7).2, (qL (Sig.mk j_a j_r) j_t x7).1) : Bool × Bool) = qL (Sig.mk j_a j_r) j_t c := by (have p0_ := zM (s := Sig.mk j_a j_r) (t := j_t) hx8; rw [xO (Sig.mk j_a j_r) j_t c, hop]; show _ = ((shF (jL (Sig.mk j_a j_r) j_t c.args) 0, shE (jL (Sig.mk j_a j_r) j_t c.args) 0) : Bool × Bool); rw [p0_.1, p0_.2] <;> (first | rfl | (cases j_t <;> grind [vF]) | (rw [Prod.mk.injEq]; constructor <;> cases j_t <;> grind [vF])))
 exact fun w hw => ⟨congrArg (fun (z : Bool × Bool) => Ending.returned (Value.agg #[.bool z.1, .bool z.2])) e30, (hw.drop 4).weaken hle29⟩

theorem cE {R : RO} {G : List Res} {w : World} (j_t : Bool) (j_a j_r : List Int) {b_j_a b_j_r b_j_h : Nat} {c_c : List Value} (c : Concept) (hm_j_a : Res.set jS b_j_a j_a ∈ G) (hm_j_r : Res.set jS b_j_r j_r ∈ G) (hh_j : R.at b_j_h 0 rB) (hr_c : kConcept.rep R c c_c) (hw_ : wfC c = true) (hop : c.op = 4) (hO : OfArgs c) (hw : Own w R (G)) :
    Calls Tryz.prog 89 [.agg #[.iface (jU j_t) (.agg #[]), .map (some b_j_a), .map (some b_j_r), .pointer (some ⟨b_j_h, 0, none⟩)], .agg c_c.toArray].toArray w (kK R G (.agg #[.bool (qL (Sig.mk j_a j_r) j_t c).1, .bool (qL (Sig.mk j_a j_r) j_t c).2])) := by
 obtain ⟨A1, d2, rfl, i3, i4, hs5⟩ := qM hr_c
 unfold i64 at i3 i4
 have z6 := hs5.size
 unfold big at z6
 have hwf := (gA c).1 hw_
 have har := hwf.1.1
 unfold kI at har
 have hn0 := hwf.1.2
 have hb12 : 0 < c.args.length := by (rw [hop] at har; simp at har; omega)
 obtain ⟨x7, hx8⟩ : ∃ x, c.args[0]? = some x := ⟨_, List.getElem?_eq_getElem hb12⟩
 obtain ⟨c9, hr10, ha11⟩ := hs5.get _ x7 hx8
 obtain ⟨A13, d14, rfl, i15, i16, hs17⟩ := qM hr10
 unfold i64 at i15 i16
 have z18 := hs17.size
 unfold big at z18
 have hb24 : 1 < c.args.length := by (rw [hop] at har; simp at har; omega)
 obtain ⟨x19, hx20⟩ : ∃ x, c.args[1]? = some x := ⟨_, List.getElem?_eq_getElem hb24⟩
 obtain ⟨c21, hr22, ha23⟩ := hs5.get _ x19 hx20
 obtain ⟨A25, d26, rfl, i27, i28, hs29⟩ := qM hr22
 unfold i64 at i27 i28
 have z30 := hs29.size
 unfold big at z30
 refine xH (vs := [.agg #[.iface (jU j_t) (.agg #[]), .map (some b_j_a), .map (some b_j_r), .pointer (some ⟨b_j_h, 0, none⟩)], .agg #[.int .i64 c.op, .int .i64 c.n, .slice A1 c.args.length d2]]) Tryz.func89 rfl rfl rfl ?_ hw
 refine qE <| qA ?_
 refine qW (l := [.iface (jU j_t) (.agg #[]), .map (some b_j_a), .map (some b_j_r), .pointer (some ⟨b_j_h, 0, none⟩)]) rfl rfl fun b31 => ?_
 refine qW (l := [.int .i64 c.op, .int .i64 c.n, .slice A1 c.args.length d2]) rfl rfl fun b32 => ?_
 refine qS vB rfl fun b33 => ?_
 refine qB <| qC ?_
 refine aJ (X := Nat × Nat) (fun (z_ : Nat × Nat) => match z_ with | (b34, b35) => [(4, .pointer (some ⟨b33, 0, none⟩)), (5, .pointer (some ⟨b34, 0, none⟩)), (6, .pointer (some ⟨b35, 0, none⟩))]) (fun (z_ : Nat × Nat) => match z_ with | (b34, b35) => (.blk b35 [.bool ((qL (Sig.mk j_a j_r) j_t x19).1), .bool ((qL (Sig.mk j_a j_r) j_t x19).2)] 112 :: .blk b34 [.bool ((qL (Sig.mk j_a j_r) j_t x7).1), .bool ((qL (Sig.mk j_a j_r) j_t x7).2)] 112 :: .blk b33 [.bool false, .bool false] 112 :: .blk b32 [.int .i64 c.op, .int .i64 c.n, .slice A1 c.args.length d2] 37 :: .blk b31 [.iface (jU j_t) (.agg #[]), .map (some b_j_a), .map (some b_j_r), .pointer (some ⟨b_j_h, 0, none⟩)] 101 :: G)) (fun (z_ : Nat × Nat) (R_ : RO) => match z_ with | (b34, b35) => True) (fun K hK36 hE37 => ?_) ?_
 refine vS R (.blk b33 [.bool false, .bool false] 112 :: .blk b32 [.int .i64 c.op, .int .i64 c.n, .slice A1 c.args.length d2] 37 :: .blk b31 [.iface (jU j_t) (.agg #[]), .map (some b_j_a), .map (some b_j_r), .pointer (some ⟨b_j_h, 0, none⟩)] 101 :: G) 15 mixed ?_
 refine td 0 rfl (by kernel_rfl) (qQ 2 [.iface (jU j_t) (.agg #[]), .map (some b_j_a), .map (some b_j_r), .pointer (some ⟨b_j_h, 0, none⟩)] rfl kP rfl rfl) (fun w hw => hw) ?_
 refine td 1 rfl (by kernel_rfl) (qH 2 rfl wR rfl) (fun w hw => hw) ?_
 refine td 2 rfl (by kernel_rfl) (jM 1 rfl dH rfl rfl) (fun w hw => hw) ?_
 refine td 3 rfl (by kernel_rfl) (jV (i := 0) hs5 rfl rfl rfl sK hb12) (fun w hw => hw) ?_
 refine td 4 rfl (by kernel_rfl) (jA 0 [.int .i64 x7.op, .int .i64 x7.n, .slice A13 x7.args.length d14] ha11 rfl vU rfl rfl) (fun w hw => hw) ?_
 refine td 6 rfl (by kernel_rfl) (qQ 2 [.iface (jU j_t) (.agg #[]), .map (some b_j_a), .map (some b_j_r), .pointer (some ⟨b_j_h, 0, none⟩)] rfl kP rfl rfl) (fun w hw => hw) ?_
 refine td 7 rfl (by kernel_rfl) (qH 2 rfl wR rfl) (fun w hw => hw) ?_
 refine td 8 rfl (by kernel_rfl) (jM 1 rfl dH rfl rfl) (fun w hw => hw) ?_
 refine td 9 rfl (by kernel_rfl) (jV (i := 1) hs5 rfl rfl rfl sK hb24) (fun w hw => hw) ?_
 refine td 10 rfl (by kernel_rfl) (jA 0 [.int .i64 x19.op, .int .i64 x19.n, .slice A25 x19.args.length d26] ha23 rfl vU rfl rfl) (fun w hw => hw) ?_
 refine jO [5, 12, 13] (by kernel_rfl) rfl ?_
 refine tds rfl ?_ ?_
 refine xC tP rfl (fun w hw => hO.of _ (List.mem_of_getElem? hx8) j_t j_a j_r (.tail _ (.tail _ (.tail _ (hm_j_a)))) (.tail _ (.tail _ (.tail _ (hm_j_r)))) hh_j hr10 hw) rfl ?_
 refine qB ?_
 refine qY (fun w hw => hw) ?_
 refine jO [11, 12, 13] (by kernel_rfl) rfl ?_
 refine tds rfl ?_ ?_
 refine xC tP rfl (fun w hw => hO.of _ (List.mem_of_getElem? hx20) j_t j_a j_r (.tail _ (.tail _ (.tail _ (hm_j_a)))) (.tail _ (.tail _ (.tail _ (hm_j_r)))) hh_j hr22 hw) rfl ?_
 refine qB ?_
 refine qY (fun w hw => hw) ?_
 refine jO [12, 13] (by kernel_rfl) rfl ?_
 refine tds rfl ?_ ?_
 refine qS vB rfl fun b38 => ?_
 refine qB ?_
 refine qY (fun w hw => hw.drop 1) ?_
 refine td1 13 (by kernel_rfl) rfl ?_
 refine qS vB rfl fun b39 => ?_
 refine qB ?_
 refine qY (fun w hw => hw.drop 2) ?_
 refine td1 14 (by kernel_rfl) rfl ?_
 refine xN 1 [.bool ((qL (Sig.mk j_a j_r) j_t x7).1), .bool ((qL (Sig.mk j_a j_r) j_t x7).2)] rfl rfl jX rfl rfl rfl rfl rfl rfl ?_
 refine qB ?_
 refine qY (fun w hw => hw.drop 2) ?_
 refine td1 15 (by kernel_rfl) rfl ?_
 refine xN 0 [.bool ((qL (Sig.mk j_a j_r) j_t x19).1), .bool ((qL (Sig.mk j_a j_r) j_t x19).2)] rfl rfl jX rfl rfl rfl rfl rfl rfl ?_
 refine qB ?_
 refine xZ ?_
 refine xK (by kernel_rfl) ?_
 exact xR hK36 (b38, b39) (.refl _) (trivial) ⟨rfl, rfl, rfl, trivial⟩ (fun w hw => hw)
 refine tds rfl ?_ ?_
 refine qS vB rfl fun b40 => ?_
 refine qB ?_
 refine qY (fun w hw => hw.drop 1) ?_
 refine td1 12 (by kernel_rfl) rfl ?_
 refine qS vB rfl fun b41 => ?_
 refine qB ?_
 refine qY (fun w hw => hw.drop 2) ?_
 refine td1 14 (by kernel_rfl) rfl ?_
 refine xN 0 [.bool ((qL (Sig.mk j_a j_r) j_t x7).1), .bool ((qL (Sig.mk j_a j_r) j_t x7).2)] rfl rfl jX rfl rfl rfl rfl rfl rfl ?_
 refine qB ?_
 refine qY (fun w hw => hw.drop 2) ?_
 refine td1 15 (by kernel_rfl) rfl ?_
 refine xN 1 [.bool ((qL (Sig.mk j_a j_r) j_t x19).1), .bool ((qL (Sig.mk j_a j_r) j_t x19).2)] rfl rfl jX rfl rfl rfl rfl rfl rfl ?_
 refine qB ?_
 refine xZ ?_
 refine xK (by kernel_rfl) ?_
 exact xR hK36 (b41, b40) (.refl _) (trivial) ⟨rfl, rfl, rfl, trivial⟩ (fun w hw => (((((hw.pick 4).pick 4).pick 4).pick 3).pick 4))
 exact jD
 refine tds rfl ?_ ?_
 refine qS vB rfl fun b42 => ?_
 refine qB ?_
 refine qY (fun w hw => hw.drop 1) ?_
 refine jO [11, 13] (by kernel_rfl) rfl ?_
 refine tds rfl ?_ ?_
 refine xC tP rfl (fun w hw => hO.of _ (List.mem_of_getElem? hx20) j_t j_a j_r (.tail _ (.tail _ (.tail _ (.tail _ (hm_j_a))))) (.tail _ (.tail _ (.tail _ (.tail _ (hm_j_r))))) hh_j hr22 hw) rfl ?_
 refine qB ?_
 refine qY (fun w hw => hw.drop 1) ?_
 refine td1 13 (by kernel_rfl) rfl ?_
 refine qS vB rfl fun b43 => ?_
 refine qB ?_
 refine qY (fun w hw => hw.drop 2) ?_
 refine td1 14 (by kernel_rfl) rfl ?_
 refine xN 1 [.bool ((qL (Sig.mk j_a j_r) j_t x7).1), .bool ((qL (Sig.mk j_a j_r) j_t x7).2)] rfl rfl jX rfl rfl rfl rfl rfl rfl ?_
 refine qB ?_
 refine qY (fun w hw => hw.drop 2) ?_
 refine td1 15 (by kernel_rfl) rfl ?_
 refine xN 0 [.bool ((qL (Sig.mk j_a j_r) j_t x19).1), .bool ((qL (Sig.mk j_a j_r) j_t x19).2)] rfl rfl jX rfl rfl rfl rfl rfl rfl ?_
 refine qB ?_
 refine xZ ?_
 refine xK (by kernel_rfl) ?_
 exact xR hK36 (b42, b43) (.refl _) (trivial) ⟨rfl, rfl, rfl, trivial⟩ (fun w hw => hw)
 refine tds rfl ?_ ?_
 refine qS vB rfl fun b44 => ?_
 refine qB ?_
 refine qY (fun w hw => hw.drop 2) ?_
 refine td1 11 (by kernel_rfl) rfl ?_
 refine xC tP rfl (fun w hw => hO.of _ (List.mem_of_getElem? hx20) j_t j_a j_r (.tail _ (.tail _ (.tail _ (.tail _ (.tail _ (hm_j_a)))))) (.tail _ (.tail _ (.tail _ (.tail _ (.tail _ (hm_j_r)))))) hh_j hr22 hw) rfl ?_
 refine qB ?_
 refine qY (fun w hw => hw.drop 2) ?_
 refine td1 14 (by kernel_rfl) rfl ?_
 refine xN 1 [.bool ((qL (Sig.mk j_a j_r) j_t x7).1), .bool ((qL (Sig.mk j_a j_r) j_t x7).2)] rfl rfl jX rfl rfl rfl rfl rfl rfl ?_
 refine qB ?_
 refine qY (fun w hw => hw.drop 2) ?_
 refine td1 15 (by kernel_rfl) rfl ?_
 refine xN 0 [.bool ((qL (Sig.mk j_a j_r) j_t x19).1), .bool ((qL (Sig.mk j_a j_r) j_t x19).2)] rfl rfl jX rfl rfl rfl rfl rfl rfl ?_
 refine qB ?_
 refine xZ ?_
 refine xK (by kernel_rfl) ?_
 exact xR hK36 (b42, b44) (.refl _) (trivial) ⟨rfl, rfl, rfl, trivial⟩ (fun w hw => hw)
 exact jD
 refine tds rfl ?_ ?_
 refine qS vB rfl fun b45 => ?_
 refine qB ?_
 refine qY (fun w hw => hw.drop 1) ?_
 refine jO [11, 12] (by kernel_rfl) rfl ?_
 refine tds rfl ?_ ?_
 refine xC tP rfl (fun w hw => hO.of _ (List.mem_of_getElem? hx20) j_t j_a j_r (.tail _ (.tail _ (.tail _ (.tail _ (hm_j_a))))) (.tail _ (.tail _ (.tail _ (.tail _ (hm_j_r))))) hh_j hr22 hw) rfl ?_
 refine qB ?_
 refine qY (fun w hw => hw.drop 1) ?_
 refine td1 12 (by kernel_rfl) rfl ?_
 refine qS vB rfl fun b46 => ?_
 refine qB ?_
 refine qY (fun w hw => hw.drop 2) ?_
 refine td1 14 (by kernel_rfl) rfl ?_
 refine xN 0 [.bool ((qL (Sig.mk j_a j_r) j_t x7).1), .bool ((qL (Sig.mk j_a j_r) j_t x7).2)] rfl rfl jX rfl rfl rfl rfl rfl rfl ?_
 refine qB ?_
 refine qY (fun w hw => hw.drop 2) ?_
 refine td1 15 (by kernel_rfl) rfl ?_
 refine xN 1 [.bool ((qL (Sig.mk j_a j_r) j_t x19).1), .bool ((qL (Sig.mk j_a j_r) j_t x19).2)] rfl rfl jX rfl rfl rfl rfl rfl rfl ?_
 refine qB ?_
 refine xZ ?_
 refine xK (by kernel_rfl) ?_
 exact xR hK36 (b46, b45) (.refl _) (trivial) ⟨rfl, rfl, rfl, trivial⟩ (fun w hw => (((((hw.pick 4).pick 4).pick 4).pick 3).pick 4))
 refine tds rfl ?_ ?_
 refine qS vB rfl fun b47 => ?_
 refine qB ?_
 refine qY (fun w hw => hw.drop 2) ?_
 refine td1 11 (by kernel_rfl) rfl ?_
 refine xC tP rfl (fun w hw => hO.of _ (List.mem_of_getElem? hx20) j_t j_a j_r (.tail _ (.tail _ (.tail _ (.tail _ (.tail _ (hm_j_a)))))) (.tail _ (.tail _ (.tail _ (.tail _ (.tail _ (hm_j_r)))))) hh_j hr22 hw) rfl ?_
 refine qB ?_
 refine qY (fun w hw => hw.drop 2) ?_
 refine td1 14 (by kernel_rfl) rfl ?_
 refine xN 0 [.bool ((qL (Sig.mk j_a j_r) j_t x7).1), .bool ((qL (Sig.mk j_a j_r) j_t x7).2)] rfl rfl jX rfl rfl rfl rfl rfl rfl ?_
 refine qB ?_
 refine qY (fun w hw => hw.drop 2) ?_
 refine td1 15 (by kernel_rfl) rfl ?_
 refine xN 1 [.bool ((qL (Sig.mk j_a j_r) j_t x19).1), .bool ((qL (Sig.mk j_a j_r) j_t x19).2)] rfl rfl jX rfl rfl rfl rfl rfl rfl ?_
 refine qB ?_
 refine xZ ?_
 refine xK (by kernel_rfl) ?_
 exact xR hK36 (b47, b45) (.refl _) (trivial) ⟨rfl, rfl, rfl, trivial⟩ (fun w hw => (((((hw.pick 4).pick 4).pick 4).pick 3).pick 4))
 exact jD
 exact jD
 refine tds rfl ?_ ?_
 refine qS vB rfl fun b48 => ?_
 refine qB ?_
 refine qY (fun w hw => hw.drop 1) ?_
 refine jO [5, 13] (by kernel_rfl) rfl ?_
 refine tds rfl ?_ ?_
 refine xC tP rfl (fun w hw => hO.of _ (List.mem_of_getElem? hx8) j_t j_a j_r (.tail _ (.tail _ (.tail _ (.tail _ (hm_j_a))))) (.tail _ (.tail _ (.tail _ (.tail _ (hm_j_r))))) hh_j hr10 hw) rfl ?_
 refine qB ?_
 refine qY (fun w hw => hw.drop 1) ?_
 refine jO [11, 13] (by kernel_rfl) rfl ?_
 refine tds rfl ?_ ?_
 refine xC tP rfl (fun w hw => hO.of _ (List.mem_of_getElem? hx20) j_t j_a j_r (.tail _ (.tail _ (.tail _ (.tail _ (hm_j_a))))) (.tail _ (.tail _ (.tail _ (.tail _ (hm_j_r))))) hh_j hr22 hw) rfl ?_
 refine qB ?_
 refine qY (fun w hw => hw.drop 1) ?_
 refine td1 13 (by kernel_rfl) rfl ?_
 refine qS vB rfl fun b49 => ?_
 refine qB ?_
 refine qY (fun w hw => hw.drop 2) ?_
 refine td1 14 (by kernel_rfl) rfl ?_
 refine xN 1 [.bool ((qL (Sig.mk j_a j_r) j_t x7).1), .bool ((qL (Sig.mk j_a j_r) j_t x7).2)] rfl rfl jX rfl rfl rfl rfl rfl rfl ?_
 refine qB ?_
 refine qY (fun w hw => hw.drop 2) ?_
 refine td1 15 (by kernel_rfl) rfl ?_
 refine xN 0 [.bool ((qL (Sig.mk j_a j_r) j_t x19).1), .bool ((qL (Sig.mk j_a j_r) j_t x19).2)] rfl rfl jX rfl rfl rfl rfl rfl rfl ?_
 refine qB ?_
 refine xZ ?_
 refine xK (by kernel_rfl) ?_
 exact xR hK36 (b48, b49) (.refl _) (trivial) ⟨rfl, rfl, rfl, trivial⟩ (fun w hw => hw)
 refine tds rfl ?_ ?_
 refine qS vB rfl fun b50 => ?_
 refine qB ?_
 refine qY (fun w hw => hw.drop 2) ?_
 refine td1 11 (by kernel_rfl) rfl ?_
 refine xC tP rfl (fun w hw => hO.of _ (List.mem_of_getElem? hx20) j_t j_a j_r (.tail _ (.tail _ (.tail _ (.tail _ (.tail _ (hm_j_a)))))) (.tail _ (.tail _ (.tail _ (.tail _ (.tail _ (hm_j_r)))))) hh_j hr22 hw) rfl ?_
 refine qB ?_
 refine qY (fun w hw => hw.drop 2) ?_
 refine td1 14 (by kernel_rfl) rfl ?_
 refine xN 1 [.bool ((qL (Sig.mk j_a j_r) j_t x7).1), .bool ((qL (Sig.mk j_a j_r) j_t x7).2)] rfl rfl jX rfl rfl rfl rfl rfl rfl ?_
 refine qB ?_
 refine qY (fun w hw => hw.drop 2) ?_
 refine td1 15 (by kernel_rfl) rfl ?_
 refine xN 0 [.bool ((qL (Sig.mk j_a j_r) j_t x19).1), .bool ((qL (Sig.mk j_a j_r) j_t x19).2)] rfl rfl jX rfl rfl rfl rfl rfl rfl ?_
 refine qB ?_
 refine xZ ?_
 refine xK (by kernel_rfl) ?_
 exact xR hK36 (b48, b50) (.refl _) (trivial) ⟨rfl, rfl, rfl, trivial⟩ (fun w hw => hw)
 exact jD
 refine tds rfl ?_ ?_
 refine qS vB rfl fun b51 => ?_
 refine qB ?_
 refine qY (fun w hw => hw.drop 2) ?_
 refine td1 5 (by kernel_rfl) rfl ?_
 refine xC tP rfl (fun w hw => hO.of _ (List.mem_of_getElem? hx8) j_t j_a j_r (.tail _ (.tail _ (.tail _ (.tail _ (.tail _ (hm_j_a)))))) (.tail _ (.tail _ (.tail _ (.tail _ (.tail _ (hm_j_r)))))) hh_j hr10 hw) rfl ?_
 refine qB ?_
 refine qY (fun w hw => hw.drop 2) ?_
 refine td1 11 (by kernel_rfl) rfl ?_
 refine xC tP rfl (fun w hw => hO.of _ (List.mem_of_getElem? hx20) j_t j_a j_r (.tail _ (.tail _ (.tail _ (.tail _ (.tail _ (hm_j_a)))))) (.tail _ (.tail _ (.tail _ (.tail _ (.tail _ (hm_j_r)))))) hh_j hr22 hw) rfl ?_
 refine qB ?_
 refine qY (fun w hw => hw.drop 2) ?_
 refine td1 14 (by kernel_rfl) rfl ?_
 refine xN 1 [.bool ((qL (Sig.mk j_a j_r) j_t x7).1), .bool ((qL (Sig.mk j_a j_r) j_t x7).2)] rfl rfl jX rfl rfl rfl rfl rfl rfl ?_
 refine qB ?_
 refine qY (fun w hw => hw.drop 2) ?_
 refine td1 15 (by kernel_rfl) rfl ?_
 refine xN 0 [.bool ((qL (Sig.mk j_a j_r) j_t x19).1), .bool ((qL (Sig.mk j_a j_r) j_t x19).2)] rfl rfl jX rfl rfl rfl rfl rfl rfl ?_
 refine qB ?_
 refine xZ ?_
 refine xK (by kernel_rfl) ?_
 exact xR hK36 (b48, b51) (.refl _) (trivial) ⟨rfl, rfl, rfl, trivial⟩ (fun w hw => hw)
 exact jD
 refine tds rfl ?_ ?_
 refine qS vB rfl fun b52 => ?_
 refine qB ?_
 refine qY (fun w hw => hw.drop 1) ?_
 refine jO [5, 12] (by kernel_rfl) rfl ?_
 refine tds rfl ?_ ?_
 refine xC tP rfl (fun w hw => hO.of _ (List.mem_of_getElem? hx8) j_t j_a j_r (.tail _ (.tail _ (.tail _ (.tail _ (hm_j_a))))) (.tail _ (.tail _ (.tail _ (.tail _ (hm_j_r))))) hh_j hr10 hw) rfl ?_
 refine qB ?_
 refine qY (fun w hw => hw.drop 1) ?_
 refine jO [11, 12] (by kernel_rfl) rfl ?_
 refine tds rfl ?_ ?_
 refine xC tP rfl (fun w hw => hO.of _ (List.mem_of_getElem? hx20) j_t j_a j_r (.tail _ (.tail _ (.tail _ (.tail _ (hm_j_a))))) (.tail _ (.tail _ (.tail _ (.tail _ (hm_j_r))))) hh_j hr22 hw) rfl ?_
 refine qB ?_
 refine qY (fun w hw => hw.drop 1) ?_
 refine td1 12 (by kernel_rfl) rfl ?_
 refine qS vB rfl fun b53 => ?_
 refine qB ?_
 refine qY (fun w hw => hw.drop 2) ?_
 refine td1 14 (by kernel_rfl) rfl ?_
 refine xN 0 [.bool ((qL (Sig.mk j_a j_r) j_t x7).1), .bool ((qL (Sig.mk j_a j_r) j_t x7).2)] rfl rfl jX rfl rfl rfl rfl rfl rfl ?_
 refine qB ?_
 refine qY (fun w hw => hw.drop 2) ?_
 refine td1 15 (by kernel_rfl) rfl ?_
 refine xN 1 [.bool ((qL (Sig.mk j_a j_r) j_t x19).1), .bool ((qL (Sig.mk j_a j_r) j_t x19).2)] rfl rfl jX rfl rfl rfl rfl rfl rfl ?_
 refine qB ?_
 refine xZ ?_
 refine xK (by kernel_rfl) ?_
 exact xR hK36 (b53, b52) (.refl _) (trivial) ⟨rfl, rfl, rfl, trivial⟩ (fun w hw => (((((hw.pick 4).pick 4).pick 4).pick 3).pick 4))
 refine tds rfl ?_ ?_
 refine qS vB rfl fun b54 => ?_
 refine qB ?_
 refine qY (fun w hw => hw.drop 2) ?_
 refine td1 11 (by kernel_rfl) rfl ?_
 refine xC tP rfl (fun w hw => hO.of _ (List.mem_of_getElem? hx20) j_t j_a j_r (.tail _ (.tail _ (.tail _ (.tail _ (.tail _ (hm_j_a)))))) (.tail _ (.tail _ (.tail _ (.tail _ (.tail _ (hm_j_r)))))) hh_j hr22 hw) rfl ?_
 refine qB ?_
 refine qY (fun w hw => hw.drop 2) ?_
 refine td1 14 (by kernel_rfl) rfl ?_
 refine xN 0 [.bool ((qL (Sig.mk j_a j_r) j_t x7).1), .bool ((qL (Sig.mk j_a j_r) j_t x7).2)] rfl rfl jX rfl rfl rfl rfl rfl rfl ?_
 refine qB ?_
 refine qY (fun w hw => hw.drop 2) ?_
 refine td1 15 (by kernel_rfl) rfl ?_
 refine xN 1 [.bool ((qL (Sig.mk j_a j_r) j_t x19).1), .bool ((qL (Sig.mk j_a j_r) j_t x19).2)] rfl rfl jX rfl rfl rfl rfl rfl rfl ?_
 refine qB ?_
 refine xZ ?_
 refine xK (by kernel_rfl) ?_
 exact xR hK36 (b54, b52) (.refl _) (trivial) ⟨rfl, rfl, rfl, trivial⟩ (fun w hw => (((((hw.pick 4).pick 4).pick 4).pick 3).pick 4))
 exact jD
 refine tds rfl ?_ ?_
 refine qS vB rfl fun b55 => ?_
 refine qB ?_
 refine qY (fun w hw => hw.drop 2) ?_
 refine td1 5 (by kernel_rfl) rfl ?_
 refine xC tP rfl (fun w hw => hO.of _ (List.mem_of_getElem? hx8) j_t j_a j_r (.tail _ (.tail _ (.tail _ (.tail _ (.tail _ (hm_j_a)))))) (.tail _ (.tail _ (.tail _ (.tail _ (.tail _ (hm_j_r)))))) hh_j hr10 hw) rfl ?_
 refine qB ?_
 refine qY (fun w hw => hw.drop 2) ?_
 refine td1 11 (by kernel_rfl) rfl ?_
 refine xC tP rfl (fun w hw => hO.of _ (List.mem_of_getElem? hx20) j_t j_a j_r (.tail _ (.tail _ (.tail _ (.tail _ (.tail _ (hm_j_a)))))) (.tail _ (.tail _ (.tail _ (.tail _ (.tail _ (hm_j_r)))))) hh_j hr22 hw) rfl ?_
 refine qB ?_
 refine qY (fun w hw => hw.drop 2) ?_
 refine td1 14 (by kernel_rfl) rfl ?_
 refine xN 0 [.bool ((qL (Sig.mk j_a j_r) j_t x7).1), .bool ((qL (Sig.mk j_a j_r) j_t x7).2)] rfl rfl jX rfl rfl rfl rfl rfl rfl ?_
 refine qB ?_
 refine qY (fun w hw => hw.drop 2) ?_
 refine td1 15 (by kernel_rfl) rfl ?_
 refine xN 1 [.bool ((qL (Sig.mk j_a j_r) j_t x19).1), .bool ((qL (Sig.mk j_a j_r) j_t x19).2)] rfl rfl jX rfl rfl rfl rfl rfl rfl ?_
 refine qB ?_
 refine xZ ?_
 refine xK (by kernel_rfl) ?_
 exact xR hK36 (b55, b52) (.refl _) (trivial) ⟨rfl, rfl, rfl, trivial⟩ (fun w hw => (((((hw.pick 4).pick 4).pick 4).pick 3).pick 4))
 exact jD
 exact jD
 rintro ⟨b34, b35⟩ R57 hle58 hj56
 try replace hh_j := hh_j.mono hle58
 show TC Tryz.prog _ _ _ [] [(4, .pointer (some ⟨b33, 0, none⟩)), (5, .pointer (some ⟨b34, 0, none⟩)), (6, .pointer (some ⟨b35, 0, none⟩))] R57 (.blk b35 [.bool ((qL (Sig.mk j_a j_r) j_t x19).1), .bool ((qL (Sig.mk j_a j_r) j_t x19).2)] 112 :: .blk b34 [.bool ((qL (Sig.mk j_a j_r) j_t x7).1), .bool ((qL (Sig.mk j_a j_r) j_t x7).2)] 112 :: .blk b33 [.bool false, .bool false] 112 :: .blk b32 [.int .i64 c.op, .int .i64 c.n, .slice A1 c.args.length d2] 37 :: .blk b31 [.iface (jU j_t) (.agg #[]), .map (some b_j_a), .map (some b_j_r), .pointer (some ⟨b_j_h, 0, none⟩)] 101 :: G)
 refine qE <| qA ?_
 refine tl (qH 0 rfl eA rfl) ?_
 refine tl (jM 1 rfl ld4 rfl rfl) ?_
 refine tl (qG rfl) ?_
 refine kQ 21 rfl (fun h59 => ?_) (fun h59 => ?_)
 refine qF 21 rfl rfl rfl ?_
 refine qF 21 rfl rfl rfl ?_
 refine tl (qR rfl rfl) ?_
 refine tl (qH 1 rfl tG rfl) ?_
 refine tl (jM 1 rfl ld4 rfl rfl) ?_
 refine tl (qG rfl) ?_
 refine kQ 27 rfl (fun h60 => ?_) (fun h60 => ?_)
 refine qJ 27 rfl rfl ?_
 refine tl (qH 1 rfl tG rfl) ?_
 refine qJ 27 rfl rfl ?_
 refine tl (jM 0 rfl ld4 rfl rfl) ?_
 refine tl (qR rfl rfl) ?_
 refine tl (xP [.bool true, .bool ((qL (Sig.mk j_a j_r) j_t x19).2)] vB aT rfl rfl) ?_
 refine xN 2 [.bool true, .bool ((qL (Sig.mk j_a j_r) j_t x19).2)] rfl rfl jX rfl rfl rfl rfl rfl rfl ?_
 refine qB <| qC <| qV ?_
 refine kO (cells := [.bool true, .bool ((qL (Sig.mk j_a j_r) j_t x19).2)]) 2 (.inl rfl) rfl rfl jX rfl ?_
 have e61 : ((true, (qL (Sig.mk j_a j_r) j_t x19).2) : Bool × Bool) = qL (Sig.mk j_a j_r) j_t c := by (have p0_ := zM (s := Sig.mk j_a j_r) (t := j_t) hx8; have p1_ := zM (s := Sig.mk j_a j_r) (t := j_t) hx20; rw [xO (Sig.mk j_a j_r) j_t c, hop]; show _ = ((shE (jL (Sig.mk j_a j_r) j_t c.args) 0 || shE (jL (Sig.mk j_a j_r) j_t c.args) 1, shF (jL (Sig.mk j_a j_r) j_t c.args) 0 && shF (jL (Sig.mk j_a j_r) j_t c.args) 1) : Bool × Bool); rw [p0_.1, p0_.2, p1_.1, p1_.2] <;> (first | rfl | (cases j_t <;> grind [vF]) | (rw [Prod.mk.injEq]; constructor <;> cases j_t <;> grind [vF])))
 exact fun w hw => ⟨congrArg (fun (z : Bool × Bool) => Ending.returned (Value.agg #[.bool z.1, .bool z.2])) e61, (hw.drop 5).weaken hle58⟩
 refine qF 27 rfl rfl rfl ?_
 refine qF 27 rfl rfl rfl ?_
 refine tl (qO rfl rfl) ?_
 refine tl (xP [.bool true, .bool false] vB aT rfl rfl) ?_
 refine xN 2 [.bool true, .bool false] rfl rfl jX rfl rfl rfl rfl rfl rfl ?_
 refine qB <| qC <| qV ?_
 refine kO (cells := [.bool true, .bool false]) 2 (.inl rfl) rfl rfl jX rfl ?_
 have e62 : ((true, false) : Bool × Bool) = qL (Sig.mk j_a j_r) j_t c := by (have p0_ := zM (s := Sig.mk j_a j_r) (t := j_t) hx8; have p1_ := zM (s := Sig.mk j_a j_r) (t := j_t) hx20; rw [xO (Sig.mk j_a j_r) j_t c, hop]; show _ = ((shE (jL (Sig.mk j_a j_r) j_t c.args) 0 || shE (jL (Sig.mk j_a j_r) j_t c.args) 1, shF (jL (Sig.mk j_a j_r) j_t c.args) 0 && shF (jL (Sig.mk j_a j_r) j_t c.args) 1) : Bool × Bool); rw [p0_.1, p0_.2, p1_.1, p1_.2] <;> (first | rfl | (cases j_t <;> grind [vF]) | (rw [Prod.mk.injEq]; constructor <;> cases j_t <;> grind [vF])))
 exact fun w hw => ⟨congrArg (fun (z : Bool × Bool) => Ending.returned (Value.agg #[.bool z.1, .bool z.2])) e62, (hw.drop 5).weaken hle58⟩
 refine qJ 21 rfl rfl ?_
 refine tl (qH 0 rfl eA rfl) ?_
 refine qJ 21 rfl rfl ?_
 refine tl (jM 0 rfl ld4 rfl rfl) ?_
 refine tl (qO rfl rfl) ?_
 refine tl (qH 1 rfl tG rfl) ?_
 refine tl (jM 1 rfl ld4 rfl rfl) ?_
 refine tl (qG rfl) ?_
 refine kQ 27 rfl (fun h63 => ?_) (fun h63 => ?_)
 refine qJ 27 rfl rfl ?_
 refine tl (qH 1 rfl tG rfl) ?_
 refine qJ 27 rfl rfl ?_
 refine tl (jM 0 rfl ld4 rfl rfl) ?_
 refine tl (qR rfl rfl) ?_
 refine tl (xP [.bool ((qL (Sig.mk j_a j_r) j_t x19).1), .bool ((qL (Sig.mk j_a j_r) j_t x19).2)] vB aT rfl rfl) ?_
 refine xN 2 [.bool ((qL (Sig.mk j_a j_r) j_t x19).1), .bool ((qL (Sig.mk j_a j_r) j_t x19).2)] rfl rfl jX rfl rfl rfl rfl rfl rfl ?_
 refine qB <| qC <| qV ?_
 refine kO (cells := [.bool ((qL (Sig.mk j_a j_r) j_t x19).1), .bool ((qL (Sig.mk j_a j_r) j_t x19).2)]) 2 (.inl rfl) rfl rfl jX rfl ?_
 have e64 : (((qL (Sig.mk j_a j_r) j_t x19).1, (qL (Sig.mk j_a j_r) j_t x19).2) : Bool × Bool) = qL (Sig.mk j_a j_r) j_t c := by (have p0_ := zM (s := Sig.mk j_a j_r) (t := j_t) hx8; have p1_ := zM (s := Sig.mk j_a j_r) (t := j_t) hx20; rw [xO (Sig.mk j_a j_r) j_t c, hop]; show _ = ((shE (jL (Sig.mk j_a j_r) j_t c.args) 0 || shE (jL (Sig.mk j_a j_r) j_t c.args) 1, shF (jL (Sig.mk j_a j_r) j_t c.args) 0 && shF (jL (Sig.mk j_a j_r) j_t c.args) 1) : Bool × Bool); rw [p0_.1, p0_.2, p1_.1, p1_.2] <;> (first | rfl | (cases j_t <;> grind [vF]) | (rw [Prod.mk.injEq]; constructor <;> cases j_t <;> grind [vF])))
 exact fun w hw => ⟨congrArg (fun (z : Bool × Bool) => Ending.returned (Value.agg #[.bool z.1, .bool z.2])) e64, (hw.drop 5).weaken hle58⟩
 refine qF 27 rfl rfl rfl ?_
 refine qF 27 rfl rfl rfl ?_
 refine tl (qO rfl rfl) ?_
 refine tl (xP [.bool ((qL (Sig.mk j_a j_r) j_t x19).1), .bool false] vB aT rfl rfl) ?_
 refine xN 2 [.bool ((qL (Sig.mk j_a j_r) j_t x19).1), .bool false] rfl rfl jX rfl rfl rfl rfl rfl rfl ?_
 refine qB <| qC <| qV ?_
 refine kO (cells := [.bool ((qL (Sig.mk j_a j_r) j_t x19).1), .bool false]) 2 (.inl rfl) rfl rfl jX rfl ?_
 have e65 : (((qL (Sig.mk j_a j_r) j_t x19).1, false) : Bool × Bool) = qL (Sig.mk j_a j_r) j_t c := by (have p0_ := zM (s := Sig.mk j_a j_r) (t := j_t) hx8; have p1_ := zM (s := Sig.mk j_a j_r) (t := j_t) hx20; rw [xO (Sig.mk j_a j_r) j_t c, hop]; show _ = ((shE (jL (Sig.mk j_a j_r) j_t c.args) 0 || shE (jL (Sig.mk j_a j_r) j_t c.args) 1, shF (jL (Sig.mk j_a j_r) j_t c.args) 0 && shF (jL (Sig.mk j_a j_r) j_t c.args) 1) : Bool × Bool); rw [p0_.1, p0_.2, p1_.1, p1_.2] <;> (first | rfl | (cases j_t <;> grind [vF]) | (rw [Prod.mk.injEq]; constructor <;> cases j_t <;> grind [vF])))
 exact fun w hw => ⟨congrArg (fun (z : Bool × Bool) => Ending.returned (Value.agg #[.bool z.1, .bool z.2])) e65, (hw.drop 5).weaken hle58⟩

theorem dF {R : RO} {G : List Res} {w : World} (j_t : Bool) (j_a j_r : List Int) {b_j_a b_j_r b_j_h : Nat} {c_c : List Value} (c : Concept) (hm_j_a : Res.set jS b_j_a j_a ∈ G) (hm_j_r : Res.set jS b_j_r j_r ∈ G) (hh_j : R.at b_j_h 0 rB) (hr_c : kConcept.rep R c c_c) (hw_ : wfC c = true) (hop : c.op = 5) (hO : OfArgs c) (hw : Own w R (G)) :
    Calls Tryz.prog 90 [.agg #[.iface (jU j_t) (.agg #[]), .map (some b_j_a), .map (some b_j_r), .pointer (some ⟨b_j_h, 0, none⟩)], .agg c_c.toArray].toArray w (kK R G (.agg #[.bool (qL (Sig.mk j_a j_r) j_t c).1, .bool (qL (Sig.mk j_a j_r) j_t c).2])) := by
 obtain ⟨A1, d2, rfl, i3, i4, hs5⟩ := qM hr_c
 unfold i64 at i3 i4
 have z6 := hs5.size
 unfold big at z6
 have hwf := (gA c).1 hw_
 have har := hwf.1.1
 unfold kI at har
 have hn0 := hwf.1.2
 have hb12 : 0 < c.args.length := by (rw [hop] at har; simp at har; omega)
 obtain ⟨x7, hx8⟩ : ∃ x, c.args[0]? = some x := ⟨_, List.getElem?_eq_getElem hb12⟩
 obtain ⟨c9, hr10, ha11⟩ := hs5.get _ x7 hx8
 obtain ⟨A13, d14, rfl, i15, i16, hs17⟩ := qM hr10
 unfold i64 at i15 i16
 have z18 := hs17.size
 unfold big at z18
 have hb24 : 1 < c.args.length := by (rw [hop] at har; simp at har; omega)
 obtain ⟨x19, hx20⟩ : ∃ x, c.args[1]? = some x := ⟨_, List.getElem?_eq_getElem hb24⟩
 obtain ⟨c21, hr22, ha23⟩ := hs5.get _ x19 hx20
 obtain ⟨A25, d26, rfl, i27, i28, hs29⟩ := qM hr22
 unfold i64 at i27 i28
 have z30 := hs29.size
 unfold big at z30
 refine xH (vs := [.agg #[.iface (jU j_t) (.agg #[]), .map (some b_j_a), .map (some b_j_r), .pointer (some ⟨b_j_h, 0, none⟩)], .agg #[.int .i64 c.op, .int .i64 c.n, .slice A1 c.args.length d2]]) Tryz.func90 rfl rfl rfl ?_ hw
 refine qE <| qA ?_
 refine qW (l := [.iface (jU j_t) (.agg #[]), .map (some b_j_a), .map (some b_j_r), .pointer (some ⟨b_j_h, 0, none⟩)]) rfl rfl fun b31 => ?_
 refine qW (l := [.int .i64 c.op, .int .i64 c.n, .slice A1 c.args.length d2]) rfl rfl fun b32 => ?_
 refine qS vB rfl fun b33 => ?_
 refine qB <| qC ?_
 refine aJ (X := Nat × Nat) (fun (z_ : Nat × Nat) => match z_ with | (b34, b35) => [(4, .pointer (some ⟨b33, 0, none⟩)), (5, .pointer (some ⟨b34, 0, none⟩)), (6, .pointer (some ⟨b35, 0, none⟩))]) (fun (z_ : Nat × Nat) => match z_ with | (b34, b35) => (.blk b35 [.bool ((qL (Sig.mk j_a j_r) j_t x19).1), .bool ((qL (Sig.mk j_a j_r) j_t x19).2)] 112 :: .blk b34 [.bool ((qL (Sig.mk j_a j_r) j_t x7).1), .bool ((qL (Sig.mk j_a j_r) j_t x7).2)] 112 :: .blk b33 [.bool false, .bool false] 112 :: .blk b32 [.int .i64 c.op, .int .i64 c.n, .slice A1 c.args.length d2] 37 :: .blk b31 [.iface (jU j_t) (.agg #[]), .map (some b_j_a), .map (some b_j_r), .pointer (some ⟨b_j_h, 0, none⟩)] 101 :: G)) (fun (z_ : Nat × Nat) (R_ : RO) => match z_ with | (b34, b35) => True) (fun K hK36 hE37 => ?_) ?_
 refine vS R (.blk b33 [.bool false, .bool false] 112 :: .blk b32 [.int .i64 c.op, .int .i64 c.n, .slice A1 c.args.length d2] 37 :: .blk b31 [.iface (jU j_t) (.agg #[]), .map (some b_j_a), .map (some b_j_r), .pointer (some ⟨b_j_h, 0, none⟩)] 101 :: G) 15 mixed ?_
 refine td 0 rfl (by kernel_rfl) (qQ 2 [.iface (jU j_t) (.agg #[]), .map (some b_j_a), .map (some b_j_r), .pointer (some ⟨b_j_h, 0, none⟩)] rfl kP rfl rfl) (fun w hw => hw) ?_
 refine td 1 rfl (by kernel_rfl) (qH 2 rfl wR rfl) (fun w hw => hw) ?_
 refine td 2 rfl (by kernel_rfl) (jM 1 rfl dH rfl rfl) (fun w hw => hw) ?_
 refine td 3 rfl (by kernel_rfl) (jV (i := 0) hs5 rfl rfl rfl sK hb12) (fun w hw => hw) ?_
 refine td 4 rfl (by kernel_rfl) (jA 0 [.int .i64 x7.op, .int .i64 x7.n, .slice A13 x7.args.length d14] ha11 rfl vU rfl rfl) (fun w hw => hw) ?_
 refine td 6 rfl (by kernel_rfl) (qQ 2 [.iface (jU j_t) (.agg #[]), .map (some b_j_a), .map (some b_j_r), .pointer (some ⟨b_j_h, 0, none⟩)] rfl kP rfl rfl) (fun w hw => hw) ?_
 refine td 7 rfl (by kernel_rfl) (qH 2 rfl wR rfl) (fun w hw => hw) ?_
 refine td 8 rfl (by kernel_rfl) (jM 1 rfl dH rfl rfl) (fun w hw => hw) ?_
 refine td 9 rfl (by kernel_rfl) (jV (i := 1) hs5 rfl rfl rfl sK hb24) (fun w hw => hw) ?_
 refine td 10 rfl (by kernel_rfl) (jA 0 [.int .i64 x19.op, .int .i64 x19.n, .slice A25 x19.args.length d26] ha23 rfl vU rfl rfl) (fun w hw => hw) ?_
 refine jO [5, 12, 13] (by kernel_rfl) rfl ?_
 refine tds rfl ?_ ?_
 refine xC tP rfl (fun w hw => hO.of _ (List.mem_of_getElem? hx8) j_t j_a j_r (.tail _ (.tail _ (.tail _ (hm_j_a)))) (.tail _ (.tail _ (.tail _ (hm_j_r)))) hh_j hr10 hw) rfl ?_
 refine qB ?_
 refine qY (fun w hw => hw) ?_
 refine jO [11, 12, 13] (by kernel_rfl) rfl ?_
 refine tds rfl ?_ ?_
 refine xC tP rfl (fun w hw => hO.of _ (List.mem_of_getElem? hx20) j_t j_a j_r (.tail _ (.tail _ (.tail _ (hm_j_a)))) (.tail _ (.tail _ (.tail _ (hm_j_r)))) hh_j hr22 hw) rfl ?_
 refine qB ?_
 refine qY (fun w hw => hw) ?_
 refine jO [12, 13] (by kernel_rfl) rfl ?_
 refine tds rfl ?_ ?_
 refine qS vB rfl fun b38 => ?_
 refine qB ?_
 refine qY (fun w hw => hw.drop 1) ?_
 refine td1 13 (by kernel_rfl) rfl ?_
 refine qS vB rfl fun b39 => ?_
 refine qB ?_
 refine qY (fun w hw => hw.drop 2) ?_
 refine td1 14 (by kernel_rfl) rfl ?_
 refine xN 1 [.bool ((qL (Sig.mk j_a j_r) j_t x7).1), .bool ((qL (Sig.mk j_a j_r) j_t x7).2)] rfl rfl jX rfl rfl rfl rfl rfl rfl ?_
 refine qB ?_
 refine qY (fun w hw => hw.drop 2) ?_
 refine td1 15 (by kernel_rfl) rfl ?_
 refine xN 0 [.bool ((qL (Sig.mk j_a j_r) j_t x19).1), .bool ((qL (Sig.mk j_a j_r) j_t x19).2)] rfl rfl jX rfl rfl rfl rfl rfl rfl ?_
 refine qB ?_
 refine xZ ?_
 refine xK (by kernel_rfl) ?_
 exact xR hK36 (b38, b39) (.refl _) (trivial) ⟨rfl, rfl, rfl, trivial⟩ (fun w hw => hw)
 refine tds rfl ?_ ?_
 refine qS vB rfl fun b40 => ?_
 refine qB ?_
 refine qY (fun w hw => hw.drop 1) ?_
 refine td1 12 (by kernel_rfl) rfl ?_
 refine qS vB rfl fun b41 => ?_
 refine qB ?_
 refine qY (fun w hw => hw.drop 2) ?_
 refine td1 14 (by kernel_rfl) rfl ?_
 refine xN 0 [.bool ((qL (Sig.mk j_a j_r) j_t x7).1), .bool ((qL (Sig.mk j_a j_r) j_t x7).2)] rfl rfl jX rfl rfl rfl rfl rfl rfl ?_
 refine qB ?_
 refine qY (fun w hw => hw.drop 2) ?_
 refine td1 15 (by kernel_rfl) rfl ?_
 refine xN 1 [.bool ((qL (Sig.mk j_a j_r) j_t x19).1), .bool ((qL (Sig.mk j_a j_r) j_t x19).2)] rfl rfl jX rfl rfl rfl rfl rfl rfl ?_
 refine qB ?_
 refine xZ ?_
 refine xK (by kernel_rfl) ?_
 exact xR hK36 (b41, b40) (.refl _) (trivial) ⟨rfl, rfl, rfl, trivial⟩ (fun w hw => (((((hw.pick 4).pick 4).pick 4).pick 3).pick 4))
 exact jD
 refine tds rfl ?_ ?_
 refine qS vB rfl fun b42 => ?_
 refine qB ?_
 refine qY (fun w hw => hw.drop 1) ?_
 refine jO [11, 13] (by kernel_rfl) rfl ?_
 refine tds rfl ?_ ?_
 refine xC tP rfl (fun w hw => hO.of _ (List.mem_of_getElem? hx20) j_t j_a j_r (.tail _ (.tail _ (.tail _ (.tail _ (hm_j_a))))) (.tail _ (.tail _ (.tail _ (.tail _ (hm_j_r))))) hh_j hr22 hw) rfl ?_
 refine qB ?_
 refine qY (fun w hw => hw.drop 1) ?_
 refine td1 13 (by kernel_rfl) rfl ?_
 refine qS vB rfl fun b43 => ?_
 refine qB ?_
 refine qY (fun w hw => hw.drop 2) ?_
 refine td1 14 (by kernel_rfl) rfl ?_
 refine xN 1 [.bool ((qL (Sig.mk j_a j_r) j_t x7).1), .bool ((qL (Sig.mk j_a j_r) j_t x7).2)] rfl rfl jX rfl rfl rfl rfl rfl rfl ?_
 refine qB ?_
 refine qY (fun w hw => hw.drop 2) ?_
 refine td1 15 (by kernel_rfl) rfl ?_
 refine xN 0 [.bool ((qL (Sig.mk j_a j_r) j_t x19).1), .bool ((qL (Sig.mk j_a j_r) j_t x19).2)] rfl rfl jX rfl rfl rfl rfl rfl rfl ?_
 refine qB ?_
 refine xZ ?_
 refine xK (by kernel_rfl) ?_
 exact xR hK36 (b42, b43) (.refl _) (trivial) ⟨rfl, rfl, rfl, trivial⟩ (fun w hw => hw)
 refine tds rfl ?_ ?_
 refine qS vB rfl fun b44 => ?_
 refine qB ?_
 refine qY (fun w hw => hw.drop 2) ?_
 refine td1 11 (by kernel_rfl) rfl ?_
 refine xC tP rfl (fun w hw => hO.of _ (List.mem_of_getElem? hx20) j_t j_a j_r (.tail _ (.tail _ (.tail _ (.tail _ (.tail _ (hm_j_a)))))) (.tail _ (.tail _ (.tail _ (.tail _ (.tail _ (hm_j_r)))))) hh_j hr22 hw) rfl ?_
 refine qB ?_
 refine qY (fun w hw => hw.drop 2) ?_
 refine td1 14 (by kernel_rfl) rfl ?_
 refine xN 1 [.bool ((qL (Sig.mk j_a j_r) j_t x7).1), .bool ((qL (Sig.mk j_a j_r) j_t x7).2)] rfl rfl jX rfl rfl rfl rfl rfl rfl ?_
 refine qB ?_
 refine qY (fun w hw => hw.drop 2) ?_
 refine td1 15 (by kernel_rfl) rfl ?_
 refine xN 0 [.bool ((qL (Sig.mk j_a j_r) j_t x19).1), .bool ((qL (Sig.mk j_a j_r) j_t x19).2)] rfl rfl jX rfl rfl rfl rfl rfl rfl ?_
 refine qB ?_
 refine xZ ?_
 refine xK (by kernel_rfl) ?_
 exact xR hK36 (b42, b44) (.refl _) (trivial) ⟨rfl, rfl, rfl, trivial⟩ (fun w hw => hw)
 exact jD
 refine tds rfl ?_ ?_
 refine qS vB rfl fun b45 => ?_
 refine qB ?_
 refine qY (fun w hw => hw.drop 1) ?_
 refine jO [11, 12] (by kernel_rfl) rfl ?_
 refine tds rfl ?_ ?_
 refine xC tP rfl (fun w hw => hO.of _ (List.mem_of_getElem? hx20) j_t j_a j_r (.tail _ (.tail _ (.tail _ (.tail _ (hm_j_a))))) (.tail _ (.tail _ (.tail _ (.tail _ (hm_j_r))))) hh_j hr22 hw) rfl ?_
 refine qB ?_
 refine qY (fun w hw => hw.drop 1) ?_
 refine td1 12 (by kernel_rfl) rfl ?_
 refine qS vB rfl fun b46 => ?_
 refine qB ?_
 refine qY (fun w hw => hw.drop 2) ?_
 refine td1 14 (by kernel_rfl) rfl ?_
 refine xN 0 [.bool ((qL (Sig.mk j_a j_r) j_t x7).1), .bool ((qL (Sig.mk j_a j_r) j_t x7).2)] rfl rfl jX rfl rfl rfl rfl rfl rfl ?_
 refine qB ?_
 refine qY (fun w hw => hw.drop 2) ?_
 refine td1 15 (by kernel_rfl) rfl ?_
 refine xN 1 [.bool ((qL (Sig.mk j_a j_r) j_t x19).1), .bool ((qL (Sig.mk j_a j_r) j_t x19).2)] rfl rfl jX rfl rfl rfl rfl rfl rfl ?_
 refine qB ?_
 refine xZ ?_
 refine xK (by kernel_rfl) ?_
 exact xR hK36 (b46, b45) (.refl _) (trivial) ⟨rfl, rfl, rfl, trivial⟩ (fun w hw => (((((hw.pick 4).pick 4).pick 4).pick 3).pick 4))
 refine tds rfl ?_ ?_
 refine qS vB rfl fun b47 => ?_
 refine qB ?_
 refine qY (fun w hw => hw.drop 2) ?_
 refine td1 11 (by kernel_rfl) rfl ?_
 refine xC tP rfl (fun w hw => hO.of _ (List.mem_of_getElem? hx20) j_t j_a j_r (.tail _ (.tail _ (.tail _ (.tail _ (.tail _ (hm_j_a)))))) (.tail _ (.tail _ (.tail _ (.tail _ (.tail _ (hm_j_r)))))) hh_j hr22 hw) rfl ?_
 refine qB ?_
 refine qY (fun w hw => hw.drop 2) ?_
 refine td1 14 (by kernel_rfl) rfl ?_
 refine xN 0 [.bool ((qL (Sig.mk j_a j_r) j_t x7).1), .bool ((qL (Sig.mk j_a j_r) j_t x7).2)] rfl rfl jX rfl rfl rfl rfl rfl rfl ?_
 refine qB ?_
 refine qY (fun w hw => hw.drop 2) ?_
 refine td1 15 (by kernel_rfl) rfl ?_
 refine xN 1 [.bool ((qL (Sig.mk j_a j_r) j_t x19).1), .bool ((qL (Sig.mk j_a j_r) j_t x19).2)] rfl rfl jX rfl rfl rfl rfl rfl rfl ?_
 refine qB ?_
 refine xZ ?_
 refine xK (by kernel_rfl) ?_
 exact xR hK36 (b47, b45) (.refl _) (trivial) ⟨rfl, rfl, rfl, trivial⟩ (fun w hw => (((((hw.pick 4).pick 4).pick 4).pick 3).pick 4))
 exact jD
 exact jD
 refine tds rfl ?_ ?_
 refine qS vB rfl fun b48 => ?_
 refine qB ?_
 refine qY (fun w hw => hw.drop 1) ?_
 refine jO [5, 13] (by kernel_rfl) rfl ?_
 refine tds rfl ?_ ?_
 refine xC tP rfl (fun w hw => hO.of _ (List.mem_of_getElem? hx8) j_t j_a j_r (.tail _ (.tail _ (.tail _ (.tail _ (hm_j_a))))) (.tail _ (.tail _ (.tail _ (.tail _ (hm_j_r))))) hh_j hr10 hw) rfl ?_
 refine qB ?_
 refine qY (fun w hw => hw.drop 1) ?_
 refine jO [11, 13] (by kernel_rfl) rfl ?_
 refine tds rfl ?_ ?_
 refine xC tP rfl (fun w hw => hO.of _ (List.mem_of_getElem? hx20) j_t j_a j_r (.tail _ (.tail _ (.tail _ (.tail _ (hm_j_a))))) (.tail _ (.tail _ (.tail _ (.tail _ (hm_j_r))))) hh_j hr22 hw) rfl ?_
 refine qB ?_
 refine qY (fun w hw => hw.drop 1) ?_
 refine td1 13 (by kernel_rfl) rfl ?_
 refine qS vB rfl fun b49 => ?_
 refine qB ?_
 refine qY (fun w hw => hw.drop 2) ?_
 refine td1 14 (by kernel_rfl) rfl ?_
 refine xN 1 [.bool ((qL (Sig.mk j_a j_r) j_t x7).1), .bool ((qL (Sig.mk j_a j_r) j_t x7).2)] rfl rfl jX rfl rfl rfl rfl rfl rfl ?_
 refine qB ?_
 refine qY (fun w hw => hw.drop 2) ?_
 refine td1 15 (by kernel_rfl) rfl ?_
 refine xN 0 [.bool ((qL (Sig.mk j_a j_r) j_t x19).1), .bool ((qL (Sig.mk j_a j_r) j_t x19).2)] rfl rfl jX rfl rfl rfl rfl rfl rfl ?_
 refine qB ?_
 refine xZ ?_
 refine xK (by kernel_rfl) ?_
 exact xR hK36 (b48, b49) (.refl _) (trivial) ⟨rfl, rfl, rfl, trivial⟩ (fun w hw => hw)
 refine tds rfl ?_ ?_
 refine qS vB rfl fun b50 => ?_
 refine qB ?_
 refine qY (fun w hw => hw.drop 2) ?_
 refine td1 11 (by kernel_rfl) rfl ?_
 refine xC tP rfl (fun w hw => hO.of _ (List.mem_of_getElem? hx20) j_t j_a j_r (.tail _ (.tail _ (.tail _ (.tail _ (.tail _ (hm_j_a)))))) (.tail _ (.tail _ (.tail _ (.tail _ (.tail _ (hm_j_r)))))) hh_j hr22 hw) rfl ?_
 refine qB ?_
 refine qY (fun w hw => hw.drop 2) ?_
 refine td1 14 (by kernel_rfl) rfl ?_
 refine xN 1 [.bool ((qL (Sig.mk j_a j_r) j_t x7).1), .bool ((qL (Sig.mk j_a j_r) j_t x7).2)] rfl rfl jX rfl rfl rfl rfl rfl rfl ?_
 refine qB ?_
 refine qY (fun w hw => hw.drop 2) ?_
 refine td1 15 (by kernel_rfl) rfl ?_
 refine xN 0 [.bool ((qL (Sig.mk j_a j_r) j_t x19).1), .bool ((qL (Sig.mk j_a j_r) j_t x19).2)] rfl rfl jX rfl rfl rfl rfl rfl rfl ?_
 refine qB ?_
 refine xZ ?_
 refine xK (by kernel_rfl) ?_
 exact xR hK36 (b48, b50) (.refl _) (trivial) ⟨rfl, rfl, rfl, trivial⟩ (fun w hw => hw)
 exact jD
 refine tds rfl ?_ ?_
 refine qS vB rfl fun b51 => ?_
 refine qB ?_
 refine qY (fun w hw => hw.drop 2) ?_
 refine td1 5 (by kernel_rfl) rfl ?_
 refine xC tP rfl (fun w hw => hO.of _ (List.mem_of_getElem? hx8) j_t j_a j_r (.tail _ (.tail _ (.tail _ (.tail _ (.tail _ (hm_j_a)))))) (.tail _ (.tail _ (.tail _ (.tail _ (.tail _ (hm_j_r)))))) hh_j hr10 hw) rfl ?_
 refine qB ?_
 refine qY (fun w hw => hw.drop 2) ?_
 refine td1 11 (by kernel_rfl) rfl ?_
 refine xC tP rfl (fun w hw => hO.of _ (List.mem_of_getElem? hx20) j_t j_a j_r (.tail _ (.tail _ (.tail _ (.tail _ (.tail _ (hm_j_a)))))) (.tail _ (.tail _ (.tail _ (.tail _ (.tail _ (hm_j_r)))))) hh_j hr22 hw) rfl ?_
 refine qB ?_
 refine qY (fun w hw => hw.drop 2) ?_
 refine td1 14 (by kernel_rfl) rfl ?_
 refine xN 1 [.bool ((qL (Sig.mk j_a j_r) j_t x7).1), .bool ((qL (Sig.mk j_a j_r) j_t x7).2)] rfl rfl jX rfl rfl rfl rfl rfl rfl ?_
 refine qB ?_
 refine qY (fun w hw => hw.drop 2) ?_
 refine td1 15 (by kernel_rfl) rfl ?_
 refine xN 0 [.bool ((qL (Sig.mk j_a j_r) j_t x19).1), .bool ((qL (Sig.mk j_a j_r) j_t x19).2)] rfl rfl jX rfl rfl rfl rfl rfl rfl ?_
 refine qB ?_
 refine xZ ?_
 refine xK (by kernel_rfl) ?_
 exact xR hK36 (b48, b51) (.refl _) (trivial) ⟨rfl, rfl, rfl, trivial⟩ (fun w hw => hw)
 exact jD
 refine tds rfl ?_ ?_
 refine qS vB rfl fun b52 => ?_
 refine qB ?_
 refine qY (fun w hw => hw.drop 1) ?_
 refine jO [5, 12] (by kernel_rfl) rfl ?_
 refine tds rfl ?_ ?_
 refine xC tP rfl (fun w hw => hO.of _ (List.mem_of_getElem? hx8) j_t j_a j_r (.tail _ (.tail _ (.tail _ (.tail _ (hm_j_a))))) (.tail _ (.tail _ (.tail _ (.tail _ (hm_j_r))))) hh_j hr10 hw) rfl ?_
 refine qB ?_
 refine qY (fun w hw => hw.drop 1) ?_
 refine jO [11, 12] (by kernel_rfl) rfl ?_
 refine tds rfl ?_ ?_
 refine xC tP rfl (fun w hw => hO.of _ (List.mem_of_getElem? hx20) j_t j_a j_r (.tail _ (.tail _ (.tail _ (.tail _ (hm_j_a))))) (.tail _ (.tail _ (.tail _ (.tail _ (hm_j_r))))) hh_j hr22 hw) rfl ?_
 refine qB ?_
 refine qY (fun w hw => hw.drop 1) ?_
 refine td1 12 (by kernel_rfl) rfl ?_
 refine qS vB rfl fun b53 => ?_
 refine qB ?_
 refine qY (fun w hw => hw.drop 2) ?_
 refine td1 14 (by kernel_rfl) rfl ?_
 refine xN 0 [.bool ((qL (Sig.mk j_a j_r) j_t x7).1), .bool ((qL (Sig.mk j_a j_r) j_t x7).2)] rfl rfl jX rfl rfl rfl rfl rfl rfl ?_
 refine qB ?_
 refine qY (fun w hw => hw.drop 2) ?_
 refine td1 15 (by kernel_rfl) rfl ?_
 refine xN 1 [.bool ((qL (Sig.mk j_a j_r) j_t x19).1), .bool ((qL (Sig.mk j_a j_r) j_t x19).2)] rfl rfl jX rfl rfl rfl rfl rfl rfl ?_
 refine qB ?_
 refine xZ ?_
 refine xK (by kernel_rfl) ?_
 exact xR hK36 (b53, b52) (.refl _) (trivial) ⟨rfl, rfl, rfl, trivial⟩ (fun w hw => (((((hw.pick 4).pick 4).pick 4).pick 3).pick 4))
 refine tds rfl ?_ ?_
 refine qS vB rfl fun b54 => ?_
 refine qB ?_
 refine qY (fun w hw => hw.drop 2) ?_
 refine td1 11 (by kernel_rfl) rfl ?_
 refine xC tP rfl (fun w hw => hO.of _ (List.mem_of_getElem? hx20) j_t j_a j_r (.tail _ (.tail _ (.tail _ (.tail _ (.tail _ (hm_j_a)))))) (.tail _ (.tail _ (.tail _ (.tail _ (.tail _ (hm_j_r)))))) hh_j hr22 hw) rfl ?_
 refine qB ?_
 refine qY (fun w hw => hw.drop 2) ?_
 refine td1 14 (by kernel_rfl) rfl ?_
 refine xN 0 [.bool ((qL (Sig.mk j_a j_r) j_t x7).1), .bool ((qL (Sig.mk j_a j_r) j_t x7).2)] rfl rfl jX rfl rfl rfl rfl rfl rfl ?_
 refine qB ?_
 refine qY (fun w hw => hw.drop 2) ?_
 refine td1 15 (by kernel_rfl) rfl ?_
 refine xN 1 [.bool ((qL (Sig.mk j_a j_r) j_t x19).1), .bool ((qL (Sig.mk j_a j_r) j_t x19).2)] rfl rfl jX rfl rfl rfl rfl rfl rfl ?_
 refine qB ?_
 refine xZ ?_
 refine xK (by kernel_rfl) ?_
 exact xR hK36 (b54, b52) (.refl _) (trivial) ⟨rfl, rfl, rfl, trivial⟩ (fun w hw => (((((hw.pick 4).pick 4).pick 4).pick 3).pick 4))
 exact jD
 refine tds rfl ?_ ?_
 refine qS vB rfl fun b55 => ?_
 refine qB ?_
 refine qY (fun w hw => hw.drop 2) ?_
 refine td1 5 (by kernel_rfl) rfl ?_
 refine xC tP rfl (fun w hw => hO.of _ (List.mem_of_getElem? hx8) j_t j_a j_r (.tail _ (.tail _ (.tail _ (.tail _ (.tail _ (hm_j_a)))))) (.tail _ (.tail _ (.tail _ (.tail _ (.tail _ (hm_j_r)))))) hh_j hr10 hw) rfl ?_
 refine qB ?_
 refine qY (fun w hw => hw.drop 2) ?_
 refine td1 11 (by kernel_rfl) rfl ?_
 refine xC tP rfl (fun w hw => hO.of _ (List.mem_of_getElem? hx20) j_t j_a j_r (.tail _ (.tail _ (.tail _ (.tail _ (.tail _ (hm_j_a)))))) (.tail _ (.tail _ (.tail _ (.tail _ (.tail _ (hm_j_r)))))) hh_j hr22 hw) rfl ?_
 refine qB ?_
 refine qY (fun w hw => hw.drop 2) ?_
 refine td1 14 (by kernel_rfl) rfl ?_
 refine xN 0 [.bool ((qL (Sig.mk j_a j_r) j_t x7).1), .bool ((qL (Sig.mk j_a j_r) j_t x7).2)] rfl rfl jX rfl rfl rfl rfl rfl rfl ?_
 refine qB ?_
 refine qY (fun w hw => hw.drop 2) ?_
 refine td1 15 (by kernel_rfl) rfl ?_
 refine xN 1 [.bool ((qL (Sig.mk j_a j_r) j_t x19).1), .bool ((qL (Sig.mk j_a j_r) j_t x19).2)] rfl rfl jX rfl rfl rfl rfl rfl rfl ?_
 refine qB ?_
 refine xZ ?_
 refine xK (by kernel_rfl) ?_
 exact xR hK36 (b55, b52) (.refl _) (trivial) ⟨rfl, rfl, rfl, trivial⟩ (fun w hw => (((((hw.pick 4).pick 4).pick 4).pick 3).pick 4))
 exact jD
 exact jD
 rintro ⟨b34, b35⟩ R57 hle58 hj56
 try replace hh_j := hh_j.mono hle58
 show TC Tryz.prog _ _ _ [] [(4, .pointer (some ⟨b33, 0, none⟩)), (5, .pointer (some ⟨b34, 0, none⟩)), (6, .pointer (some ⟨b35, 0, none⟩))] R57 (.blk b35 [.bool ((qL (Sig.mk j_a j_r) j_t x19).1), .bool ((qL (Sig.mk j_a j_r) j_t x19).2)] 112 :: .blk b34 [.bool ((qL (Sig.mk j_a j_r) j_t x7).1), .bool ((qL (Sig.mk j_a j_r) j_t x7).2)] 112 :: .blk b33 [.bool false, .bool false] 112 :: .blk b32 [.int .i64 c.op, .int .i64 c.n, .slice A1 c.args.length d2] 37 :: .blk b31 [.iface (jU j_t) (.agg #[]), .map (some b_j_a), .map (some b_j_r), .pointer (some ⟨b_j_h, 0, none⟩)] 101 :: G)
 refine qE <| qA ?_
 refine tl (qH 0 rfl eA rfl) ?_
 refine tl (jM 1 rfl ld4 rfl rfl) ?_
 refine tl (qG rfl) ?_
 refine kQ 21 rfl (fun h59 => ?_) (fun h59 => ?_)
 refine qJ 21 rfl rfl ?_
 refine tl (qH 0 rfl eA rfl) ?_
 refine qJ 21 rfl rfl ?_
 refine tl (jM 0 rfl ld4 rfl rfl) ?_
 refine tl (qR rfl rfl) ?_
 refine tl (qH 1 rfl tG rfl) ?_
 refine tl (jM 1 rfl ld4 rfl rfl) ?_
 refine tl (qG rfl) ?_
 refine kQ 27 rfl (fun h60 => ?_) (fun h60 => ?_)
 refine qF 27 rfl rfl rfl ?_
 refine qF 27 rfl rfl rfl ?_
 refine tl (qR rfl rfl) ?_
 refine tl (xP [.bool ((qL (Sig.mk j_a j_r) j_t x19).1), .bool true] vB aT rfl rfl) ?_
 refine xN 2 [.bool ((qL (Sig.mk j_a j_r) j_t x19).1), .bool true] rfl rfl jX rfl rfl rfl rfl rfl rfl ?_
 refine qB <| qC <| qV ?_
 refine kO (cells := [.bool ((qL (Sig.mk j_a j_r) j_t x19).1), .bool true]) 2 (.inl rfl) rfl rfl jX rfl ?_
 have e61 : (((qL (Sig.mk j_a j_r) j_t x19).1, true) : Bool × Bool) = qL (Sig.mk j_a j_r) j_t c := by (have p0_ := zM (s := Sig.mk j_a j_r) (t := j_t) hx8; have p1_ := zM (s := Sig.mk j_a j_r) (t := j_t) hx20; rw [xO (Sig.mk j_a j_r) j_t c, hop]; show _ = ((shE (jL (Sig.mk j_a j_r) j_t c.args) 0 && shE (jL (Sig.mk j_a j_r) j_t c.args) 1, shF (jL (Sig.mk j_a j_r) j_t c.args) 0 || shF (jL (Sig.mk j_a j_r) j_t c.args) 1) : Bool × Bool); rw [p0_.1, p0_.2, p1_.1, p1_.2] <;> (first | rfl | (cases j_t <;> grind [vF]) | (rw [Prod.mk.injEq]; constructor <;> cases j_t <;> grind [vF])))
 exact fun w hw => ⟨congrArg (fun (z : Bool × Bool) => Ending.returned (Value.agg #[.bool z.1, .bool z.2])) e61, (hw.drop 5).weaken hle58⟩
 refine qJ 27 rfl rfl ?_
 refine tl (qH 1 rfl tG rfl) ?_
 refine qJ 27 rfl rfl ?_
 refine tl (jM 0 rfl ld4 rfl rfl) ?_
 refine tl (qO rfl rfl) ?_
 refine tl (xP [.bool ((qL (Sig.mk j_a j_r) j_t x19).1), .bool ((qL (Sig.mk j_a j_r) j_t x19).2)] vB aT rfl rfl) ?_
 refine xN 2 [.bool ((qL (Sig.mk j_a j_r) j_t x19).1), .bool ((qL (Sig.mk j_a j_r) j_t x19).2)] rfl rfl jX rfl rfl rfl rfl rfl rfl ?_
 refine qB <| qC <| qV ?_
 refine kO (cells := [.bool ((qL (Sig.mk j_a j_r) j_t x19).1), .bool ((qL (Sig.mk j_a j_r) j_t x19).2)]) 2 (.inl rfl) rfl rfl jX rfl ?_
 have e62 : (((qL (Sig.mk j_a j_r) j_t x19).1, (qL (Sig.mk j_a j_r) j_t x19).2) : Bool × Bool) = qL (Sig.mk j_a j_r) j_t c := by (have p0_ := zM (s := Sig.mk j_a j_r) (t := j_t) hx8; have p1_ := zM (s := Sig.mk j_a j_r) (t := j_t) hx20; rw [xO (Sig.mk j_a j_r) j_t c, hop]; show _ = ((shE (jL (Sig.mk j_a j_r) j_t c.args) 0 && shE (jL (Sig.mk j_a j_r) j_t c.args) 1, shF (jL (Sig.mk j_a j_r) j_t c.args) 0 || shF (jL (Sig.mk j_a j_r) j_t c.args) 1) : Bool × Bool); rw [p0_.1, p0_.2, p1_.1, p1_.2] <;> (first | rfl | (cases j_t <;> grind [vF]) | (rw [Prod.mk.injEq]; constructor <;> cases j_t <;> grind [vF])))
 exact fun w hw => ⟨congrArg (fun (z : Bool × Bool) => Ending.returned (Value.agg #[.bool z.1, .bool z.2])) e62, (hw.drop 5).weaken hle58⟩
 refine qF 21 rfl rfl rfl ?_
 refine qF 21 rfl rfl rfl ?_
 refine tl (qO rfl rfl) ?_
 refine tl (qH 1 rfl tG rfl) ?_
 refine tl (jM 1 rfl ld4 rfl rfl) ?_
 refine tl (qG rfl) ?_
 refine kQ 27 rfl (fun h63 => ?_) (fun h63 => ?_)
 refine qF 27 rfl rfl rfl ?_
 refine qF 27 rfl rfl rfl ?_
 refine tl (qR rfl rfl) ?_
 refine tl (xP [.bool false, .bool true] vB aT rfl rfl) ?_
 refine xN 2 [.bool false, .bool true] rfl rfl jX rfl rfl rfl rfl rfl rfl ?_
 refine qB <| qC <| qV ?_
 refine kO (cells := [.bool false, .bool true]) 2 (.inl rfl) rfl rfl jX rfl ?_
 have e64 : ((false, true) : Bool × Bool) = qL (Sig.mk j_a j_r) j_t c := by (have p0_ := zM (s := Sig.mk j_a j_r) (t := j_t) hx8; have p1_ := zM (s := Sig.mk j_a j_r) (t := j_t) hx20; rw [xO (Sig.mk j_a j_r) j_t c, hop]; show _ = ((shE (jL (Sig.mk j_a j_r) j_t c.args) 0 && shE (jL (Sig.mk j_a j_r) j_t c.args) 1, shF (jL (Sig.mk j_a j_r) j_t c.args) 0 || shF (jL (Sig.mk j_a j_r) j_t c.args) 1) : Bool × Bool); rw [p0_.1, p0_.2, p1_.1, p1_.2] <;> (first | rfl | (cases j_t <;> grind [vF]) | (rw [Prod.mk.injEq]; constructor <;> cases j_t <;> grind [vF])))
 exact fun w hw => ⟨congrArg (fun (z : Bool × Bool) => Ending.returned (Value.agg #[.bool z.1, .bool z.2])) e64, (hw.drop 5).weaken hle58⟩
 refine qJ 27 rfl rfl ?_
 refine tl (qH 1 rfl tG rfl) ?_
 refine qJ 27 rfl rfl ?_
 refine tl (jM 0 rfl ld4 rfl rfl) ?_
 refine tl (qO rfl rfl) ?_
 refine tl (xP [.bool false, .bool ((qL (Sig.mk j_a j_r) j_t x19).2)] vB aT rfl rfl) ?_
 refine xN 2 [.bool false, .bool ((qL (Sig.mk j_a j_r) j_t x19).2)] rfl rfl jX rfl rfl rfl rfl rfl rfl ?_
 refine qB <| qC <| qV ?_
 refine kO (cells := [.bool false, .bool ((qL (Sig.mk j_a j_r) j_t x19).2)]) 2 (.inl rfl) rfl rfl jX rfl ?_
 have e65 : ((false, (qL (Sig.mk j_a j_r) j_t x19).2) : Bool × Bool) = qL (Sig.mk j_a j_r) j_t c := by (have p0_ := zM (s := Sig.mk j_a j_r) (t := j_t) hx8; have p1_ := zM (s := Sig.mk j_a j_r) (t := j_t) hx20; rw [xO (Sig.mk j_a j_r) j_t c, hop]; show _ = ((shE (jL (Sig.mk j_a j_r) j_t c.args) 0 && shE (jL (Sig.mk j_a j_r) j_t c.args) 1, shF (jL (Sig.mk j_a j_r) j_t c.args) 0 || shF (jL (Sig.mk j_a j_r) j_t c.args) 1) : Bool × Bool); rw [p0_.1, p0_.2, p1_.1, p1_.2] <;> (first | rfl | (cases j_t <;> grind [vF]) | (rw [Prod.mk.injEq]; constructor <;> cases j_t <;> grind [vF])))
 exact fun w hw => ⟨congrArg (fun (z : Bool × Bool) => Ending.returned (Value.agg #[.bool z.1, .bool z.2])) e65, (hw.drop 5).weaken hle58⟩

theorem sO {R : RO} {G : List Res} {w : World} (j_t : Bool) (j_a j_r : List Int) {b_j_a b_j_r b_j_h : Nat} {c_c : List Value} (c : Concept) (hm_j_a : Res.set jS b_j_a j_a ∈ G) (hm_j_r : Res.set jS b_j_r j_r ∈ G) (hh_j : R.at b_j_h 0 rB) (hr_c : kConcept.rep R c c_c) (hw_ : wfC c = true) (hop : c.op = 6) (hO : OfArgs c) (hw : Own w R (G)) :
    Calls Tryz.prog 91 [.agg #[.iface (jU j_t) (.agg #[]), .map (some b_j_a), .map (some b_j_r), .pointer (some ⟨b_j_h, 0, none⟩)], .agg c_c.toArray].toArray w (kK R G (.agg #[.bool (qL (Sig.mk j_a j_r) j_t c).1, .bool (qL (Sig.mk j_a j_r) j_t c).2])) := by
 obtain ⟨A1, d2, rfl, i3, i4, hs5⟩ := qM hr_c
 unfold i64 at i3 i4
 have z6 := hs5.size
 unfold big at z6
 have hwf := (gA c).1 hw_
 have har := hwf.1.1
 unfold kI at har
 have hn0 := hwf.1.2
 have hb12 : 0 < c.args.length := by (rw [hop] at har; simp at har; omega)
 obtain ⟨x7, hx8⟩ : ∃ x, c.args[0]? = some x := ⟨_, List.getElem?_eq_getElem hb12⟩
 obtain ⟨c9, hr10, ha11⟩ := hs5.get _ x7 hx8
 obtain ⟨A13, d14, rfl, i15, i16, hs17⟩ := qM hr10
 unfold i64 at i15 i16
 have z18 := hs17.size
 unfold big at z18
 refine xH (vs := [.agg #[.iface (jU j_t) (.agg #[]), .map (some b_j_a), .map (some b_j_r), .pointer (some ⟨b_j_h, 0, none⟩)], .agg #[.int .i64 c.op, .int .i64 c.n, .slice A1 c.args.length d2]]) Tryz.func91 rfl rfl rfl ?_ hw
 refine qE <| qA ?_
 refine qW (l := [.iface (jU j_t) (.agg #[]), .map (some b_j_a), .map (some b_j_r), .pointer (some ⟨b_j_h, 0, none⟩)]) rfl rfl fun b19 => ?_
 refine qW (l := [.int .i64 c.op, .int .i64 c.n, .slice A1 c.args.length d2]) rfl rfl fun b20 => ?_
 refine qS vB rfl fun b21 => ?_
 refine qB <| qC ?_
 refine aJ (X := Nat) (fun (b22 : Nat) => [(2, .pointer (some ⟨b19, 0, none⟩)), (3, .pointer (some ⟨b20, 0, none⟩)), (4, .pointer (some ⟨b21, 0, none⟩)), (5, .pointer (some ⟨b22, 0, none⟩))]) (fun (b22 : Nat) => (.blk b22 [.bool ((qL (Sig.mk j_a j_r) j_t x7).1), .bool ((qL (Sig.mk j_a j_r) j_t x7).2)] 112 :: .blk b21 [.bool false, .bool false] 112 :: .blk b20 [.int .i64 c.op, .int .i64 c.n, .slice A1 c.args.length d2] 37 :: .blk b19 [.iface (jU j_t) (.agg #[]), .map (some b_j_a), .map (some b_j_r), .pointer (some ⟨b_j_h, 0, none⟩)] 101 :: G)) (fun (b22 : Nat) (R_ : RO) => True) (fun K hK23 hE24 => ?_) ?_
 refine vS R (.blk b21 [.bool false, .bool false] 112 :: .blk b20 [.int .i64 c.op, .int .i64 c.n, .slice A1 c.args.length d2] 37 :: .blk b19 [.iface (jU j_t) (.agg #[]), .map (some b_j_a), .map (some b_j_r), .pointer (some ⟨b_j_h, 0, none⟩)] 101 :: G) 7 mixed ?_
 refine td 0 rfl (by kernel_rfl) (qQ 2 [.iface (jU j_t) (.agg #[]), .map (some b_j_a), .map (some b_j_r), .pointer (some ⟨b_j_h, 0, none⟩)] rfl kP rfl rfl) (fun w hw => hw) ?_
 refine td 1 rfl (by kernel_rfl) (qH 2 rfl wR rfl) (fun w hw => hw) ?_
 refine td 2 rfl (by kernel_rfl) (jM 1 rfl dH rfl rfl) (fun w hw => hw) ?_
 refine td 3 rfl (by kernel_rfl) (jV (i := 0) hs5 rfl rfl rfl sK hb12) (fun w hw => hw) ?_
 refine td 4 rfl (by kernel_rfl) (jA 0 [.int .i64 x7.op, .int .i64 x7.n, .slice A13 x7.args.length d14] ha11 rfl vU rfl rfl) (fun w hw => hw) ?_
 refine jO [5, 6] (by kernel_rfl) rfl ?_
 refine tds rfl ?_ ?_
 refine xC tP rfl (fun w hw => hO.of _ (List.mem_of_getElem? hx8) j_t j_a j_r (.tail _ (.tail _ (.tail _ (hm_j_a)))) (.tail _ (.tail _ (.tail _ (hm_j_r)))) hh_j hr10 hw) rfl ?_
 refine qB ?_
 refine qY (fun w hw => hw) ?_
 refine td1 6 (by kernel_rfl) rfl ?_
 refine qS vB rfl fun b25 => ?_
 refine qB ?_
 refine qY (fun w hw => hw.drop 1) ?_
 refine td1 7 (by kernel_rfl) rfl ?_
 refine xN 0 [.bool ((qL (Sig.mk j_a j_r) j_t x7).1), .bool ((qL (Sig.mk j_a j_r) j_t x7).2)] rfl rfl jX rfl rfl rfl rfl rfl rfl ?_
 refine qB ?_
 refine xZ ?_
 refine xK (by kernel_rfl) ?_
 exact xR hK23 (b25) (.refl _) (trivial) ⟨rfl, rfl, rfl, rfl, trivial⟩ (fun w hw => hw)
 refine tds rfl ?_ ?_
 refine qS vB rfl fun b26 => ?_
 refine qB ?_
 refine qY (fun w hw => hw.drop 1) ?_
 refine td1 5 (by kernel_rfl) rfl ?_
 refine xC tP rfl (fun w hw => hO.of _ (List.mem_of_getElem? hx8) j_t j_a j_r (.tail _ (.tail _ (.tail _ (.tail _ (hm_j_a))))) (.tail _ (.tail _ (.tail _ (.tail _ (hm_j_r))))) hh_j hr10 hw) rfl ?_
 refine qB ?_
 refine qY (fun w hw => hw.drop 1) ?_
 refine td1 7 (by kernel_rfl) rfl ?_
 refine xN 0 [.bool ((qL (Sig.mk j_a j_r) j_t x7).1), .bool ((qL (Sig.mk j_a j_r) j_t x7).2)] rfl rfl jX rfl rfl rfl rfl rfl rfl ?_
 refine qB ?_
 refine xZ ?_
 refine xK (by kernel_rfl) ?_
 exact xR hK23 (b26) (.refl _) (trivial) ⟨rfl, rfl, rfl, rfl, trivial⟩ (fun w hw => hw)
 exact jD
 rintro b22 R28 hle29 hj27
 try replace hh_j := hh_j.mono hle29
 show TC Tryz.prog _ _ _ [] [(2, .pointer (some ⟨b19, 0, none⟩)), (3, .pointer (some ⟨b20, 0, none⟩)), (4, .pointer (some ⟨b21, 0, none⟩)), (5, .pointer (some ⟨b22, 0, none⟩))] R28 (.blk b22 [.bool ((qL (Sig.mk j_a j_r) j_t x7).1), .bool ((qL (Sig.mk j_a j_r) j_t x7).2)] 112 :: .blk b21 [.bool false, .bool false] 112 :: .blk b20 [.int .i64 c.op, .int .i64 c.n, .slice A1 c.args.length d2] 37 :: .blk b19 [.iface (jU j_t) (.agg #[]), .map (some b_j_a), .map (some b_j_r), .pointer (some ⟨b_j_h, 0, none⟩)] 101 :: G)
 refine qE <| qE <| qA ?_
 refine tl (qH 2 rfl dZ rfl) ?_
 refine tl (jM 3 rfl rR rfl rfl) ?_
 refine tl (qH 1 rfl zA rfl) ?_
 refine tl (jM 2 rfl ld3 rfl rfl) ?_
 refine tl (dR rfl rfl (by omega) (by omega)) ?_
 refine tl (gJ (K := jS) (ks := j_r) (k := (c.n / 2)) lJ (.tail _ (.tail _ (.tail _ (.tail _ (hm_j_r))))) rfl rfl) ?_
 refine qB <| qC ?_
 refine qP 17 rfl (fun h30 => ?_) (fun h30 => ?_)
 refine xE rfl ?_
 refine qE <| qA ?_
 refine tl (qH 0 rfl eA rfl) ?_
 refine tl (jM 0 rfl ld4 rfl rfl) ?_
 refine tl (xP [.bool ((qL (Sig.mk j_a j_r) j_t x7).1), .bool false] vB aT rfl rfl) ?_
 refine xN 1 [.bool ((qL (Sig.mk j_a j_r) j_t x7).1), .bool false] rfl rfl jX rfl rfl rfl rfl rfl rfl ?_
 refine qB <| qC <| qV <| qI ?_
 refine kO (cells := [.bool ((qL (Sig.mk j_a j_r) j_t x7).1), .bool false]) 1 (.inl rfl) rfl rfl jX rfl ?_
 have e31 : (((qL (Sig.mk j_a j_r) j_t x7).1, false) : Bool × Bool) = qL (Sig.mk j_a j_r) j_t c := by (have p0_ := zM (s := Sig.mk j_a j_r) (t := j_t) hx8; rw [xO (Sig.mk j_a j_r) j_t c, hop]; show _ = ((shE (jL (Sig.mk j_a j_r) j_t c.args) 0 || (yE (Sig.mk j_a j_r) 6 c.n && !j_t), yE (Sig.mk j_a j_r) 6 c.n && j_t && shF (jL (Sig.mk j_a j_r) j_t c.args) 0) : Bool × Bool); rw [p0_.1, p0_.2] <;> (first | rfl | (cases j_t <;> grind [vF]) | (rw [Prod.mk.injEq]; constructor <;> cases j_t <;> grind [vF])))
 exact fun w hw => ⟨congrArg (fun (z : Bool × Bool) => Ending.returned (Value.agg #[.bool z.1, .bool z.2])) e31, (hw.drop 4).weaken hle29⟩
 refine xV rfl ?_
 refine qZ <| qC <| qE <| qA ?_
 refine tl (qH 0 rfl dY rfl) ?_
 refine tl (jM 3 rfl ld97 rfl rfl) ?_
 refine tl (qQ 0 [.bool ((qL (Sig.mk j_a j_r) j_t x7).1), .bool ((qL (Sig.mk j_a j_r) j_t x7).2)] rfl jX rfl rfl) ?_
 refine wV (gO (mr_some j_t) (ca_some j_t) rfl rfl) (fun w hw => rV j_t ((qL (Sig.mk j_a j_r) j_t x7).1, (qL (Sig.mk j_a j_r) j_t x7).2) hw) rfl ?_
 refine xN 1 [.bool ((if j_t = true then ((qL (Sig.mk j_a j_r) j_t x7).1, (qL (Sig.mk j_a j_r) j_t x7).2) else (true, false)).1), .bool ((if j_t = true then ((qL (Sig.mk j_a j_r) j_t x7).1, (qL (Sig.mk j_a j_r) j_t x7).2) else (true, false)).2)] rfl rfl jX rfl rfl rfl rfl rfl rfl ?_
 refine qB <| qC <| qV ?_
 refine kO (cells := [.bool ((if j_t = true then ((qL (Sig.mk j_a j_r) j_t x7).1, (qL (Sig.mk j_a j_r) j_t x7).2) else (true, false)).1), .bool ((if j_t = true then ((qL (Sig.mk j_a j_r) j_t x7).1, (qL (Sig.mk j_a j_r) j_t x7).2) else (true, false)).2)]) 1 (.inl rfl) rfl rfl jX rfl ?_
 have e32 : (((if j_t = true then ((qL (Sig.mk j_a j_r) j_t x7).1, (qL (Sig.mk j_a j_r) j_t x7).2) else (true, false)).1, (if j_t = true then ((qL (Sig.mk j_a j_r) j_t x7).1, (qL (Sig.mk j_a j_r) j_t x7).2) else (true, false)).2) : Bool × Bool) = qL (Sig.mk j_a j_r) j_t c := by (have p0_ := zM (s := Sig.mk j_a j_r) (t := j_t) hx8; rw [xO (Sig.mk j_a j_r) j_t c, hop]; show _ = ((shE (jL (Sig.mk j_a j_r) j_t c.args) 0 || (yE (Sig.mk j_a j_r) 6 c.n && !j_t), yE (Sig.mk j_a j_r) 6 c.n && j_t && shF (jL (Sig.mk j_a j_r) j_t c.args) 0) : Bool × Bool); rw [p0_.1, p0_.2] <;> (first | rfl | (cases j_t <;> grind [vF]) | (rw [Prod.mk.injEq]; constructor <;> cases j_t <;> grind [vF])))
 exact fun w hw => ⟨congrArg (fun (z : Bool × Bool) => Ending.returned (Value.agg #[.bool z.1, .bool z.2])) e32, (hw.drop 4).weaken hle29⟩

theorem tH {R : RO} {G : List Res} {w : World} (j_t : Bool) (j_a j_r : List Int) {b_j_a b_j_r b_j_h : Nat} {c_c : List Value} (c : Concept) (hm_j_a : Res.set jS b_j_a j_a ∈ G) (hm_j_r : Res.set jS b_j_r j_r ∈ G) (hh_j : R.at b_j_h 0 rB) (hr_c : kConcept.rep R c c_c) (hw_ : wfC c = true) (hop : c.op = 7) (hO : OfArgs c) (hw : Own w R (G)) :
    Calls Tryz.prog 92 [.agg #[.iface (jU j_t) (.agg #[]), .map (some b_j_a), .map (some b_j_r), .pointer (some ⟨b_j_h, 0, none⟩)], .agg c_c.toArray].toArray w (kK R G (.agg #[.bool (qL (Sig.mk j_a j_r) j_t c).1, .bool (qL (Sig.mk j_a j_r) j_t c).2])) := by
 obtain ⟨A1, d2, rfl, i3, i4, hs5⟩ := qM hr_c
 unfold i64 at i3 i4
 have z6 := hs5.size
 unfold big at z6
 have hwf := (gA c).1 hw_
 have har := hwf.1.1
 unfold kI at har
 have hn0 := hwf.1.2
 have hb12 : 0 < c.args.length := by (rw [hop] at har; simp at har; omega)
 obtain ⟨x7, hx8⟩ : ∃ x, c.args[0]? = some x := ⟨_, List.getElem?_eq_getElem hb12⟩
 obtain ⟨c9, hr10, ha11⟩ := hs5.get _ x7 hx8
 obtain ⟨A13, d14, rfl, i15, i16, hs17⟩ := qM hr10
 unfold i64 at i15 i16
 have z18 := hs17.size
 unfold big at z18
 refine xH (vs := [.agg #[.iface (jU j_t) (.agg #[]), .map (some b_j_a), .map (some b_j_r), .pointer (some ⟨b_j_h, 0, none⟩)], .agg #[.int .i64 c.op, .int .i64 c.n, .slice A1 c.args.length d2]]) Tryz.func92 rfl rfl rfl ?_ hw
 refine qE <| qA ?_
 refine qW (l := [.iface (jU j_t) (.agg #[]), .map (some b_j_a), .map (some b_j_r), .pointer (some ⟨b_j_h, 0, none⟩)]) rfl rfl fun b19 => ?_
 refine qW (l := [.int .i64 c.op, .int .i64 c.n, .slice A1 c.args.length d2]) rfl rfl fun b20 => ?_
 refine qS vB rfl fun b21 => ?_
 refine qB <| qC ?_
 refine aJ (X := Nat) (fun (b22 : Nat) => [(2, .pointer (some ⟨b19, 0, none⟩)), (3, .pointer (some ⟨b20, 0, none⟩)), (4, .pointer (some ⟨b21, 0, none⟩)), (5, .pointer (some ⟨b22, 0, none⟩))]) (fun (b22 : Nat) => (.blk b22 [.bool ((qL (Sig.mk j_a j_r) j_t x7).1), .bool ((qL (Sig.mk j_a j_r) j_t x7).2)] 112 :: .blk b21 [.bool false, .bool false] 112 :: .blk b20 [.int .i64 c.op, .int .i64 c.n, .slice A1 c.args.length d2] 37 :: .blk b19 [.iface (jU j_t) (.agg #[]), .map (some b_j_a), .map (some b_j_r), .pointer (some ⟨b_j_h, 0, none⟩)] 101 :: G)) (fun (b22 : Nat) (R_ : RO) => True) (fun K hK23 hE24 => ?_) ?_
 refine vS R (.blk b21 [.bool false, .bool false] 112 :: .blk b20 [.int .i64 c.op, .int .i64 c.n, .slice A1 c.args.length d2] 37 :: .blk b19 [.iface (jU j_t) (.agg #[]), .map (some b_j_a), .map (some b_j_r), .pointer (some ⟨b_j_h, 0, none⟩)] 101 :: G) 7 mixed ?_
 refine td 0 rfl (by kernel_rfl) (qQ 2 [.iface (jU j_t) (.agg #[]), .map (some b_j_a), .map (some b_j_r), .pointer (some ⟨b_j_h, 0, none⟩)] rfl kP rfl rfl) (fun w hw => hw) ?_
 refine td 1 rfl (by kernel_rfl) (qH 2 rfl wR rfl) (fun w hw => hw) ?_
 refine td 2 rfl (by kernel_rfl) (jM 1 rfl dH rfl rfl) (fun w hw => hw) ?_
 refine td 3 rfl (by kernel_rfl) (jV (i := 0) hs5 rfl rfl rfl sK hb12) (fun w hw => hw) ?_
 refine td 4 rfl (by kernel_rfl) (jA 0 [.int .i64 x7.op, .int .i64 x7.n, .slice A13 x7.args.length d14] ha11 rfl vU rfl rfl) (fun w hw => hw) ?_
 refine jO [5, 6] (by kernel_rfl) rfl ?_
 refine tds rfl ?_ ?_
 refine xC tP rfl (fun w hw => hO.of _ (List.mem_of_getElem? hx8) j_t j_a j_r (.tail _ (.tail _ (.tail _ (hm_j_a)))) (.tail _ (.tail _ (.tail _ (hm_j_r)))) hh_j hr10 hw) rfl ?_
 refine qB ?_
 refine qY (fun w hw => hw) ?_
 refine td1 6 (by kernel_rfl) rfl ?_
 refine qS vB rfl fun b25 => ?_
 refine qB ?_
 refine qY (fun w hw => hw.drop 1) ?_
 refine td1 7 (by kernel_rfl) rfl ?_
 refine xN 0 [.bool ((qL (Sig.mk j_a j_r) j_t x7).1), .bool ((qL (Sig.mk j_a j_r) j_t x7).2)] rfl rfl jX rfl rfl rfl rfl rfl rfl ?_
 refine qB ?_
 refine xZ ?_
 refine xK (by kernel_rfl) ?_
 exact xR hK23 (b25) (.refl _) (trivial) ⟨rfl, rfl, rfl, rfl, trivial⟩ (fun w hw => hw)
 refine tds rfl ?_ ?_
 refine qS vB rfl fun b26 => ?_
 refine qB ?_
 refine qY (fun w hw => hw.drop 1) ?_
 refine td1 5 (by kernel_rfl) rfl ?_
 refine xC tP rfl (fun w hw => hO.of _ (List.mem_of_getElem? hx8) j_t j_a j_r (.tail _ (.tail _ (.tail _ (.tail _ (hm_j_a))))) (.tail _ (.tail _ (.tail _ (.tail _ (hm_j_r))))) hh_j hr10 hw) rfl ?_
 refine qB ?_
 refine qY (fun w hw => hw.drop 1) ?_
 refine td1 7 (by kernel_rfl) rfl ?_
 refine xN 0 [.bool ((qL (Sig.mk j_a j_r) j_t x7).1), .bool ((qL (Sig.mk j_a j_r) j_t x7).2)] rfl rfl jX rfl rfl rfl rfl rfl rfl ?_
 refine qB ?_
 refine xZ ?_
 refine xK (by kernel_rfl) ?_
 exact xR hK23 (b26) (.refl _) (trivial) ⟨rfl, rfl, rfl, rfl, trivial⟩ (fun w hw => hw)
 exact jD
 rintro b22 R28 hle29 hj27
 try replace hh_j := hh_j.mono hle29
 show TC Tryz.prog _ _ _ [] [(2, .pointer (some ⟨b19, 0, none⟩)), (3, .pointer (some ⟨b20, 0, none⟩)), (4, .pointer (some ⟨b21, 0, none⟩)), (5, .pointer (some ⟨b22, 0, none⟩))] R28 (.blk b22 [.bool ((qL (Sig.mk j_a j_r) j_t x7).1), .bool ((qL (Sig.mk j_a j_r) j_t x7).2)] 112 :: .blk b21 [.bool false, .bool false] 112 :: .blk b20 [.int .i64 c.op, .int .i64 c.n, .slice A1 c.args.length d2] 37 :: .blk b19 [.iface (jU j_t) (.agg #[]), .map (some b_j_a), .map (some b_j_r), .pointer (some ⟨b_j_h, 0, none⟩)] 101 :: G)
 refine qE <| qE <| qA ?_
 refine tl (qH 2 rfl dZ rfl) ?_
 refine tl (jM 3 rfl rR rfl rfl) ?_
 refine tl (qH 1 rfl zA rfl) ?_
 refine tl (jM 2 rfl ld3 rfl rfl) ?_
 refine tl (dR rfl rfl (by omega) (by omega)) ?_
 refine tl (gJ (K := jS) (ks := j_r) (k := (c.n / 2)) lJ (.tail _ (.tail _ (.tail _ (.tail _ (hm_j_r))))) rfl rfl) ?_
 refine qB <| qC ?_
 refine qP 17 rfl (fun h30 => ?_) (fun h30 => ?_)
 refine xE rfl ?_
 refine qE <| qA ?_
 refine tl (qH 1 rfl tG rfl) ?_
 refine tl (jM 0 rfl ld4 rfl rfl) ?_
 refine tl (xP [.bool false, .bool ((qL (Sig.mk j_a j_r) j_t x7).2)] vB aT rfl rfl) ?_
 refine xN 1 [.bool false, .bool ((qL (Sig.mk j_a j_r) j_t x7).2)] rfl rfl jX rfl rfl rfl rfl rfl rfl ?_
 refine qB <| qC <| qV <| qI ?_
 refine kO (cells := [.bool false, .bool ((qL (Sig.mk j_a j_r) j_t x7).2)]) 1 (.inl rfl) rfl rfl jX rfl ?_
 have e31 : ((false, (qL (Sig.mk j_a j_r) j_t x7).2) : Bool × Bool) = qL (Sig.mk j_a j_r) j_t c := by (have p0_ := zM (s := Sig.mk j_a j_r) (t := j_t) hx8; rw [xO (Sig.mk j_a j_r) j_t c, hop]; show _ = ((yE (Sig.mk j_a j_r) 7 c.n && j_t && shE (jL (Sig.mk j_a j_r) j_t c.args) 0, shF (jL (Sig.mk j_a j_r) j_t c.args) 0 || (yE (Sig.mk j_a j_r) 7 c.n && !j_t)) : Bool × Bool); rw [p0_.1, p0_.2] <;> (first | rfl | (cases j_t <;> grind [vF]) | (rw [Prod.mk.injEq]; constructor <;> cases j_t <;> grind [vF])))
 exact fun w hw => ⟨congrArg (fun (z : Bool × Bool) => Ending.returned (Value.agg #[.bool z.1, .bool z.2])) e31, (hw.drop 4).weaken hle29⟩
 refine xV rfl ?_
 refine qZ <| qC <| qE <| qA ?_
 refine tl (qH 0 rfl dY rfl) ?_
 refine tl (jM 3 rfl ld97 rfl rfl) ?_
 refine tl (qQ 0 [.bool ((qL (Sig.mk j_a j_r) j_t x7).1), .bool ((qL (Sig.mk j_a j_r) j_t x7).2)] rfl jX rfl rfl) ?_
 refine wV (gO (mr_all j_t) (ca_all j_t) rfl rfl) (fun w hw => qG3 j_t ((qL (Sig.mk j_a j_r) j_t x7).1, (qL (Sig.mk j_a j_r) j_t x7).2) hw) rfl ?_
 refine xN 1 [.bool ((if j_t = true then ((qL (Sig.mk j_a j_r) j_t x7).1, (qL (Sig.mk j_a j_r) j_t x7).2) else (false, true)).1), .bool ((if j_t = true then ((qL (Sig.mk j_a j_r) j_t x7).1, (qL (Sig.mk j_a j_r) j_t x7).2) else (false, true)).2)] rfl rfl jX rfl rfl rfl rfl rfl rfl ?_
 refine qB <| qC <| qV ?_
 refine kO (cells := [.bool ((if j_t = true then ((qL (Sig.mk j_a j_r) j_t x7).1, (qL (Sig.mk j_a j_r) j_t x7).2) else (false, true)).1), .bool ((if j_t = true then ((qL (Sig.mk j_a j_r) j_t x7).1, (qL (Sig.mk j_a j_r) j_t x7).2) else (false, true)).2)]) 1 (.inl rfl) rfl rfl jX rfl ?_
 have e32 : (((if j_t = true then ((qL (Sig.mk j_a j_r) j_t x7).1, (qL (Sig.mk j_a j_r) j_t x7).2) else (false, true)).1, (if j_t = true then ((qL (Sig.mk j_a j_r) j_t x7).1, (qL (Sig.mk j_a j_r) j_t x7).2) else (false, true)).2) : Bool × Bool) = qL (Sig.mk j_a j_r) j_t c := by (have p0_ := zM (s := Sig.mk j_a j_r) (t := j_t) hx8; rw [xO (Sig.mk j_a j_r) j_t c, hop]; show _ = ((yE (Sig.mk j_a j_r) 7 c.n && j_t && shE (jL (Sig.mk j_a j_r) j_t c.args) 0, shF (jL (Sig.mk j_a j_r) j_t c.args) 0 || (yE (Sig.mk j_a j_r) 7 c.n && !j_t)) : Bool × Bool); rw [p0_.1, p0_.2] <;> (first | rfl | (cases j_t <;> grind [vF]) | (rw [Prod.mk.injEq]; constructor <;> cases j_t <;> grind [vF])))
 exact fun w hw => ⟨congrArg (fun (z : Bool × Bool) => Ending.returned (Value.agg #[.bool z.1, .bool z.2])) e32, (hw.drop 4).weaken hle29⟩

end Go.Proofs.YtcbcdlajnmkioaaGreatDoor
