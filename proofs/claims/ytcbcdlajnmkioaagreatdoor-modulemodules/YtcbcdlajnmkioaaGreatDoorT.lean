/- A part of the proof of the statement ModuleModules of isagogelaw19: functions walked, and plain laws on what they answer. -/
import Derived.Test.YtcbcdlajnmkioaaGreatDoorS
namespace Go.Proofs.YtcbcdlajnmkioaaGreatDoor
open Go Go.Proofs
set_option linter.unusedSimpArgs false
set_option linter.unusedVariables false
set_option maxRecDepth 20000
set_option maxHeartbeats 8000000
theorem ca36 : Callable Tryz.prog 36 := ⟨by kernel_rfl⟩
theorem ca66 : Callable Tryz.prog 66 := ⟨by kernel_rfl⟩
theorem ca82 : Callable Tryz.prog 82 := ⟨by kernel_rfl⟩
theorem ca83 : Callable Tryz.prog 83 := ⟨by kernel_rfl⟩

theorem uF {R : RO} {G : List Res} {w : World} (r : Int) {b_b : Nat} {c_b : List Value} (b : Base) (hi_r : i64 r) (hr_b : kBase.rep R b c_b) (hm_b : Res.blk b_b c_b 30 ∈ G) (hw : Own w R (G)) :
    Calls Tryz.prog 82 [.int .i64 r, .pointer (some ⟨b_b, 0, none⟩)].toArray w (kK R G (.bool (decide (okR b.names r)))) := by
 unfold i64 at hi_r
 obtain ⟨c1, A3, d4, A6, d7, A9, d10, A12, d13, rfl, hr2, hs5, hs8, hs11, hs14⟩ := id hr_b
 have z27 := hs5.size
 unfold big at z27
 have z28 := hs8.size
 unfold big at z28
 have z29 := hs11.size
 unfold big at z29
 have z30 := hs14.size
 unfold big at z30
 obtain ⟨A15, d16, A19, d20, A23, d24, rfl, hs17, hs21, hs25⟩ := id hr2
 have z18 := hs17.size
 unfold big at z18
 have z22 := hs21.size
 unfold big at z22
 have z26 := hs25.size
 unfold big at z26
 refine xH (vs := [.int .i64 r, .pointer (some ⟨b_b, 0, none⟩)]) Tryz.func82 rfl rfl rfl ?_ hw
 refine qE <| qA ?_
 refine tl (qD rfl) ?_
 refine qB <| qC ?_
 refine vH [(3, .bool (decide ((0 ≤ r) ∧ (r < (2 * (b.names.roles.length : Int))))))] (G) (fun _ => True) (fun K hK31 hE32 => ?_) ?_
 refine qA ?_
 refine tl (qG rfl) ?_
 refine tl (jR rfl rfl rfl) ?_
 refine tl (qG rfl) ?_
 refine xX 6 rfl (fun h33 => ?_) (fun h33 => ?_)
 refine qJ 6 rfl rfl ?_
 refine tl (qG rfl) ?_
 refine qJ 6 rfl rfl ?_
 refine tl (qH 0 rfl zJ rfl) ?_
 refine qJ 6 rfl rfl ?_
 refine tl (qH 1 rfl pP rfl) ?_
 refine qJ 6 rfl rfl ?_
 refine tl (qH9 hm_b rfl uO rfl) ?_
 refine qJ 6 rfl rfl ?_
 refine tl (jJ rfl uK) ?_
 refine qJ 6 rfl rfl ?_
 refine tl (qH4 rfl rfl (by omega) (by omega)) ?_
 refine qJ 6 rfl rfl ?_
 refine tl (jR rfl rfl rfl) ?_
 refine tl (qR rfl rfl) ?_
 refine tl (qD rfl) ?_
 refine qB ?_
 exact xW hK31 (.refl _) (trivial) ⟨show some (Value.bool (decide (r < (2 * (b.names.roles.length : Int))))) = some (Value.bool (decide ((0 ≤ r) ∧ (r < (2 * (b.names.roles.length : Int)))))) by first | (simp [h33]; done) | grind | (simp [h33] <;> omega), trivial⟩ (fun w hw => hw)
 refine qF 6 rfl rfl rfl ?_
 refine qF 6 rfl rfl rfl ?_
 refine qF 6 rfl rfl rfl ?_
 refine qF 6 rfl rfl rfl ?_
 refine qF 6 rfl rfl rfl ?_
 refine qF 6 rfl rfl rfl ?_
 refine qF 6 rfl rfl rfl ?_
 refine tl (qO rfl rfl) ?_
 refine tl (qD rfl) ?_
 refine qB ?_
 exact xW hK31 (.refl _) (trivial) ⟨show some (Value.bool false) = some (Value.bool (decide ((0 ≤ r) ∧ (r < (2 * (b.names.roles.length : Int)))))) by first | (simp [h33]; done) | grind | (simp [h33] <;> omega), trivial⟩ (fun w hw => hw)
 refine fun R35 hle36 hj34 => jH hle36 ?_
 refine qV ?_
 refine xB (.inl rfl) rfl rfl ?_
 have e37 : (decide ((0 ≤ r) ∧ (r < (2 * (b.names.roles.length : Int)))) : Bool) = decide (okR b.names r) := by first | (rw [Bool.eq_iff_iff]; simp only [okR, decide_eq_true_eq, Bool.false_eq_true, false_iff]; omega) | (simp only [okR]; grind)
 exact fun w hw => ⟨congrArg Ending.returned (congrArg (fun x0 => Value.bool x0) e37), hw⟩

theorem uG {R : RO} {G : List Res} {w : World} (r : Int) {b_b : Nat} {c_b : List Value} (b : Base) (hi_r : i64 r) (hr_b : kBase.rep R b c_b) (hm_b : Res.blk b_b c_b 30 ∈ G) (hw : Own w R (G)) :
    Calls Tryz.prog 83 [.int .i64 r, .pointer (some ⟨b_b, 0, none⟩)].toArray w (kK R G (.bool (decide (okI b.names r)))) := by
 unfold i64 at hi_r
 obtain ⟨c1, A3, d4, A6, d7, A9, d10, A12, d13, rfl, hr2, hs5, hs8, hs11, hs14⟩ := id hr_b
 have z27 := hs5.size
 unfold big at z27
 have z28 := hs8.size
 unfold big at z28
 have z29 := hs11.size
 unfold big at z29
 have z30 := hs14.size
 unfold big at z30
 obtain ⟨A15, d16, A19, d20, A23, d24, rfl, hs17, hs21, hs25⟩ := id hr2
 have z18 := hs17.size
 unfold big at z18
 have z22 := hs21.size
 unfold big at z22
 have z26 := hs25.size
 unfold big at z26
 refine xH (vs := [.int .i64 r, .pointer (some ⟨b_b, 0, none⟩)]) Tryz.func83 rfl rfl rfl ?_ hw
 refine qE <| qA ?_
 refine tl (qD rfl) ?_
 refine qB <| qC ?_
 refine vH [(3, .bool (decide ((0 ≤ r) ∧ (r < (b.names.inds.length : Int)))))] (G) (fun _ => True) (fun K hK31 hE32 => ?_) ?_
 refine qA ?_
 refine tl (qG rfl) ?_
 refine tl (jR rfl rfl rfl) ?_
 refine tl (qG rfl) ?_
 refine xX 6 rfl (fun h33 => ?_) (fun h33 => ?_)
 refine qJ 6 rfl rfl ?_
 refine tl (qG rfl) ?_
 refine qJ 6 rfl rfl ?_
 refine tl (qH 0 rfl zJ rfl) ?_
 refine qJ 6 rfl rfl ?_
 refine tl (qH 2 rfl eC rfl) ?_
 refine qJ 6 rfl rfl ?_
 refine tl (qH9 hm_b rfl uO rfl) ?_
 refine qJ 6 rfl rfl ?_
 refine tl (jJ rfl uK) ?_
 refine qJ 6 rfl rfl ?_
 refine tl (jR rfl rfl rfl) ?_
 refine tl (qR rfl rfl) ?_
 refine tl (qD rfl) ?_
 refine qB ?_
 exact xW hK31 (.refl _) (trivial) ⟨show some (Value.bool (decide (r < (b.names.inds.length : Int)))) = some (Value.bool (decide ((0 ≤ r) ∧ (r < (b.names.inds.length : Int))))) by first | (simp [h33]; done) | grind | (simp [h33] <;> omega), trivial⟩ (fun w hw => hw)
 refine qF 6 rfl rfl rfl ?_
 refine qF 6 rfl rfl rfl ?_
 refine qF 6 rfl rfl rfl ?_
 refine qF 6 rfl rfl rfl ?_
 refine qF 6 rfl rfl rfl ?_
 refine qF 6 rfl rfl rfl ?_
 refine tl (qO rfl rfl) ?_
 refine tl (qD rfl) ?_
 refine qB ?_
 exact xW hK31 (.refl _) (trivial) ⟨show some (Value.bool false) = some (Value.bool (decide ((0 ≤ r) ∧ (r < (b.names.inds.length : Int))))) by first | (simp [h33]; done) | grind | (simp [h33] <;> omega), trivial⟩ (fun w hw => hw)
 refine fun R35 hle36 hj34 => jH hle36 ?_
 refine qV ?_
 refine xB (.inl rfl) rfl rfl ?_
 have e37 : (decide ((0 ≤ r) ∧ (r < (b.names.inds.length : Int))) : Bool) = decide (okI b.names r) := by first | (rw [Bool.eq_iff_iff]; simp only [okI, decide_eq_true_eq, Bool.false_eq_true, false_iff]; omega) | (simp only [okI]; grind)
 exact fun w hw => ⟨congrArg Ending.returned (congrArg (fun x0 => Value.bool x0) e37), hw⟩

theorem qK1 {n : Names} (x : Link) (h : n.roles.length ≤ 140737488355328) (h0 : 0 ≤ x.role) (h1 : x.role < n.roles.length) : okR n (IntKind.i64.wrap (2 * x.role)) := by
  rw [dM (by omega) (by omega)]; exact ⟨by omega, by omega⟩
theorem lY {l : List Incl} {i : Nat} {x : Incl} (h : l[i]? = some x) : jI (wH (l.take i)) + jW x.sub + jW x.sup ≤ jI (wH l) := by
  have e : l = l.take i ++ x :: l.drop (i + 1) := by
    obtain ⟨hi, rfl⟩ := List.getElem?_eq_some_iff.1 h
    rw [← List.drop_eq_getElem_cons hi, List.take_append_drop]
  have : wH l = wH (l.take i) ++ (x.sub :: x.sup :: wH (l.drop (i + 1))) := by
    conv => lhs; rw [e]
    simp [wH]
  rw [this, wK]; simp only [jI]; omega
theorem lZ {l : List Fact} {i : Nat} {x : Fact} (h : l[i]? = some x) : jI (wF (l.take i)) + jW x.con ≤ jI (wF l) := by
  have e : l = l.take i ++ x :: l.drop (i + 1) := by
    obtain ⟨hi, rfl⟩ := List.getElem?_eq_some_iff.1 h
    rw [← List.drop_eq_getElem_cons hi, List.take_append_drop]
  have : wF l = wF (l.take i) ++ (x.con :: wF (l.drop (i + 1))) := by
    conv => lhs; rw [e]
    simp [wF]
  rw [this, wK]; simp only [jI]; omega
theorem aR {n : Names} {c : Concept} {m : Int} (h : (wM n c m 1).1 = true) (h0 : 0 ≤ m) (h1 : m ≤ 400) : okC n c ∧ (wM n c m 1).2 = m - jW c ∧ 0 ≤ (wM n c m 1).2 := by
  have ⟨a, b, d, e⟩ := fK n c m 1 h0
  have k := a.1 h
  have := b h
  exact ⟨⟨by omega, by omega, k.2.2⟩, this, by omega⟩
theorem mA {n : Names} {c : Concept} {m : Int} (h : (wM n c m 1).1 = false) (h0 : 0 ≤ m) (hc : okC n c) : m < jW c := by
  have ⟨a, b, d, e⟩ := fK n c m 1 h0
  rcases Int.lt_or_le m (jW c) with k | k
  · exact k
  · have := a.2 ⟨k, by have := hc.2.1; omega, hc.2.2⟩
    rw [h] at this; cases this
theorem sE (b : Base) : jI (xM b) = jI (wH b.incls) + jI (wF b.facts) := wK _ _

theorem iL {R : RO} {G : List Res} {w : World} {c_b : List Value} (b : Base) (hr_b : kBase.rep R b c_b) (hG : Glob R) (hw : Own w R (G)) :
    Calls Tryz.prog 66 [.agg c_b.toArray].toArray w (kK R G (.bool (vM b))) := by
 obtain ⟨c1, A3, d4, A6, d7, A9, d10, A12, d13, rfl, hr2, hs5, hs8, hs11, hs14⟩ := id hr_b
 have z27 := hs5.size
 unfold big at z27
 have z28 := hs8.size
 unfold big at z28
 have z29 := hs11.size
 unfold big at z29
 have z30 := hs14.size
 unfold big at z30
 obtain ⟨A15, d16, A19, d20, A23, d24, rfl, hs17, hs21, hs25⟩ := id hr2
 have z18 := hs17.size
 unfold big at z18
 have z22 := hs21.size
 unfold big at z22
 have z26 := hs25.size
 unfold big at z26
 have hn60 : 0 ≤ 0 := Nat.le_refl 0
 refine xH (vs := [.agg #[.slice A15 b.names.concepts.length d16, .slice A19 b.names.roles.length d20, .slice A23 b.names.inds.length d24, .slice A3 b.incls.length d4, .slice A6 b.roles.length d7, .slice A9 b.facts.length d10, .slice A12 b.links.length d13]]) Tryz.func66 rfl rfl rfl ?_ hw
 refine qE <| qA ?_
 refine qW (l := [.slice A15 b.names.concepts.length d16, .slice A19 b.names.roles.length d20, .slice A23 b.names.inds.length d24, .slice A3 b.incls.length d4, .slice A6 b.roles.length d7, .slice A9 b.facts.length d10, .slice A12 b.links.length d13]) rfl rfl fun b31 => ?_
 refine tl (qD rfl) ?_
 refine qB <| qC <| qE ?_
 refine vH [(0, .agg #[.slice A15 b.names.concepts.length d16, .slice A19 b.names.roles.length d20, .slice A23 b.names.inds.length d24, .slice A3 b.incls.length d4, .slice A6 b.roles.length d7, .slice A9 b.facts.length d10, .slice A12 b.links.length d13]), (1, .pointer (some ⟨b31, 0, none⟩)), (2, .bool false), (22, .bool (decide (((!(yG b.names)) = true) ∨ (60 < (xT b : Int)))))] (.blk b31 [.slice A15 b.names.concepts.length d16, .slice A19 b.names.roles.length d20, .slice A23 b.names.inds.length d24, .slice A3 b.incls.length d4, .slice A6 b.roles.length d7, .slice A9 b.facts.length d10, .slice A12 b.links.length d13] 30 :: G) (fun _ => True) (fun K hK32 hE33 => ?_) ?_
 refine qA ?_
 refine tl (qH 0 rfl zJ rfl) ?_
 refine tl (qQ 0 [.slice A15 b.names.concepts.length d16, .slice A19 b.names.roles.length d20, .slice A23 b.names.inds.length d24] rfl bT rfl rfl) ?_
 refine xC ca80 rfl (fun w hw => gV b.names hr2 (by first | assumption | omega) hw) rfl ?_
 refine tl (wJ rfl) ?_
 refine tl (qG rfl) ?_
 refine kQ 18 rfl (fun h34 => ?_) (fun h34 => ?_)
 refine qF 18 rfl rfl rfl ?_
 refine qF 18 rfl rfl rfl ?_
 refine qF 18 rfl rfl rfl ?_
 refine tl (qR rfl rfl) ?_
 refine qB ?_
 exact xW hK32 (.refl _) (trivial) ⟨rfl, rfl, rfl, show some (Value.bool true) = some (Value.bool (decide (((!(yG b.names)) = true) ∨ (60 < (xT b : Int))))) by first | (simp [h34]; done) | grind | (simp [h34] <;> omega), trivial⟩ (fun w hw => hw)
 refine qJ 18 rfl rfl ?_
 refine tl (qQ 0 [.slice A15 b.names.concepts.length d16, .slice A19 b.names.roles.length d20, .slice A23 b.names.inds.length d24, .slice A3 b.incls.length d4, .slice A6 b.roles.length d7, .slice A9 b.facts.length d10, .slice A12 b.links.length d13] rfl pN rfl rfl) ?_
 refine qJ 18 rfl rfl ?_
 refine xC ca36 rfl (fun w hw => sC b hr_b hw) rfl ?_
 refine qJ 18 rfl rfl ?_
 refine tl (jR rfl rfl rfl) ?_
 refine tl (qO rfl rfl) ?_
 refine qB ?_
 exact xW hK32 (.refl _) (trivial) ⟨rfl, rfl, rfl, show some (Value.bool (decide (60 < (xT b : Int)))) = some (Value.bool (decide (((!(yG b.names)) = true) ∨ (60 < (xT b : Int))))) by first | (simp [h34]; done) | grind | (simp [h34] <;> omega), trivial⟩ (fun w hw => hw)
 refine fun R36 hle37 hj35 => jH hle37 ?_
 refine qP 22 rfl (fun h38 => ?_) (fun h38 => ?_)
 refine xE rfl ?_
 refine qE <| qA ?_
 refine tl (qD rfl) ?_
 refine qB <| qC <| qV <| qI ?_
 refine xB (.inl rfl) rfl rfl ?_
 have e39 : (false : Bool) = vM b := by (rw [eq_comm]; unfold vM; rw [decide_eq_false_iff_not]; intro h_; have h1_ := h_.names; have h2_ := h_.count; grind)
 exact fun w hw => ⟨congrArg Ending.returned (congrArg (fun x0 => Value.bool x0) e39), hw.drop 1⟩
 refine xV rfl ?_
 refine qZ <| qC <| qE <| qA ?_
 refine qS zc3 rfl fun b40 => ?_
 refine xN 0 [.int .i64 400] rfl rfl ld3 rfl rfl rfl rfl rfl rfl ?_
 refine qB <| qC <| qE <| qE <| qA ?_
 refine tl (qH 3 rfl yK rfl) ?_
 refine tl (jM 1 rfl fG rfl rfl) ?_
 refine tl (jJ rfl eS) ?_
 refine tl (qG rfl) ?_
 refine qB <| qC <| qX ?_
 refine jF ?_
 refine wD (fun b_ : Nat × Int => match b_ with | (i, m) => b.incls.length - i) (fun b_ : Nat × Int => match b_ with | (i, m) => [(1, .pointer (some ⟨b31, 0, none⟩)), (3, .pointer (some ⟨b40, 0, none⟩)), (24, .slice A3 b.incls.length d4), (25, .int .i64 (b.incls.length : Int)), (26, .int .i64 (i : Int))]) (fun b_ : Nat × Int => match b_ with | (i, m) => (.blk b40 [.int .i64 m] 3 :: .blk b31 [.slice A15 b.names.concepts.length d16, .slice A19 b.names.roles.length d20, .slice A23 b.names.inds.length d24, .slice A3 b.incls.length d4, .slice A6 b.roles.length d7, .slice A9 b.facts.length d10, .slice A12 b.links.length d13] 30 :: G)) (fun (b_ : Nat × Int) (R_ : RO) => match b_ with | (i, m) => i ≤ b.incls.length ∧ 0 ≤ m ∧ m = 400 - jI (wH (b.incls.take i)) ∧ ∀ c ∈ wH (b.incls.take i), okC b.names c) (0, 400) (by repeat' constructor) (by exact ⟨by omega, by omega, by simp [jI, wH], by simp [wH]⟩) (fun w hw => hw) ?_
 rintro ⟨i, m⟩ R43 hle44 hI41 ih42
 try replace hr2 := kNames.mono _ _ _ _ hle44 hr2
 try replace hs5 := hs5.mono hle44
 try replace hs8 := hs8.mono hle44
 try replace hs11 := hs11.mono hle44
 try replace hs14 := hs14.mono hle44
 try replace hr_b := kBase.mono _ _ _ _ hle44 hr_b
 try replace hG := hG.mono hle44
 show TC Tryz.prog _ _ _ [] [(1, .pointer (some ⟨b31, 0, none⟩)), (3, .pointer (some ⟨b40, 0, none⟩)), (24, .slice A3 b.incls.length d4), (25, .int .i64 (b.incls.length : Int)), (26, .int .i64 (i : Int))] R43 (.blk b40 [.int .i64 m] 3 :: .blk b31 [.slice A15 b.names.concepts.length d16, .slice A19 b.names.roles.length d20, .slice A23 b.names.inds.length d24, .slice A3 b.incls.length d4, .slice A6 b.roles.length d7, .slice A9 b.facts.length d10, .slice A12 b.links.length d13] 30 :: G)
 obtain ⟨hi1, hi2, hi3, hi4⟩ := hI41
 refine qE <| qA ?_
 refine tl (jR rfl rfl rfl) ?_
 refine qB <| qC <| qE ?_
 refine qP 27 rfl (fun h45 => ?_) (fun h45 => ?_)
 refine xE rfl ?_
 refine qZ <| qC <| qE <| qX <| qE <| qA ?_
 have hb51 : i < b.incls.length := by omega
 obtain ⟨x46, hx47⟩ : ∃ x, b.incls[i]? = some x := ⟨_, List.getElem?_eq_getElem hb51⟩
 obtain ⟨c48, hr49, ha50⟩ := hs5.get _ x46 hx47
 obtain ⟨c52, c53, rfl, hr54, hr55⟩ := id hr49
 obtain ⟨A56, d57, rfl, i58, i59, hs60⟩ := qM hr54
 unfold i64 at i58 i59
 have z61 := hs60.size
 unfold big at z61
 obtain ⟨A62, d63, rfl, i65, i66, hs67⟩ := qM hr55
 unfold i64 at i65 i66
 have z68 := hs67.size
 unfold big at z68
 refine tl (jV (i := i) hs5 rfl rfl rfl eS hb51) ?_
 refine tl (jA 0 [.int .i64 x46.sub.op, .int .i64 x46.sub.n, .slice A56 x46.sub.args.length d57, .int .i64 x46.sup.op, .int .i64 x46.sup.n, .slice A62 x46.sup.args.length d63] ha50 rfl qG8 rfl rfl) ?_
 refine qS zc92 rfl fun b69 => ?_
 refine xN 0 [.int .i64 x46.sub.op, .int .i64 x46.sub.n, .slice A56 x46.sub.args.length d57, .int .i64 x46.sup.op, .int .i64 x46.sup.n, .slice A62 x46.sup.args.length d63] rfl rfl qG8 rfl rfl rfl rfl rfl rfl ?_
 refine qB <| qC <| qE <| qA ?_
 refine tl (qH 0 rfl zJ rfl) ?_
 refine tl (qQ 2 [.slice A15 b.names.concepts.length d16, .slice A19 b.names.roles.length d20, .slice A23 b.names.inds.length d24] rfl bT rfl rfl) ?_
 refine tl (qH 0 rfl lS rfl) ?_
 refine tl (qQ 0 [.int .i64 x46.sub.op, .int .i64 x46.sub.n, .slice A56 x46.sub.args.length d57] rfl vU rfl rfl) ?_
 refine tR (.blk b40 [.int .i64 m] 3 :: .blk b69 [.int .i64 x46.sub.op, .int .i64 x46.sub.n, .slice A56 x46.sub.args.length d57, .int .i64 x46.sup.op, .int .i64 x46.sup.n, .slice A62 x46.sup.args.length d63] 92 :: .blk b31 [.slice A15 b.names.concepts.length d16, .slice A19 b.names.roles.length d20, .slice A23 b.names.inds.length d24, .slice A3 b.incls.length d4, .slice A6 b.roles.length d7, .slice A9 b.facts.length d10, .slice A12 b.links.length d13] 30 :: G) (fun w hw => (hw.pick 1)) ?_
 refine xD ca81 rfl (fun w hw => zQ b.names x46.sub m hr2 hr54 (by unfold i64; omega) (by first | assumption | omega | (have p1_ := aR (n := b.names) (c := x46.sub) (m := m) (by grind) (by omega) (by omega); omega)) (by first | assumption | omega | (have p1_ := aR (n := b.names) (c := x46.sub) (m := m) (by grind) (by omega) (by omega); omega)) hw) rfl ?_
 rintro _ R71 _ hle72 ⟨rfl, rfl⟩
 try replace hr2 := kNames.mono _ _ _ _ hle72 hr2
 try replace hs8 := hs8.mono hle72
 try replace hs11 := hs11.mono hle72
 try replace hs14 := hs14.mono hle72
 try replace hr_b := kBase.mono _ _ _ _ hle72 hr_b
 try replace hG := hG.mono hle72
 try replace hr55 := kConcept.mono _ _ _ _ hle72 hr55
 have hle73 := hle44.trans hle72
 have hf74 := uE b.names x46.sub m 1 (by first | omega | grind)
 refine tl (wJ rfl) ?_
 refine tl (qG rfl) ?_
 refine kQ 36 rfl (fun h75 => ?_) (fun h75 => ?_)
 refine qF 36 rfl rfl rfl ?_
 refine qF 36 rfl rfl rfl ?_
 refine qF 36 rfl rfl rfl ?_
 refine qF 36 rfl rfl rfl ?_
 refine qF 36 rfl rfl rfl ?_
 refine qF 36 rfl rfl rfl ?_
 refine tl (qR rfl rfl) ?_
 refine qB <| qC ?_
 refine xE rfl ?_
 refine qE <| qA ?_
 refine tl (qD rfl) ?_
 refine qB <| qC <| qV <| qN <| qI <| qI <| qN <| qI ?_
 refine xB (.inl rfl) rfl rfl ?_
 have e76 : (false : Bool) = vM b := by (rw [eq_comm]; unfold vM; rw [decide_eq_false_iff_not]; intro h_; have n1_ := h_.nodes; have n2_ := sE b; have n3_ := lY hx47; have c1_ := h_.concepts _ (kE hx47).1; have c2_ := h_.concepts _ (kE hx47).2; first | (have f_ := mA (n := b.names) (c := x46.sub) (m := m) (by grind) (by omega) c1_; omega) | (have p1_ := aR (n := b.names) (c := x46.sub) (m := m) (by grind) (by omega) (by omega); have f_ := mA (n := b.names) (c := x46.sup) (m := (wM b.names x46.sub m 1).2) (by grind) (by omega) c2_; omega))
 exact fun w hw => ⟨congrArg Ending.returned (congrArg (fun x0 => Value.bool x0) e76), (hw.drop 3).weaken hle73⟩
 refine qJ 36 rfl rfl ?_
 refine tl (qH 0 rfl zJ rfl) ?_
 refine qJ 36 rfl rfl ?_
 refine tl (qQ 2 [.slice A15 b.names.concepts.length d16, .slice A19 b.names.roles.length d20, .slice A23 b.names.inds.length d24] rfl bT rfl rfl) ?_
 refine qJ 36 rfl rfl ?_
 refine tl (qH 3 rfl lT rfl) ?_
 refine qJ 36 rfl rfl ?_
 refine tl (qQ 1 [.int .i64 x46.sup.op, .int .i64 x46.sup.n, .slice A62 x46.sup.args.length d63] rfl vU rfl rfl) ?_
 refine qJ 36 rfl rfl ?_
 refine xD ca81 rfl (fun w hw => zQ b.names x46.sup ((wM b.names x46.sub m 1).2) hr2 hr55 (by unfold i64; omega) (by first | assumption | omega | (have p1_ := aR (n := b.names) (c := x46.sub) (m := m) (by grind) (by omega) (by omega); omega)) (by first | assumption | omega | (have p1_ := aR (n := b.names) (c := x46.sub) (m := m) (by grind) (by omega) (by omega); omega)) hw) rfl ?_
 rintro _ R78 _ hle79 ⟨rfl, rfl⟩
 try replace hr2 := kNames.mono _ _ _ _ hle79 hr2
 try replace hs8 := hs8.mono hle79
 try replace hs11 := hs11.mono hle79
 try replace hs14 := hs14.mono hle79
 try replace hr_b := kBase.mono _ _ _ _ hle79 hr_b
 try replace hG := hG.mono hle79
 have hle80 := hle73.trans hle79
 have hle81 := hle72.trans hle79
 have hf82 := uE b.names x46.sup ((wM b.names x46.sub m 1).2) 1 (by first | omega | grind)
 refine qJ 36 rfl rfl ?_
 refine tl (wJ rfl) ?_
 refine tl (qO rfl rfl) ?_
 refine qB <| qC ?_
 refine vI 43 rfl (fun h83 => ?_) (fun h83 => ?_)
 refine xE rfl ?_
 refine qE <| qA ?_
 refine tl (qD rfl) ?_
 refine qB <| qC <| qV <| qN <| qI <| qI <| qN <| qI ?_
 refine xB (.inl rfl) rfl rfl ?_
 have e84 : (false : Bool) = vM b := by (rw [eq_comm]; unfold vM; rw [decide_eq_false_iff_not]; intro h_; have n1_ := h_.nodes; have n2_ := sE b; have n3_ := lY hx47; have c1_ := h_.concepts _ (kE hx47).1; have c2_ := h_.concepts _ (kE hx47).2; first | (have f_ := mA (n := b.names) (c := x46.sub) (m := m) (by grind) (by omega) c1_; omega) | (have p1_ := aR (n := b.names) (c := x46.sub) (m := m) (by grind) (by omega) (by omega); have f_ := mA (n := b.names) (c := x46.sup) (m := (wM b.names x46.sub m 1).2) (by grind) (by omega) c2_; omega))
 exact fun w hw => ⟨congrArg Ending.returned (congrArg (fun x0 => Value.bool x0) e84), (hw.drop 3).weaken hle80⟩
 refine xV rfl ?_
 refine qZ <| jC <| qC <| qA ?_
 refine tl (jT rfl rfl (by omega) (by omega)) ?_
 refine tl (qG rfl) ?_
 refine qB ?_
 refine xQ ?_
 exact fun a w ha hw => ih42.out (i + 1, (wM b.names x46.sup ((wM b.names x46.sub m 1).2) 1).2) _ (hle81) (by have p1_ := aR (n := b.names) (c := x46.sub) (m := m) (by grind) (by omega) (by omega); have p2_ := aR (n := b.names) (c := x46.sup) (m := (wM b.names x46.sub m 1).2) (by grind) (by omega) (by omega); refine ⟨by omega, by omega, ?_, ?_⟩; (rw [tY hx47, wK]; simp only [jI]; omega); (intro c_ hc_; rw [tY hx47, List.mem_append] at hc_; simp only [List.mem_cons, List.not_mem_nil, or_false] at hc_; rcases hc_ with hc_ | rfl | rfl; exact hi4 _ hc_; exact p1_.1; exact p2_.1)) (by (try dsimp only); omega) a w (ha.sub (xL (by repeat' constructor))) ((((hw.pick 1).tail.pick 1).pick 1))
 refine xV rfl ?_
 refine jE <| qK <| qK <| xG <| qC <| qE <| qA ?_
 refine tl (v_mkF rfl) ?_
 refine tl (qD rfl) ?_
 refine qB <| qC <| qE <| qA ?_
 refine tl (v_mkF rfl) ?_
 refine tl (qD rfl) ?_
 refine qB <| qC <| qE <| qE <| qA ?_
 refine tl (qH 4 rfl yL rfl) ?_
 refine tl (jM 1 rfl fH rfl rfl) ?_
 refine tl (jJ rfl eU) ?_
 refine tl (qG rfl) ?_
 refine qB <| qC <| qX ?_
 refine jF ?_
 refine wD (fun j : Nat => b.roles.length - j) (fun j : Nat => [(1, .pointer (some ⟨b31, 0, none⟩)), (3, .pointer (some ⟨b40, 0, none⟩)), (6, .func (.func 82) #[] #[.pointer (some ⟨b31, 0, none⟩)]), (7, .func (.func 83) #[] #[.pointer (some ⟨b31, 0, none⟩)]), (48, .slice A6 b.roles.length d7), (49, .int .i64 (b.roles.length : Int)), (50, .int .i64 (j : Int))]) (fun j : Nat => (.blk b40 [.int .i64 m] 3 :: .blk b31 [.slice A15 b.names.concepts.length d16, .slice A19 b.names.roles.length d20, .slice A23 b.names.inds.length d24, .slice A3 b.incls.length d4, .slice A6 b.roles.length d7, .slice A9 b.facts.length d10, .slice A12 b.links.length d13] 30 :: G)) (fun (j : Nat) (R_ : RO) => j ≤ b.roles.length ∧ ∀ x ∈ b.roles.take j, okR b.names x.sub ∧ okR b.names x.sup) (0) (by repeat' constructor) (by exact ⟨by omega, by simp⟩) (fun w hw => hw) ?_
 rintro j R87 hle88 hI85 ih86
 try replace hr2 := kNames.mono _ _ _ _ hle88 hr2
 try replace hs8 := hs8.mono hle88
 try replace hs11 := hs11.mono hle88
 try replace hs14 := hs14.mono hle88
 try replace hr_b := kBase.mono _ _ _ _ hle88 hr_b
 try replace hG := hG.mono hle88
 have hle89 := hle44.trans hle88
 show TC Tryz.prog _ _ _ [] [(1, .pointer (some ⟨b31, 0, none⟩)), (3, .pointer (some ⟨b40, 0, none⟩)), (6, .func (.func 82) #[] #[.pointer (some ⟨b31, 0, none⟩)]), (7, .func (.func 83) #[] #[.pointer (some ⟨b31, 0, none⟩)]), (48, .slice A6 b.roles.length d7), (49, .int .i64 (b.roles.length : Int)), (50, .int .i64 (j : Int))] R87 (.blk b40 [.int .i64 m] 3 :: .blk b31 [.slice A15 b.names.concepts.length d16, .slice A19 b.names.roles.length d20, .slice A23 b.names.inds.length d24, .slice A3 b.incls.length d4, .slice A6 b.roles.length d7, .slice A9 b.facts.length d10, .slice A12 b.links.length d13] 30 :: G)
 obtain ⟨hj1, hj2⟩ := hI85
 refine qE <| qA ?_
 refine tl (jR rfl rfl rfl) ?_
 refine qB <| qC <| qE ?_
 refine qP 51 rfl (fun h90 => ?_) (fun h90 => ?_)
 refine xE rfl ?_
 refine qZ <| qC <| qE <| qX <| qE <| qA ?_
 have hb96 : j < b.roles.length := by omega
 obtain ⟨x91, hx92⟩ : ∃ x, b.roles[j]? = some x := ⟨_, List.getElem?_eq_getElem hb96⟩
 obtain ⟨c93, hr94, ha95⟩ := hs8.get _ x91 hx92
 obtain ⟨rfl, i97, i98⟩ := id hr94
 unfold i64 at i97
 unfold i64 at i98
 refine tl (jV (i := j) hs8 rfl rfl rfl eU hb96) ?_
 refine tl (jA 0 [.int .i64 x91.sub, .int .i64 x91.sup] ha95 rfl qG9 rfl rfl) ?_
 refine qS zc84 rfl fun b99 => ?_
 refine xN 0 [.int .i64 x91.sub, .int .i64 x91.sup] rfl rfl qG9 rfl rfl rfl rfl rfl rfl ?_
 refine qB <| qC ?_
 refine vH [(1, .pointer (some ⟨b31, 0, none⟩)), (3, .pointer (some ⟨b40, 0, none⟩)), (6, .func (.func 82) #[] #[.pointer (some ⟨b31, 0, none⟩)]), (7, .func (.func 83) #[] #[.pointer (some ⟨b31, 0, none⟩)]), (48, .slice A6 b.roles.length d7), (49, .int .i64 (b.roles.length : Int)), (50, .int .i64 (j : Int)), (51, .bool true), (9, .pointer (some ⟨b99, 0, none⟩)), (65, .bool (decide ((¬ (okR b.names x91.sub)) ∨ (¬ (okR b.names x91.sup)))))] (.blk b99 [.int .i64 x91.sub, .int .i64 x91.sup] 84 :: .blk b40 [.int .i64 m] 3 :: .blk b31 [.slice A15 b.names.concepts.length d16, .slice A19 b.names.roles.length d20, .slice A23 b.names.inds.length d24, .slice A3 b.incls.length d4, .slice A6 b.roles.length d7, .slice A9 b.facts.length d10, .slice A12 b.links.length d13] 30 :: G) (fun _ => True) (fun K hK100 hE101 => ?_) ?_
 refine qA ?_
 refine tl (qG rfl) ?_
 refine tl (qH 0 rfl lU rfl) ?_
 refine tl (jM 0 rfl ld3 rfl rfl) ?_
 refine wV (pE ca82 rfl rfl) (fun w hw => uF x91.sub b (by unfold i64; omega) hr_b (.tail _ (.tail _ (.head _))) hw) rfl ?_
 refine tl (wZ rfl) ?_
 refine tl (qG rfl) ?_
 refine xX 59 rfl (fun h102 => ?_) (fun h102 => ?_)
 refine qF 59 rfl rfl rfl ?_
 refine qF 59 rfl rfl rfl ?_
 refine qF 59 rfl rfl rfl ?_
 refine qF 59 rfl rfl rfl ?_
 refine qF 59 rfl rfl rfl ?_
 refine tl (qR rfl rfl) ?_
 refine qB ?_
 exact xW hK100 (.refl _) (trivial) ⟨rfl, rfl, rfl, rfl, rfl, rfl, rfl, rfl, rfl, show some (Value.bool true) = some (Value.bool (decide ((¬ (okR b.names x91.sub)) ∨ (¬ (okR b.names x91.sup))))) by first | (simp [h102]; done) | grind | (simp [h102] <;> omega), trivial⟩ (fun w hw => hw)
 refine qJ 59 rfl rfl ?_
 refine tl (qG rfl) ?_
 refine qJ 59 rfl rfl ?_
 refine tl (qH 1 rfl lV rfl) ?_
 refine qJ 59 rfl rfl ?_
 refine tl (jM 0 rfl ld3 rfl rfl) ?_
 refine qJ 59 rfl rfl ?_
 refine wV (pE ca82 rfl rfl) (fun w hw => uF x91.sup b (by unfold i64; omega) hr_b (.tail _ (.tail _ (.head _))) hw) rfl ?_
 refine qJ 59 rfl rfl ?_
 refine tl (wZ rfl) ?_
 refine tl (qO rfl rfl) ?_
 refine qB ?_
 exact xW hK100 (.refl _) (trivial) ⟨rfl, rfl, rfl, rfl, rfl, rfl, rfl, rfl, rfl, show some (Value.bool (decide (¬ (okR b.names x91.sup)))) = some (Value.bool (decide ((¬ (okR b.names x91.sub)) ∨ (¬ (okR b.names x91.sup))))) by first | (simp [h102]; done) | grind | (simp [h102] <;> omega), trivial⟩ (fun w hw => hw)
 refine fun R104 hle105 hj103 => jH hle105 ?_
 refine qP 65 rfl (fun h106 => ?_) (fun h106 => ?_)
 refine xE rfl ?_
 refine qE <| qA ?_
 refine tl (qD rfl) ?_
 refine qB <| qC <| qV <| qN <| qI <| qI <| qN <| qI ?_
 refine xB (.inl rfl) rfl rfl ?_
 have e107 : (false : Bool) = vM b := by (rw [eq_comm]; unfold vM; rw [decide_eq_false_iff_not]; intro h_; have h1_ := h_.roles _ (List.mem_of_getElem? hx92); grind)
 exact fun w hw => ⟨congrArg Ending.returned (congrArg (fun x0 => Value.bool x0) e107), (hw.drop 3).weaken hle89⟩
 refine xV rfl ?_
 refine qZ <| jC <| qC <| qA ?_
 refine tl (jT rfl rfl (by omega) (by omega)) ?_
 refine tl (qG rfl) ?_
 refine qB ?_
 refine xQ ?_
 exact fun a w ha hw => ih86.out (j + 1) _ (.refl _) (by exact ⟨by omega, vQ hj2 hx92 (by grind)⟩) (by (try dsimp only); omega) a w (ha.sub (xL ⟨rfl, rfl, rfl, rfl, rfl, rfl, congrArg (fun z => some (Value.int .i64 z)) (show ((j : Int) + 1 : Int) = ((j + 1) : Int) by first | rfl | omega), trivial⟩)) (hw.drop 1)
 refine xV rfl ?_
 refine jE <| qK <| qK <| xG <| qC <| qE <| qE <| qA ?_
 refine tl (qH 5 rfl zB rfl) ?_
 refine tl (jM 1 rfl iZ rfl rfl) ?_
 refine tl (jJ rfl fI) ?_
 refine tl (qG rfl) ?_
 refine qB <| qC <| qX ?_
 refine jF ?_
 refine wD (fun b_ : Nat × Int => match b_ with | (k, mf) => b.facts.length - k) (fun b_ : Nat × Int => match b_ with | (k, mf) => [(1, .pointer (some ⟨b31, 0, none⟩)), (3, .pointer (some ⟨b40, 0, none⟩)), (6, .func (.func 82) #[] #[.pointer (some ⟨b31, 0, none⟩)]), (7, .func (.func 83) #[] #[.pointer (some ⟨b31, 0, none⟩)]), (68, .slice A9 b.facts.length d10), (69, .int .i64 (b.facts.length : Int)), (70, .int .i64 (k : Int))]) (fun b_ : Nat × Int => match b_ with | (k, mf) => (.blk b40 [.int .i64 mf] 3 :: .blk b31 [.slice A15 b.names.concepts.length d16, .slice A19 b.names.roles.length d20, .slice A23 b.names.inds.length d24, .slice A3 b.incls.length d4, .slice A6 b.roles.length d7, .slice A9 b.facts.length d10, .slice A12 b.links.length d13] 30 :: G)) (fun (b_ : Nat × Int) (R_ : RO) => match b_ with | (k, mf) => k ≤ b.facts.length ∧ 0 ≤ mf ∧ mf = m - jI (wF (b.facts.take k)) ∧ (∀ c ∈ wF (b.facts.take k), okC b.names c) ∧ ∀ x ∈ b.facts.take k, okI b.names x.ind) (0, m) (by repeat' constructor) (by exact ⟨by omega, by omega, by simp [jI, wF], by simp [wF], by simp⟩) (fun w hw => hw) ?_
 rintro ⟨k, mf⟩ R110 hle111 hI108 ih109
 try replace hr2 := kNames.mono _ _ _ _ hle111 hr2
 try replace hs11 := hs11.mono hle111
 try replace hs14 := hs14.mono hle111
 try replace hr_b := kBase.mono _ _ _ _ hle111 hr_b
 try replace hG := hG.mono hle111
 have hle112 := hle89.trans hle111
 have hle113 := hle88.trans hle111
 show TC Tryz.prog _ _ _ [] [(1, .pointer (some ⟨b31, 0, none⟩)), (3, .pointer (some ⟨b40, 0, none⟩)), (6, .func (.func 82) #[] #[.pointer (some ⟨b31, 0, none⟩)]), (7, .func (.func 83) #[] #[.pointer (some ⟨b31, 0, none⟩)]), (68, .slice A9 b.facts.length d10), (69, .int .i64 (b.facts.length : Int)), (70, .int .i64 (k : Int))] R110 (.blk b40 [.int .i64 mf] 3 :: .blk b31 [.slice A15 b.names.concepts.length d16, .slice A19 b.names.roles.length d20, .slice A23 b.names.inds.length d24, .slice A3 b.incls.length d4, .slice A6 b.roles.length d7, .slice A9 b.facts.length d10, .slice A12 b.links.length d13] 30 :: G)
 obtain ⟨hk1, hk2, hk3, hk4, hk5⟩ := hI108
 refine qE <| qA ?_
 refine tl (jR rfl rfl rfl) ?_
 refine qB <| qC <| qE ?_
 refine qP 71 rfl (fun h114 => ?_) (fun h114 => ?_)
 refine xE rfl ?_
 refine qZ <| qC <| qE <| qX <| qE <| qA ?_
 have hb120 : k < b.facts.length := by omega
 obtain ⟨x115, hx116⟩ : ∃ x, b.facts[k]? = some x := ⟨_, List.getElem?_eq_getElem hb120⟩
 obtain ⟨c117, hr118, ha119⟩ := hs11.get _ x115 hx116
 obtain ⟨c121, rfl, i122, hr123⟩ := id hr118
 unfold i64 at i122
 obtain ⟨A124, d125, rfl, i126, i127, hs128⟩ := qM hr123
 unfold i64 at i126 i127
 have z129 := hs128.size
 unfold big at z129
 refine tl (jV (i := k) hs11 rfl rfl rfl fI hb120) ?_
 refine tl (jA 0 [.int .i64 x115.ind, .int .i64 x115.con.op, .int .i64 x115.con.n, .slice A124 x115.con.args.length d125] ha119 rfl qB0 rfl rfl) ?_
 refine qS zc87 rfl fun b130 => ?_
 refine xN 0 [.int .i64 x115.ind, .int .i64 x115.con.op, .int .i64 x115.con.n, .slice A124 x115.con.args.length d125] rfl rfl qB0 rfl rfl rfl rfl rfl rfl ?_
 refine qB <| qC <| qE <| qA ?_
 refine tl (qG rfl) ?_
 refine tl (qH 0 rfl qJ1 rfl) ?_
 refine tl (jM 0 rfl ld3 rfl rfl) ?_
 refine wV (pE ca83 rfl rfl) (fun w hw => uG x115.ind b (by unfold i64; omega) hr_b (.tail _ (.tail _ (.head _))) hw) rfl ?_
 refine tl (wZ rfl) ?_
 refine tl (qG rfl) ?_
 refine xX 79 rfl (fun h131 => ?_) (fun h131 => ?_)
 refine qF 79 rfl rfl rfl ?_
 refine qF 79 rfl rfl rfl ?_
 refine qF 79 rfl rfl rfl ?_
 refine qF 79 rfl rfl rfl ?_
 refine qF 79 rfl rfl rfl ?_
 refine qF 79 rfl rfl rfl ?_
 refine tl (qR rfl rfl) ?_
 refine qB <| qC ?_
 refine xE rfl ?_
 refine qE <| qA ?_
 refine tl (qD rfl) ?_
 refine qB <| qC <| qV <| qN <| qI <| qI <| qN <| qI ?_
 refine xB (.inl rfl) rfl rfl ?_
 have e132 : (false : Bool) = vM b := by (rw [eq_comm]; unfold vM; rw [decide_eq_false_iff_not]; intro h_; have n1_ := h_.nodes; have n2_ := sE b; have n3_ := lZ hx116; rw [xF (l := b.incls) (by assumption) (by assumption)] at hi3; have c1_ := h_.concepts _ (wB hx116); have i1_ := h_.facts _ (List.mem_of_getElem? hx116); first | (exfalso; grind) | (have f_ := mA (n := b.names) (c := x115.con) (m := mf) (by grind) (by omega) c1_; omega))
 exact fun w hw => ⟨congrArg Ending.returned (congrArg (fun x0 => Value.bool x0) e132), (hw.drop 3).weaken hle112⟩
 refine qJ 79 rfl rfl ?_
 refine tl (qH 0 rfl zJ rfl) ?_
 refine qJ 79 rfl rfl ?_
 refine tl (qQ 2 [.slice A15 b.names.concepts.length d16, .slice A19 b.names.roles.length d20, .slice A23 b.names.inds.length d24] rfl bT rfl rfl) ?_
 refine qJ 79 rfl rfl ?_
 refine tl (qH 1 rfl lR rfl) ?_
 refine qJ 79 rfl rfl ?_
 refine tl (qQ 0 [.int .i64 x115.con.op, .int .i64 x115.con.n, .slice A124 x115.con.args.length d125] rfl vU rfl rfl) ?_
 refine qJ 79 rfl rfl ?_
 refine tR (.blk b40 [.int .i64 mf] 3 :: .blk b130 [.int .i64 x115.ind, .int .i64 x115.con.op, .int .i64 x115.con.n, .slice A124 x115.con.args.length d125] 87 :: .blk b31 [.slice A15 b.names.concepts.length d16, .slice A19 b.names.roles.length d20, .slice A23 b.names.inds.length d24, .slice A3 b.incls.length d4, .slice A6 b.roles.length d7, .slice A9 b.facts.length d10, .slice A12 b.links.length d13] 30 :: G) (fun w hw => (hw.pick 1)) ?_
 refine xD ca81 rfl (fun w hw => zQ b.names x115.con mf hr2 hr123 (by unfold i64; omega) (by first | assumption | omega | (have p1_ := aR (n := b.names) (c := x115.sub) (m := m) (by grind) (by omega) (by omega); omega)) (by first | assumption | omega | (have p1_ := aR (n := b.names) (c := x115.sub) (m := m) (by grind) (by omega) (by omega); omega)) hw) rfl ?_
 rintro _ R134 _ hle135 ⟨rfl, rfl⟩
 try replace hs14 := hs14.mono hle135
 try replace hr_b := kBase.mono _ _ _ _ hle135 hr_b
 try replace hG := hG.mono hle135
 have hle136 := hle112.trans hle135
 have hle137 := hle113.trans hle135
 have hle138 := hle111.trans hle135
 have hf139 := uE b.names x115.con mf 1 (by first | omega | grind)
 refine qJ 79 rfl rfl ?_
 refine tl (wJ rfl) ?_
 refine tl (qO rfl rfl) ?_
 refine qB <| qC ?_
 refine vI 86 rfl (fun h140 => ?_) (fun h140 => ?_)
 refine xE rfl ?_
 refine qE <| qA ?_
 refine tl (qD rfl) ?_
 refine qB <| qC <| qV <| qN <| qI <| qI <| qN <| qI ?_
 refine xB (.inl rfl) rfl rfl ?_
 have e141 : (false : Bool) = vM b := by (rw [eq_comm]; unfold vM; rw [decide_eq_false_iff_not]; intro h_; have n1_ := h_.nodes; have n2_ := sE b; have n3_ := lZ hx116; rw [xF (l := b.incls) (by assumption) (by assumption)] at hi3; have c1_ := h_.concepts _ (wB hx116); have i1_ := h_.facts _ (List.mem_of_getElem? hx116); first | (exfalso; grind) | (have f_ := mA (n := b.names) (c := x115.con) (m := mf) (by grind) (by omega) c1_; omega))
 exact fun w hw => ⟨congrArg Ending.returned (congrArg (fun x0 => Value.bool x0) e141), (hw.drop 3).weaken hle136⟩
 refine xV rfl ?_
 refine qZ <| jC <| qC <| qA ?_
 refine tl (jT rfl rfl (by omega) (by omega)) ?_
 refine tl (qG rfl) ?_
 refine qB ?_
 refine xQ ?_
 exact fun a w ha hw => ih109.out (k + 1, (wM b.names x115.con mf 1).2) _ (hle135) (by have p1_ := aR (n := b.names) (c := x115.con) (m := mf) (by grind) (by omega) (by omega); have q_ : okI b.names x115.ind := (by grind); refine ⟨by omega, by omega, ?_, ?_, vQ hk5 hx116 q_⟩; (rw [tZ hx116, wK]; simp only [jI]; omega); (intro c_ hc_; rw [tZ hx116, List.mem_append] at hc_; simp only [List.mem_cons, List.not_mem_nil, or_false] at hc_; rcases hc_ with hc_ | rfl; exact hk4 _ hc_; exact p1_.1)) (by (try dsimp only); omega) a w (ha.sub (xL ⟨rfl, rfl, rfl, rfl, rfl, rfl, congrArg (fun z => some (Value.int .i64 z)) (show ((k : Int) + 1 : Int) = ((k + 1) : Int) by first | rfl | omega), trivial⟩)) ((((hw.pick 1).tail.pick 1).pick 1))
 refine xV rfl ?_
 refine jE <| qK <| qK <| xG <| qC <| qE <| qE <| qA ?_
 refine tl (qH 6 rfl pV rfl) ?_
 refine tl (jM 1 rfl rK rfl rfl) ?_
 refine tl (jJ rfl rA) ?_
 refine tl (qG rfl) ?_
 refine qB <| qC <| qX ?_
 refine jF ?_
 refine wD (fun q : Nat => b.links.length - q) (fun q : Nat => [(1, .pointer (some ⟨b31, 0, none⟩)), (6, .func (.func 82) #[] #[.pointer (some ⟨b31, 0, none⟩)]), (7, .func (.func 83) #[] #[.pointer (some ⟨b31, 0, none⟩)]), (89, .slice A12 b.links.length d13), (90, .int .i64 (b.links.length : Int)), (91, .int .i64 (q : Int))]) (fun q : Nat => (.blk b40 [.int .i64 mf] 3 :: .blk b31 [.slice A15 b.names.concepts.length d16, .slice A19 b.names.roles.length d20, .slice A23 b.names.inds.length d24, .slice A3 b.incls.length d4, .slice A6 b.roles.length d7, .slice A9 b.facts.length d10, .slice A12 b.links.length d13] 30 :: G)) (fun (q : Nat) (R_ : RO) => q ≤ b.links.length ∧ ∀ x ∈ b.links.take q, okL b.names x) (0) (by repeat' constructor) (by exact ⟨by omega, by simp⟩) (fun w hw => hw) ?_
 rintro q R144 hle145 hI142 ih143
 try replace hs14 := hs14.mono hle145
 try replace hr_b := kBase.mono _ _ _ _ hle145 hr_b
 try replace hG := hG.mono hle145
 have hle146 := hle112.trans hle145
 have hle147 := hle113.trans hle145
 have hle148 := hle111.trans hle145
 show TC Tryz.prog _ _ _ [] [(1, .pointer (some ⟨b31, 0, none⟩)), (6, .func (.func 82) #[] #[.pointer (some ⟨b31, 0, none⟩)]), (7, .func (.func 83) #[] #[.pointer (some ⟨b31, 0, none⟩)]), (89, .slice A12 b.links.length d13), (90, .int .i64 (b.links.length : Int)), (91, .int .i64 (q : Int))] R144 (.blk b40 [.int .i64 mf] 3 :: .blk b31 [.slice A15 b.names.concepts.length d16, .slice A19 b.names.roles.length d20, .slice A23 b.names.inds.length d24, .slice A3 b.incls.length d4, .slice A6 b.roles.length d7, .slice A9 b.facts.length d10, .slice A12 b.links.length d13] 30 :: G)
 obtain ⟨hq1, hq2⟩ := hI142
 refine qE <| qA ?_
 refine tl (jR rfl rfl rfl) ?_
 refine qB <| qC <| qE ?_
 refine qP 92 rfl (fun h149 => ?_) (fun h149 => ?_)
 refine xE rfl ?_
 refine qZ <| qC <| qE <| qX <| qE <| qA ?_
 have hb155 : q < b.links.length := by omega
 obtain ⟨x150, hx151⟩ : ∃ x, b.links[q]? = some x := ⟨_, List.getElem?_eq_getElem hb155⟩
 obtain ⟨c152, hr153, ha154⟩ := hs14.get _ x150 hx151
 obtain ⟨rfl, i156, i157, i158⟩ := id hr153
 unfold i64 at i156
 unfold i64 at i157
 unfold i64 at i158
 have hf159 := qK1 (n := b.names) x150 (by omega)
 refine tl (jV (i := q) hs14 rfl rfl rfl rA hb155) ?_
 refine tl (jA 0 [.int .i64 x150.role, .int .i64 x150.frm, .int .i64 x150.to] ha154 rfl qH0 rfl rfl) ?_
 refine qS zc89 rfl fun b160 => ?_
 refine xN 0 [.int .i64 x150.role, .int .i64 x150.frm, .int .i64 x150.to] rfl rfl qH0 rfl rfl rfl rfl rfl rfl ?_
 refine qB <| qC ?_
 refine vH [(1, .pointer (some ⟨b31, 0, none⟩)), (6, .func (.func 82) #[] #[.pointer (some ⟨b31, 0, none⟩)]), (7, .func (.func 83) #[] #[.pointer (some ⟨b31, 0, none⟩)]), (89, .slice A12 b.links.length d13), (90, .int .i64 (b.links.length : Int)), (91, .int .i64 (q : Int)), (92, .bool true), (13, .pointer (some ⟨b160, 0, none⟩)), (128, .bool (decide (((((x150.role < 0) ∨ (¬ (okR b.names (IntKind.i64.wrap (2 * x150.role))))) ∨ ((b.names.roles.length : Int) ≤ x150.role)) ∨ (¬ (okI b.names x150.frm))) ∨ (¬ (okI b.names x150.to)))))] (.blk b160 [.int .i64 x150.role, .int .i64 x150.frm, .int .i64 x150.to] 89 :: .blk b40 [.int .i64 mf] 3 :: .blk b31 [.slice A15 b.names.concepts.length d16, .slice A19 b.names.roles.length d20, .slice A23 b.names.inds.length d24, .slice A3 b.incls.length d4, .slice A6 b.roles.length d7, .slice A9 b.facts.length d10, .slice A12 b.links.length d13] 30 :: G) (fun _ => True) (fun K hK161 hE162 => ?_) ?_
 refine qA ?_
 refine tl (qH 0 rfl cS rfl) ?_
 refine tl (jM 0 rfl ld3 rfl rfl) ?_
 refine tl (jR rfl rfl rfl) ?_
 refine tl (qG rfl) ?_
 refine xX 98 rfl (fun h163 => ?_) (fun h163 => ?_)
 refine qF 98 rfl rfl rfl ?_
 refine qF 98 rfl rfl rfl ?_
 refine qF 98 rfl rfl rfl ?_
 refine qF 98 rfl rfl rfl ?_
 refine qF 98 rfl rfl rfl ?_
 refine qF 98 rfl rfl rfl ?_
 refine tl (qR rfl rfl) ?_
 refine tl (qG rfl) ?_
 refine qF 106 rfl rfl rfl ?_
 refine qF 106 rfl rfl rfl ?_
 refine qF 106 rfl rfl rfl ?_
 refine qF 106 rfl rfl rfl ?_
 refine qF 106 rfl rfl rfl ?_
 refine qF 106 rfl rfl rfl ?_
 refine qF 106 rfl rfl rfl ?_
 refine tl (qR rfl rfl) ?_
 refine tl (qG rfl) ?_
 refine qF 115 rfl rfl rfl ?_
 refine qF 115 rfl rfl rfl ?_
 refine qF 115 rfl rfl rfl ?_
 refine qF 115 rfl rfl rfl ?_
 refine qF 115 rfl rfl rfl ?_
 refine tl (qR rfl rfl) ?_
 refine tl (qG rfl) ?_
 refine qF 122 rfl rfl rfl ?_
 refine qF 122 rfl rfl rfl ?_
 refine qF 122 rfl rfl rfl ?_
 refine qF 122 rfl rfl rfl ?_
 refine qF 122 rfl rfl rfl ?_
 refine tl (qR rfl rfl) ?_
 refine qB ?_
 exact xW hK161 (.refl _) (trivial) ⟨rfl, rfl, rfl, rfl, rfl, rfl, rfl, rfl, show some (Value.bool true) = some (Value.bool (decide (((((x150.role < 0) ∨ (¬ (okR b.names (IntKind.i64.wrap (2 * x150.role))))) ∨ ((b.names.roles.length : Int) ≤ x150.role)) ∨ (¬ (okI b.names x150.frm))) ∨ (¬ (okI b.names x150.to))))) by first | (simp [h163]; done) | grind | (simp [h163] <;> omega), trivial⟩ (fun w hw => hw)
 refine qJ 98 rfl rfl ?_
 refine tl (qG rfl) ?_
 refine qJ 98 rfl rfl ?_
 refine tl (qH 0 rfl cS rfl) ?_
 refine qJ 98 rfl rfl ?_
 refine tl (jM 0 rfl ld3 rfl rfl) ?_
 refine qJ 98 rfl rfl ?_
 refine tl (jR rfl rfl rfl) ?_
 refine qJ 98 rfl rfl ?_
 refine wV (pE ca82 rfl rfl) (fun w hw => uF (IntKind.i64.wrap (2 * x150.role)) b (wrap_rng _) hr_b (.tail _ (.tail _ (.head _))) hw) rfl ?_
 refine qJ 98 rfl rfl ?_
 refine tl (wZ rfl) ?_
 refine tl (qO rfl rfl) ?_
 refine tl (qG rfl) ?_
 refine xX 106 rfl (fun h164 => ?_) (fun h164 => ?_)
 refine qF 106 rfl rfl rfl ?_
 refine qF 106 rfl rfl rfl ?_
 refine qF 106 rfl rfl rfl ?_
 refine qF 106 rfl rfl rfl ?_
 refine qF 106 rfl rfl rfl ?_
 refine qF 106 rfl rfl rfl ?_
 refine qF 106 rfl rfl rfl ?_
 refine tl (qR rfl rfl) ?_
 refine tl (qG rfl) ?_
 refine qF 115 rfl rfl rfl ?_
 refine qF 115 rfl rfl rfl ?_
 refine qF 115 rfl rfl rfl ?_
 refine qF 115 rfl rfl rfl ?_
 refine qF 115 rfl rfl rfl ?_
 refine tl (qR rfl rfl) ?_
 refine tl (qG rfl) ?_
 refine qF 122 rfl rfl rfl ?_
 refine qF 122 rfl rfl rfl ?_
 refine qF 122 rfl rfl rfl ?_
 refine qF 122 rfl rfl rfl ?_
 refine qF 122 rfl rfl rfl ?_
 refine tl (qR rfl rfl) ?_
 refine qB ?_
 exact xW hK161 (.refl _) (trivial) ⟨rfl, rfl, rfl, rfl, rfl, rfl, rfl, rfl, show some (Value.bool true) = some (Value.bool (decide (((((x150.role < 0) ∨ (¬ (okR b.names (IntKind.i64.wrap (2 * x150.role))))) ∨ ((b.names.roles.length : Int) ≤ x150.role)) ∨ (¬ (okI b.names x150.frm))) ∨ (¬ (okI b.names x150.to))))) by first | (simp [h163, h164]; done) | grind | (simp [h163, h164] <;> omega), trivial⟩ (fun w hw => hw)
 refine qJ 106 rfl rfl ?_
 refine tl (qH 0 rfl cS rfl) ?_
 refine qJ 106 rfl rfl ?_
 refine tl (jM 0 rfl ld3 rfl rfl) ?_
 refine qJ 106 rfl rfl ?_
 refine tl (qH 0 rfl zJ rfl) ?_
 refine qJ 106 rfl rfl ?_
 refine tl (qH 1 rfl pP rfl) ?_
 refine qJ 106 rfl rfl ?_
 refine tl (jM 2 rfl uO rfl rfl) ?_
 refine qJ 106 rfl rfl ?_
 refine tl (jJ rfl uK) ?_
 refine qJ 106 rfl rfl ?_
 refine tl (jR rfl rfl rfl) ?_
 refine tl (qO rfl rfl) ?_
 refine tl (qG rfl) ?_
 refine xX 115 rfl (fun h165 => ?_) (fun h165 => ?_)
 refine qF 115 rfl rfl rfl ?_
 refine qF 115 rfl rfl rfl ?_
 refine qF 115 rfl rfl rfl ?_
 refine qF 115 rfl rfl rfl ?_
 refine qF 115 rfl rfl rfl ?_
 refine tl (qR rfl rfl) ?_
 refine tl (qG rfl) ?_
 refine qF 122 rfl rfl rfl ?_
 refine qF 122 rfl rfl rfl ?_
 refine qF 122 rfl rfl rfl ?_
 refine qF 122 rfl rfl rfl ?_
 refine qF 122 rfl rfl rfl ?_
 refine tl (qR rfl rfl) ?_
 refine qB ?_
 exact xW hK161 (.refl _) (trivial) ⟨rfl, rfl, rfl, rfl, rfl, rfl, rfl, rfl, show some (Value.bool true) = some (Value.bool (decide (((((x150.role < 0) ∨ (¬ (okR b.names (IntKind.i64.wrap (2 * x150.role))))) ∨ ((b.names.roles.length : Int) ≤ x150.role)) ∨ (¬ (okI b.names x150.frm))) ∨ (¬ (okI b.names x150.to))))) by first | (simp [h163, h164, h165]; done) | grind | (simp [h163, h164, h165] <;> omega), trivial⟩ (fun w hw => hw)
 refine qJ 115 rfl rfl ?_
 refine tl (qG rfl) ?_
 refine qJ 115 rfl rfl ?_
 refine tl (qH 1 rfl qJ2 rfl) ?_
 refine qJ 115 rfl rfl ?_
 refine tl (jM 0 rfl ld3 rfl rfl) ?_
 refine qJ 115 rfl rfl ?_
 refine wV (pE ca83 rfl rfl) (fun w hw => uG x150.frm b (by unfold i64; omega) hr_b (.tail _ (.tail _ (.head _))) hw) rfl ?_
 refine qJ 115 rfl rfl ?_
 refine tl (wZ rfl) ?_
 refine tl (qO rfl rfl) ?_
 refine tl (qG rfl) ?_
 refine xX 122 rfl (fun h166 => ?_) (fun h166 => ?_)
 refine qF 122 rfl rfl rfl ?_
 refine qF 122 rfl rfl rfl ?_
 refine qF 122 rfl rfl rfl ?_
 refine qF 122 rfl rfl rfl ?_
 refine qF 122 rfl rfl rfl ?_
 refine tl (qR rfl rfl) ?_
 refine qB ?_
 exact xW hK161 (.refl _) (trivial) ⟨rfl, rfl, rfl, rfl, rfl, rfl, rfl, rfl, show some (Value.bool true) = some (Value.bool (decide (((((x150.role < 0) ∨ (¬ (okR b.names (IntKind.i64.wrap (2 * x150.role))))) ∨ ((b.names.roles.length : Int) ≤ x150.role)) ∨ (¬ (okI b.names x150.frm))) ∨ (¬ (okI b.names x150.to))))) by first | (simp [h163, h164, h165, h166]; done) | grind | (simp [h163, h164, h165, h166] <;> omega), trivial⟩ (fun w hw => hw)
 refine qJ 122 rfl rfl ?_
 refine tl (qG rfl) ?_
 refine qJ 122 rfl rfl ?_
 refine tl (qH 2 rfl qJ3 rfl) ?_
 refine qJ 122 rfl rfl ?_
 refine tl (jM 0 rfl ld3 rfl rfl) ?_
 refine qJ 122 rfl rfl ?_
 refine wV (pE ca83 rfl rfl) (fun w hw => uG x150.to b (by unfold i64; omega) hr_b (.tail _ (.tail _ (.head _))) hw) rfl ?_
 refine qJ 122 rfl rfl ?_
 refine tl (wZ rfl) ?_
 refine tl (qO rfl rfl) ?_
 refine qB ?_
 exact xW hK161 (.refl _) (trivial) ⟨rfl, rfl, rfl, rfl, rfl, rfl, rfl, rfl, show some (Value.bool (decide (¬ (okI b.names x150.to)))) = some (Value.bool (decide (((((x150.role < 0) ∨ (¬ (okR b.names (IntKind.i64.wrap (2 * x150.role))))) ∨ ((b.names.roles.length : Int) ≤ x150.role)) ∨ (¬ (okI b.names x150.frm))) ∨ (¬ (okI b.names x150.to))))) by first | (simp [h163, h164, h165, h166]; done) | grind | (simp [h163, h164, h165, h166] <;> omega), trivial⟩ (fun w hw => hw)
 refine fun R168 hle169 hj167 => jH hle169 ?_
 refine qP 128 rfl (fun h170 => ?_) (fun h170 => ?_)
 refine xE rfl ?_
 refine qE <| qA ?_
 refine tl (qD rfl) ?_
 refine qB <| qC <| qV <| qN <| qI <| qI <| qN <| qI ?_
 refine xB (.inl rfl) rfl rfl ?_
 have e171 : (false : Bool) = vM b := by (rw [eq_comm]; unfold vM; rw [decide_eq_false_iff_not]; intro h_; have h1_ := h_.links _ (List.mem_of_getElem? hx151); grind [okL])
 exact fun w hw => ⟨congrArg Ending.returned (congrArg (fun x0 => Value.bool x0) e171), (hw.drop 3).weaken hle146⟩
 refine xV rfl ?_
 refine qZ <| jC <| qC <| qA ?_
 refine tl (jT rfl rfl (by omega) (by omega)) ?_
 refine tl (qG rfl) ?_
 refine qB ?_
 refine xQ ?_
 exact fun a w ha hw => ih143.out (q + 1) _ (.refl _) (by exact ⟨by omega, vQ hq2 hx151 (by grind [okL])⟩) (by (try dsimp only); omega) a w (ha.sub (xL ⟨rfl, rfl, rfl, rfl, rfl, congrArg (fun z => some (Value.int .i64 z)) (show ((q : Int) + 1 : Int) = ((q + 1) : Int) by first | rfl | omega), trivial⟩)) (hw.drop 1)
 refine xV rfl ?_
 refine jE <| qK <| qK <| xG <| qC <| qE <| qA ?_
 refine tl (qD rfl) ?_
 refine qB <| qC <| qV ?_
 refine xB (.inl rfl) rfl rfl ?_
 have e172 : (true : Bool) = vM b := by (rw [xF (by assumption) (by assumption)] at hi4 hi3; rw [xF (by assumption) (by assumption)] at hj2; rw [xF (by assumption) (by assumption)] at hk4 hk3 hk5; rw [xF (by assumption) (by assumption)] at hq2; symm; unfold vM; rw [decide_eq_true_eq]; exact ⟨by grind, by grind, fun c_ hc_ => by (unfold xM at hc_; rw [List.mem_append] at hc_; rcases hc_ with hc_ | hc_; exact hi4 _ hc_; exact hk4 _ hc_), hj2, hk5, hq2, by rw [sE]; omega⟩)
 exact fun w hw => ⟨congrArg Ending.returned (congrArg (fun x0 => Value.bool x0) e172), (hw.drop 2).weaken hle146⟩

theorem cA {R : RO} {G : List Res} {w : World} {c_b : List Value} (b : Base) (hr_b : kBase.rep R b c_b) (hG : Glob R) (hw : Own w R (G)) :
    Calls Tryz.prog 34 [.agg c_b.toArray].toArray w (kK R G (.int .i64 (if vM b = true then 0 else 20 : Int))) := by
 obtain ⟨c1, A3, d4, A6, d7, A9, d10, A12, d13, rfl, hr2, hs5, hs8, hs11, hs14⟩ := id hr_b
 have z27 := hs5.size
 unfold big at z27
 have z28 := hs8.size
 unfold big at z28
 have z29 := hs11.size
 unfold big at z29
 have z30 := hs14.size
 unfold big at z30
 obtain ⟨A15, d16, A19, d20, A23, d24, rfl, hs17, hs21, hs25⟩ := id hr2
 have z18 := hs17.size
 unfold big at z18
 have z22 := hs21.size
 unfold big at z22
 have z26 := hs25.size
 unfold big at z26
 refine xH (vs := [.agg #[.slice A15 b.names.concepts.length d16, .slice A19 b.names.roles.length d20, .slice A23 b.names.inds.length d24, .slice A3 b.incls.length d4, .slice A6 b.roles.length d7, .slice A9 b.facts.length d10, .slice A12 b.links.length d13]]) Tryz.func34 rfl rfl rfl ?_ hw
 refine qE <| qA ?_
 refine qW (l := [.slice A15 b.names.concepts.length d16, .slice A19 b.names.roles.length d20, .slice A23 b.names.inds.length d24, .slice A3 b.incls.length d4, .slice A6 b.roles.length d7, .slice A9 b.facts.length d10, .slice A12 b.links.length d13]) rfl rfl fun b31 => ?_
 refine tl (qD rfl) ?_
 refine qB <| qC <| qE <| qE <| qA ?_
 refine tl (qQ 0 [.slice A15 b.names.concepts.length d16, .slice A19 b.names.roles.length d20, .slice A23 b.names.inds.length d24, .slice A3 b.incls.length d4, .slice A6 b.roles.length d7, .slice A9 b.facts.length d10, .slice A12 b.links.length d13] rfl pN rfl rfl) ?_
 refine xC ca66 rfl (fun w hw => iL b hr_b (by first | assumption | omega) hw) rfl ?_
 refine tl (wJ rfl) ?_
 refine qB <| qC ?_
 refine vI 5 rfl (fun h32 => ?_) (fun h32 => ?_)
 refine xE rfl ?_
 refine qE <| qA ?_
 refine tl (qD rfl) ?_
 refine qB <| qC <| qV <| qI ?_
 refine xB (.inl rfl) rfl rfl ?_
 have e33 : (20 : Int) = (if vM b = true then 0 else 20 : Int) := by (symm; first | (rw [if_pos (by grind)]) | (rw [if_neg (by grind)]))
 exact fun w hw => ⟨congrArg Ending.returned (congrArg (fun x0 => Value.int .i64 x0) e33), hw.drop 1⟩
 refine xV rfl ?_
 refine qZ <| qC <| qE <| qA ?_
 refine tl (qD rfl) ?_
 refine qB <| qC <| qV ?_
 refine xB (.inl rfl) rfl rfl ?_
 have e34 : (0 : Int) = (if vM b = true then 0 else 20 : Int) := by (symm; first | (rw [if_pos (by grind)]) | (rw [if_neg (by grind)]))
 exact fun w hw => ⟨congrArg Ending.returned (congrArg (fun x0 => Value.int .i64 x0) e34), hw.drop 1⟩

theorem ca114 : Callable Tryz.prog 114 := ⟨by kernel_rfl⟩
theorem ca168 : Callable Tryz.prog 168 := ⟨by kernel_rfl⟩
theorem fo162_0 : kG Tryz.prog 162 0 = some 0 := by kernel_rfl
theorem fo162_1 : kG Tryz.prog 162 1 = some 3 := by kernel_rfl
theorem fo164_0 : kG Tryz.prog 164 0 = some 0 := by kernel_rfl
theorem fo164_1 : kG Tryz.prog 164 1 = some 1 := by kernel_rfl
theorem ld163 : kR Tryz.prog 163 = some (true, 2) := by kernel_rfl
theorem ld165 : kR Tryz.prog 165 = some (true, 3) := by kernel_rfl
theorem pl24 : pR Tryz.prog 24 = some (true, [(0, 1), (1, 1), (2, 1)], 0) := by kernel_rfl
theorem pl87 : pR Tryz.prog 87 = some (true, [(0, 1), (1, 3)], 0) := by kernel_rfl
theorem pl92 : pR Tryz.prog 92 = some (true, [(0, 3), (3, 3)], 0) := by kernel_rfl
theorem zc24 : zG Tryz.prog 24 = some [.slice none 0 0, .slice none 0 0, .slice none 0 0] := by kernel_rfl

theorem oJ {α} {k : Kd α} {R : RO} {A : Option Addr} {l : List α} (h : SlAt k R A l) (hA : A.isNone = true) : l = [] := by
  rcases l with _ | ⟨x, l⟩
  · rfl
  · obtain ⟨b, o, e⟩ := h.addr (by simp)
    rw [e] at hA; cases hA
theorem dC : ∀ l : List Concept, l.length ≤ jI l
  | [] => Nat.le_refl _
  | x :: xs => by have := dC xs; have := dL x; simp only [jI, List.length_cons]; omega

theorem vX {R : RO} {G : List Res} {w : World} {A_l : Option Addr} {d_l : Nat} (l : List (ByteArray)) (hs_l : SlAt kStr R A_l l) (hb : l.length ≤ 1000) (hw : Own w R (G)) :
    Calls Tryz.prog 114 [.slice A_l l.length d_l].toArray w (gZ R G (fun v_ R' L_ => ∃ (A_0 : Option Addr) (c_0 : Nat) (l_0 : List Value), v_ = (.slice A_0 l.length c_0 : Value) ∧ L_ = ([.vec (.slice A_0 l.length c_0) l.length 9 1 l_0] : List Res) ∧ (kStr).reps R' l l_0)) := by
 have hz_l := hs_l.size
 unfold big at hz_l
 refine xH (vs := [.slice A_l l.length d_l]) Tryz.func114 rfl rfl rfl ?_ hw
 refine qE <| qA ?_
 refine tl (qD rfl) ?_
 refine qB <| qC <| qE <| qE <| qA ?_
 refine tl (qG rfl) ?_
 refine tl (qH7 rfl rfl uK) ?_
 refine qB <| qC ?_
 refine vI 4 rfl (fun h2 => ?_) (fun h2 => ?_)
 refine xE rfl ?_
 refine qE <| qA ?_
 refine tl (qD rfl) ?_
 refine qB <| qC <| qV <| qI ?_
 refine tx_G _ (fun w hw => hw.vecnil 9 1) ?_
 have hv3 : (kStr).reps R [] [] := rfl
 refine xB (.inl rfl) rfl rfl ?_
 have e5 : (([] : List (ByteArray)) : List (ByteArray)) = l := by exact (oJ hs_l h2).symm
 intro w hw
 exact ⟨_, _, [.vec (.slice none 0 0) 0 9 1 []], rfl, .refl _, hw, none, 0, [], (congrArg (fun (z0_ : List (ByteArray)) => (.slice none z0_.length 0 : Value)) e5), (congrArg (fun (z0_ : List (ByteArray)) => ([.vec (.slice none z0_.length 0) z0_.length 9 1 []] : List Res)) e5), (Eq.mp (congrArg (fun z => (kStr).reps R z []) e5) hv3)⟩
 refine xV rfl ?_
 refine qZ <| qC <| qE <| qA ?_
 refine jB [] ap22 rfl rfl rfl rfl rfl rfl rfl fun b6 => ?_
 refine tl (qG rfl) ?_
 refine kJ 0 0 1 rfl rfl rfl ?_
 have hv7 : (kStr).reps R ([] : List (ByteArray)) [] := rfl
 obtain ⟨ds13, rp14, src15⟩ := kX qA8 hs_l
 refine kH (k := kStr) (m := l) 0 hv7 (rp14) ap22 rfl rfl rfl (rfl) (src15 _) (by first | omega | (simp; omega)) rfl rfl fun A9 c10 l11 hv12 => ?_
 refine tl (qD rfl) ?_
 refine qB <| qC <| qV ?_
 refine xB (.inl rfl) rfl rfl ?_
 have e17 : ((([] : List (ByteArray)) ++ l) : List (ByteArray)) = l := by first | rfl | simp
 intro w hw
 exact ⟨_, _, [.vec (.slice A9 ((([] : List (ByteArray)) ++ l).length) c10) ((([] : List (ByteArray)) ++ l).length) 9 1 l11], rfl, .refl _, hw, A9, c10, l11, (congrArg (fun (z0_ : List (ByteArray)) => (.slice A9 z0_.length c10 : Value)) e17), (congrArg (fun (z0_ : List (ByteArray)) => ([.vec (.slice A9 z0_.length c10) z0_.length 9 1 l11] : List Res)) e17), (Eq.mp (congrArg (fun z => (kStr).reps R z l11) e17) hv12)⟩

theorem uH {R : RO} {G : List Res} {w : World} {A_l : Option Addr} {d_l : Nat} (l : List (Int)) (hs_l : SlAt kInt R A_l l) (hb : l.length ≤ 1000) (hw : Own w R (G)) :
    Calls Tryz.prog 69 [.slice A_l l.length d_l].toArray w (gZ R G (fun v_ R' L_ => ∃ (A_0 : Option Addr) (c_0 : Nat) (l_0 : List Value), v_ = (.slice A_0 l.length c_0 : Value) ∧ L_ = ([.vec (.slice A_0 l.length c_0) l.length 3 1 l_0] : List Res) ∧ (kInt).reps R' l l_0)) := by
 have hz_l := hs_l.size
 unfold big at hz_l
 refine xH (vs := [.slice A_l l.length d_l]) Tryz.func69 rfl rfl rfl ?_ hw
 refine qE <| qA ?_
 refine tl (qD rfl) ?_
 refine qB <| qC <| qE <| qE <| qA ?_
 refine tl (qG rfl) ?_
 refine tl (qH7 rfl rfl pL) ?_
 refine qB <| qC ?_
 refine vI 4 rfl (fun h2 => ?_) (fun h2 => ?_)
 refine xE rfl ?_
 refine qE <| qA ?_
 refine tl (qD rfl) ?_
 refine qB <| qC <| qV <| qI ?_
 refine tx_G _ (fun w hw => hw.vecnil 3 1) ?_
 have hv3 : (kInt).reps R [] [] := rfl
 refine xB (.inl rfl) rfl rfl ?_
 have e5 : (([] : List (Int)) : List (Int)) = l := by exact (oJ hs_l h2).symm
 intro w hw
 exact ⟨_, _, [.vec (.slice none 0 0) 0 3 1 []], rfl, .refl _, hw, none, 0, [], (congrArg (fun (z0_ : List (Int)) => (.slice none z0_.length 0 : Value)) e5), (congrArg (fun (z0_ : List (Int)) => ([.vec (.slice none z0_.length 0) z0_.length 3 1 []] : List Res)) e5), (Eq.mp (congrArg (fun z => (kInt).reps R z []) e5) hv3)⟩
 refine xV rfl ?_
 refine qZ <| qC <| qE <| qA ?_
 refine jB [] zR rfl rfl rfl rfl rfl rfl rfl fun b6 => ?_
 refine tl (qG rfl) ?_
 refine kJ 0 0 1 rfl rfl rfl ?_
 have hv7 : (kInt).reps R ([] : List (Int)) [] := rfl
 obtain ⟨ds13, rp14, src15⟩ := kX kN hs_l
 refine kH (k := kInt) (m := l) 0 hv7 (rp14) zR rfl rfl rfl (rfl) (src15 _) (by first | omega | (simp; omega)) rfl rfl fun A9 c10 l11 hv12 => ?_
 refine tl (qD rfl) ?_
 refine qB <| qC <| qV ?_
 refine xB (.inl rfl) rfl rfl ?_
 have e17 : ((([] : List (Int)) ++ l) : List (Int)) = l := by first | rfl | simp
 intro w hw
 exact ⟨_, _, [.vec (.slice A9 ((([] : List (Int)) ++ l).length) c10) ((([] : List (Int)) ++ l).length) 3 1 l11], rfl, .refl _, hw, A9, c10, l11, (congrArg (fun (z0_ : List (Int)) => (.slice A9 z0_.length c10 : Value)) e17), (congrArg (fun (z0_ : List (Int)) => ([.vec (.slice A9 z0_.length c10) z0_.length 3 1 l11] : List Res)) e17), (Eq.mp (congrArg (fun z => (kInt).reps R z l11) e17) hv12)⟩

theorem dD (m : Nat) : ∀ {R : RO} {G : List Res} {w : World} {c_c : List Value} (c : Concept) (hr_c : kConcept.rep R c c_c) (hb : jW c ≤ 1000), SizeOf.sizeOf c = m → Own w R (G) →
    Calls Tryz.prog 168 [.agg c_c.toArray].toArray w (gZ R G (fun v_ R' L_ => ∃ (cs_0 : List Value), v_ = (.agg cs_0.toArray : Value) ∧ L_ = ([] : List Res) ∧ kConcept.rep R' c cs_0)) := by
 induction m using Nat.strongRecOn with
 | _ m ih =>
  intro R G w c_c c hr_c hb hm hw
  subst hm
  replace ih := Aside.mk ih
  obtain ⟨A1, d2, rfl, i3, i4, hs5⟩ := qM hr_c
  unfold i64 at i3 i4
  have z6 := hs5.size
  unfold big at z6
  have hne := uZ c
  have hll := dC c.args
  refine xH (vs := [.agg #[.int .i64 c.op, .int .i64 c.n, .slice A1 c.args.length d2]]) Tryz.func168 rfl rfl rfl ?_ hw
  refine qE <| qA ?_
  refine qW (l := [.int .i64 c.op, .int .i64 c.n, .slice A1 c.args.length d2]) rfl rfl fun b7 => ?_
  refine qS eZ rfl fun b8 => ?_
  refine qB <| qC <| qE <| qA ?_
  refine tl (qH 2 rfl wR rfl) ?_
  refine tl (jM 1 rfl dH rfl rfl) ?_
  refine tl (qD rfl) ?_
  refine qB <| qC <| qE <| qA ?_
  refine tl (qH 2 rfl wR rfl) ?_
  refine xN 1 [.int .i64 c.op, .int .i64 c.n, .slice none 0 0] rfl rfl dH rfl rfl rfl rfl rfl rfl ?_
  refine qB <| qC <| qE <| qE <| qA ?_
  refine tl (qG rfl) ?_
  refine tl (jJ rfl sK) ?_
  refine tl (qG rfl) ?_
  refine qB <| qC <| qX ?_
  refine rH _ (fun w hw => hw.vecnil 37 3) ?_
  have hv9 : (kConcept).reps R [] [] := rfl
  refine jF ?_
  refine wD (fun b_ : Nat × List (Concept) × Option Addr × Nat × List Value => match b_ with | (i, acc, A_acc, c_acc, l_acc) => c.args.length - i) (fun b_ : Nat × List (Concept) × Option Addr × Nat × List Value => match b_ with | (i, acc, A_acc, c_acc, l_acc) => [(1, .pointer (some ⟨b7, 0, none⟩)), (2, .pointer (some ⟨b8, 0, none⟩)), (9, .slice A1 c.args.length d2), (10, .int .i64 (c.args.length : Int)), (11, .int .i64 (i : Int))]) (fun b_ : Nat × List (Concept) × Option Addr × Nat × List Value => match b_ with | (i, acc, A_acc, c_acc, l_acc) => (.vec (.slice A_acc acc.length c_acc) acc.length 37 3 l_acc :: .blk b8 [.int .i64 0, .int .i64 0, .slice none 0 0] 37 :: .blk b7 [.int .i64 c.op, .int .i64 c.n, .slice A_acc acc.length c_acc] 37 :: G)) (fun (b_ : Nat × List (Concept) × Option Addr × Nat × List Value) (R_ : RO) => match b_ with | (i, acc, A_acc, c_acc, l_acc) => (kConcept).reps R_ acc l_acc ∧ (i ≤ c.args.length ∧ acc = c.args.take i)) (0, ([] : List (Concept)), none, 0, []) (by repeat' constructor) (by refine ⟨hv9, ?_⟩; exact ⟨by omega, rfl⟩) (fun w hw => hw) ?_
  rintro ⟨i, acc, A_acc, c_acc, l_acc⟩ R15 hle16 hI13 ih14
  try replace hs5 := hs5.mono hle16
  try replace hr_c := kConcept.mono _ _ _ _ hle16 hr_c
  show TC Tryz.prog _ _ _ [] [(1, .pointer (some ⟨b7, 0, none⟩)), (2, .pointer (some ⟨b8, 0, none⟩)), (9, .slice A1 c.args.length d2), (10, .int .i64 (c.args.length : Int)), (11, .int .i64 (i : Int))] R15 (.vec (.slice A_acc acc.length c_acc) acc.length 37 3 l_acc :: .blk b8 [.int .i64 0, .int .i64 0, .slice none 0 0] 37 :: .blk b7 [.int .i64 c.op, .int .i64 c.n, .slice A_acc acc.length c_acc] 37 :: G)
  obtain ⟨hv12, hI17⟩ := hI13
  obtain ⟨hi1, hi2⟩ := hI17
  have hal : acc.length ≤ 1000 := by rw [hi2, List.length_take]; omega
  refine qE <| qA ?_
  refine tl (jR rfl rfl rfl) ?_
  refine qB <| qC <| qE ?_
  refine qP 12 rfl (fun h18 => ?_) (fun h18 => ?_)
  refine xE rfl ?_
  refine qZ <| qC <| qE <| qX <| qE <| qA ?_
  have hb24 : i < c.args.length := by omega
  obtain ⟨x19, hx20⟩ : ∃ x, c.args[i]? = some x := ⟨_, List.getElem?_eq_getElem hb24⟩
  obtain ⟨c21, hr22, ha23⟩ := hs5.get _ x19 hx20
  obtain ⟨A25, d26, rfl, i27, i28, hs29⟩ := qM hr22
  unfold i64 at i27 i28
  have z30 := hs29.size
  unfold big at z30
  have hf31 := yS hx20
  have hf32 := jQ hx20
  refine tl (jV (i := i) hs5 rfl rfl rfl sK hb24) ?_
  refine tl (jA 0 [.int .i64 x19.op, .int .i64 x19.n, .slice A25 x19.args.length d26] ha23 rfl vU rfl rfl) ?_
  refine qS eZ rfl fun b33 => ?_
  refine xN 0 [.int .i64 x19.op, .int .i64 x19.n, .slice A25 x19.args.length d26] rfl rfl vU rfl rfl rfl rfl rfl rfl ?_
  refine qB <| qC ?_
  refine vS R15 (.blk b33 [.int .i64 x19.op, .int .i64 x19.n, .slice A25 x19.args.length d26] 37 :: .blk b8 [.int .i64 0, .int .i64 0, .slice none 0 0] 37 :: .blk b7 [.int .i64 c.op, .int .i64 c.n, .slice A_acc acc.length c_acc] 37 :: G) 7 mixed ?_
  refine td 0 rfl (by kernel_rfl) (qH 2 rfl wR rfl) (fun w hw => ((((hw.pick 1).tail.pick 2).pick 2).pick 2)) ?_
  refine td 1 rfl (by kernel_rfl) (jM 2 rfl dH rfl rfl) (fun w hw => ((((hw.pick 1).tail.pick 2).pick 2).pick 2)) ?_
  refine td 2 rfl (by kernel_rfl) (qQ 0 [.int .i64 x19.op, .int .i64 x19.n, .slice A25 x19.args.length d26] rfl vU rfl rfl) (fun w hw => ((((hw.pick 1).tail.pick 2).pick 2).pick 2)) ?_
  refine td1 3 (by kernel_rfl) rfl ?_
  refine xD ca168 rfl (fun w hw => ih.out (SizeOf.sizeOf x19) (by exact Concept.sizeOf_arg hx20) x19 hr22 (by omega) rfl hw) rfl ?_
  rintro _ R35 _ hle36 ⟨cs_z34_0, rfl, rfl, hr_z34_0⟩
  try replace hr_c := kConcept.mono _ _ _ _ hle36 hr_c
  try replace hv12 := Kd.reps_mono hle36 hv12
  have hle37 := hle16.trans hle36
  obtain ⟨A38, d39, rfl, i40, i41, hs42⟩ := qM hr_z34_0
  unfold i64 at i40 i41
  have z43 := hs42.size
  unfold big at z43
  refine qB ?_
  refine qY (fun w hw => (((((hw.pick 1).tail.pick 2).pick 2).pick 2)).weaken hle36) ?_
  refine td1 4 (by kernel_rfl) rfl ?_
  refine jB [.int .i64 x19.op, .int .i64 x19.n, .slice A38 x19.args.length d39] ap35 rfl rfl rfl rfl rfl rfl rfl fun b44 => ?_
  refine qB ?_
  refine qY (fun w hw => (((((hw.tail.pick 1).tail.pick 2).pick 2).pick 2)).weaken hle36) ?_
  refine td1 5 (by kernel_rfl) rfl ?_
  refine yJ (k := kConcept) (e := x19) 2 0 hv12 (hr_z34_0) ap35 rfl rfl rfl rfl rfl (by omega) rfl rfl fun A45 c46 l47 hv48 => ?_
  refine qB ?_
  refine qY (fun w hw => (((((hw.tail.pick 1).tail.pick 2).pick 2).pick 2)).weaken hle36) ?_
  refine td 6 rfl (by kernel_rfl) (qH 2 rfl wR rfl) (fun w hw => (((((hw.tail.pick 1).tail.pick 2).pick 2).pick 2)).weaken hle36) ?_
  refine td1 7 (by kernel_rfl) rfl ?_
  refine xN 4 [.int .i64 c.op, .int .i64 c.n, .slice A45 ((acc ++ [x19]).length) c46] rfl rfl dH rfl rfl rfl rfl rfl rfl ?_
  refine qB ?_
  refine xZ ?_
  refine xK (by kernel_rfl) ?_
  refine jC <| qC <| qA ?_
  refine tl (jT rfl rfl (by omega) (by omega)) ?_
  refine tl (qG rfl) ?_
  refine qB ?_
  refine xQ ?_
  exact fun a w ha hw => ih14.out (i + 1, (acc ++ [x19]), A45, c46, l47) _ (hle36) (by refine ⟨hv48, ?_⟩; exact ⟨by omega, by rw [hi2, jQ hx20]⟩) (by (try dsimp only); omega) a w (ha.sub (xL (by repeat' constructor))) (hw.drop 2)
  refine xV rfl ?_
  refine jE <| qK <| qK <| xG <| qC <| qE <| qA ?_
  refine tl (qQ 2 [.int .i64 c.op, .int .i64 c.n, .slice A_acc acc.length c_acc] rfl vU rfl rfl) ?_
  refine xN 1 [.int .i64 c.op, .int .i64 c.n, .slice A_acc acc.length c_acc] rfl rfl vU rfl rfl rfl rfl rfl rfl ?_
  refine qB <| qC <| qV ?_
  refine kZ (k := kConcept) (l := acc) 0 rfl hv12 rfl (by (unfold big; omega)) fun R51 hle52 hs50 => ?_
  try replace hr_c := kConcept.mono _ _ _ _ hle52 hr_c
  have hle53 := hle16.trans hle52
  have z54 := hs50.size
  unfold big at z54
  refine kO (cells := [.int .i64 c.op, .int .i64 c.n, .slice A_acc acc.length c_acc]) 0 (.inl rfl) rfl rfl vU rfl ?_
  have e55 : ((Concept.mk c.op c.n acc) : Concept) = c := by (rw [hi2, xF (by assumption) (by assumption)]; cases c; rfl)
  intro w hw
  exact ⟨_, _, [], rfl, hle53, hw.drop 2, ([.int .i64 c.op, .int .i64 c.n, .slice A_acc acc.length c_acc]), rfl, rfl, (Eq.mp (congrArg (fun z => kConcept.rep R51 z [.int .i64 c.op, .int .i64 c.n, .slice A_acc acc.length c_acc]) e55) (tW (x := Concept.mk c.op c.n acc) (show i64 (c.op) from (by unfold i64; omega)) (show i64 (c.n) from (by unfold i64; omega)) hs50))⟩
theorem gL {R : RO} {G : List Res} {w : World} {c_c : List Value} (c : Concept) (hr_c : kConcept.rep R c c_c) (hb : jW c ≤ 1000) (hw : Own w R (G)) :
    Calls Tryz.prog 168 [.agg c_c.toArray].toArray w (gZ R G (fun v_ R' L_ => ∃ (cs_0 : List Value), v_ = (.agg cs_0.toArray : Value) ∧ L_ = ([] : List Res) ∧ kConcept.rep R' c cs_0)) := dD _ c hr_c hb rfl hw

theorem rQ {R : RO} {G : List Res} {w : World} {c_n : List Value} (n : Names) (hr_n : kNames.rep R n c_n) (hb : n.concepts.length ≤ 1000 ∧ n.roles.length ≤ 1000 ∧ n.inds.length ≤ 1000) (hw : Own w R (G)) :
    Calls Tryz.prog 105 [.agg c_n.toArray].toArray w (gZ R G (fun v_ R' L_ => ∃ (A_0_0 : Option Addr) (d_0_0 : Nat) (A_0_1 : Option Addr) (d_0_1 : Nat) (A_0_2 : Option Addr) (d_0_2 : Nat), v_ = (.agg #[.slice A_0_0 n.concepts.length d_0_0, .slice A_0_1 n.roles.length d_0_1, .slice A_0_2 n.inds.length d_0_2, .slice none 0 0, .slice none 0 0, .slice none 0 0, .slice none 0 0] : Value) ∧ L_ = ([] : List Res) ∧ SlAt kStr R' A_0_0 n.concepts ∧ SlAt kStr R' A_0_1 n.roles ∧ SlAt kStr R' A_0_2 n.inds)) := by
 obtain ⟨A1, d2, A5, d6, A9, d10, rfl, hs3, hs7, hs11⟩ := id hr_n
 have z4 := hs3.size
 unfold big at z4
 have z8 := hs7.size
 unfold big at z8
 have z12 := hs11.size
 unfold big at z12
 refine xH (vs := [.agg #[.slice A1 n.concepts.length d2, .slice A5 n.roles.length d6, .slice A9 n.inds.length d10]]) Tryz.func105 rfl rfl rfl ?_ hw
 refine qE <| qA ?_
 refine qW (l := [.slice A1 n.concepts.length d2, .slice A5 n.roles.length d6, .slice A9 n.inds.length d10]) rfl rfl fun b13 => ?_
 refine qS qJ5 rfl fun b14 => ?_
 refine qB <| qC <| qE ?_
 refine vS R (.blk b14 [.slice none 0 0, .slice none 0 0, .slice none 0 0, .slice none 0 0, .slice none 0 0, .slice none 0 0, .slice none 0 0] 30 :: .blk b13 [.slice A1 n.concepts.length d2, .slice A5 n.roles.length d6, .slice A9 n.inds.length d10] 24 :: G) 11 mixed ?_
 refine td 0 rfl (by kernel_rfl) (qH 0 rfl bN rfl) (fun w hw => hw) ?_
 refine td 1 rfl (by kernel_rfl) (jM 1 rfl uO rfl rfl) (fun w hw => hw) ?_
 refine td 3 rfl (by kernel_rfl) (qH 1 rfl pP rfl) (fun w hw => hw) ?_
 refine td 4 rfl (by kernel_rfl) (jM 1 rfl uO rfl rfl) (fun w hw => hw) ?_
 refine td 6 rfl (by kernel_rfl) (qH 2 rfl eC rfl) (fun w hw => hw) ?_
 refine td 7 rfl (by kernel_rfl) (jM 1 rfl uO rfl rfl) (fun w hw => hw) ?_
 refine td1 2 (by kernel_rfl) rfl ?_
 refine xD ca114 rfl (fun w hw => vX n.concepts hs3 (by first | assumption | omega) hw) rfl ?_
 rintro _ R16 _ hle17 ⟨A_z15_0, c_z15_0, l_z15_0, rfl, rfl, hv_z15_0⟩
 try replace hs7 := hs7.mono hle17
 try replace hs11 := hs11.mono hle17
 refine qB ?_
 refine qY (fun w hw => (hw.drop 1).weaken hle17) ?_
 refine td1 5 (by kernel_rfl) rfl ?_
 refine xD ca114 rfl (fun w hw => vX n.roles hs7 (by first | assumption | omega) hw) rfl ?_
 rintro _ R19 _ hle20 ⟨A_z18_0, c_z18_0, l_z18_0, rfl, rfl, hv_z18_0⟩
 try replace hs11 := hs11.mono hle20
 try replace hv_z15_0 := Kd.reps_mono hle20 hv_z15_0
 have hle21 := hle17.trans hle20
 refine qB ?_
 refine qY (fun w hw => (hw.drop 2).weaken hle21) ?_
 refine td1 8 (by kernel_rfl) rfl ?_
 refine xD ca114 rfl (fun w hw => vX n.inds hs11 (by first | assumption | omega) hw) rfl ?_
 rintro _ R23 _ hle24 ⟨A_z22_0, c_z22_0, l_z22_0, rfl, rfl, hv_z22_0⟩
 try replace hv_z15_0 := Kd.reps_mono hle24 hv_z15_0
 try replace hv_z18_0 := Kd.reps_mono hle24 hv_z18_0
 have hle25 := hle21.trans hle24
 have hle26 := hle20.trans hle24
 refine qB ?_
 refine qY (fun w hw => (hw.drop 3).weaken hle25) ?_
 refine td 9 rfl (by kernel_rfl) (xP [.slice A_z15_0 n.concepts.length c_z15_0, .slice A_z18_0 n.roles.length c_z18_0, .slice A_z22_0 n.inds.length c_z22_0] zc24 pl24 rfl rfl) (fun w hw => (hw.drop 3).weaken hle25) ?_
 refine td 10 rfl (by kernel_rfl) (xP [.slice A_z15_0 n.concepts.length c_z15_0, .slice A_z18_0 n.roles.length c_z18_0, .slice A_z22_0 n.inds.length c_z22_0, .slice none 0 0, .slice none 0 0, .slice none 0 0, .slice none 0 0] qJ5 pl30 rfl rfl) (fun w hw => (hw.drop 3).weaken hle25) ?_
 refine td1 11 (by kernel_rfl) rfl ?_
 refine xN 3 [.slice A_z15_0 n.concepts.length c_z15_0, .slice A_z18_0 n.roles.length c_z18_0, .slice A_z22_0 n.inds.length c_z22_0, .slice none 0 0, .slice none 0 0, .slice none 0 0, .slice none 0 0] rfl rfl pN rfl rfl rfl rfl rfl rfl ?_
 refine qB ?_
 refine xZ ?_
 refine xK (by kernel_rfl) ?_
 refine qC <| qV ?_
 refine kZ (k := kStr) (l := n.concepts) 2 rfl hv_z15_0 rfl (by (unfold big; omega)) fun R28 hle29 hs27 => ?_
 try replace hv_z18_0 := Kd.reps_mono hle29 hv_z18_0
 try replace hv_z22_0 := Kd.reps_mono hle29 hv_z22_0
 have hle30 := hle25.trans hle29
 have hle31 := hle26.trans hle29
 have hle32 := hle24.trans hle29
 have z33 := hs27.size
 unfold big at z33
 refine kZ (k := kStr) (l := n.roles) 1 rfl hv_z18_0 rfl (by (unfold big; omega)) fun R35 hle36 hs34 => ?_
 try replace hv_z22_0 := Kd.reps_mono hle36 hv_z22_0
 try replace hs27 := hs27.mono hle36
 have hle37 := hle30.trans hle36
 have hle38 := hle31.trans hle36
 have hle39 := hle32.trans hle36
 have hle40 := hle29.trans hle36
 have z41 := hs34.size
 unfold big at z41
 refine kZ (k := kStr) (l := n.inds) 0 rfl hv_z22_0 rfl (by (unfold big; omega)) fun R43 hle44 hs42 => ?_
 try replace hs27 := hs27.mono hle44
 try replace hs34 := hs34.mono hle44
 have hle45 := hle37.trans hle44
 have hle46 := hle38.trans hle44
 have hle47 := hle39.trans hle44
 have hle48 := hle40.trans hle44
 have hle49 := hle36.trans hle44
 have z50 := hs42.size
 unfold big at z50
 refine kO (cells := [.slice A_z15_0 n.concepts.length c_z15_0, .slice A_z18_0 n.roles.length c_z18_0, .slice A_z22_0 n.inds.length c_z22_0, .slice none 0 0, .slice none 0 0, .slice none 0 0, .slice none 0 0]) 0 (.inl rfl) rfl rfl pN rfl ?_
 have e51 : (n.concepts : List (ByteArray)) = n.concepts := by rfl
 have e52 : (n.roles : List (ByteArray)) = n.roles := by rfl
 have e53 : (n.inds : List (ByteArray)) = n.inds := by rfl
 intro w hw
 exact ⟨_, _, [], rfl, hle45, hw.drop 2, A_z15_0, c_z15_0, A_z18_0, c_z18_0, A_z22_0, c_z22_0, (Eq.trans (Eq.trans (congrArg (fun (z0_ : List (ByteArray)) => (.agg #[.slice A_z15_0 z0_.length c_z15_0, .slice A_z18_0 n.roles.length c_z18_0, .slice A_z22_0 n.inds.length c_z22_0, .slice none 0 0, .slice none 0 0, .slice none 0 0, .slice none 0 0] : Value)) e51) (congrArg (fun (z1_ : List (ByteArray)) => (.agg #[.slice A_z15_0 n.concepts.length c_z15_0, .slice A_z18_0 z1_.length c_z18_0, .slice A_z22_0 n.inds.length c_z22_0, .slice none 0 0, .slice none 0 0, .slice none 0 0, .slice none 0 0] : Value)) e52)) (congrArg (fun (z2_ : List (ByteArray)) => (.agg #[.slice A_z15_0 n.concepts.length c_z15_0, .slice A_z18_0 n.roles.length c_z18_0, .slice A_z22_0 z2_.length c_z22_0, .slice none 0 0, .slice none 0 0, .slice none 0 0, .slice none 0 0] : Value)) e53)), rfl, (Eq.mp (congrArg (fun z => SlAt kStr R43 A_z15_0 z) e51) hs27), (Eq.mp (congrArg (fun z => SlAt kStr R43 A_z18_0 z) e52) hs34), (Eq.mp (congrArg (fun z => SlAt kStr R43 A_z22_0 z) e53) hs42)⟩

inductive Ax where
  | incl (x : Incl)
  | role (x : RoleIncl)
  | fact (x : Fact)
  | link (x : Link)
def kAx : Kd Ax := ⟨1, fun R x cs => match x with
    | .incl y => ∃ c, kIncl.rep R y c ∧ cs = [.iface 162 (.agg c.toArray)]
    | .role y => ∃ c, kRoleIncl.rep R y c ∧ cs = [.iface 163 (.agg c.toArray)]
    | .fact y => ∃ c, kFact.rep R y c ∧ cs = [.iface 164 (.agg c.toArray)]
    | .link y => ∃ c, kLink.rep R y c ∧ cs = [.iface 165 (.agg c.toArray)],
  fun R x cs h => by cases x <;> (obtain ⟨c, _, rfl⟩ := h; rfl),
  fun R R' x cs hle h => by cases x <;> (obtain ⟨c, h1, rfl⟩ := h; exact ⟨c, Kd.mono _ _ _ _ _ hle h1, rfl⟩)⟩
theorem qC0 {R : RO} {x : Ax} {cs : List Value} (h : kAx.rep R x cs) : ∃ t v, cs = [.iface t v] ∧ kAx.rep R x [.iface t v] := by
  cases x <;> (obtain ⟨c, h1, rfl⟩ := h; exact ⟨_, _, rfl, c, h1, rfl⟩)
theorem ones_ax : kAx.Ones := fun _ x cs h => by cases x <;> (obtain ⟨c, _, rfl⟩ := h; rfl)

theorem lE {R : RO} {G : List Res} {w : World} {c_x : List Value} (x : Incl) (l : List (Incl)) {b_l : Nat} {A_l : Option Addr} {c_l : Nat} {l_l : List Value} {q0_l q1_l q2_l q4_l q5_l q6_l : Value} (hr_x : kIncl.rep R x c_x) (hv_l : (kIncl).reps R l l_l) (hb : jW x.sub ≤ 1000 ∧ jW x.sup ≤ 1000 ∧ l.length ≤ 1000) (hw : Own w R (.blk b_l [q0_l, q1_l, q2_l, .slice A_l l.length c_l, q4_l, q5_l, q6_l] 30 :: .vec (.slice A_l l.length c_l) l.length 92 6 l_l :: G)) :
    Calls Tryz.prog 166 [.agg c_x.toArray, .pointer (some ⟨b_l, 0, none⟩)].toArray w (gZ R G (fun v_ R' L_ => ∃ (A_p_l : Option Addr) (c_p_l : Nat) (l_p_l : List Value), v_ = (.tuple #[] : Value) ∧ L_ = ([.blk b_l [q0_l, q1_l, q2_l, .slice A_p_l ((l ++ [x]).length) c_p_l, q4_l, q5_l, q6_l] 30, .vec (.slice A_p_l ((l ++ [x]).length) c_p_l) ((l ++ [x]).length) 92 6 l_p_l] : List Res) ∧ (kIncl).reps R' (l ++ [x]) l_p_l)) := by
 obtain ⟨c1, c2, rfl, hr3, hr4⟩ := id hr_x
 obtain ⟨A5, d6, rfl, i7, i8, hs9⟩ := qM hr3
 unfold i64 at i7 i8
 have z10 := hs9.size
 unfold big at z10
 obtain ⟨A11, d12, rfl, i13, i14, hs15⟩ := qM hr4
 unfold i64 at i13 i14
 have z16 := hs15.size
 unfold big at z16
 refine xH (vs := [.agg #[.int .i64 x.sub.op, .int .i64 x.sub.n, .slice A5 x.sub.args.length d6, .int .i64 x.sup.op, .int .i64 x.sup.n, .slice A11 x.sup.args.length d12], .pointer (some ⟨b_l, 0, none⟩)]) Tryz.func166 rfl rfl rfl ?_ hw
 refine qE <| qA ?_
 refine qW (l := [.int .i64 x.sub.op, .int .i64 x.sub.n, .slice A5 x.sub.args.length d6, .int .i64 x.sup.op, .int .i64 x.sup.n, .slice A11 x.sup.args.length d12]) rfl rfl fun b19 => ?_
 refine qB <| qC ?_
 refine vS R (.blk b19 [.int .i64 x.sub.op, .int .i64 x.sub.n, .slice A5 x.sub.args.length d6, .int .i64 x.sup.op, .int .i64 x.sup.n, .slice A11 x.sup.args.length d12] 162 :: .blk b_l [q0_l, q1_l, q2_l, .slice A_l l.length c_l, q4_l, q5_l, q6_l] 30 :: G) 16 mixed ?_
 refine td 0 rfl (by kernel_rfl) (qG rfl) (fun w hw => (((hw.pick 2).tail.pick 1).pick 1)) ?_
 refine td 1 rfl (by kernel_rfl) (qG rfl) (fun w hw => (((hw.pick 2).tail.pick 1).pick 1)) ?_
 refine td 2 rfl (by kernel_rfl) (zN rfl) (fun w hw => (((hw.pick 2).tail.pick 1).pick 1)) ?_
 refine td 3 rfl (by kernel_rfl) (qH 3 rfl yK rfl) (fun w hw => (((hw.pick 2).tail.pick 1).pick 1)) ?_
 refine td 4 rfl (by kernel_rfl) (jM 1 rfl fG rfl rfl) (fun w hw => (((hw.pick 2).tail.pick 1).pick 1)) ?_
 refine td 5 rfl (by kernel_rfl) (qH 0 rfl fo162_0 rfl) (fun w hw => (((hw.pick 2).tail.pick 1).pick 1)) ?_
 refine td 6 rfl (by kernel_rfl) (qQ 0 [.int .i64 x.sub.op, .int .i64 x.sub.n, .slice A5 x.sub.args.length d6] rfl vU rfl rfl) (fun w hw => (((hw.pick 2).tail.pick 1).pick 1)) ?_
 refine td 8 rfl (by kernel_rfl) (qH 3 rfl fo162_1 rfl) (fun w hw => (((hw.pick 2).tail.pick 1).pick 1)) ?_
 refine td 9 rfl (by kernel_rfl) (qQ 0 [.int .i64 x.sup.op, .int .i64 x.sup.n, .slice A11 x.sup.args.length d12] rfl vU rfl rfl) (fun w hw => (((hw.pick 2).tail.pick 1).pick 1)) ?_
 refine td1 7 (by kernel_rfl) rfl ?_
 refine xD ca168 rfl (fun w hw => gL x.sub hr3 (by first | assumption | omega) hw) rfl ?_
 rintro _ R21 _ hle22 ⟨cs_z20_0, rfl, rfl, hr_z20_0⟩
 try replace hr4 := kConcept.mono _ _ _ _ hle22 hr4
 try replace hv_l := Kd.reps_mono hle22 hv_l
 obtain ⟨A23, d24, rfl, i25, i26, hs27⟩ := qM hr_z20_0
 unfold i64 at i25 i26
 have z28 := hs27.size
 unfold big at z28
 refine qB ?_
 refine qY (fun w hw => ((((hw.pick 2).tail.pick 1).pick 1)).weaken hle22) ?_
 refine td1 10 (by kernel_rfl) rfl ?_
 refine xD ca168 rfl (fun w hw => gL x.sup hr4 (by first | assumption | omega) hw) rfl ?_
 rintro _ R30 _ hle31 ⟨cs_z29_0, rfl, rfl, hr_z29_0⟩
 try replace hv_l := Kd.reps_mono hle31 hv_l
 try replace hr_z20_0 := kConcept.mono _ _ _ _ hle31 hr_z20_0
 have hle32 := hle22.trans hle31
 obtain ⟨A33, d34, rfl, i35, i36, hs37⟩ := qM hr_z29_0
 unfold i64 at i35 i36
 have z38 := hs37.size
 unfold big at z38
 refine qB ?_
 refine qY (fun w hw => ((((hw.pick 2).tail.pick 1).pick 1)).weaken hle32) ?_
 refine td 11 rfl (by kernel_rfl) (xP [.int .i64 x.sub.op, .int .i64 x.sub.n, .slice A23 x.sub.args.length d24, .int .i64 x.sup.op, .int .i64 x.sup.n, .slice A33 x.sup.args.length d34] zc92 pl92 rfl rfl) (fun w hw => ((((hw.pick 2).tail.pick 1).pick 1)).weaken hle32) ?_
 refine td1 12 (by kernel_rfl) rfl ?_
 refine jB [.int .i64 x.sub.op, .int .i64 x.sub.n, .slice A23 x.sub.args.length d24, .int .i64 x.sup.op, .int .i64 x.sup.n, .slice A33 x.sup.args.length d34] ap25 rfl rfl rfl rfl rfl rfl rfl fun b39 => ?_
 refine qB ?_
 refine qY (fun w hw => ((((hw.tail.pick 2).tail.pick 1).pick 1)).weaken hle32) ?_
 refine td1 13 (by kernel_rfl) rfl ?_
 refine yJ (k := kIncl) (e := (Incl.mk x.sub x.sup)) 3 0 hv_l (⟨[.int .i64 x.sub.op, .int .i64 x.sub.n, .slice A23 x.sub.args.length d24], [.int .i64 x.sup.op, .int .i64 x.sup.n, .slice A33 x.sup.args.length d34], rfl, hr_z20_0, hr_z29_0⟩) ap25 rfl rfl rfl rfl rfl (by omega) rfl rfl fun A40 c41 l42 hv43 => ?_
 refine qB ?_
 refine qY (fun w hw => ((((hw.tail.pick 2).tail.pick 1).pick 1)).weaken hle32) ?_
 refine td1 14 (by kernel_rfl) rfl ?_
 refine tl (zN rfl) ?_
 refine qB ?_
 refine qY (fun w hw => ((((hw.tail.pick 2).tail.pick 1).pick 1)).weaken hle32) ?_
 refine td 15 rfl (by kernel_rfl) (qH 3 rfl yK rfl) (fun w hw => ((((hw.tail.pick 2).tail.pick 1).pick 1)).weaken hle32) ?_
 refine td1 16 (by kernel_rfl) rfl ?_
 refine xN 2 [q0_l, q1_l, q2_l, .slice A40 ((l ++ [(Incl.mk x.sub x.sup)]).length) c41, q4_l, q5_l, q6_l] rfl rfl fG rfl rfl rfl rfl rfl rfl ?_
 refine qB ?_
 refine xZ ?_
 refine xK (by kernel_rfl) ?_
 refine dP (.inr rfl) rfl ?_
 have e45 : ((l ++ [(Incl.mk x.sub x.sup)]) : List (Incl)) = l ++ [x] := by rfl
 intro w hw
 exact ⟨_, _, [.blk b_l [q0_l, q1_l, q2_l, .slice A40 ((l ++ [(Incl.mk x.sub x.sup)]).length) c41, q4_l, q5_l, q6_l] 30, .vec (.slice A40 ((l ++ [(Incl.mk x.sub x.sup)]).length) c41) ((l ++ [(Incl.mk x.sub x.sup)]).length) 92 6 l42], rfl, hle32, hw.drop 2, A40, c41, l42, rfl, (congrArg (fun (z0_ : List (Incl)) => ([.blk b_l [q0_l, q1_l, q2_l, .slice A40 z0_.length c41, q4_l, q5_l, q6_l] 30, .vec (.slice A40 z0_.length c41) z0_.length 92 6 l42] : List Res)) e45), (Eq.mp (congrArg (fun z => (kIncl).reps R30 z l42) e45) hv43)⟩

theorem lF {R : RO} {G : List Res} {w : World} {c_x : List Value} (x : RoleIncl) (l : List (RoleIncl)) {b_l : Nat} {A_l : Option Addr} {c_l : Nat} {l_l : List Value} {q0_l q1_l q2_l q3_l q5_l q6_l : Value} (hr_x : kRoleIncl.rep R x c_x) (hv_l : (kRoleIncl).reps R l l_l) (hb : l.length ≤ 1000) (hw : Own w R (.blk b_l [q0_l, q1_l, q2_l, q3_l, .slice A_l l.length c_l, q5_l, q6_l] 30 :: .vec (.slice A_l l.length c_l) l.length 84 2 l_l :: G)) :
    Calls Tryz.prog 169 [.agg c_x.toArray, .pointer (some ⟨b_l, 0, none⟩)].toArray w (gZ R G (fun v_ R' L_ => ∃ (A_p_l : Option Addr) (c_p_l : Nat) (l_p_l : List Value), v_ = (.tuple #[] : Value) ∧ L_ = ([.blk b_l [q0_l, q1_l, q2_l, q3_l, .slice A_p_l ((l ++ [x]).length) c_p_l, q5_l, q6_l] 30, .vec (.slice A_p_l ((l ++ [x]).length) c_p_l) ((l ++ [x]).length) 84 2 l_p_l] : List Res) ∧ (kRoleIncl).reps R' (l ++ [x]) l_p_l)) := by
 obtain ⟨rfl, i1, i2⟩ := id hr_x
 unfold i64 at i1
 unfold i64 at i2
 refine xH (vs := [.agg #[.int .i64 x.sub, .int .i64 x.sup], .pointer (some ⟨b_l, 0, none⟩)]) Tryz.func169 rfl rfl rfl ?_ hw
 refine qE <| qA ?_
 refine qW (l := [.int .i64 x.sub, .int .i64 x.sup]) rfl rfl fun b5 => ?_
 refine qB <| qC ?_
 refine vS R (.blk b5 [.int .i64 x.sub, .int .i64 x.sup] 163 :: .blk b_l [q0_l, q1_l, q2_l, q3_l, .slice A_l l.length c_l, q5_l, q6_l] 30 :: G) 10 mixed ?_
 refine td 0 rfl (by kernel_rfl) (qG rfl) (fun w hw => (((hw.pick 2).tail.pick 1).pick 1)) ?_
 refine td 1 rfl (by kernel_rfl) (qG rfl) (fun w hw => (((hw.pick 2).tail.pick 1).pick 1)) ?_
 refine td 2 rfl (by kernel_rfl) (zN rfl) (fun w hw => (((hw.pick 2).tail.pick 1).pick 1)) ?_
 refine td 3 rfl (by kernel_rfl) (qH 4 rfl yL rfl) (fun w hw => (((hw.pick 2).tail.pick 1).pick 1)) ?_
 refine td 4 rfl (by kernel_rfl) (jM 1 rfl fH rfl rfl) (fun w hw => (((hw.pick 2).tail.pick 1).pick 1)) ?_
 refine td 5 rfl (by kernel_rfl) (qQ 0 [.int .i64 x.sub, .int .i64 x.sup] rfl ld163 rfl rfl) (fun w hw => (((hw.pick 2).tail.pick 1).pick 1)) ?_
 refine td1 6 (by kernel_rfl) rfl ?_
 refine jB [.int .i64 x.sub, .int .i64 x.sup] ap26 rfl rfl rfl rfl rfl rfl rfl fun b6 => ?_
 refine qB ?_
 refine qY (fun w hw => (((hw.tail.pick 2).tail.pick 1).pick 1)) ?_
 refine td1 7 (by kernel_rfl) rfl ?_
 refine yJ (k := kRoleIncl) (e := x) 3 0 hv_l (hr_x) ap26 rfl rfl rfl rfl rfl (by omega) rfl rfl fun A7 c8 l9 hv10 => ?_
 refine qB ?_
 refine qY (fun w hw => (((hw.tail.pick 2).tail.pick 1).pick 1)) ?_
 refine td1 8 (by kernel_rfl) rfl ?_
 refine tl (zN rfl) ?_
 refine qB ?_
 refine qY (fun w hw => (((hw.tail.pick 2).tail.pick 1).pick 1)) ?_
 refine td 9 rfl (by kernel_rfl) (qH 4 rfl yL rfl) (fun w hw => (((hw.tail.pick 2).tail.pick 1).pick 1)) ?_
 refine td1 10 (by kernel_rfl) rfl ?_
 refine xN 2 [q0_l, q1_l, q2_l, q3_l, .slice A7 ((l ++ [x]).length) c8, q5_l, q6_l] rfl rfl fH rfl rfl rfl rfl rfl rfl ?_
 refine qB ?_
 refine xZ ?_
 refine xK (by kernel_rfl) ?_
 refine dP (.inr rfl) rfl ?_
 have e12 : ((l ++ [x]) : List (RoleIncl)) = l ++ [x] := by rfl
 intro w hw
 exact ⟨_, _, [.blk b_l [q0_l, q1_l, q2_l, q3_l, .slice A7 ((l ++ [x]).length) c8, q5_l, q6_l] 30, .vec (.slice A7 ((l ++ [x]).length) c8) ((l ++ [x]).length) 84 2 l9], rfl, .refl _, hw.drop 2, A7, c8, l9, rfl, (congrArg (fun (z0_ : List (RoleIncl)) => ([.blk b_l [q0_l, q1_l, q2_l, q3_l, .slice A7 z0_.length c8, q5_l, q6_l] 30, .vec (.slice A7 z0_.length c8) z0_.length 84 2 l9] : List Res)) e12), (Eq.mp (congrArg (fun z => (kRoleIncl).reps R z l9) e12) hv10)⟩

theorem lG {R : RO} {G : List Res} {w : World} {c_x : List Value} (x : Fact) (l : List (Fact)) {b_l : Nat} {A_l : Option Addr} {c_l : Nat} {l_l : List Value} {q0_l q1_l q2_l q3_l q4_l q6_l : Value} (hr_x : kFact.rep R x c_x) (hv_l : (kFact).reps R l l_l) (hb : jW x.con ≤ 1000 ∧ l.length ≤ 1000) (hw : Own w R (.blk b_l [q0_l, q1_l, q2_l, q3_l, q4_l, .slice A_l l.length c_l, q6_l] 30 :: .vec (.slice A_l l.length c_l) l.length 87 4 l_l :: G)) :
    Calls Tryz.prog 171 [.agg c_x.toArray, .pointer (some ⟨b_l, 0, none⟩)].toArray w (gZ R G (fun v_ R' L_ => ∃ (A_p_l : Option Addr) (c_p_l : Nat) (l_p_l : List Value), v_ = (.tuple #[] : Value) ∧ L_ = ([.blk b_l [q0_l, q1_l, q2_l, q3_l, q4_l, .slice A_p_l ((l ++ [x]).length) c_p_l, q6_l] 30, .vec (.slice A_p_l ((l ++ [x]).length) c_p_l) ((l ++ [x]).length) 87 4 l_p_l] : List Res) ∧ (kFact).reps R' (l ++ [x]) l_p_l)) := by
 obtain ⟨c1, rfl, i2, hr3⟩ := id hr_x
 unfold i64 at i2
 obtain ⟨A4, d5, rfl, i6, i7, hs8⟩ := qM hr3
 unfold i64 at i6 i7
 have z9 := hs8.size
 unfold big at z9
 refine xH (vs := [.agg #[.int .i64 x.ind, .int .i64 x.con.op, .int .i64 x.con.n, .slice A4 x.con.args.length d5], .pointer (some ⟨b_l, 0, none⟩)]) Tryz.func171 rfl rfl rfl ?_ hw
 refine qE <| qA ?_
 refine qW (l := [.int .i64 x.ind, .int .i64 x.con.op, .int .i64 x.con.n, .slice A4 x.con.args.length d5]) rfl rfl fun b12 => ?_
 refine qB <| qC ?_
 refine vS R (.blk b12 [.int .i64 x.ind, .int .i64 x.con.op, .int .i64 x.con.n, .slice A4 x.con.args.length d5] 164 :: .blk b_l [q0_l, q1_l, q2_l, q3_l, q4_l, .slice A_l l.length c_l, q6_l] 30 :: G) 15 mixed ?_
 refine td 0 rfl (by kernel_rfl) (qG rfl) (fun w hw => (((hw.pick 2).tail.pick 1).pick 1)) ?_
 refine td 1 rfl (by kernel_rfl) (qG rfl) (fun w hw => (((hw.pick 2).tail.pick 1).pick 1)) ?_
 refine td 2 rfl (by kernel_rfl) (zN rfl) (fun w hw => (((hw.pick 2).tail.pick 1).pick 1)) ?_
 refine td 3 rfl (by kernel_rfl) (qH 5 rfl zB rfl) (fun w hw => (((hw.pick 2).tail.pick 1).pick 1)) ?_
 refine td 4 rfl (by kernel_rfl) (jM 1 rfl iZ rfl rfl) (fun w hw => (((hw.pick 2).tail.pick 1).pick 1)) ?_
 refine td 5 rfl (by kernel_rfl) (qH 0 rfl fo164_0 rfl) (fun w hw => (((hw.pick 2).tail.pick 1).pick 1)) ?_
 refine td 6 rfl (by kernel_rfl) (jM 0 rfl ld3 rfl rfl) (fun w hw => (((hw.pick 2).tail.pick 1).pick 1)) ?_
 refine td 7 rfl (by kernel_rfl) (qH 1 rfl fo164_1 rfl) (fun w hw => (((hw.pick 2).tail.pick 1).pick 1)) ?_
 refine td 8 rfl (by kernel_rfl) (qQ 0 [.int .i64 x.con.op, .int .i64 x.con.n, .slice A4 x.con.args.length d5] rfl vU rfl rfl) (fun w hw => (((hw.pick 2).tail.pick 1).pick 1)) ?_
 refine td1 9 (by kernel_rfl) rfl ?_
 refine xD ca168 rfl (fun w hw => gL x.con hr3 (by first | assumption | omega) hw) rfl ?_
 rintro _ R14 _ hle15 ⟨cs_z13_0, rfl, rfl, hr_z13_0⟩
 try replace hv_l := Kd.reps_mono hle15 hv_l
 obtain ⟨A16, d17, rfl, i18, i19, hs20⟩ := qM hr_z13_0
 unfold i64 at i18 i19
 have z21 := hs20.size
 unfold big at z21
 refine qB ?_
 refine qY (fun w hw => ((((hw.pick 2).tail.pick 1).pick 1)).weaken hle15) ?_
 refine td 10 rfl (by kernel_rfl) (xP [.int .i64 x.ind, .int .i64 x.con.op, .int .i64 x.con.n, .slice A16 x.con.args.length d17] zc87 pl87 rfl rfl) (fun w hw => ((((hw.pick 2).tail.pick 1).pick 1)).weaken hle15) ?_
 refine td1 11 (by kernel_rfl) rfl ?_
 refine jB [.int .i64 x.ind, .int .i64 x.con.op, .int .i64 x.con.n, .slice A16 x.con.args.length d17] ap27 rfl rfl rfl rfl rfl rfl rfl fun b22 => ?_
 refine qB ?_
 refine qY (fun w hw => ((((hw.tail.pick 2).tail.pick 1).pick 1)).weaken hle15) ?_
 refine td1 12 (by kernel_rfl) rfl ?_
 refine yJ (k := kFact) (e := (Fact.mk x.ind x.con)) 3 0 hv_l (⟨[.int .i64 x.con.op, .int .i64 x.con.n, .slice A16 x.con.args.length d17], rfl, (by unfold i64; omega), hr_z13_0⟩) ap27 rfl rfl rfl rfl rfl (by omega) rfl rfl fun A23 c24 l25 hv26 => ?_
 refine qB ?_
 refine qY (fun w hw => ((((hw.tail.pick 2).tail.pick 1).pick 1)).weaken hle15) ?_
 refine td1 13 (by kernel_rfl) rfl ?_
 refine tl (zN rfl) ?_
 refine qB ?_
 refine qY (fun w hw => ((((hw.tail.pick 2).tail.pick 1).pick 1)).weaken hle15) ?_
 refine td 14 rfl (by kernel_rfl) (qH 5 rfl zB rfl) (fun w hw => ((((hw.tail.pick 2).tail.pick 1).pick 1)).weaken hle15) ?_
 refine td1 15 (by kernel_rfl) rfl ?_
 refine xN 2 [q0_l, q1_l, q2_l, q3_l, q4_l, .slice A23 ((l ++ [(Fact.mk x.ind x.con)]).length) c24, q6_l] rfl rfl iZ rfl rfl rfl rfl rfl rfl ?_
 refine qB ?_
 refine xZ ?_
 refine xK (by kernel_rfl) ?_
 refine dP (.inr rfl) rfl ?_
 have e28 : ((l ++ [(Fact.mk x.ind x.con)]) : List (Fact)) = l ++ [x] := by rfl
 intro w hw
 exact ⟨_, _, [.blk b_l [q0_l, q1_l, q2_l, q3_l, q4_l, .slice A23 ((l ++ [(Fact.mk x.ind x.con)]).length) c24, q6_l] 30, .vec (.slice A23 ((l ++ [(Fact.mk x.ind x.con)]).length) c24) ((l ++ [(Fact.mk x.ind x.con)]).length) 87 4 l25], rfl, hle15, hw.drop 2, A23, c24, l25, rfl, (congrArg (fun (z0_ : List (Fact)) => ([.blk b_l [q0_l, q1_l, q2_l, q3_l, q4_l, .slice A23 z0_.length c24, q6_l] 30, .vec (.slice A23 z0_.length c24) z0_.length 87 4 l25] : List Res)) e28), (Eq.mp (congrArg (fun z => (kFact).reps R14 z l25) e28) hv26)⟩

theorem lH {R : RO} {G : List Res} {w : World} {c_x : List Value} (x : Link) (l : List (Link)) {b_l : Nat} {A_l : Option Addr} {c_l : Nat} {l_l : List Value} {q0_l q1_l q2_l q3_l q4_l q5_l : Value} (hr_x : kLink.rep R x c_x) (hv_l : (kLink).reps R l l_l) (hb : l.length ≤ 1000) (hw : Own w R (.blk b_l [q0_l, q1_l, q2_l, q3_l, q4_l, q5_l, .slice A_l l.length c_l] 30 :: .vec (.slice A_l l.length c_l) l.length 89 3 l_l :: G)) :
    Calls Tryz.prog 173 [.agg c_x.toArray, .pointer (some ⟨b_l, 0, none⟩)].toArray w (gZ R G (fun v_ R' L_ => ∃ (A_p_l : Option Addr) (c_p_l : Nat) (l_p_l : List Value), v_ = (.tuple #[] : Value) ∧ L_ = ([.blk b_l [q0_l, q1_l, q2_l, q3_l, q4_l, q5_l, .slice A_p_l ((l ++ [x]).length) c_p_l] 30, .vec (.slice A_p_l ((l ++ [x]).length) c_p_l) ((l ++ [x]).length) 89 3 l_p_l] : List Res) ∧ (kLink).reps R' (l ++ [x]) l_p_l)) := by
 obtain ⟨rfl, i1, i2, i3⟩ := id hr_x
 unfold i64 at i1
 unfold i64 at i2
 unfold i64 at i3
 refine xH (vs := [.agg #[.int .i64 x.role, .int .i64 x.frm, .int .i64 x.to], .pointer (some ⟨b_l, 0, none⟩)]) Tryz.func173 rfl rfl rfl ?_ hw
 refine qE <| qA ?_
 refine qW (l := [.int .i64 x.role, .int .i64 x.frm, .int .i64 x.to]) rfl rfl fun b6 => ?_
 refine qB <| qC ?_
 refine vS R (.blk b6 [.int .i64 x.role, .int .i64 x.frm, .int .i64 x.to] 165 :: .blk b_l [q0_l, q1_l, q2_l, q3_l, q4_l, q5_l, .slice A_l l.length c_l] 30 :: G) 10 mixed ?_
 refine td 0 rfl (by kernel_rfl) (qG rfl) (fun w hw => (((hw.pick 2).tail.pick 1).pick 1)) ?_
 refine td 1 rfl (by kernel_rfl) (qG rfl) (fun w hw => (((hw.pick 2).tail.pick 1).pick 1)) ?_
 refine td 2 rfl (by kernel_rfl) (zN rfl) (fun w hw => (((hw.pick 2).tail.pick 1).pick 1)) ?_
 refine td 3 rfl (by kernel_rfl) (qH 6 rfl pV rfl) (fun w hw => (((hw.pick 2).tail.pick 1).pick 1)) ?_
 refine td 4 rfl (by kernel_rfl) (jM 1 rfl rK rfl rfl) (fun w hw => (((hw.pick 2).tail.pick 1).pick 1)) ?_
 refine td 5 rfl (by kernel_rfl) (qQ 0 [.int .i64 x.role, .int .i64 x.frm, .int .i64 x.to] rfl ld165 rfl rfl) (fun w hw => (((hw.pick 2).tail.pick 1).pick 1)) ?_
 refine td1 6 (by kernel_rfl) rfl ?_
 refine jB [.int .i64 x.role, .int .i64 x.frm, .int .i64 x.to] ap28 rfl rfl rfl rfl rfl rfl rfl fun b7 => ?_
 refine qB ?_
 refine qY (fun w hw => (((hw.tail.pick 2).tail.pick 1).pick 1)) ?_
 refine td1 7 (by kernel_rfl) rfl ?_
 refine yJ (k := kLink) (e := x) 3 0 hv_l (hr_x) ap28 rfl rfl rfl rfl rfl (by omega) rfl rfl fun A8 c9 l10 hv11 => ?_
 refine qB ?_
 refine qY (fun w hw => (((hw.tail.pick 2).tail.pick 1).pick 1)) ?_
 refine td1 8 (by kernel_rfl) rfl ?_
 refine tl (zN rfl) ?_
 refine qB ?_
 refine qY (fun w hw => (((hw.tail.pick 2).tail.pick 1).pick 1)) ?_
 refine td 9 rfl (by kernel_rfl) (qH 6 rfl pV rfl) (fun w hw => (((hw.tail.pick 2).tail.pick 1).pick 1)) ?_
 refine td1 10 (by kernel_rfl) rfl ?_
 refine xN 2 [q0_l, q1_l, q2_l, q3_l, q4_l, q5_l, .slice A8 ((l ++ [x]).length) c9] rfl rfl rK rfl rfl rfl rfl rfl rfl ?_
 refine qB ?_
 refine xZ ?_
 refine xK (by kernel_rfl) ?_
 refine dP (.inr rfl) rfl ?_
 have e13 : ((l ++ [x]) : List (Link)) = l ++ [x] := by rfl
 intro w hw
 exact ⟨_, _, [.blk b_l [q0_l, q1_l, q2_l, q3_l, q4_l, q5_l, .slice A8 ((l ++ [x]).length) c9] 30, .vec (.slice A8 ((l ++ [x]).length) c9) ((l ++ [x]).length) 89 3 l10], rfl, .refl _, hw.drop 2, A8, c9, l10, rfl, (congrArg (fun (z0_ : List (Link)) => ([.blk b_l [q0_l, q1_l, q2_l, q3_l, q4_l, q5_l, .slice A8 z0_.length c9] 30, .vec (.slice A8 z0_.length c9) z0_.length 89 3 l10] : List Res)) e13), (Eq.mp (congrArg (fun z => (kLink).reps R z l10) e13) hv11)⟩

end Go.Proofs.YtcbcdlajnmkioaaGreatDoor
