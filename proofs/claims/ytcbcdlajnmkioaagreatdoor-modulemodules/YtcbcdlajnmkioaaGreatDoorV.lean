/- A part of the proof of the statement ModuleModules of isagogelaw19: functions walked, and plain laws on what they answer. -/
import Derived.Test.YtcbcdlajnmkioaaGreatDoorT
import Derived.Test.YtcbcdlajnmkioaaGreatDoorS0
namespace Go.Proofs.YtcbcdlajnmkioaaGreatDoor
open Go Go.Proofs
set_option linter.unusedSimpArgs false
set_option linter.unusedVariables false
set_option maxRecDepth 20000
set_option maxHeartbeats 8000000
theorem lI : yO Tryz.prog 146 = some (149, 1, 16, [.nilIface]) := by kernel_rfl
theorem ca105 : Callable Tryz.prog 105 := ⟨by kernel_rfl⟩
theorem ca166 : Callable Tryz.prog 166 := ⟨by kernel_rfl⟩
theorem ca169 : Callable Tryz.prog 169 := ⟨by kernel_rfl⟩
theorem ca171 : Callable Tryz.prog 171 := ⟨by kernel_rfl⟩
theorem ca173 : Callable Tryz.prog 173 := ⟨by kernel_rfl⟩
theorem ca95 : Callable Tryz.prog 95 := ⟨by kernel_rfl⟩
theorem ca96 : Callable Tryz.prog 96 := ⟨by kernel_rfl⟩
theorem ld149 : kR Tryz.prog 149 = some (false, 1) := by kernel_rfl
theorem qK2 : lB Tryz.prog 162 "isagoge/kb.add" = some 166 := by kernel_rfl
theorem qK3 : lB Tryz.prog 163 "isagoge/kb.add" = some 169 := by kernel_rfl
theorem qK4 : lB Tryz.prog 164 "isagoge/kb.add" = some 171 := by kernel_rfl
theorem qK5 : lB Tryz.prog 165 "isagoge/kb.add" = some 173 := by kernel_rfl
theorem ni162 : aF Tryz.prog 162 = true := by kernel_rfl
theorem ni163 : aF Tryz.prog 163 = true := by kernel_rfl
theorem ni164 : aF Tryz.prog 164 = true := by kernel_rfl
theorem ni165 : aF Tryz.prog 165 = true := by kernel_rfl
theorem sl146 : wE Tryz.prog 146 = some (149, 1) := by kernel_rfl

def gH (b : Base) : List Ax := b.incls.map .incl ++ b.roles.map .role ++ b.facts.map .fact ++ b.links.map .link
theorem dE (b : Base) : (gH b).length = xT b := by simp [gH, xT]; omega
theorem fL {α β : Type} (f : α → β) {l : List α} {i : Nat} {x : α} (h : l[i]? = some x) : (l.take (i + 1)).map f = (l.take i).map f ++ [f x] := by rw [jQ h]; simp

theorem qK6 {R : RO} {G : List Res} {w : World} {c_b : List Value} (b : Base) (hr_b : kBase.rep R b c_b) (hb : xT b ≤ 200) (hw : Own w R (G)) :
    Calls Tryz.prog 95 [.agg c_b.toArray].toArray w (gZ R G (fun v_ R' L_ => ∃ (A_0 : Option Addr) (d_0 : Nat), v_ = (.slice A_0 ((gH b).length) d_0 : Value) ∧ L_ = ([] : List Res) ∧ SlAt kAx R' A_0 (gH b))) := by
 obtain ⟨c1, A3, d4, A6, d7, A9, d10, A12, d13, rfl, hr2, hs5, hs8, hs11, hs14⟩ := id hr_b
 have z27 := hs5.size
 unfold big at z27
 have z28 := hs8.size
 unfold big at z28
 have z29 := hs11.size
 unfold big at z29
 have z30 := hs14.size
 unfold big at z30
 obtain ⟨A15, d16, A19, d20, A23, d24, rfl, hs17, hs21, hs25⟩ := id hr2
 have z18 := hs17.size
 unfold big at z18
 have z22 := hs21.size
 unfold big at z22
 have z26 := hs25.size
 unfold big at z26
 have hb_ := hb
 unfold xT at hb_
 refine xH (vs := [.agg #[.slice A15 b.names.concepts.length d16, .slice A19 b.names.roles.length d20, .slice A23 b.names.inds.length d24, .slice A3 b.incls.length d4, .slice A6 b.roles.length d7, .slice A9 b.facts.length d10, .slice A12 b.links.length d13]]) Tryz.func95 rfl rfl rfl ?_ hw
 refine qE <| qA ?_
 refine qW (l := [.slice A15 b.names.concepts.length d16, .slice A19 b.names.roles.length d20, .slice A23 b.names.inds.length d24, .slice A3 b.incls.length d4, .slice A6 b.roles.length d7, .slice A9 b.facts.length d10, .slice A12 b.links.length d13]) rfl rfl fun b31 => ?_
 refine tl (qD rfl) ?_
 refine qB <| qC <| qE <| qA ?_
 refine tl (qD rfl) ?_
 refine qB <| qC <| qE <| qE <| qA ?_
 refine tl (qH 3 rfl yK rfl) ?_
 refine tl (jM 0 rfl fG rfl rfl) ?_
 refine tl (jJ rfl eS) ?_
 refine tl (qG rfl) ?_
 refine qB <| qC <| qX ?_
 refine rH _ (fun w hw => hw.vecnil 149 1) ?_
 have hv32 : (kAx).reps R [] [] := rfl
 refine jF ?_
 refine jN (fun b_ : Nat × List (Ax) × Option Addr × Nat × List Value => match b_ with | (i, p, A_p, c_p, l_p) => b.incls.length - i) (fun b_ : Nat × List (Ax) × Option Addr × Nat × List Value => match b_ with | (i, p, A_p, c_p, l_p) => [(1, .pointer (some ⟨b31, 0, none⟩)), (2, .slice none 0 0), (13, .slice A3 b.incls.length d4), (14, .int .i64 (b.incls.length : Int)), (15, .int .i64 (i : Int)), (3, .slice A_p p.length c_p)]) (fun b_ : Nat × List (Ax) × Option Addr × Nat × List Value => match b_ with | (i, p, A_p, c_p, l_p) => (.vec (.slice A_p p.length c_p) p.length 149 1 l_p :: .blk b31 [.slice A15 b.names.concepts.length d16, .slice A19 b.names.roles.length d20, .slice A23 b.names.inds.length d24, .slice A3 b.incls.length d4, .slice A6 b.roles.length d7, .slice A9 b.facts.length d10, .slice A12 b.links.length d13] 30 :: G)) (fun (b_ : Nat × List (Ax) × Option Addr × Nat × List Value) => match b_ with | (i, p, A_p, c_p, l_p) => (kAx).reps R p l_p ∧ (i ≤ b.incls.length ∧ p = (b.incls.take i).map Ax.incl)) (0, ([] : List (Ax)), none, 0, []) (by repeat' constructor) (by refine ⟨hv32, ?_⟩; exact ⟨by omega, rfl⟩) (fun w hw => hw) ?_
 rintro ⟨i, p, A_p, c_p, l_p⟩ hI36 ih37
 show TC Tryz.prog _ _ _ [] [(1, .pointer (some ⟨b31, 0, none⟩)), (2, .slice none 0 0), (13, .slice A3 b.incls.length d4), (14, .int .i64 (b.incls.length : Int)), (15, .int .i64 (i : Int)), (3, .slice A_p p.length c_p)] R (.vec (.slice A_p p.length c_p) p.length 149 1 l_p :: .blk b31 [.slice A15 b.names.concepts.length d16, .slice A19 b.names.roles.length d20, .slice A23 b.names.inds.length d24, .slice A3 b.incls.length d4, .slice A6 b.roles.length d7, .slice A9 b.facts.length d10, .slice A12 b.links.length d13] 30 :: G)
 obtain ⟨hv35, hI40⟩ := hI36
 obtain ⟨hi1, hi2⟩ := hI40
 have hlei : p.length ≤ 1000 := by rw [hi2]; simp only [List.length_append, List.length_map, List.length_take]; omega
 refine qE <| qA ?_
 refine tl (jR rfl rfl rfl) ?_
 refine qB <| qC <| qE ?_
 refine qP 16 rfl (fun h41 => ?_) (fun h41 => ?_)
 refine xE rfl ?_
 refine qZ <| qC <| qE <| qX <| qE <| qA ?_
 have hb47 : i < b.incls.length := by omega
 obtain ⟨x42, hx43⟩ : ∃ x, b.incls[i]? = some x := ⟨_, List.getElem?_eq_getElem hb47⟩
 obtain ⟨c44, hr45, ha46⟩ := hs5.get _ x42 hx43
 obtain ⟨c48, c49, rfl, hr50, hr51⟩ := id hr45
 obtain ⟨A52, d53, rfl, i54, i55, hs56⟩ := qM hr50
 unfold i64 at i54 i55
 have z57 := hs56.size
 unfold big at z57
 obtain ⟨A58, d59, rfl, i60, i61, hs62⟩ := qM hr51
 unfold i64 at i60 i61
 have z63 := hs62.size
 unfold big at z63
 refine tl (jV (i := i) hs5 rfl rfl rfl eS hb47) ?_
 refine tl (jA 0 [.int .i64 x42.sub.op, .int .i64 x42.sub.n, .slice A52 x42.sub.args.length d53, .int .i64 x42.sup.op, .int .i64 x42.sup.n, .slice A58 x42.sup.args.length d59] ha46 rfl qG8 rfl rfl) ?_
 refine qS zc92 rfl fun b64 => ?_
 refine xN 0 [.int .i64 x42.sub.op, .int .i64 x42.sub.n, .slice A52 x42.sub.args.length d53, .int .i64 x42.sup.op, .int .i64 x42.sup.n, .slice A58 x42.sup.args.length d59] rfl rfl qG8 rfl rfl rfl rfl rfl rfl ?_
 refine qB <| qC <| qA ?_
 refine tl (qG rfl) ?_
 refine tl (qQ 0 [.int .i64 x42.sub.op, .int .i64 x42.sub.n, .slice A52 x42.sub.args.length d53, .int .i64 x42.sup.op, .int .i64 x42.sup.n, .slice A58 x42.sup.args.length d59] rfl qG8 rfl rfl) ?_
 refine tl (qD8 rfl ni162) ?_
 refine jB [.iface 162 (.agg #[.int .i64 x42.sub.op, .int .i64 x42.sub.n, .slice A52 x42.sub.args.length d53, .int .i64 x42.sup.op, .int .i64 x42.sup.n, .slice A58 x42.sup.args.length d59])] lI rfl rfl rfl rfl rfl rfl rfl fun b65 => ?_
 refine yJ (k := kAx) (e := (Ax.incl x42)) 2 0 hv35 (⟨_, hr45, rfl⟩) lI rfl rfl rfl rfl rfl (by omega) rfl rfl fun A66 c67 l68 hv69 => ?_
 refine tl (qD rfl) ?_
 refine qB <| jC <| qC <| qA ?_
 refine tl (jT rfl rfl (by omega) (by omega)) ?_
 refine tl (qG rfl) ?_
 refine qB ?_
 refine xQ ?_
 exact fun a w ha hw => ih37.out (i + 1, (p ++ [(Ax.incl x42)]), A66, c67, l68) (by refine ⟨hv69, ?_⟩; exact ⟨by omega, by rw [hi2, fL _ hx43]⟩) (by (try dsimp only); omega) a w (ha.sub (xL (by repeat' constructor))) (hw.drop 2)
 refine xV rfl ?_
 refine jE <| qK <| qK <| xG <| qC <| qE <| qE <| qA ?_
 refine tl (qH 4 rfl yL rfl) ?_
 refine tl (jM 1 rfl fH rfl rfl) ?_
 refine tl (jJ rfl eU) ?_
 refine tl (qG rfl) ?_
 refine qB <| qC <| qX ?_
 refine jF ?_
 refine jN (fun b_ : Nat × List (Ax) × Option Addr × Nat × List Value => match b_ with | (j, q, A_q, c_q, l_q) => b.roles.length - j) (fun b_ : Nat × List (Ax) × Option Addr × Nat × List Value => match b_ with | (j, q, A_q, c_q, l_q) => [(1, .pointer (some ⟨b31, 0, none⟩)), (2, .slice none 0 0), (26, .slice A6 b.roles.length d7), (27, .int .i64 (b.roles.length : Int)), (28, .int .i64 (j : Int)), (3, .slice A_q q.length c_q)]) (fun b_ : Nat × List (Ax) × Option Addr × Nat × List Value => match b_ with | (j, q, A_q, c_q, l_q) => (.vec (.slice A_q q.length c_q) q.length 149 1 l_q :: .blk b31 [.slice A15 b.names.concepts.length d16, .slice A19 b.names.roles.length d20, .slice A23 b.names.inds.length d24, .slice A3 b.incls.length d4, .slice A6 b.roles.length d7, .slice A9 b.facts.length d10, .slice A12 b.links.length d13] 30 :: G)) (fun (b_ : Nat × List (Ax) × Option Addr × Nat × List Value) => match b_ with | (j, q, A_q, c_q, l_q) => (kAx).reps R q l_q ∧ (j ≤ b.roles.length ∧ q = b.incls.map Ax.incl ++ (b.roles.take j).map Ax.role)) (0, p, A_p, c_p, l_p) (by repeat' constructor) (by refine ⟨hv35, ?_⟩; (refine ⟨by omega, ?_⟩; rw [hi2, xF (l := b.incls) (by assumption) (by assumption)]; simp)) (fun w hw => hw) ?_
 rintro ⟨j, q, A_q, c_q, l_q⟩ hI73 ih74
 show TC Tryz.prog _ _ _ [] [(1, .pointer (some ⟨b31, 0, none⟩)), (2, .slice none 0 0), (26, .slice A6 b.roles.length d7), (27, .int .i64 (b.roles.length : Int)), (28, .int .i64 (j : Int)), (3, .slice A_q q.length c_q)] R (.vec (.slice A_q q.length c_q) q.length 149 1 l_q :: .blk b31 [.slice A15 b.names.concepts.length d16, .slice A19 b.names.roles.length d20, .slice A23 b.names.inds.length d24, .slice A3 b.incls.length d4, .slice A6 b.roles.length d7, .slice A9 b.facts.length d10, .slice A12 b.links.length d13] 30 :: G)
 obtain ⟨hv72, hI77⟩ := hI73
 obtain ⟨hj1, hj2⟩ := hI77
 have hlej : q.length ≤ 1000 := by rw [hj2]; simp only [List.length_append, List.length_map, List.length_take]; omega
 refine qE <| qA ?_
 refine tl (jR rfl rfl rfl) ?_
 refine qB <| qC <| qE ?_
 refine qP 29 rfl (fun h78 => ?_) (fun h78 => ?_)
 refine xE rfl ?_
 refine qZ <| qC <| qE <| qX <| qE <| qA ?_
 have hb84 : j < b.roles.length := by omega
 obtain ⟨x79, hx80⟩ : ∃ x, b.roles[j]? = some x := ⟨_, List.getElem?_eq_getElem hb84⟩
 obtain ⟨c81, hr82, ha83⟩ := hs8.get _ x79 hx80
 obtain ⟨rfl, i85, i86⟩ := id hr82
 unfold i64 at i85
 unfold i64 at i86
 refine tl (jV (i := j) hs8 rfl rfl rfl eU hb84) ?_
 refine tl (jA 0 [.int .i64 x79.sub, .int .i64 x79.sup] ha83 rfl qG9 rfl rfl) ?_
 refine qS zc84 rfl fun b87 => ?_
 refine xN 0 [.int .i64 x79.sub, .int .i64 x79.sup] rfl rfl qG9 rfl rfl rfl rfl rfl rfl ?_
 refine qB <| qC <| qA ?_
 refine tl (qG rfl) ?_
 refine tl (qQ 0 [.int .i64 x79.sub, .int .i64 x79.sup] rfl qG9 rfl rfl) ?_
 refine tl (qD8 rfl ni163) ?_
 refine jB [.iface 163 (.agg #[.int .i64 x79.sub, .int .i64 x79.sup])] lI rfl rfl rfl rfl rfl rfl rfl fun b88 => ?_
 refine yJ (k := kAx) (e := (Ax.role x79)) 2 0 hv72 (⟨_, hr82, rfl⟩) lI rfl rfl rfl rfl rfl (by omega) rfl rfl fun A89 c90 l91 hv92 => ?_
 refine tl (qD rfl) ?_
 refine qB <| jC <| qC <| qA ?_
 refine tl (jT rfl rfl (by omega) (by omega)) ?_
 refine tl (qG rfl) ?_
 refine qB ?_
 refine xQ ?_
 exact fun a w ha hw => ih74.out (j + 1, (q ++ [(Ax.role x79)]), A89, c90, l91) (by refine ⟨hv92, ?_⟩; exact ⟨by omega, by rw [hj2, fL _ hx80]; simp⟩) (by (try dsimp only); omega) a w (ha.sub (xL ⟨rfl, rfl, rfl, rfl, congrArg (fun z => some (Value.int .i64 z)) (show ((j : Int) + 1 : Int) = ((j + 1) : Int) by first | rfl | omega), rfl, trivial⟩)) (hw.drop 2)
 refine xV rfl ?_
 refine jE <| qK <| qK <| xG <| qC <| qE <| qE <| qA ?_
 refine tl (qH 5 rfl zB rfl) ?_
 refine tl (jM 1 rfl iZ rfl rfl) ?_
 refine tl (jJ rfl fI) ?_
 refine tl (qG rfl) ?_
 refine qB <| qC <| qX ?_
 refine jF ?_
 refine jN (fun b_ : Nat × List (Ax) × Option Addr × Nat × List Value => match b_ with | (k, u, A_u, c_u, l_u) => b.facts.length - k) (fun b_ : Nat × List (Ax) × Option Addr × Nat × List Value => match b_ with | (k, u, A_u, c_u, l_u) => [(1, .pointer (some ⟨b31, 0, none⟩)), (2, .slice none 0 0), (39, .slice A9 b.facts.length d10), (40, .int .i64 (b.facts.length : Int)), (41, .int .i64 (k : Int)), (3, .slice A_u u.length c_u)]) (fun b_ : Nat × List (Ax) × Option Addr × Nat × List Value => match b_ with | (k, u, A_u, c_u, l_u) => (.vec (.slice A_u u.length c_u) u.length 149 1 l_u :: .blk b31 [.slice A15 b.names.concepts.length d16, .slice A19 b.names.roles.length d20, .slice A23 b.names.inds.length d24, .slice A3 b.incls.length d4, .slice A6 b.roles.length d7, .slice A9 b.facts.length d10, .slice A12 b.links.length d13] 30 :: G)) (fun (b_ : Nat × List (Ax) × Option Addr × Nat × List Value) => match b_ with | (k, u, A_u, c_u, l_u) => (kAx).reps R u l_u ∧ (k ≤ b.facts.length ∧ u = b.incls.map Ax.incl ++ b.roles.map Ax.role ++ (b.facts.take k).map Ax.fact)) (0, q, A_q, c_q, l_q) (by repeat' constructor) (by refine ⟨hv72, ?_⟩; (refine ⟨by omega, ?_⟩; rw [hj2, xF (l := b.roles) (by assumption) (by assumption)]; simp)) (fun w hw => hw) ?_
 rintro ⟨k, u, A_u, c_u, l_u⟩ hI96 ih97
 show TC Tryz.prog _ _ _ [] [(1, .pointer (some ⟨b31, 0, none⟩)), (2, .slice none 0 0), (39, .slice A9 b.facts.length d10), (40, .int .i64 (b.facts.length : Int)), (41, .int .i64 (k : Int)), (3, .slice A_u u.length c_u)] R (.vec (.slice A_u u.length c_u) u.length 149 1 l_u :: .blk b31 [.slice A15 b.names.concepts.length d16, .slice A19 b.names.roles.length d20, .slice A23 b.names.inds.length d24, .slice A3 b.incls.length d4, .slice A6 b.roles.length d7, .slice A9 b.facts.length d10, .slice A12 b.links.length d13] 30 :: G)
 obtain ⟨hv95, hI100⟩ := hI96
 obtain ⟨hk1, hk2⟩ := hI100
 have hlek : u.length ≤ 1000 := by rw [hk2]; simp only [List.length_append, List.length_map, List.length_take]; omega
 refine qE <| qA ?_
 refine tl (jR rfl rfl rfl) ?_
 refine qB <| qC <| qE ?_
 refine qP 42 rfl (fun h101 => ?_) (fun h101 => ?_)
 refine xE rfl ?_
 refine qZ <| qC <| qE <| qX <| qE <| qA ?_
 have hb107 : k < b.facts.length := by omega
 obtain ⟨x102, hx103⟩ : ∃ x, b.facts[k]? = some x := ⟨_, List.getElem?_eq_getElem hb107⟩
 obtain ⟨c104, hr105, ha106⟩ := hs11.get _ x102 hx103
 obtain ⟨c108, rfl, i109, hr110⟩ := id hr105
 unfold i64 at i109
 obtain ⟨A111, d112, rfl, i113, i114, hs115⟩ := qM hr110
 unfold i64 at i113 i114
 have z116 := hs115.size
 unfold big at z116
 refine tl (jV (i := k) hs11 rfl rfl rfl fI hb107) ?_
 refine tl (jA 0 [.int .i64 x102.ind, .int .i64 x102.con.op, .int .i64 x102.con.n, .slice A111 x102.con.args.length d112] ha106 rfl qB0 rfl rfl) ?_
 refine qS zc87 rfl fun b117 => ?_
 refine xN 0 [.int .i64 x102.ind, .int .i64 x102.con.op, .int .i64 x102.con.n, .slice A111 x102.con.args.length d112] rfl rfl qB0 rfl rfl rfl rfl rfl rfl ?_
 refine qB <| qC <| qA ?_
 refine tl (qG rfl) ?_
 refine tl (qQ 0 [.int .i64 x102.ind, .int .i64 x102.con.op, .int .i64 x102.con.n, .slice A111 x102.con.args.length d112] rfl qB0 rfl rfl) ?_
 refine tl (qD8 rfl ni164) ?_
 refine jB [.iface 164 (.agg #[.int .i64 x102.ind, .int .i64 x102.con.op, .int .i64 x102.con.n, .slice A111 x102.con.args.length d112])] lI rfl rfl rfl rfl rfl rfl rfl fun b118 => ?_
 refine yJ (k := kAx) (e := (Ax.fact x102)) 2 0 hv95 (⟨_, hr105, rfl⟩) lI rfl rfl rfl rfl rfl (by omega) rfl rfl fun A119 c120 l121 hv122 => ?_
 refine tl (qD rfl) ?_
 refine qB <| jC <| qC <| qA ?_
 refine tl (jT rfl rfl (by omega) (by omega)) ?_
 refine tl (qG rfl) ?_
 refine qB ?_
 refine xQ ?_
 exact fun a w ha hw => ih97.out (k + 1, (u ++ [(Ax.fact x102)]), A119, c120, l121) (by refine ⟨hv122, ?_⟩; exact ⟨by omega, by rw [hk2, fL _ hx103]; simp⟩) (by (try dsimp only); omega) a w (ha.sub (xL ⟨rfl, rfl, rfl, rfl, congrArg (fun z => some (Value.int .i64 z)) (show ((k : Int) + 1 : Int) = ((k + 1) : Int) by first | rfl | omega), rfl, trivial⟩)) (hw.drop 2)
 refine xV rfl ?_
 refine jE <| qK <| qK <| xG <| qC <| qE <| qE <| qA ?_
 refine tl (qH 6 rfl pV rfl) ?_
 refine tl (jM 1 rfl rK rfl rfl) ?_
 refine tl (jJ rfl rA) ?_
 refine tl (qG rfl) ?_
 refine qB <| qC <| qX ?_
 refine jF ?_
 refine jN (fun b_ : Nat × List (Ax) × Option Addr × Nat × List Value => match b_ with | (m, v, A_v, c_v, l_v) => b.links.length - m) (fun b_ : Nat × List (Ax) × Option Addr × Nat × List Value => match b_ with | (m, v, A_v, c_v, l_v) => [(2, .slice none 0 0), (52, .slice A12 b.links.length d13), (53, .int .i64 (b.links.length : Int)), (54, .int .i64 (m : Int)), (3, .slice A_v v.length c_v)]) (fun b_ : Nat × List (Ax) × Option Addr × Nat × List Value => match b_ with | (m, v, A_v, c_v, l_v) => (.vec (.slice A_v v.length c_v) v.length 149 1 l_v :: .blk b31 [.slice A15 b.names.concepts.length d16, .slice A19 b.names.roles.length d20, .slice A23 b.names.inds.length d24, .slice A3 b.incls.length d4, .slice A6 b.roles.length d7, .slice A9 b.facts.length d10, .slice A12 b.links.length d13] 30 :: G)) (fun (b_ : Nat × List (Ax) × Option Addr × Nat × List Value) => match b_ with | (m, v, A_v, c_v, l_v) => (kAx).reps R v l_v ∧ (m ≤ b.links.length ∧ v = b.incls.map Ax.incl ++ b.roles.map Ax.role ++ b.facts.map Ax.fact ++ (b.links.take m).map Ax.link)) (0, u, A_u, c_u, l_u) (by repeat' constructor) (by refine ⟨hv95, ?_⟩; (refine ⟨by omega, ?_⟩; rw [hk2, xF (l := b.facts) (by assumption) (by assumption)]; simp)) (fun w hw => hw) ?_
 rintro ⟨m, v, A_v, c_v, l_v⟩ hI126 ih127
 show TC Tryz.prog _ _ _ [] [(2, .slice none 0 0), (52, .slice A12 b.links.length d13), (53, .int .i64 (b.links.length : Int)), (54, .int .i64 (m : Int)), (3, .slice A_v v.length c_v)] R (.vec (.slice A_v v.length c_v) v.length 149 1 l_v :: .blk b31 [.slice A15 b.names.concepts.length d16, .slice A19 b.names.roles.length d20, .slice A23 b.names.inds.length d24, .slice A3 b.incls.length d4, .slice A6 b.roles.length d7, .slice A9 b.facts.length d10, .slice A12 b.links.length d13] 30 :: G)
 obtain ⟨hv125, hI130⟩ := hI126
 obtain ⟨hm1, hm2⟩ := hI130
 have hlem : v.length ≤ 1000 := by rw [hm2]; simp only [List.length_append, List.length_map, List.length_take]; omega
 refine qE <| qA ?_
 refine tl (jR rfl rfl rfl) ?_
 refine qB <| qC <| qE ?_
 refine qP 55 rfl (fun h131 => ?_) (fun h131 => ?_)
 refine xE rfl ?_
 refine qZ <| qC <| qE <| qX <| qE <| qA ?_
 have hb137 : m < b.links.length := by omega
 obtain ⟨x132, hx133⟩ : ∃ x, b.links[m]? = some x := ⟨_, List.getElem?_eq_getElem hb137⟩
 obtain ⟨c134, hr135, ha136⟩ := hs14.get _ x132 hx133
 obtain ⟨rfl, i138, i139, i140⟩ := id hr135
 unfold i64 at i138
 unfold i64 at i139
 unfold i64 at i140
 refine tl (jV (i := m) hs14 rfl rfl rfl rA hb137) ?_
 refine tl (jA 0 [.int .i64 x132.role, .int .i64 x132.frm, .int .i64 x132.to] ha136 rfl qH0 rfl rfl) ?_
 refine qS zc89 rfl fun b141 => ?_
 refine xN 0 [.int .i64 x132.role, .int .i64 x132.frm, .int .i64 x132.to] rfl rfl qH0 rfl rfl rfl rfl rfl rfl ?_
 refine qB <| qC <| qA ?_
 refine tl (qG rfl) ?_
 refine tl (qQ 0 [.int .i64 x132.role, .int .i64 x132.frm, .int .i64 x132.to] rfl qH0 rfl rfl) ?_
 refine tl (qD8 rfl ni165) ?_
 refine jB [.iface 165 (.agg #[.int .i64 x132.role, .int .i64 x132.frm, .int .i64 x132.to])] lI rfl rfl rfl rfl rfl rfl rfl fun b142 => ?_
 refine yJ (k := kAx) (e := (Ax.link x132)) 2 0 hv125 (⟨_, hr135, rfl⟩) lI rfl rfl rfl rfl rfl (by omega) rfl rfl fun A143 c144 l145 hv146 => ?_
 refine tl (qD rfl) ?_
 refine qB <| jC <| qC <| qA ?_
 refine tl (jT rfl rfl (by omega) (by omega)) ?_
 refine tl (qG rfl) ?_
 refine qB ?_
 refine xQ ?_
 exact fun a w ha hw => ih127.out (m + 1, (v ++ [(Ax.link x132)]), A143, c144, l145) (by refine ⟨hv146, ?_⟩; exact ⟨by omega, by rw [hm2, fL _ hx133]; simp⟩) (by (try dsimp only); omega) a w (ha.sub (xL ⟨rfl, rfl, rfl, congrArg (fun z => some (Value.int .i64 z)) (show ((m : Int) + 1 : Int) = ((m + 1) : Int) by first | rfl | omega), rfl, trivial⟩)) (hw.drop 2)
 refine xV rfl ?_
 refine jE <| qK <| qK <| xG <| qC <| qE <| qA ?_
 refine tl (qG rfl) ?_
 refine tl (qD rfl) ?_
 refine qB <| qC <| qV ?_
 refine kZ (k := kAx) (l := v) 0 rfl hv125 rfl (by (unfold big; omega)) fun R149 hle150 hs148 => ?_
 have z151 := hs148.size
 unfold big at z151
 refine xB (.inl rfl) rfl rfl ?_
 have e152 : (v : List (Ax)) = gH b := by (rw [hm2, xF (l := b.links) (by assumption) (by assumption)]; rfl)
 intro w hw
 exact ⟨_, _, [], rfl, hle150, hw.drop 1, A_v, c_v, (congrArg (fun (z0_ : List (Ax)) => (.slice A_v z0_.length c_v : Value)) e152), rfl, (Eq.mp (congrArg (fun z => SlAt kAx R149 A_v z) e152) hs148)⟩

def exI (l : List Ax) : List Incl := l.filterMap fun | .incl x => some x | _ => none
def exR (l : List Ax) : List RoleIncl := l.filterMap fun | .role x => some x | _ => none
def exF (l : List Ax) : List Fact := l.filterMap fun | .fact x => some x | _ => none
def exL (l : List Ax) : List Link := l.filterMap fun | .link x => some x | _ => none
def ofB (n : Names) (l : List Ax) : Base := ⟨n, exI l, exR l, exF l, exL l⟩
def dX : Ax → Prop
  | .incl x => jW x.sub ≤ 1000 ∧ jW x.sup ≤ 1000
  | .fact x => jW x.con ≤ 1000
  | _ => True
theorem iM {l : List Ax} {i : Nat} {x : Ax} (h : l[i]? = some x) : exI (l.take (i + 1)) = exI (l.take i) ++ exI [x] ∧ exR (l.take (i + 1)) = exR (l.take i) ++ exR [x] ∧ exF (l.take (i + 1)) = exF (l.take i) ++ exF [x] ∧ exL (l.take (i + 1)) = exL (l.take i) ++ exL [x] := by
  rw [jQ h]; simp [exI, exR, exF, exL]
theorem ax_len (l : List Ax) (i : Nat) : (exI (l.take i)).length ≤ i ∧ (exR (l.take i)).length ≤ i ∧ (exF (l.take i)).length ≤ i ∧ (exL (l.take i)).length ≤ i := by
  have h (f : Ax → Option Incl) := List.length_filterMap_le f (l.take i)
  have h2 (f : Ax → Option RoleIncl) := List.length_filterMap_le f (l.take i)
  have h3 (f : Ax → Option Fact) := List.length_filterMap_le f (l.take i)
  have h4 (f : Ax → Option Link) := List.length_filterMap_le f (l.take i)
  have hl : (l.take i).length ≤ i := by rw [List.length_take]; omega
  exact ⟨Nat.le_trans (h _) hl, Nat.le_trans (h2 _) hl, Nat.le_trans (h3 _) hl, Nat.le_trans (h4 _) hl⟩

theorem kb_Of_ok {R : RO} {G : List Res} {w : World} {c_n : List Value} (n : Names) {A_l : Option Addr} {d_l : Nat} (l : List (Ax)) (hr_n : kNames.rep R n c_n) (hs_l : SlAt kAx R A_l l) (hb : l.length ≤ 1000 ∧ n.concepts.length ≤ 1000 ∧ n.roles.length ≤ 1000 ∧ n.inds.length ≤ 1000) (hx : ∀ x ∈ l, dX x) (hw : Own w R (G)) :
    Calls Tryz.prog 96 [.agg c_n.toArray, .slice A_l l.length d_l].toArray w (gZ R G (fun v_ R' L_ => ∃ (cs_0 : List Value), v_ = (.agg cs_0.toArray : Value) ∧ L_ = ([] : List Res) ∧ kBase.rep R' (ofB n l) cs_0)) := by
 obtain ⟨A1, d2, A5, d6, A9, d10, rfl, hs3, hs7, hs11⟩ := id hr_n
 have z4 := hs3.size
 unfold big at z4
 have z8 := hs7.size
 unfold big at z8
 have z12 := hs11.size
 unfold big at z12
 have hz_l := hs_l.size
 unfold big at hz_l
 refine xH (vs := [.agg #[.slice A1 n.concepts.length d2, .slice A5 n.roles.length d6, .slice A9 n.inds.length d10], .slice A_l l.length d_l]) Tryz.func96 rfl rfl rfl ?_ hw
 refine qE <| qA ?_
 refine qW (l := [.slice A1 n.concepts.length d2, .slice A5 n.roles.length d6, .slice A9 n.inds.length d10]) rfl rfl fun b13 => ?_
 refine qS qJ5 rfl fun b14 => ?_
 refine qB <| qC <| qE <| qA ?_
 refine tl (qQ 1 [.slice A1 n.concepts.length d2, .slice A5 n.roles.length d6, .slice A9 n.inds.length d10] rfl bT rfl rfl) ?_
 refine xD ca105 rfl (fun w hw => rQ n hr_n (by first | assumption | omega) hw) rfl ?_
 rintro _ R16 _ hle17 ⟨A_z15_0_0, d_z15_0_0, A_z15_0_1, d_z15_0_1, A_z15_0_2, d_z15_0_2, rfl, rfl, hs_z15_0_0, hs_z15_0_1, hs_z15_0_2⟩
 try replace hs_l := hs_l.mono hle17
 have z18 := hs_z15_0_0.size
 unfold big at z18
 have z19 := hs_z15_0_1.size
 unfold big at z19
 have z20 := hs_z15_0_2.size
 unfold big at z20
 refine qS qJ5 rfl fun b21 => ?_
 refine xN 0 [.slice A_z15_0_0 n.concepts.length d_z15_0_0, .slice A_z15_0_1 n.roles.length d_z15_0_1, .slice A_z15_0_2 n.inds.length d_z15_0_2, .slice none 0 0, .slice none 0 0, .slice none 0 0, .slice none 0 0] rfl rfl pN rfl rfl rfl rfl rfl rfl ?_
 refine qB <| qC <| qE <| qE <| qA ?_
 refine tl (qG rfl) ?_
 refine tl (jJ rfl sl146) ?_
 refine tl (qG rfl) ?_
 refine qB <| qC <| qX ?_
 refine rH _ (fun w hw => hw.vecnil 92 6) ?_
 have hv22 : (kIncl).reps R16 [] [] := rfl
 refine rH _ (fun w hw => hw.vecnil 84 2) ?_
 have hv26 : (kRoleIncl).reps R16 [] [] := rfl
 refine rH _ (fun w hw => hw.vecnil 87 4) ?_
 have hv30 : (kFact).reps R16 [] [] := rfl
 refine rH _ (fun w hw => hw.vecnil 89 3) ?_
 have hv34 : (kLink).reps R16 [] [] := rfl
 refine jF ?_
 refine wD (fun b_ : Nat × List (Incl) × Option Addr × Nat × List Value × List (RoleIncl) × Option Addr × Nat × List Value × List (Fact) × Option Addr × Nat × List Value × List (Link) × Option Addr × Nat × List Value => match b_ with | (i, p, A_p, c_p, l_p, q, A_q, c_q, l_q, u, A_u, c_u, l_u, v, A_v, c_v, l_v) => l.length - i) (fun b_ : Nat × List (Incl) × Option Addr × Nat × List Value × List (RoleIncl) × Option Addr × Nat × List Value × List (Fact) × Option Addr × Nat × List Value × List (Link) × Option Addr × Nat × List Value => match b_ with | (i, p, A_p, c_p, l_p, q, A_q, c_q, l_q, u, A_u, c_u, l_u, v, A_v, c_v, l_v) => [(4, .pointer (some ⟨b14, 0, none⟩)), (5, .pointer (some ⟨b21, 0, none⟩)), (10, .slice A_l l.length d_l), (11, .int .i64 (l.length : Int)), (12, .int .i64 (i : Int))]) (fun b_ : Nat × List (Incl) × Option Addr × Nat × List Value × List (RoleIncl) × Option Addr × Nat × List Value × List (Fact) × Option Addr × Nat × List Value × List (Link) × Option Addr × Nat × List Value => match b_ with | (i, p, A_p, c_p, l_p, q, A_q, c_q, l_q, u, A_u, c_u, l_u, v, A_v, c_v, l_v) => (.vec (.slice A_v v.length c_v) v.length 89 3 l_v :: .vec (.slice A_u u.length c_u) u.length 87 4 l_u :: .vec (.slice A_q q.length c_q) q.length 84 2 l_q :: .vec (.slice A_p p.length c_p) p.length 92 6 l_p :: .blk b21 [.slice A_z15_0_0 n.concepts.length d_z15_0_0, .slice A_z15_0_1 n.roles.length d_z15_0_1, .slice A_z15_0_2 n.inds.length d_z15_0_2, .slice A_p p.length c_p, .slice A_q q.length c_q, .slice A_u u.length c_u, .slice A_v v.length c_v] 30 :: .blk b14 [.slice none 0 0, .slice none 0 0, .slice none 0 0, .slice none 0 0, .slice none 0 0, .slice none 0 0, .slice none 0 0] 30 :: .blk b13 [.slice A1 n.concepts.length d2, .slice A5 n.roles.length d6, .slice A9 n.inds.length d10] 24 :: G)) (fun (b_ : Nat × List (Incl) × Option Addr × Nat × List Value × List (RoleIncl) × Option Addr × Nat × List Value × List (Fact) × Option Addr × Nat × List Value × List (Link) × Option Addr × Nat × List Value) (R_ : RO) => match b_ with | (i, p, A_p, c_p, l_p, q, A_q, c_q, l_q, u, A_u, c_u, l_u, v, A_v, c_v, l_v) => (kIncl).reps R_ p l_p ∧ (kRoleIncl).reps R_ q l_q ∧ (kFact).reps R_ u l_u ∧ (kLink).reps R_ v l_v ∧ (i ≤ l.length ∧ p = exI (l.take i) ∧ q = exR (l.take i) ∧ u = exF (l.take i) ∧ v = exL (l.take i))) (0, ([] : List (Incl)), none, 0, [], ([] : List (RoleIncl)), none, 0, [], ([] : List (Fact)), none, 0, [], ([] : List (Link)), none, 0, []) (by repeat' constructor) (by refine ⟨hv22, hv26, hv30, hv34, ?_⟩; exact ⟨by omega, rfl, rfl, rfl, rfl⟩) (fun w hw => hw) ?_
 rintro ⟨i, p, A_p, c_p, l_p, q, A_q, c_q, l_q, u, A_u, c_u, l_u, v, A_v, c_v, l_v⟩ R40 hle41 hI38 ih39
 try replace hs_l := hs_l.mono hle41
 try replace hs_z15_0_0 := hs_z15_0_0.mono hle41
 try replace hs_z15_0_1 := hs_z15_0_1.mono hle41
 try replace hs_z15_0_2 := hs_z15_0_2.mono hle41
 have hle42 := hle17.trans hle41
 show TC Tryz.prog _ _ _ [] [(4, .pointer (some ⟨b14, 0, none⟩)), (5, .pointer (some ⟨b21, 0, none⟩)), (10, .slice A_l l.length d_l), (11, .int .i64 (l.length : Int)), (12, .int .i64 (i : Int))] R40 (.vec (.slice A_v v.length c_v) v.length 89 3 l_v :: .vec (.slice A_u u.length c_u) u.length 87 4 l_u :: .vec (.slice A_q q.length c_q) q.length 84 2 l_q :: .vec (.slice A_p p.length c_p) p.length 92 6 l_p :: .blk b21 [.slice A_z15_0_0 n.concepts.length d_z15_0_0, .slice A_z15_0_1 n.roles.length d_z15_0_1, .slice A_z15_0_2 n.inds.length d_z15_0_2, .slice A_p p.length c_p, .slice A_q q.length c_q, .slice A_u u.length c_u, .slice A_v v.length c_v] 30 :: .blk b14 [.slice none 0 0, .slice none 0 0, .slice none 0 0, .slice none 0 0, .slice none 0 0, .slice none 0 0, .slice none 0 0] 30 :: .blk b13 [.slice A1 n.concepts.length d2, .slice A5 n.roles.length d6, .slice A9 n.inds.length d10] 24 :: G)
 obtain ⟨hv25, hv29, hv33, hv37, hI43⟩ := hI38
 obtain ⟨hi1, hi2, hi3, hi4, hi5⟩ := hI43
 have hal := ax_len l i
 rw [← hi2, ← hi3, ← hi4, ← hi5] at hal
 refine qE <| qA ?_
 refine tl (jR rfl rfl rfl) ?_
 refine qB <| qC <| qE ?_
 refine qP 13 rfl (fun h44 => ?_) (fun h44 => ?_)
 refine xE rfl ?_
 refine qZ <| qC <| qE <| qX <| qE <| qA ?_
 have hb50 : i < l.length := by omega
 obtain ⟨x45, hx46⟩ : ∃ x, l[i]? = some x := ⟨_, List.getElem?_eq_getElem hb50⟩
 obtain ⟨c47, hr48, ha49⟩ := hs_l.get _ x45 hx46
 obtain ⟨t51, v52, rfl, hr48_⟩ := qC0 hr48
 have hf53 := hx _ (List.mem_of_getElem? hx46)
 have hf54 := iM hx46
 refine tl (jV (i := i) hs_l rfl rfl rfl sl146 hb50) ?_
 refine tl (yN 0 ha49 rfl ld149 rfl rfl) ?_
 refine tl (qD rfl) ?_
 refine qB <| qC <| qA ?_
 refine tl (qG rfl) ?_
 rcases x45 with y55 | y55 | y55 | y55
 obtain ⟨c56, hr57, hv_⟩ := id hr48_
 simp only [List.cons.injEq, and_true, Value.iface.injEq] at hv_
 obtain ⟨rfl, rfl⟩ := hv_
 obtain ⟨c58, c59, rfl, hr60, hr61⟩ := id hr57
 obtain ⟨A62, d63, rfl, i65, i66, hs67⟩ := qM hr60
 unfold i64 at i65 i66
 have z68 := hs67.size
 unfold big at z68
 obtain ⟨A69, d70, rfl, i71, i72, hs73⟩ := qM hr61
 unfold i64 at i71 i72
 have z74 := hs73.size
 unfold big at z74
 refine tR (.blk b21 [.slice A_z15_0_0 n.concepts.length d_z15_0_0, .slice A_z15_0_1 n.roles.length d_z15_0_1, .slice A_z15_0_2 n.inds.length d_z15_0_2, .slice A_p p.length c_p, .slice A_q q.length c_q, .slice A_u u.length c_u, .slice A_v v.length c_v] 30 :: .vec (.slice A_p p.length c_p) p.length 92 6 l_p :: .vec (.slice A_v v.length c_v) v.length 89 3 l_v :: .vec (.slice A_u u.length c_u) u.length 87 4 l_u :: .vec (.slice A_q q.length c_q) q.length 84 2 l_q :: .blk b14 [.slice none 0 0, .slice none 0 0, .slice none 0 0, .slice none 0 0, .slice none 0 0, .slice none 0 0, .slice none 0 0] 30 :: .blk b13 [.slice A1 n.concepts.length d2, .slice A5 n.roles.length d6, .slice A9 n.inds.length d10] 24 :: G) (fun w hw => ((hw.pick 3).pick 4)) ?_
 refine cL (gO qK2 ca166 rfl rfl) (fun w hw => lE y55 p hr57 hv25 (by grind [dX]) hw) rfl ?_
 rintro _ R76 _ hle77 ⟨A_z75_p_l, c_z75_p_l, l_z75_p_l, rfl, rfl, hv_z75_p_l⟩
 try replace hs_z15_0_0 := hs_z15_0_0.mono hle77
 try replace hs_z15_0_1 := hs_z15_0_1.mono hle77
 try replace hs_z15_0_2 := hs_z15_0_2.mono hle77
 try replace hv25 := Kd.reps_mono hle77 hv25
 try replace hv29 := Kd.reps_mono hle77 hv29
 try replace hv33 := Kd.reps_mono hle77 hv33
 try replace hv37 := Kd.reps_mono hle77 hv37
 have hle78 := hle42.trans hle77
 have hle79 := hle41.trans hle77
 refine qB <| jC <| qC <| qA ?_
 refine tl (jT rfl rfl (by omega) (by omega)) ?_
 refine tl (qG rfl) ?_
 refine qB ?_
 refine xQ ?_
 exact fun a w ha hw => ih39.out (i + 1, (p ++ [y55]), A_z75_p_l, c_z75_p_l, l_z75_p_l, q, A_q, c_q, l_q, u, A_u, c_u, l_u, v, A_v, c_v, l_v) _ (hle77) (by refine ⟨hv_z75_p_l, hv29, hv33, hv37, ?_⟩; (obtain ⟨k1_, k2_, k3_, k4_⟩ := iM hx46; exact ⟨by omega, by rw [k1_, hi2]; simp [exI], by rw [k2_, hi3]; simp [exR], by rw [k3_, hi4]; simp [exF], by rw [k4_, hi5]; simp [exL]⟩)) (by (try dsimp only); omega) a w (ha.sub (xL (by repeat' constructor))) ((((((((hw.pick 6).pick 6).pick 2).pick 3).pick 6).pick 6).pick 6))
 obtain ⟨c80, hr81, hv_⟩ := id hr48_
 simp only [List.cons.injEq, and_true, Value.iface.injEq] at hv_
 obtain ⟨rfl, rfl⟩ := hv_
 obtain ⟨rfl, i82, i83⟩ := id hr81
 unfold i64 at i82
 unfold i64 at i83
 refine tR (.blk b21 [.slice A_z15_0_0 n.concepts.length d_z15_0_0, .slice A_z15_0_1 n.roles.length d_z15_0_1, .slice A_z15_0_2 n.inds.length d_z15_0_2, .slice A_p p.length c_p, .slice A_q q.length c_q, .slice A_u u.length c_u, .slice A_v v.length c_v] 30 :: .vec (.slice A_q q.length c_q) q.length 84 2 l_q :: .vec (.slice A_v v.length c_v) v.length 89 3 l_v :: .vec (.slice A_u u.length c_u) u.length 87 4 l_u :: .vec (.slice A_p p.length c_p) p.length 92 6 l_p :: .blk b14 [.slice none 0 0, .slice none 0 0, .slice none 0 0, .slice none 0 0, .slice none 0 0, .slice none 0 0, .slice none 0 0] 30 :: .blk b13 [.slice A1 n.concepts.length d2, .slice A5 n.roles.length d6, .slice A9 n.inds.length d10] 24 :: G) (fun w hw => ((hw.pick 2).pick 4)) ?_
 refine cL (gO qK3 ca169 rfl rfl) (fun w hw => lF y55 q hr81 hv29 (by grind [dX]) hw) rfl ?_
 rintro _ R85 _ hle86 ⟨A_z84_p_l, c_z84_p_l, l_z84_p_l, rfl, rfl, hv_z84_p_l⟩
 try replace hs_z15_0_0 := hs_z15_0_0.mono hle86
 try replace hs_z15_0_1 := hs_z15_0_1.mono hle86
 try replace hs_z15_0_2 := hs_z15_0_2.mono hle86
 try replace hv25 := Kd.reps_mono hle86 hv25
 try replace hv29 := Kd.reps_mono hle86 hv29
 try replace hv33 := Kd.reps_mono hle86 hv33
 try replace hv37 := Kd.reps_mono hle86 hv37
 have hle87 := hle42.trans hle86
 have hle88 := hle41.trans hle86
 refine qB <| jC <| qC <| qA ?_
 refine tl (jT rfl rfl (by omega) (by omega)) ?_
 refine tl (qG rfl) ?_
 refine qB ?_
 refine xQ ?_
 exact fun a w ha hw => ih39.out (i + 1, p, A_p, c_p, l_p, (q ++ [y55]), A_z84_p_l, c_z84_p_l, l_z84_p_l, u, A_u, c_u, l_u, v, A_v, c_v, l_v) _ (hle86) (by refine ⟨hv25, hv_z84_p_l, hv33, hv37, ?_⟩; (obtain ⟨k1_, k2_, k3_, k4_⟩ := iM hx46; exact ⟨by omega, by rw [k1_, hi2]; simp [exI], by rw [k2_, hi3]; simp [exR], by rw [k3_, hi4]; simp [exF], by rw [k4_, hi5]; simp [exL]⟩)) (by (try dsimp only); omega) a w (ha.sub (xL (by repeat' constructor))) ((((((((hw.pick 6).pick 6).pick 2).pick 6).pick 4).pick 6).pick 6))
 obtain ⟨c89, hr90, hv_⟩ := id hr48_
 simp only [List.cons.injEq, and_true, Value.iface.injEq] at hv_
 obtain ⟨rfl, rfl⟩ := hv_
 obtain ⟨c91, rfl, i92, hr93⟩ := id hr90
 unfold i64 at i92
 obtain ⟨A94, d95, rfl, i96, i97, hs98⟩ := qM hr93
 unfold i64 at i96 i97
 have z99 := hs98.size
 unfold big at z99
 refine tR (.blk b21 [.slice A_z15_0_0 n.concepts.length d_z15_0_0, .slice A_z15_0_1 n.roles.length d_z15_0_1, .slice A_z15_0_2 n.inds.length d_z15_0_2, .slice A_p p.length c_p, .slice A_q q.length c_q, .slice A_u u.length c_u, .slice A_v v.length c_v] 30 :: .vec (.slice A_u u.length c_u) u.length 87 4 l_u :: .vec (.slice A_v v.length c_v) v.length 89 3 l_v :: .vec (.slice A_q q.length c_q) q.length 84 2 l_q :: .vec (.slice A_p p.length c_p) p.length 92 6 l_p :: .blk b14 [.slice none 0 0, .slice none 0 0, .slice none 0 0, .slice none 0 0, .slice none 0 0, .slice none 0 0, .slice none 0 0] 30 :: .blk b13 [.slice A1 n.concepts.length d2, .slice A5 n.roles.length d6, .slice A9 n.inds.length d10] 24 :: G) (fun w hw => ((hw.pick 1).pick 4)) ?_
 refine cL (gO qK4 ca171 rfl rfl) (fun w hw => lG y55 u hr90 hv33 (by grind [dX]) hw) rfl ?_
 rintro _ R101 _ hle102 ⟨A_z100_p_l, c_z100_p_l, l_z100_p_l, rfl, rfl, hv_z100_p_l⟩
 try replace hs_z15_0_0 := hs_z15_0_0.mono hle102
 try replace hs_z15_0_1 := hs_z15_0_1.mono hle102
 try replace hs_z15_0_2 := hs_z15_0_2.mono hle102
 try replace hv25 := Kd.reps_mono hle102 hv25
 try replace hv29 := Kd.reps_mono hle102 hv29
 try replace hv33 := Kd.reps_mono hle102 hv33
 try replace hv37 := Kd.reps_mono hle102 hv37
 have hle103 := hle42.trans hle102
 have hle104 := hle41.trans hle102
 refine qB <| jC <| qC <| qA ?_
 refine tl (jT rfl rfl (by omega) (by omega)) ?_
 refine tl (qG rfl) ?_
 refine qB ?_
 refine xQ ?_
 exact fun a w ha hw => ih39.out (i + 1, p, A_p, c_p, l_p, q, A_q, c_q, l_q, (u ++ [y55]), A_z100_p_l, c_z100_p_l, l_z100_p_l, v, A_v, c_v, l_v) _ (hle102) (by refine ⟨hv25, hv29, hv_z100_p_l, hv37, ?_⟩; (obtain ⟨k1_, k2_, k3_, k4_⟩ := iM hx46; exact ⟨by omega, by rw [k1_, hi2]; simp [exI], by rw [k2_, hi3]; simp [exR], by rw [k3_, hi4]; simp [exF], by rw [k4_, hi5]; simp [exL]⟩)) (by (try dsimp only); omega) a w (ha.sub (xL (by repeat' constructor))) ((((((((hw.pick 6).pick 6).pick 2).pick 6).pick 6).pick 5).pick 6))
 obtain ⟨c105, hr106, hv_⟩ := id hr48_
 simp only [List.cons.injEq, and_true, Value.iface.injEq] at hv_
 obtain ⟨rfl, rfl⟩ := hv_
 obtain ⟨rfl, i107, i108, i109⟩ := id hr106
 unfold i64 at i107
 unfold i64 at i108
 unfold i64 at i109
 refine tR (.blk b21 [.slice A_z15_0_0 n.concepts.length d_z15_0_0, .slice A_z15_0_1 n.roles.length d_z15_0_1, .slice A_z15_0_2 n.inds.length d_z15_0_2, .slice A_p p.length c_p, .slice A_q q.length c_q, .slice A_u u.length c_u, .slice A_v v.length c_v] 30 :: .vec (.slice A_v v.length c_v) v.length 89 3 l_v :: .vec (.slice A_u u.length c_u) u.length 87 4 l_u :: .vec (.slice A_q q.length c_q) q.length 84 2 l_q :: .vec (.slice A_p p.length c_p) p.length 92 6 l_p :: .blk b14 [.slice none 0 0, .slice none 0 0, .slice none 0 0, .slice none 0 0, .slice none 0 0, .slice none 0 0, .slice none 0 0] 30 :: .blk b13 [.slice A1 n.concepts.length d2, .slice A5 n.roles.length d6, .slice A9 n.inds.length d10] 24 :: G) (fun w hw => ((hw.pick 0).pick 4)) ?_
 refine cL (gO qK5 ca173 rfl rfl) (fun w hw => lH y55 v hr106 hv37 (by grind [dX]) hw) rfl ?_
 rintro _ R111 _ hle112 ⟨A_z110_p_l, c_z110_p_l, l_z110_p_l, rfl, rfl, hv_z110_p_l⟩
 try replace hs_z15_0_0 := hs_z15_0_0.mono hle112
 try replace hs_z15_0_1 := hs_z15_0_1.mono hle112
 try replace hs_z15_0_2 := hs_z15_0_2.mono hle112
 try replace hv25 := Kd.reps_mono hle112 hv25
 try replace hv29 := Kd.reps_mono hle112 hv29
 try replace hv33 := Kd.reps_mono hle112 hv33
 try replace hv37 := Kd.reps_mono hle112 hv37
 have hle113 := hle42.trans hle112
 have hle114 := hle41.trans hle112
 refine qB <| jC <| qC <| qA ?_
 refine tl (jT rfl rfl (by omega) (by omega)) ?_
 refine tl (qG rfl) ?_
 refine qB ?_
 refine xQ ?_
 exact fun a w ha hw => ih39.out (i + 1, p, A_p, c_p, l_p, q, A_q, c_q, l_q, u, A_u, c_u, l_u, (v ++ [y55]), A_z110_p_l, c_z110_p_l, l_z110_p_l) _ (hle112) (by refine ⟨hv25, hv29, hv33, hv_z110_p_l, ?_⟩; (obtain ⟨k1_, k2_, k3_, k4_⟩ := iM hx46; exact ⟨by omega, by rw [k1_, hi2]; simp [exI], by rw [k2_, hi3]; simp [exR], by rw [k3_, hi4]; simp [exF], by rw [k4_, hi5]; simp [exL]⟩)) (by (try dsimp only); omega) a w (ha.sub (xL (by repeat' constructor))) ((((((((hw.pick 6).pick 6).pick 2).pick 6).pick 6).pick 6).pick 6))
 refine xV rfl ?_
 refine jE <| qK <| qK <| xG <| qC <| qE <| qA ?_
 refine tl (qQ 4 [.slice A_z15_0_0 n.concepts.length d_z15_0_0, .slice A_z15_0_1 n.roles.length d_z15_0_1, .slice A_z15_0_2 n.inds.length d_z15_0_2, .slice A_p p.length c_p, .slice A_q q.length c_q, .slice A_u u.length c_u, .slice A_v v.length c_v] rfl pN rfl rfl) ?_
 refine xN 5 [.slice A_z15_0_0 n.concepts.length d_z15_0_0, .slice A_z15_0_1 n.roles.length d_z15_0_1, .slice A_z15_0_2 n.inds.length d_z15_0_2, .slice A_p p.length c_p, .slice A_q q.length c_q, .slice A_u u.length c_u, .slice A_v v.length c_v] rfl rfl pN rfl rfl rfl rfl rfl rfl ?_
 refine qB <| qC <| qV ?_
 refine kZ (k := kIncl) (l := p) 3 rfl hv25 rfl (by (unfold big; omega)) fun R116 hle117 hs115 => ?_
 try replace hs_z15_0_0 := hs_z15_0_0.mono hle117
 try replace hs_z15_0_1 := hs_z15_0_1.mono hle117
 try replace hs_z15_0_2 := hs_z15_0_2.mono hle117
 try replace hv29 := Kd.reps_mono hle117 hv29
 try replace hv33 := Kd.reps_mono hle117 hv33
 try replace hv37 := Kd.reps_mono hle117 hv37
 have hle118 := hle42.trans hle117
 have hle119 := hle41.trans hle117
 have z120 := hs115.size
 unfold big at z120
 refine kZ (k := kRoleIncl) (l := q) 2 rfl hv29 rfl (by (unfold big; omega)) fun R122 hle123 hs121 => ?_
 try replace hs_z15_0_0 := hs_z15_0_0.mono hle123
 try replace hs_z15_0_1 := hs_z15_0_1.mono hle123
 try replace hs_z15_0_2 := hs_z15_0_2.mono hle123
 try replace hv33 := Kd.reps_mono hle123 hv33
 try replace hv37 := Kd.reps_mono hle123 hv37
 try replace hs115 := hs115.mono hle123
 have hle124 := hle118.trans hle123
 have hle125 := hle119.trans hle123
 have hle126 := hle117.trans hle123
 have z127 := hs121.size
 unfold big at z127
 refine kZ (k := kFact) (l := u) 1 rfl hv33 rfl (by (unfold big; omega)) fun R129 hle130 hs128 => ?_
 try replace hs_z15_0_0 := hs_z15_0_0.mono hle130
 try replace hs_z15_0_1 := hs_z15_0_1.mono hle130
 try replace hs_z15_0_2 := hs_z15_0_2.mono hle130
 try replace hv37 := Kd.reps_mono hle130 hv37
 try replace hs115 := hs115.mono hle130
 try replace hs121 := hs121.mono hle130
 have hle131 := hle124.trans hle130
 have hle132 := hle125.trans hle130
 have hle133 := hle126.trans hle130
 have hle134 := hle123.trans hle130
 have z135 := hs128.size
 unfold big at z135
 refine kZ (k := kLink) (l := v) 0 rfl hv37 rfl (by (unfold big; omega)) fun R137 hle138 hs136 => ?_
 try replace hs_z15_0_0 := hs_z15_0_0.mono hle138
 try replace hs_z15_0_1 := hs_z15_0_1.mono hle138
 try replace hs_z15_0_2 := hs_z15_0_2.mono hle138
 try replace hs115 := hs115.mono hle138
 try replace hs121 := hs121.mono hle138
 try replace hs128 := hs128.mono hle138
 have hle139 := hle131.trans hle138
 have hle140 := hle132.trans hle138
 have hle141 := hle133.trans hle138
 have hle142 := hle134.trans hle138
 have hle143 := hle130.trans hle138
 have z144 := hs136.size
 unfold big at z144
 refine kO (cells := [.slice A_z15_0_0 n.concepts.length d_z15_0_0, .slice A_z15_0_1 n.roles.length d_z15_0_1, .slice A_z15_0_2 n.inds.length d_z15_0_2, .slice A_p p.length c_p, .slice A_q q.length c_q, .slice A_u u.length c_u, .slice A_v v.length c_v]) 1 (.inl rfl) rfl rfl pN rfl ?_
 have e145 : ((Base.mk (Names.mk n.concepts n.roles n.inds) p q u v) : Base) = ofB n l := by (rw [hi2, hi3, hi4, hi5, xF (l := l) (by assumption) (by assumption)]; rfl)
 intro w hw
 exact ⟨_, _, [], rfl, hle139, hw.drop 3, ([.slice A_z15_0_0 n.concepts.length d_z15_0_0, .slice A_z15_0_1 n.roles.length d_z15_0_1, .slice A_z15_0_2 n.inds.length d_z15_0_2, .slice A_p p.length c_p, .slice A_q q.length c_q, .slice A_u u.length c_u, .slice A_v v.length c_v]), rfl, rfl, (Eq.mp (congrArg (fun z => kBase.rep R137 z [.slice A_z15_0_0 n.concepts.length d_z15_0_0, .slice A_z15_0_1 n.roles.length d_z15_0_1, .slice A_z15_0_2 n.inds.length d_z15_0_2, .slice A_p p.length c_p, .slice A_q q.length c_q, .slice A_u u.length c_u, .slice A_v v.length c_v]) e145) ⟨[.slice A_z15_0_0 n.concepts.length d_z15_0_0, .slice A_z15_0_1 n.roles.length d_z15_0_1, .slice A_z15_0_2 n.inds.length d_z15_0_2], _, _, _, _, _, _, _, _, rfl, ⟨_, _, _, _, _, _, rfl, hs_z15_0_0, hs_z15_0_1, hs_z15_0_2⟩, hs115, hs121, hs128, hs136⟩)⟩

def aS (b : Base) (ks : List Int) : List Ax := ks.filterMap fun k => (gH b)[k.toNat]?
def zY (b : Base) (ks : List Int) : Base := ofB b.names (aS b ks)
theorem qF8 {b : Base} {l : List Int} {i : Nat} {k : Int} {x : Ax} (h : l[i]? = some k) (hx : (gH b)[k.toNat]? = some x) : aS b (l.take (i + 1)) = aS b (l.take i) ++ [x] := by
  rw [jQ h]; simp [aS, hx]
theorem qK7 (b : Base) (l : List Int) (i : Nat) : (aS b (l.take i)).length ≤ i := by
  have h := List.length_filterMap_le (fun k => (gH b)[k.toNat]?) (l.take i)
  rw [List.length_take] at h; unfold aS; omega
theorem oK {b : Base} {l : List Int} {x : Ax} (h : x ∈ aS b l) : x ∈ gH b := by
  unfold aS at h
  obtain ⟨k, -, hk⟩ := List.mem_filterMap.1 h
  exact List.mem_of_getElem? hk
theorem BaseOk.small {b : Base} (h : BaseOk b) : ∀ x ∈ gH b, dX x := by
  intro x hx
  simp only [gH, List.mem_append, List.mem_map] at hx
  rcases hx with ((⟨y, hy, rfl⟩ | ⟨y, hy, rfl⟩) | ⟨y, hy, rfl⟩) | ⟨y, hy, rfl⟩
  · obtain ⟨i, hi⟩ := List.mem_iff_getElem?.1 hy
    have h1 := (h.concepts _ (kE hi).1).1
    have h2 := (h.concepts _ (kE hi).2).1
    exact ⟨by omega, by omega⟩
  · trivial
  · obtain ⟨i, hi⟩ := List.mem_iff_getElem?.1 hy
    have h1 := (h.concepts _ (wB hi)).1
    show jW y.con ≤ 1000
    omega
  · trivial
theorem BaseOk.namesLen {b : Base} (h : BaseOk b) : b.names.concepts.length ≤ 16 ∧ b.names.roles.length ≤ 6 ∧ b.names.inds.length ≤ 10 := by
  have := h.names
  unfold yG at this
  rw [decide_eq_true_eq] at this
  exact ⟨this.1, this.2.1, this.2.2.1⟩

theorem qF9 {R : RO} {G : List Res} {w : World} {c_b : List Value} (b : Base) {A_l : Option Addr} {d_l : Nat} (l : List (Int)) (hr_b : kBase.rep R b c_b) (hs_l : SlAt kInt R A_l l) (hB : BaseOk b) (hl : l.length ≤ 100 ∧ ∀ k ∈ l, 0 ≤ k ∧ k < xT b) (hw : Own w R (G)) :
    Calls Tryz.prog 74 [.agg c_b.toArray, .slice A_l l.length d_l].toArray w (gZ R G (fun v_ R' L_ => ∃ (cs_0 : List Value), v_ = (.agg cs_0.toArray : Value) ∧ L_ = ([] : List Res) ∧ kBase.rep R' (zY b l) cs_0)) := by
 obtain ⟨c1, A3, d4, A6, d7, A9, d10, A12, d13, rfl, hr2, hs5, hs8, hs11, hs14⟩ := id hr_b
 have z27 := hs5.size
 unfold big at z27
 have z28 := hs8.size
 unfold big at z28
 have z29 := hs11.size
 unfold big at z29
 have z30 := hs14.size
 unfold big at z30
 obtain ⟨A15, d16, A19, d20, A23, d24, rfl, hs17, hs21, hs25⟩ := id hr2
 have z18 := hs17.size
 unfold big at z18
 have z22 := hs21.size
 unfold big at z22
 have z26 := hs25.size
 unfold big at z26
 have hz_l := hs_l.size
 unfold big at hz_l
 have hcnt := hB.count
 have haln := dE b
 refine xH (vs := [.agg #[.slice A15 b.names.concepts.length d16, .slice A19 b.names.roles.length d20, .slice A23 b.names.inds.length d24, .slice A3 b.incls.length d4, .slice A6 b.roles.length d7, .slice A9 b.facts.length d10, .slice A12 b.links.length d13], .slice A_l l.length d_l]) Tryz.func74 rfl rfl rfl ?_ hw
 refine qE <| qA ?_
 refine qW (l := [.slice A15 b.names.concepts.length d16, .slice A19 b.names.roles.length d20, .slice A23 b.names.inds.length d24, .slice A3 b.incls.length d4, .slice A6 b.roles.length d7, .slice A9 b.facts.length d10, .slice A12 b.links.length d13]) rfl rfl fun b31 => ?_
 refine qS qJ5 rfl fun b32 => ?_
 refine qB <| qC <| qE <| qA ?_
 refine tl (qQ 1 [.slice A15 b.names.concepts.length d16, .slice A19 b.names.roles.length d20, .slice A23 b.names.inds.length d24, .slice A3 b.incls.length d4, .slice A6 b.roles.length d7, .slice A9 b.facts.length d10, .slice A12 b.links.length d13] rfl pN rfl rfl) ?_
 refine xD ca95 rfl (fun w hw => qK6 b hr_b (by omega) hw) rfl ?_
 rintro _ R34 _ hle35 ⟨A_z33_0, d_z33_0, rfl, rfl, hs_z33_0⟩
 try replace hr2 := kNames.mono _ _ _ _ hle35 hr2
 try replace hs_l := hs_l.mono hle35
 have z36 := hs_z33_0.size
 unfold big at z36
 refine tl (qD rfl) ?_
 refine qB <| qC <| qE <| qA ?_
 refine tl (qD rfl) ?_
 refine qB <| qC <| qE <| qE <| qA ?_
 refine tl (qG rfl) ?_
 refine tl (jJ rfl pL) ?_
 refine tl (qG rfl) ?_
 refine qB <| qC <| qX ?_
 refine rH _ (fun w hw => hw.vecnil 149 1) ?_
 have hv37 : (kAx).reps R34 [] [] := rfl
 refine jF ?_
 refine jN (fun b_ : Nat × List (Ax) × Option Addr × Nat × List Value => match b_ with | (i, acc, A_acc, c_acc, l_acc) => l.length - i) (fun b_ : Nat × List (Ax) × Option Addr × Nat × List Value => match b_ with | (i, acc, A_acc, c_acc, l_acc) => [(2, .pointer (some ⟨b31, 0, none⟩)), (4, .pointer (some ⟨b32, 0, none⟩)), (5, .slice A_z33_0 ((gH b).length) d_z33_0), (11, .slice A_l l.length d_l), (12, .int .i64 (l.length : Int)), (13, .int .i64 (i : Int)), (6, .slice A_acc acc.length c_acc)]) (fun b_ : Nat × List (Ax) × Option Addr × Nat × List Value => match b_ with | (i, acc, A_acc, c_acc, l_acc) => (.vec (.slice A_acc acc.length c_acc) acc.length 149 1 l_acc :: .blk b32 [.slice none 0 0, .slice none 0 0, .slice none 0 0, .slice none 0 0, .slice none 0 0, .slice none 0 0, .slice none 0 0] 30 :: .blk b31 [.slice A15 b.names.concepts.length d16, .slice A19 b.names.roles.length d20, .slice A23 b.names.inds.length d24, .slice A3 b.incls.length d4, .slice A6 b.roles.length d7, .slice A9 b.facts.length d10, .slice A12 b.links.length d13] 30 :: G)) (fun (b_ : Nat × List (Ax) × Option Addr × Nat × List Value) => match b_ with | (i, acc, A_acc, c_acc, l_acc) => (kAx).reps R34 acc l_acc ∧ (i ≤ l.length ∧ acc = aS b (l.take i))) (0, ([] : List (Ax)), none, 0, []) (by repeat' constructor) (by refine ⟨hv37, ?_⟩; exact ⟨by omega, rfl⟩) (fun w hw => hw) ?_
 rintro ⟨i, acc, A_acc, c_acc, l_acc⟩ hI41 ih42
 show TC Tryz.prog _ _ _ [] [(2, .pointer (some ⟨b31, 0, none⟩)), (4, .pointer (some ⟨b32, 0, none⟩)), (5, .slice A_z33_0 ((gH b).length) d_z33_0), (11, .slice A_l l.length d_l), (12, .int .i64 (l.length : Int)), (13, .int .i64 (i : Int)), (6, .slice A_acc acc.length c_acc)] R34 (.vec (.slice A_acc acc.length c_acc) acc.length 149 1 l_acc :: .blk b32 [.slice none 0 0, .slice none 0 0, .slice none 0 0, .slice none 0 0, .slice none 0 0, .slice none 0 0, .slice none 0 0] 30 :: .blk b31 [.slice A15 b.names.concepts.length d16, .slice A19 b.names.roles.length d20, .slice A23 b.names.inds.length d24, .slice A3 b.incls.length d4, .slice A6 b.roles.length d7, .slice A9 b.facts.length d10, .slice A12 b.links.length d13] 30 :: G)
 obtain ⟨hv40, hI45⟩ := hI41
 obtain ⟨hi1, hi2⟩ := hI45
 have hpl := qK7 b l i
 rw [← hi2] at hpl
 refine qE <| qA ?_
 refine tl (jR rfl rfl rfl) ?_
 refine qB <| qC <| qE ?_
 refine qP 14 rfl (fun h46 => ?_) (fun h46 => ?_)
 refine xE rfl ?_
 refine qZ <| qC <| qE <| qX <| qE <| qA ?_
 have hb52 : i < l.length := by omega
 obtain ⟨x47, hx48⟩ : ∃ x, l[i]? = some x := ⟨_, List.getElem?_eq_getElem hb52⟩
 obtain ⟨c49, hr50, ha51⟩ := hs_l.get _ x47 hx48
 obtain ⟨rfl, i53⟩ := hr50
 unfold i64 at i53
 have hf54 := hl.2 _ (List.mem_of_getElem? hx48)
 refine tl (jV (i := i) hs_l rfl rfl rfl pL hb52) ?_
 refine tl (yN 0 ha51 rfl ld3 rfl rfl) ?_
 refine tl (qD rfl) ?_
 refine qB <| qC <| qA ?_
 refine tl (qG rfl) ?_
 refine tl (qG rfl) ?_
 refine tl (qG rfl) ?_
 have hb60 : 0 ≤ x47 ∧ (x47).toNat < (gH b).length := by omega
 obtain ⟨x55, hx56⟩ : ∃ x, (gH b)[(x47).toNat]? = some x := ⟨_, List.getElem?_eq_getElem hb60.2⟩
 obtain ⟨c57, hr58, ha59⟩ := hs_z33_0.get _ x55 hx56
 obtain ⟨t61, v62, rfl, hr58_⟩ := qC0 hr58
 refine tl (zH hs_z33_0 rfl rfl rfl sl146 hb60.1 hb60.2) ?_
 refine tl (yN 0 ha59 rfl ld149 rfl rfl) ?_
 refine jB [.iface t61 v62] lI rfl rfl rfl rfl rfl rfl rfl fun b63 => ?_
 refine yJ (k := kAx) (e := x55) 1 0 hv40 (id hr58_) lI rfl rfl rfl rfl rfl (by omega) rfl rfl fun A64 c65 l66 hv67 => ?_
 refine tl (qD rfl) ?_
 refine qB <| jC <| qC <| qA ?_
 refine tl (jT rfl rfl (by omega) (by omega)) ?_
 refine tl (qG rfl) ?_
 refine qB ?_
 refine xQ ?_
 exact fun a w ha hw => ih42.out (i + 1, (acc ++ [x55]), A64, c65, l66) (by refine ⟨hv67, ?_⟩; exact ⟨by omega, by rw [hi2, qF8 hx48 hx56]⟩) (by (try dsimp only); omega) a w (ha.sub (xL (by repeat' constructor))) (hw.drop 1)
 refine xV rfl ?_
 refine jE <| qK <| qK <| xG <| qC <| qE <| qA ?_
 refine tl (qH 0 rfl zJ rfl) ?_
 refine tl (qQ 2 [.slice A15 b.names.concepts.length d16, .slice A19 b.names.roles.length d20, .slice A23 b.names.inds.length d24] rfl bT rfl rfl) ?_
 refine tl (qG rfl) ?_
 refine pM (k := kAx) (l := acc) 0 rfl hv40 rfl (by (unfold big; omega)) fun R70 hle71 hs69 => ?_
 try replace hr2 := kNames.mono _ _ _ _ hle71 hr2
 have hle72 := hle35.trans hle71
 have z73 := hs69.size
 unfold big at z73
 refine xD ca96 rfl (fun w hw => kb_Of_ok b.names acc hr2 hs69 (by first | (have := hB.namesLen; refine ⟨?_, by omega, by omega, by omega⟩; omega) | (intro x_ hx_; rw [hi2] at hx_; exact hB.small _ (oK hx_))) (by first | (have := hB.namesLen; refine ⟨?_, by omega, by omega, by omega⟩; omega) | (intro x_ hx_; rw [hi2] at hx_; exact hB.small _ (oK hx_))) hw) rfl ?_
 rintro _ R75 _ hle76 ⟨cs_z74_0, rfl, rfl, hr_z74_0⟩
 have hle77 := hle72.trans hle76
 have hle78 := hle71.trans hle76
 obtain ⟨c79, A81, d82, A84, d85, A87, d88, A90, d91, rfl, hr80, hs83, hs86, hs89, hs92⟩ := id hr_z74_0
 have z105 := hs83.size
 unfold big at z105
 have z106 := hs86.size
 unfold big at z106
 have z107 := hs89.size
 unfold big at z107
 have z108 := hs92.size
 unfold big at z108
 obtain ⟨A93, d94, A97, d98, A101, d102, rfl, hs95, hs99, hs103⟩ := id hr80
 have z96 := hs95.size
 unfold big at z96
 have z100 := hs99.size
 unfold big at z100
 have z104 := hs103.size
 unfold big at z104
 refine xN 0 [.slice A93 ((((ofB b.names acc).names).concepts).length) d94, .slice A97 ((((ofB b.names acc).names).roles).length) d98, .slice A101 ((((ofB b.names acc).names).inds).length) d102, .slice A81 (((ofB b.names acc).incls).length) d82, .slice A84 (((ofB b.names acc).roles).length) d85, .slice A87 (((ofB b.names acc).facts).length) d88, .slice A90 (((ofB b.names acc).links).length) d91] rfl rfl pN rfl rfl rfl rfl rfl rfl ?_
 refine qB <| qC <| qV ?_
 refine kO (cells := [.slice A93 ((((ofB b.names acc).names).concepts).length) d94, .slice A97 ((((ofB b.names acc).names).roles).length) d98, .slice A101 ((((ofB b.names acc).names).inds).length) d102, .slice A81 (((ofB b.names acc).incls).length) d82, .slice A84 (((ofB b.names acc).roles).length) d85, .slice A87 (((ofB b.names acc).facts).length) d88, .slice A90 (((ofB b.names acc).links).length) d91]) 0 (.inl rfl) rfl rfl pN rfl ?_
 have e109 : ((ofB b.names acc) : Base) = zY b l := by (rw [hi2, xF (l := l) (by assumption) (by assumption)]; rfl)
 intro w hw
 exact ⟨_, _, [], rfl, hle77, hw.drop 2, ([.slice A93 ((((ofB b.names acc).names).concepts).length) d94, .slice A97 ((((ofB b.names acc).names).roles).length) d98, .slice A101 ((((ofB b.names acc).names).inds).length) d102, .slice A81 (((ofB b.names acc).incls).length) d82, .slice A84 (((ofB b.names acc).roles).length) d85, .slice A87 (((ofB b.names acc).facts).length) d88, .slice A90 (((ofB b.names acc).links).length) d91]), rfl, rfl, (Eq.mp (congrArg (fun z => kBase.rep R75 z [.slice A93 ((((ofB b.names acc).names).concepts).length) d94, .slice A97 ((((ofB b.names acc).names).roles).length) d98, .slice A101 ((((ofB b.names acc).names).inds).length) d102, .slice A81 (((ofB b.names acc).incls).length) d82, .slice A84 (((ofB b.names acc).roles).length) d85, .slice A87 (((ofB b.names acc).facts).length) d88, .slice A90 (((ofB b.names acc).links).length) d91]) e109) hr_z74_0)⟩

theorem ca104 : Callable Tryz.prog 104 := ⟨by kernel_rfl⟩
theorem lJ : aK jS Tryz.prog 98 = true := by kernel_rfl

def vJ (l : List Int) : List Int := l.mergeSort fun x y => decide (x ≤ y)
theorem iN (l : List Int) : (vJ l).length = l.length := List.length_mergeSort l
theorem qC1 {R : RO} : ∀ {l : List Int} {cs : List Value}, kInt.reps R l cs → cs = l.map (Value.int .i64) ∧ ∀ x ∈ l, i64 x
  | [], cs, h => ⟨h, fun _ h => by cases h⟩
  | x :: xs, cs, ⟨c1, c2, e, h1, h2⟩ => by
    have ⟨a, b⟩ := qC1 h2
    refine ⟨by rw [e, h1.1, a]; rfl, fun y hy => ?_⟩
    rcases List.mem_cons.1 hy with rfl | hy
    · exact h1.2
    · exact b y hy
theorem iO {R : RO} : ∀ {l : List Int}, (∀ x ∈ l, i64 x) → kInt.reps R l (l.map (Value.int .i64))
  | [], _ => rfl
  | x :: xs, h => ⟨[_], _, rfl, ⟨rfl, h x (by simp)⟩, iO fun y hy => h y (by simp [hy])⟩
theorem sort_ok {R : RO} {G : List Res} {w : World} (l : List Int) {A_l : Option Addr} {c_l : Nat} {l_l : List Value} (hv_l : kInt.reps R l l_l) (hb : l.length ≤ 1000000) (hw : Own w R (.vec (.slice A_l l.length c_l) l.length 3 1 l_l :: G)) :
    Calls Tryz.prog 104 [.slice A_l l.length c_l].toArray w (gZ R G (fun v_ R' L_ => ∃ (l_m_l : List Value), v_ = (.tuple #[] : Value) ∧ L_ = ([.vec (.slice A_l (vJ l).length c_l) (vJ l).length 3 1 l_m_l] : List Res) ∧ kInt.reps R' (vJ l) l_m_l)) := by
  obtain ⟨hcs, hin⟩ := qC1 hv_l
  have hown : w.ownsRow 0 3 1 (.slice A_l l.length c_l) l.length l_l := hw.holds _ (.head _)
  have hsin : ∀ x ∈ vJ l, i64 x := fun x hx => hin x ((List.mergeSort_perm l _).mem_iff.1 hx)
  rcases hown.2 with ⟨h2, h3⟩ | ⟨g, cap', cur, hv', q1, q2, q3, q4, q5, q6⟩
  · have hl : l = [] := List.eq_nil_of_length_eq_zero h3
    subst hl
    have := Tryz.slices_Sort_int_none A_l c_l w
    refine this.mono ?_
    rintro e w' ⟨rfl, rfl⟩
    have hs : vJ [] = [] := by simp [vJ]
    rw [hs]
    exact ⟨_, R, _, rfl, .refl R, hw, l_l, rfl, rfl, hv_l⟩
  · obtain ⟨rfl, -, rfl⟩ : A_l = some ⟨g, 0, none⟩ ∧ l.length = l.length ∧ c_l = cap' := by simpa using hv'
    rw [Nat.mul_one] at q5 q6
    have hcell : ∀ j, j < l.length → cur[j]? = some (.int .i64 (l.toArray[j]!)) := fun j hj => by
      have h1 : (cur.toList.take l.length)[j]? = some (.int .i64 l[j]) := by rw [q6, hcs]; simp [hj]
      rw [List.getElem?_take, if_pos hj] at h1
      simpa [hj] using h1
    have := Tryz.slices_Sort_int g 0 c_l l w (fun j hj => by
      have hj : j < l.length := by simpa using hj
      refine ⟨?_, by simp [World.frozen?, q2]⟩
      rw [fQ q2, Nat.zero_add]; exact hcell j hj) (zV q2) (by omega)
    refine this.mono ?_
    rintro e w' ⟨rfl, n, os, rfl⟩
    have hlen := iN l
    have hs : (l.mergeSort fun x y => decide (x ≤ y)) = vJ l := rfl
    rw [hs]
    have hother : ∀ b, b < w.heap.size → b ≠ g → (Sort.grow (Sort.putRow (Value.int .i64) (Sort.ahead w n) g 0 (vJ l).toArray) os).heap[b]? = w.heap[b]? := fun b hb hne => by
      show ((w.heap.modify g _) ++ os)[b]? = _
      rw [Array.getElem?_append_left (by simpa using hb), Array.getElem?_modify, if_neg (fun e => hne e.symm)]
    have hg : (Sort.grow (Sort.putRow (Value.int .i64) (Sort.ahead w n) g 0 (vJ l).toArray) os).heap[g]? = some (.cells (Sort.putCells (Value.int .i64) 0 (vJ l).toArray cur) 3 (0, 0)) := by
      show ((w.heap.modify g _) ++ os)[g]? = _
      rw [Array.getElem?_append_left (by simpa using zV q2), Array.getElem?_modify, if_pos rfl, q2]; rfl
    refine ⟨_, R, [_], rfl, .refl R, Own.step hw rfl rfl rfl (fun b hb hf => hother b hb fun e => hf (by rw [e]; rfl)) (r' := .vec (.slice (some ⟨g, 0, none⟩) (vJ l).length c_l) (vJ l).length 3 1 ((vJ l).map (Value.int .i64))) ⟨by simp, .inr ⟨g, c_l, _, rfl, q1, hg, by omega, q4, by simp [Sort.putCells, q5], ?_⟩⟩ (fun b hb => .inl hb), _, rfl, rfl, iO hsin⟩
    rw [Nat.mul_one]
    apply List.ext_getElem?
    intro j
    by_cases hj : j < (vJ l).length
    · rw [List.getElem?_take, if_pos hj]
      have hjc : j < cur.size := by omega
      simp [Sort.putCells, hj, hjc]
    · rw [List.getElem?_eq_none (by rw [List.length_take]; omega), List.getElem?_eq_none (by simp; omega)]

theorem qK8 {l m : List Int} (h : ∀ x, x ∈ l ↔ x ∈ m) (h1 : l.Nodup) (h2 : m.Nodup) : vJ l = vJ m := by
  have up : ∀ k : List Int, k.Nodup → Up (vJ k) := fun k hk => by
    have hs : (vJ k).Pairwise fun x y => decide (x ≤ y) = true := List.pairwise_mergeSort (fun a b c h1 h2 => by simp at *; omega) (fun a b => by simp; omega) k
    have hn : (vJ k).Nodup := (List.mergeSort_perm k _).nodup_iff.2 hk
    exact List.Pairwise.imp₂ (fun a b h1 h2 => by simp at h1; omega) hs hn
  exact nK (up l h1) (up m h2) fun x => by
    rw [show x ∈ vJ l ↔ x ∈ l from (List.mergeSort_perm l _).mem_iff, show x ∈ vJ m ↔ x ∈ m from (List.mergeSort_perm m _).mem_iff, h]
def eW (s : List Int) (seen : List Nat) : List Int := seen.filterMap fun q => s[q]?
theorem qG0 {s : List Int} {seen : List Nat} {q : Nat} {k : Int} (h : s[q]? = some k) : eW s (seen ++ [q]) = eW s seen ++ [k] := by simp [eW, h]
theorem qK9 {s : List Int} {seen : List Nat} (h : ∀ q, q < s.length → q ∈ seen) (x : Int) : x ∈ eW s seen ↔ x ∈ s := by
  simp only [eW, List.mem_filterMap]
  constructor
  · rintro ⟨q, -, hq⟩; exact List.mem_of_getElem? hq
  · intro hx
    obtain ⟨q, hq⟩ := List.mem_iff_getElem?.1 hx
    exact ⟨q, h q (List.getElem?_eq_some_iff.1 hq).1, hq⟩
theorem iP {s : List Int} (hs : s.Nodup) : ∀ {seen : List Nat}, seen.Nodup → (eW s seen).Nodup
  | [], _ => List.nodup_nil
  | q :: r, h => by
    have h' := List.nodup_cons.1 h
    have ih := iP hs (seen := r) h'.2
    cases hq : s[q]? with
    | none => simpa [eW, hq] using ih
    | some k =>
      have e : eW s (q :: r) = k :: eW s r := by simp [eW, hq]
      rw [e]
      refine List.nodup_cons.2 ⟨fun hk => ?_, ih⟩
      simp only [eW, List.mem_filterMap] at hk
      obtain ⟨q', hq', hk'⟩ := hk
      obtain ⟨l1, e1⟩ := List.getElem?_eq_some_iff.1 hq
      obtain ⟨l2, e2⟩ := List.getElem?_eq_some_iff.1 hk'
      have hp := List.pairwise_iff_getElem.1 hs
      have : q = q' := by
        rcases Nat.lt_trichotomy q q' with h3 | h3 | h3
        · exact absurd (e1.trans e2.symm) (hp q q' l1 l2 h3)
        · exact h3
        · exact absurd (e2.trans e1.symm) (hp q' q l2 l1 h3)
      exact h'.1 (this ▸ hq')
theorem tC {α : Type} [DecidableEq α] : ∀ {o l : List α}, o.Nodup → (∀ x ∈ o, x ∈ l) → o.length ≤ l.length
  | [], _, _, _ => by simp
  | x :: xs, l, h, k => by
    have h' := List.nodup_cons.1 h
    have hx : x ∈ l := k x (by simp)
    have := tC (o := xs) (l := l.erase x) h'.2 fun y hy => (List.mem_erase_of_ne (fun e : y = x => h'.1 (e ▸ hy))).2 (k y (by simp [hy]))
    rw [List.length_erase_of_mem hx] at this
    have : 0 < l.length := List.length_pos_of_mem hx
    simp only [List.length_cons]; omega
theorem qC2 {s : List Int} {seen : List Nat} (h : seen.Nodup) (h2 : ∀ q ∈ seen, q < s.length) : seen.length ≤ s.length := by
  have := tC h (l := List.range s.length) fun q hq => List.mem_range.2 (h2 q hq)
  simpa using this
theorem uI {α : Type} {l : List α} {x : α} (h : l.Nodup) (hx : ¬ x ∈ l) : (l ++ [x]).Nodup := by
  rw [List.nodup_append]; refine ⟨h, by simp, fun a ha b hb => ?_⟩
  simp at hb; subst hb; exact fun e => hx (e ▸ ha)

theorem gM {R : RO} {G : List Res} {w : World} (s : List Int) {b_s : Nat} (hs : s.Nodup ∧ s.length ≤ 1000 ∧ ∀ x ∈ s, i64 x) (hw : Own w R (.set jS b_s s :: G)) :
    Calls Tryz.prog 94 [.map (some b_s)].toArray w (gZ R G (fun v_ R' L_ => ∃ (A_0 : Option Addr) (c_0 : Nat) (l_0 : List Value), v_ = (.slice A_0 ((vJ s).length) c_0 : Value) ∧ L_ = ([.vec (.slice A_0 ((vJ s).length) c_0) ((vJ s).length) 3 1 l_0, .set jS b_s s] : List Res) ∧ (kInt).reps R' (vJ s) l_0)) := by
 refine xH (vs := [.map (some b_s)]) Tryz.func94 rfl rfl rfl ?_ hw
 refine qE <| qA ?_
 refine tl (qD rfl) ?_
 refine qB <| qC <| qE <| qA ?_
 refine tl (qD rfl) ?_
 refine qB <| qC <| qE <| qE <| qA ?_
 refine tl (qG rfl) ?_
 refine tl_range (K := jS) (ks := s) 0 lJ rfl rfl rfl fun r2 => ?_
 refine qB <| qC <| qX ?_
 refine rH _ (fun w hw => hw.vecnil 3 1) ?_
 have hv3 : (kInt).reps R [] [] := rfl
 refine jF ?_
 refine jN (fun b_ : List (Int) × Option Addr × Nat × List Value × List Nat => match b_ with | (acc, A_acc, c_acc, l_acc, seen) => s.length - seen.length) (fun b_ : List (Int) × Option Addr × Nat × List Value × List Nat => match b_ with | (acc, A_acc, c_acc, l_acc, seen) => [(2, .slice none 0 0), (6, .pointer (some ⟨r2, 0, none⟩)), (3, .slice A_acc acc.length c_acc)]) (fun b_ : List (Int) × Option Addr × Nat × List Value × List Nat => match b_ with | (acc, A_acc, c_acc, l_acc, seen) => (.vec (.slice A_acc acc.length c_acc) acc.length 3 1 l_acc :: .raw r2 (.mapIter (some b_s) s.length seen.toArray s.length) :: .set jS b_s s :: G)) (fun (b_ : List (Int) × Option Addr × Nat × List Value × List Nat) => match b_ with | (acc, A_acc, c_acc, l_acc, seen) => (kInt).reps R acc l_acc ∧ (acc = eW s seen ∧ seen.Nodup ∧ (∀ q ∈ seen, q < s.length) ∧ acc.length = seen.length ∧ seen.length ≤ s.length)) (([] : List (Int)), none, 0, [], []) ⟨rfl, rfl, rfl, trivial⟩ (by refine ⟨hv3, ?_⟩; exact ⟨rfl, by simp, by simp, rfl, by simp⟩) (fun w hw => hw) ?_
 rintro ⟨acc, A_acc, c_acc, l_acc, seen⟩ hI7 ih8
 show TC Tryz.prog _ _ _ [] [(2, .slice none 0 0), (6, .pointer (some ⟨r2, 0, none⟩)), (3, .slice A_acc acc.length c_acc)] R (.vec (.slice A_acc acc.length c_acc) acc.length 3 1 l_acc :: .raw r2 (.mapIter (some b_s) s.length seen.toArray s.length) :: .set jS b_s s :: G)
 obtain ⟨hv6, hI11⟩ := hI7
 obtain ⟨hi1, hi2, hi3, hi4, hi5⟩ := hI11
 refine qE <| qA ?_
 refine tl_next (K := jS) (ks := s) (seen := seen) 2 1 rfl rfl rfl rfl (fun hov12 => ?_) (fun q13 k14 hq15 hnq16 => ?_)
 refine tl (jG rfl rfl) ?_
 refine qB <| qC <| qE ?_
 refine xV rfl ?_
 refine jE <| qK <| qK <| xG <| qC <| qE <| qA ?_
 refine tl (qG rfl) ?_
 refine xD ca104 rfl (fun w hw => sort_ok acc hv6 (by omega) hw) rfl ?_
 rintro _ R18 _ hle19 ⟨l_z17_m_l, rfl, rfl, hv_z17_m_l⟩
 try replace hv6 := Kd.reps_mono hle19 hv6
 refine lM [(2, .slice none 0 0), (6, .pointer (some ⟨r2, 0, none⟩)), (3, .slice A_acc ((vJ acc).length) c_acc), (7, .tuple #[.bool false]), (8, .bool false), (15, .slice A_acc ((vJ acc).length) c_acc)] (by rw [iN]; exact (by repeat' constructor)) ?_
 refine qB <| qC <| qE <| qA ?_
 refine tl (qG rfl) ?_
 refine tl (qD rfl) ?_
 refine qB <| qC <| qV ?_
 refine xB (.inl rfl) rfl rfl ?_
 have e20 : ((vJ acc) : List (Int)) = vJ s := by (rw [hi1]; exact qK8 (qK9 (by assumption)) (iP hs.1 hi2) hs.1)
 have e21 : (s : List Int) = s := by rfl
 intro w hw
 exact ⟨_, _, [.vec (.slice A_acc ((vJ acc).length) c_acc) ((vJ acc).length) 3 1 l_z17_m_l, .set jS b_s s], rfl, hle19, (((hw.pick 1).tail.pick 1).pick 1), A_acc, c_acc, l_z17_m_l, (congrArg (fun (z0_ : List (Int)) => (.slice A_acc z0_.length c_acc : Value)) e20), (Eq.trans (congrArg (fun (z0_ : List (Int)) => ([.vec (.slice A_acc z0_.length c_acc) z0_.length 3 1 l_z17_m_l, .set jS b_s s] : List Res)) e20) (congrArg (fun (z1_ : List Int) => ([.vec (.slice A_acc (vJ s).length c_acc) (vJ s).length 3 1 l_z17_m_l, .set jS b_s z1_] : List Res)) e21)), (Eq.mp (congrArg (fun z => (kInt).reps R18 z l_z17_m_l) e20) hv_z17_m_l)⟩
 have hf22 := (show -9223372036854775808 ≤ k14 ∧ k14 ≤ 9223372036854775807 from hs.2.2 _ (List.mem_of_getElem? hq15))
 refine tl (jG rfl rfl) ?_
 refine qB <| qC <| qE ?_
 refine xE rfl ?_
 refine qZ <| qC <| qX <| qE <| qA ?_
 refine tl (v_entry (K := jS) (ks := s) 2 1 rfl rfl rfl hq15) ?_
 refine tl (jG rfl rfl) ?_
 refine tl (qD rfl) ?_
 refine qB <| qC <| qA ?_
 refine tl (qG rfl) ?_
 refine tl (qG rfl) ?_
 refine jB [.int .i64 k14] zR rfl rfl rfl rfl rfl rfl rfl fun b23 => ?_
 refine yJ (k := kInt) (e := k14) 1 0 hv6 (⟨rfl, by unfold i64; omega⟩) zR rfl rfl rfl rfl rfl (by omega) rfl rfl fun A24 c25 l26 hv27 => ?_
 refine tl (qD rfl) ?_
 refine qB <| jC ?_
 refine xQ ?_
 exact fun a w ha hw => ih8.out ((acc ++ [k14]), A24, c25, l26, (seen ++ [q13])) (by refine ⟨hv27, ?_⟩; (have n_ := uI hi2 hnq16; have m_ : ∀ q ∈ seen ++ [q13], q < s.length := (fun q hq => by (rw [List.mem_append] at hq; rcases hq with hq | hq; exact hi3 q hq; simp at hq; subst hq; exact (List.getElem?_eq_some_iff.1 hq15).1)); exact ⟨by rw [hi1, qG0 hq15], n_, m_, by simp; omega, qC2 n_ m_⟩)) (by (have n_ := uI hi2 (by assumption); (try dsimp only); simp only [List.length_append, List.length_cons, List.length_nil]; have hlt_ := qC2 (s := s) (uI hi2 (by assumption)) (fun q hq => by (rw [List.mem_append] at hq; rcases hq with hq | hq; exact hi3 q hq; simp at hq; subst hq; exact (List.getElem?_eq_some_iff.1 (by assumption)).1)); simp only [List.length_append, List.length_cons, List.length_nil] at hlt_; omega)) a w (ha.sub (xL ⟨rfl, rfl, rfl, trivial⟩)) (hw.drop 1)

theorem ca103 : Callable Tryz.prog 103 := ⟨by kernel_rfl⟩
theorem ca110 : Callable Tryz.prog 110 := ⟨by kernel_rfl⟩
theorem ca111 : Callable Tryz.prog 111 := ⟨by kernel_rfl⟩
theorem rR : kR Tryz.prog 98 = some (false, 1) := by kernel_rfl

mutual
def wN {σ : Type} (visit : Concept → σ → σ) : Concept → σ → σ
  | .mk op n args, s => bL visit args (visit (.mk op n args) s)
def bL {σ : Type} (visit : Concept → σ → σ) : List Concept → σ → σ
  | [], s => s
  | x :: xs, s => bL visit xs (wN visit x s)
end
theorem walkC_eq {σ : Type} (visit : Concept → σ → σ) (c : Concept) (s : σ) : wN visit c s = bL visit c.args (visit c s) := by cases c; rw [wN]; rfl
theorem walkL_at {σ : Type} {visit : Concept → σ → σ} {l : List Concept} {i : Nat} {x : Concept} (h : l[i]? = some x) (s : σ) : bL visit (l.drop i) s = bL visit (l.drop (i + 1)) (wN visit x s) := by
  obtain ⟨hi, rfl⟩ := List.getElem?_eq_some_iff.1 h
  rw [List.drop_eq_getElem_cons hi, bL]
theorem qL0 {σ : Type} {visit : Concept → σ → σ} {l : List Concept} {i : Nat} (h : ¬ ((i : Int) < (l.length : Int))) (s : σ) : bL visit (l.drop i) s = s := by
  rw [List.drop_of_length_le (by omega), bL]

theorem eX (m : Nat) : ∀ {R : RO} {G : List Res} {w : World} {c_c : List Value} (c : Concept) {σ_y : Type} {St_y : σ_y → Res} {L_y : Nat} {visit_y : Concept → σ_y → σ_y} (y : σ_y) (hr_c : kConcept.rep R c c_c) (hY_y : YieldOk Tryz.prog R L_y kConcept St_y visit_y), SizeOf.sizeOf c = m → Own w R (St_y y :: G) →
    Calls Tryz.prog 111 [.agg c_c.toArray, .func (.yield L_y) #[] #[]].toArray w (gZ R G (fun v_ R' L_ => v_ = (.bool true : Value) ∧ L_ = ([St_y (wN visit_y c y)] : List Res))) := by
 induction m using Nat.strongRecOn with
 | _ m ih =>
  intro R G w c_c c σ_y St_y L_y visit_y y hr_c hY_y hm hw
  subst hm
  replace ih := Aside.mk ih
  obtain ⟨A1, d2, rfl, i3, i4, hs5⟩ := qM hr_c
  unfold i64 at i3 i4
  have z6 := hs5.size
  unfold big at z6
  refine xH (vs := [.agg #[.int .i64 c.op, .int .i64 c.n, .slice A1 c.args.length d2], .func (.yield L_y) #[] #[]]) Tryz.func111 rfl rfl rfl ?_ hw
  refine qE <| qA ?_
  refine qW (l := [.int .i64 c.op, .int .i64 c.n, .slice A1 c.args.length d2]) rfl rfl fun b7 => ?_
  refine tl (qD rfl) ?_
  refine qB <| qC <| qE <| qE ?_
  refine qI1 (yV ?_)
  refine vE rfl rfl ?_
  refine tl (qG rfl) ?_
  refine qB ?_
  refine wW ?_
  refine vE rfl rfl ?_
  refine tl (qQ 0 [.int .i64 c.op, .int .i64 c.n, .slice A1 c.args.length d2] rfl vU rfl rfl) ?_
  refine qB ?_
  refine wW ?_
  refine tlr_G (St_y y :: .blk b7 [.int .i64 c.op, .int .i64 c.n, .slice A1 c.args.length d2] 37 :: G) (fun w hw => (hw.pick 1)) ?_
  refine qI2 rfl rfl (fun w hw => hY_y.run y (.refl _) hr_c hw) rfl ?_
  rintro _ R8 _ hle9 ⟨rfl, rfl⟩
  try replace hs5 := hs5.mono hle9
  try replace hr_c := kConcept.mono _ _ _ _ hle9 hr_c
  try replace hY_y := hY_y.mono hle9
  refine vE rfl rfl ?_
  refine tl (wJ rfl) ?_
  refine qB ?_
  refine wW ?_
  refine tV ?_
  refine qC ?_
  refine xV rfl ?_
  refine qZ <| qC <| qE <| qE <| qA ?_
  refine tl (qH 2 rfl wR rfl) ?_
  refine tl (jM 1 rfl dH rfl rfl) ?_
  refine tl (jJ rfl sK) ?_
  refine tl (qG rfl) ?_
  refine qB <| qC <| qX ?_
  refine jF ?_
  refine wD (fun b_ : Nat × σ_y => match b_ with | (i, sv) => c.args.length - i) (fun b_ : Nat × σ_y => match b_ with | (i, sv) => [(1, .func (.yield L_y) #[] #[]), (12, .slice A1 c.args.length d2), (13, .int .i64 (c.args.length : Int)), (14, .int .i64 (i : Int))]) (fun b_ : Nat × σ_y => match b_ with | (i, sv) => (St_y sv :: .blk b7 [.int .i64 c.op, .int .i64 c.n, .slice A1 c.args.length d2] 37 :: G)) (fun (b_ : Nat × σ_y) (R_ : RO) => match b_ with | (i, sv) => i ≤ c.args.length ∧ bL visit_y (c.args.drop i) sv = wN visit_y c y) (0, (visit_y c y)) ⟨rfl, rfl, rfl, rfl, trivial⟩ (by exact ⟨by omega, by rw [walkC_eq, List.drop_zero]⟩) (fun w hw => hw) ?_
  rintro ⟨i, sv⟩ R12 hle13 hI10 ih11
  try replace hs5 := hs5.mono hle13
  try replace hr_c := kConcept.mono _ _ _ _ hle13 hr_c
  try replace hY_y := hY_y.mono hle13
  have hle14 := hle9.trans hle13
  show TC Tryz.prog _ _ _ [] [(1, .func (.yield L_y) #[] #[]), (12, .slice A1 c.args.length d2), (13, .int .i64 (c.args.length : Int)), (14, .int .i64 (i : Int))] R12 (St_y sv :: .blk b7 [.int .i64 c.op, .int .i64 c.n, .slice A1 c.args.length d2] 37 :: G)
  obtain ⟨hi1, hi2⟩ := hI10
  refine qE <| qA ?_
  refine tl (jR rfl rfl rfl) ?_
  refine qB <| qC <| qE ?_
  refine qP 15 rfl (fun h15 => ?_) (fun h15 => ?_)
  refine xE rfl ?_
  refine qZ <| qC <| qE <| qX <| qE <| qA ?_
  have hb21 : i < c.args.length := by omega
  obtain ⟨x16, hx17⟩ : ∃ x, c.args[i]? = some x := ⟨_, List.getElem?_eq_getElem hb21⟩
  obtain ⟨c18, hr19, ha20⟩ := hs5.get _ x16 hx17
  obtain ⟨A22, d23, rfl, i24, i25, hs26⟩ := qM hr19
  unfold i64 at i24 i25
  have z27 := hs26.size
  unfold big at z27
  refine tl (jV (i := i) hs5 rfl rfl rfl sK hb21) ?_
  refine tl (jA 0 [.int .i64 x16.op, .int .i64 x16.n, .slice A22 x16.args.length d23] ha20 rfl vU rfl rfl) ?_
  refine qS eZ rfl fun b28 => ?_
  refine xN 0 [.int .i64 x16.op, .int .i64 x16.n, .slice A22 x16.args.length d23] rfl rfl vU rfl rfl rfl rfl rfl rfl ?_
  refine qB <| qC <| qE <| qA ?_
  refine tl (qQ 0 [.int .i64 x16.op, .int .i64 x16.n, .slice A22 x16.args.length d23] rfl vU rfl rfl) ?_
  refine tl (qG rfl) ?_
  refine tR (St_y sv :: .blk b28 [.int .i64 x16.op, .int .i64 x16.n, .slice A22 x16.args.length d23] 37 :: .blk b7 [.int .i64 c.op, .int .i64 c.n, .slice A1 c.args.length d2] 37 :: G) (fun w hw => (hw.pick 1)) ?_
  refine xD ca111 rfl (fun w hw => ih.out (SizeOf.sizeOf x16) (by exact Concept.sizeOf_arg hx17) x16 sv hr19 hY_y rfl hw) rfl ?_
  rintro _ R30 _ hle31 ⟨rfl, rfl⟩
  try replace hr_c := kConcept.mono _ _ _ _ hle31 hr_c
  try replace hY_y := hY_y.mono hle31
  have hle32 := hle14.trans hle31
  have hle33 := hle13.trans hle31
  refine tl (wJ rfl) ?_
  refine qB <| qC ?_
  refine xV rfl ?_
  refine qZ <| jC <| qC <| qA ?_
  refine tl (jT rfl rfl (by omega) (by omega)) ?_
  refine tl (qG rfl) ?_
  refine qB ?_
  refine xQ ?_
  exact fun a w ha hw => ih11.out (i + 1, (wN visit_y x16 sv)) _ (hle31) (by exact ⟨by omega, by rw [← hi2, walkL_at hx17]⟩) (by (try dsimp only); omega) a w (ha.sub (xL ⟨rfl, rfl, rfl, rfl, trivial⟩)) ((((hw.pick 1).tail.pick 1).pick 1))
  refine xV rfl ?_
  refine jE <| qK <| qK <| xG <| qC <| qE <| qA ?_
  refine tl (qD rfl) ?_
  refine qB <| qC <| qV ?_
  refine xB (.inl rfl) rfl rfl ?_
  have e34 : (true : Bool) = true := by rfl
  have e35 : (sv : σ_y) = wN visit_y c y := by (rw [← hi2, qL0 (by assumption)])
  intro w hw
  exact ⟨_, _, [St_y sv], rfl, hle14, (hw.pick 1).tail, (congrArg (fun (z0_ : Bool) => (.bool z0_ : Value)) e34), (congrArg (fun (z1_ : σ_y) => ([St_y z1_] : List Res)) e35)⟩
theorem iQ {R : RO} {G : List Res} {w : World} {c_c : List Value} (c : Concept) {σ_y : Type} {St_y : σ_y → Res} {L_y : Nat} {visit_y : Concept → σ_y → σ_y} (y : σ_y) (hr_c : kConcept.rep R c c_c) (hY_y : YieldOk Tryz.prog R L_y kConcept St_y visit_y) (hw : Own w R (St_y y :: G)) :
    Calls Tryz.prog 111 [.agg c_c.toArray, .func (.yield L_y) #[] #[]].toArray w (gZ R G (fun v_ R' L_ => v_ = (.bool true : Value) ∧ L_ = ([St_y (wN visit_y c y)] : List Res))) := eX _ c y hr_c hY_y rfl hw

theorem eY {R : RO} {G : List Res} {w : World} {σ_y : Type} {St_y : σ_y → Res} {L_y : Nat} {visit_y : Concept → σ_y → σ_y} (y : σ_y) {b_c : Nat} {c_c : List Value} (c : Concept) (hY_y : YieldOk Tryz.prog R L_y kConcept St_y visit_y) (hr_c : kConcept.rep R c c_c) (hm_c : Res.blk b_c c_c 37 ∈ G) (hw : Own w R (St_y y :: G)) :
    Calls Tryz.prog 110 [.func (.yield L_y) #[] #[], .pointer (some ⟨b_c, 0, none⟩)].toArray w (gZ R G (fun v_ R' L_ => v_ = (.tuple #[] : Value) ∧ L_ = ([St_y (wN visit_y c y)] : List Res))) := by
 obtain ⟨A1, d2, rfl, i3, i4, hs5⟩ := qM hr_c
 unfold i64 at i3 i4
 have z6 := hs5.size
 unfold big at z6
 refine xH (vs := [.func (.yield L_y) #[] #[], .pointer (some ⟨b_c, 0, none⟩)]) Tryz.func110 rfl rfl rfl ?_ hw
 refine qA ?_
 refine tl (qD9 [.int .i64 c.op, .int .i64 c.n, .slice A1 c.args.length d2] (.tail _ (hm_c)) rfl vU rfl) ?_
 refine tl (qG rfl) ?_
 refine xD ca111 rfl (fun w hw => iQ c y hr_c hY_y hw) rfl ?_
 rintro _ R8 _ hle9 ⟨rfl, rfl⟩
 refine qB ?_
 refine dP (.inr rfl) rfl ?_
 have e10 : ((wN visit_y c y) : σ_y) = wN visit_y c y := by rfl
 intro w hw
 exact ⟨_, _, [St_y (wN visit_y c y)], rfl, hle9, hw, rfl, (congrArg (fun (z0_ : σ_y) => ([St_y z0_] : List Res)) e10)⟩

theorem v_quoT {P : Program} {n : Nat} {D : List Deferred} {env : List (Nat × Value)} {R : RO} {G : List Res} {t x y yt d a ty pos af} (hx : ev env x = some (.int .i64 a)) (hy : ev env y = some (.int .i64 2)) (h0 : i64 a) : VAL P n D env R G ⟨some d, .binOp .quo t x y yt, ty, pos, af, none⟩ (.int .i64 (a.tdiv 2)) :=
  nL hx hy fun w => by
    rw [eqGuard_at_int, binOp_quo]
    unfold Op.intDiv
    rw [if_neg (by omega)]
    unfold i64 at h0
    show Result.ok (Value.int .i64 (IntKind.i64.wrap (a.tdiv 2))) w = _
    have hb : -9223372036854775808 ≤ a.tdiv 2 ∧ a.tdiv 2 ≤ 9223372036854775807 := by
      rcases Int.le_total 0 a with h | h
      · rw [Int.tdiv_eq_ediv_of_nonneg h]; omega
      · obtain ⟨b, rfl⟩ : ∃ b, a = -b := ⟨-a, by omega⟩
        rw [Int.neg_tdiv, Int.tdiv_eq_ediv_of_nonneg (by omega)]; omega
    rw [dM hb.1 hb.2]

theorem lK {R : RO} {G : List Res} {w : World} {c_c : List Value} (c : Concept) (hr_c : kConcept.rep R c c_c) (hw : Own w R (G)) :
    Calls Tryz.prog 103 [.agg c_c.toArray].toArray w (gZ R G (fun v_ R' L_ => ∃ (b_ : Nat), v_ = (.func (.func 110) #[] #[.pointer (some ⟨b_, 0, none⟩)] : Value) ∧ L_ = ([.blk b_ c_c 37] : List Res))) := by
 obtain ⟨A1, d2, rfl, i3, i4, hs5⟩ := qM hr_c
 unfold i64 at i3 i4
 have z6 := hs5.size
 unfold big at z6
 refine xH (vs := [.agg #[.int .i64 c.op, .int .i64 c.n, .slice A1 c.args.length d2]]) Tryz.func103 rfl rfl rfl ?_ hw
 refine qE <| qA ?_
 refine qW (l := [.int .i64 c.op, .int .i64 c.n, .slice A1 c.args.length d2]) rfl rfl fun b7 => ?_
 refine tl (qD rfl) ?_
 refine qB <| qC <| qE <| qA ?_
 refine tl (v_mkF rfl) ?_
 refine tl (qD rfl) ?_
 refine qB <| qC <| qV ?_
 refine xB (.inl rfl) rfl rfl ?_
 exact fun w hw => ⟨_, _, _, rfl, .refl _, hw, _, rfl, rfl⟩

def kY (d : Concept) (s : List Int × List Int) : List Int × List Int := if d.op = 0 then (zE s.1 d.n, s.2) else if d.op = 6 ∨ d.op = 7 then (s.1, zE s.2 (d.n.tdiv 2)) else s

theorem sF {R : RO} {G : List Res} {w : World} {c_c : List Value} (c : Concept) (a : List Int) {b_a : Nat} (r : List Int) {b_r : Nat} (hr_c : kConcept.rep R c c_c) (hw : Own w R (.set jS b_a a :: .set jS b_r r :: G)) :
    Calls Tryz.prog 93 [.agg c_c.toArray, .map (some b_a), .map (some b_r)].toArray w (gZ R G (fun v_ R' L_ => v_ = (.tuple #[] : Value) ∧ L_ = ([.set jS b_a ((wN kY c (a, r)).1), .set jS b_r ((wN kY c (a, r)).2)] : List Res))) := by
  obtain ⟨A1, d2, rfl, i3, i4, hs5⟩ := qM hr_c
  unfold i64 at i3 i4
  have z6 := hs5.size
  unfold big at z6
  refine qI3 (vs := [.agg #[.int .i64 c.op, .int .i64 c.n, .slice A1 c.args.length d2], .map (some b_a), .map (some b_r)]) Tryz.func93 rfl rfl rfl ?_ hw
  refine qE <| qA ?_
  refine qW (l := [.int .i64 c.op, .int .i64 c.n, .slice A1 c.args.length d2]) rfl rfl fun b7 => ?_
  refine tl_box rfl rfl rfl fun b8 => ?_
  refine tl_box rfl rfl rfl fun b9 => ?_
  refine qB <| qC <| qE <| qA ?_
  refine tl (qQ 2 [.int .i64 c.op, .int .i64 c.n, .slice A1 c.args.length d2] rfl vU rfl rfl) ?_
  refine xD ca103 rfl (fun w hw => lK c hr_c hw) rfl ?_
  rintro _ R11 _ hle12 ⟨b10, rfl, rfl⟩
  try replace hr_c := kConcept.mono _ _ _ _ hle12 hr_c
  refine qB <| qC <| qX ?_
  refine tc_env [(4, .pointer (some ⟨b8, 0, none⟩)), (5, .pointer (some ⟨b9, 0, none⟩)), (8, .func (.func 110) #[] #[.pointer (some ⟨b10, 0, none⟩)])] ⟨rfl, rfl, rfl, trivial⟩ ?_
  refine tc_range (κ := kConcept) (σ := List Int × List Int) (Z := Nat) (fun s_ => [.blk b8 [.map (some b_a)] 98, .blk b9 [.map (some b_r)] 98, .set jS b_a s_.1, .set jS b_r s_.2]) kY (wN kY c) (a, r) (.blk b10 [.int .i64 c.op, .int .i64 c.n, .slice A1 c.args.length d2] 37 :: .blk b7 [.int .i64 c.op, .int .i64 c.n, .slice A1 c.args.length d2] 37 :: G) (fun b_ cs_ => [(6, .pointer (some ⟨b_, 0, none⟩)), (4, .pointer (some ⟨b8, 0, none⟩)), (5, .pointer (some ⟨b9, 0, none⟩))]) (fun b_ cs_ s_ => .blk b_ cs_ 37 :: [.blk b8 [.map (some b_a)] 98, .blk b9 [.map (some b_r)] 98, .set jS b_a s_.1, .set jS b_r s_.2]) rfl ca110 rfl (fun w hw => ((((((hw.pick 3).pick 1).pick 5).pick 5).pick 4).pick 5)) ?_ ?_ ?_ ?_
  · intro l_ R_ s_ x_ cs_ G1_ K_ hle_ hr_ hK_
    obtain ⟨A_, d_, rfl, i1_, i2_, hs_⟩ := qM hr_
    refine yV (vE rfl rfl ?_)
    refine qS eZ rfl fun b_ => ?_
    refine qB (wW (vE rfl rfl ?_))
    refine xN 0 [.int .i64 x_.op, .int .i64 x_.n, .slice A_ x_.args.length d_] rfl rfl vU rfl rfl rfl rfl rfl rfl ?_
    refine qB (wW (tV ?_))
    exact fun a_ w_ ha_ hw_ => hK_ b_ a_ w_ R_ (.refl _) (ha_.sub (xL ⟨rfl, rfl, rfl, trivial⟩)) hw_
  · intro b_ l_ R_ s_ x_ cs_ G1_ K_ hle_ hr_ hK_
    obtain ⟨A_, d_, rfl, i1_, i2_, hs_⟩ := qM hr_
    have hend_ : ∀ (e_ : List (Nat × Value)) (G_ : List Res), (∀ w, Own w R_ G_ → Own w R_ ([.blk b8 [.map (some b_a)] 98, .blk b9 [.map (some b_r)] 98, .set jS b_a (kY x_ s_).1, .set jS b_r (kY x_ s_).2] ++ G1_)) → TX K_ .normal Tryz.f93.ntmps [] e_ R_ G_ := fun e_ G_ h_ a_ w_ ha_ hw_ => hK_ a_ w_ R_ (.refl _) (h_ w_ hw_)
    refine nQ (mI (yV ?_))
    refine vE rfl rfl ?_
    refine tl (qH 0 rfl sP rfl) ?_
    refine qB (wW ?_)
    refine vE rfl rfl ?_
    refine tl (jM 0 rfl ld3 rfl rfl) ?_
    refine qB (wW ?_)
    refine tV (cM (nQ (mI (yV ?_))))
    refine vE rfl rfl ?_
    refine tl (jR rfl rfl rfl) ?_
    refine qB (wW ?_)
    refine vE rfl rfl ?_
    refine tl (qD rfl) ?_
    refine qB (wW ?_)
    refine tV (cM (fC rfl (fun h_ => ?_) fun h_ => ?_))
    · have q_ : kY x_ s_ = (zE s_.1 x_.n, s_.2) := by unfold kY; rw [if_pos (by simpa using h_)]
      rw [q_] at hend_
      refine yV ?_
      refine vE rfl rfl ?_
      refine tl (jM 1 rfl rR rfl rfl) ?_
      refine qB (wW ?_)
      refine vE rfl rfl ?_
      refine tl (qH 1 rfl zA rfl) ?_
      refine qB (wW ?_)
      refine vE rfl rfl ?_
      refine tl (jM 0 rfl ld3 rfl rfl) ?_
      refine qB (wW ?_)
      refine vE rfl rfl ?_
      refine wX (K := jS) (ks := s_.1) (k := x_.n) 3 lJ rfl rfl rfl ?_
      refine qB (wW ?_)
      refine tV (jC (jC ?_))
      exact hend_ _ _ fun w hw => hw.tail
    · have h0_ : ¬ x_.op = 0 := by simpa using h_
      refine mI (mI (yV ?_))
      refine vE rfl rfl ?_
      refine tl (jR rfl rfl rfl) ?_
      refine qB (wW ?_)
      refine vE rfl rfl ?_
      refine tl (qD rfl) ?_
      refine qB (wW ?_)
      refine tV (cM (fC rfl (fun h6_ => ?_) fun h6_ => ?_))
      · have q_ : kY x_ s_ = (s_.1, zE s_.2 (x_.n.tdiv 2)) := by unfold kY; rw [if_neg h0_, if_pos (.inl (by simpa using h6_))]
        rw [q_] at hend_
        rw [h6_]
        refine qA5 (cM (fC rfl (fun _ => ?_) fun h_ => by cases h_))
        refine yV ?_
        refine vE rfl rfl ?_
        refine tl (jM 2 rfl rR rfl rfl) ?_
        refine qB (wW ?_)
        refine vE rfl rfl ?_
        refine tl (qH 1 rfl zA rfl) ?_
        refine qB (wW ?_)
        refine vE rfl rfl ?_
        refine tl (jM 0 rfl ld3 rfl rfl) ?_
        refine qB (wW ?_)
        refine vE rfl rfl ?_
        refine tl (v_quoT rfl rfl i2_) ?_
        refine qB (wW ?_)
        refine vE rfl rfl ?_
        refine wX (K := jS) (ks := s_.2) (k := x_.n.tdiv 2) 4 lJ rfl rfl rfl ?_
        refine qB (wW ?_)
        refine tV (jC (jC ?_))
        exact hend_ _ _ fun w hw => hw.tail
      · have h6_ : ¬ x_.op = 6 := by simpa using h6_
        refine yV ?_
        refine vE rfl rfl ?_
        refine tl (jR rfl rfl rfl) ?_
        refine qB (wW ?_)
        refine vE rfl rfl ?_
        refine tl (qD rfl) ?_
        refine qB (wW ?_)
        refine tV (cM (fC rfl (fun h7_ => ?_) fun h7_ => ?_))
        · have q_ : kY x_ s_ = (s_.1, zE s_.2 (x_.n.tdiv 2)) := by unfold kY; rw [if_neg h0_, if_pos (.inr (by simpa using h7_))]
          rw [q_] at hend_
          refine yV ?_
          refine vE rfl rfl ?_
          refine tl (jM 2 rfl rR rfl rfl) ?_
          refine qB (wW ?_)
          refine vE rfl rfl ?_
          refine tl (qH 1 rfl zA rfl) ?_
          refine qB (wW ?_)
          refine vE rfl rfl ?_
          refine tl (jM 0 rfl ld3 rfl rfl) ?_
          refine qB (wW ?_)
          refine vE rfl rfl ?_
          refine tl (v_quoT rfl rfl i2_) ?_
          refine qB (wW ?_)
          refine vE rfl rfl ?_
          refine wX (K := jS) (ks := s_.2) (k := x_.n.tdiv 2) 4 lJ rfl rfl rfl ?_
          refine qB (wW ?_)
          refine tV (jC (jC ?_))
          exact hend_ _ _ fun w hw => hw.tail
        · have h7_ : ¬ x_.op = 7 := by simpa using h7_
          have q_ : kY x_ s_ = s_ := by unfold kY; rw [if_neg h0_, if_neg (by omega)]
          rw [q_] at hend_
          refine qA5 (jC (jC ?_))
          exact hend_ _ _ fun w hw => hw.tail
  · intro L_ St_ hY_ w_ hw_
    have h_ := eY (St_y := St_) (a, r) c hY_ hr_c (.head _) hw_
    refine h_.mono ?_
    rintro e_ w1_ ⟨v_, R1_, L1_, rfl, hle_, ho_, rfl, rfl⟩
    exact ⟨_, R1_, _, rfl, hle_, ho_, rfl⟩
  · intro B_ R1_ hle_
    refine jC (tx_ret0M (.inr rfl) rfl fun w hw => ?_)
    exact ⟨_, _, [_, _], rfl, hle12.trans hle_, ((hw.tail.tail.pick 2).tail.pick 2).tail, rfl, rfl⟩

end Go.Proofs.YtcbcdlajnmkioaaGreatDoor
