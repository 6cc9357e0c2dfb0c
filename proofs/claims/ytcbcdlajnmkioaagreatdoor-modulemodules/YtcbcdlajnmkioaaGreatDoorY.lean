/- A part of the proof of the statement ModuleModules of isagogelaw19: functions walked, and plain laws on what they answer. -/
import Derived.Test.YtcbcdlajnmkioaaGreatDoorV
namespace Go.Proofs.YtcbcdlajnmkioaaGreatDoor
open Go Go.Proofs
set_option linter.unusedSimpArgs false
set_option linter.unusedVariables false
set_option maxRecDepth 20000
set_option maxHeartbeats 8000000
theorem ca93 : Callable Tryz.prog 93 := ⟨by kernel_rfl⟩
theorem ca94 : Callable Tryz.prog 94 := ⟨by kernel_rfl⟩

structure GoodS (n : Names) (s : List Int × List Int) : Prop where
  nd1 : s.1.Nodup
  nd2 : s.2.Nodup
  in1 : ∀ x ∈ s.1, 0 ≤ x ∧ x < n.concepts.length
  in2 : ∀ x ∈ s.2, 0 ≤ x ∧ x < n.roles.length
theorem nB {ks : List Int} {k : Int} (h : ks.Nodup) : (zE ks k).Nodup := by
  unfold zE; split
  · exact h
  · exact uI h (by assumption)
theorem insK_mm {ks : List Int} {k x : Int} : x ∈ zE ks k ↔ x ∈ ks ∨ x = k := by
  unfold zE; split
  · rename_i h; exact ⟨.inl, fun h' => h'.elim id fun e => e ▸ h⟩
  · simp
theorem rS {n : Names} {c : Concept} {s : List Int × List Int} (hc : jZ n c = true) (h : GoodS n s) : GoodS n (kY c s) := by
  have hs := ((vK n c).1 hc).1
  unfold kY
  split
  · rename_i h0
    rw [if_pos h0] at hs
    exact ⟨nB h.nd1, h.nd2, fun x hx => by rcases insK_mm.1 hx with hx | rfl; exact h.in1 x hx; exact ⟨hs.2.1, hs.2.2⟩, h.in2⟩
  · rename_i h0
    split
    · rename_i h1
      rw [if_neg h0, if_pos h1] at hs
      refine ⟨h.nd1, nB h.nd2, h.in1, fun x hx => ?_⟩
      rcases insK_mm.1 hx with hx | rfl
      · exact h.in2 x hx
      · rw [Int.tdiv_eq_ediv_of_nonneg hs.2.1]; omega
    · exact h
mutual
theorem sG {n : Names} : ∀ (c : Concept) (s : List Int × List Int), jZ n c = true → GoodS n s → GoodS n (wN kY c s)
  | .mk op a args, s, hc, h => by
    rw [wN]
    have h2 := ((vK n (.mk op a args)).1 hc).2
    exact mB args _ h2 (rS hc h)
theorem mB {n : Names} : ∀ (l : List Concept) (s : List Int × List Int), (∀ x ∈ l, jZ n x = true) → GoodS n s → GoodS n (bL kY l s)
  | [], s, _, h => by rw [bL]; exact h
  | x :: xs, s, hl, h => by
    rw [bL]
    exact mB xs _ (fun y hy => hl y (by simp [hy])) (sG x s (hl x (by simp)) h)
end
theorem gW {l : List Int} {m : Nat} (h : l.Nodup) (hi : ∀ x ∈ l, 0 ≤ x ∧ x < m) : l.length ≤ m := by
  have := tC h (l := qB5 m) fun x hx => by
    simp only [qB5, List.mem_map, List.mem_range]
    exact ⟨x.toNat, by have := hi x hx; omega, by have := hi x hx; omega⟩
  rwa [kM] at this
def qC3 (l : List Incl) (s : List Int × List Int) : List Int × List Int := l.foldl (fun s x => wN kY x.sup (wN kY x.sub s)) s
def qH2 (l : List RoleIncl) (r : List Int) : List Int := l.foldl (fun r x => zE (zE r (x.sub / 2)) (x.sup / 2)) r
def qG1 (l : List Fact) (s : List Int × List Int) : List Int × List Int := l.foldl (fun s x => wN kY x.con s) s
def rT (l : List Fact) (s : List Int) : List Int := l.foldl (fun s x => zE s x.ind) s
def qH3 (l : List Link) (r : List Int) : List Int := l.foldl (fun r x => zE r x.role) r
def rU (l : List Link) (s : List Int) : List Int := l.foldl (fun s x => zE (zE s x.frm) x.to) s
theorem gX {α β : Type} (f : β → α → β) {l : List α} {i : Nat} {x : α} (h : l[i]? = some x) (s : β) : (l.take (i + 1)).foldl f s = f ((l.take i).foldl f s) x := by rw [jQ h, List.foldl_append]; rfl
def vZ (b : Base) : (List Int × List Int) × List Int :=
  let s1 := qC3 b.incls ([], [])
  let s2 := qG1 b.facts (s1.1, qH2 b.roles s1.2)
  ((s2.1, qH3 b.links s2.2), rU b.links (rT b.facts []))
def vA (b : Base) : List Int × List Int × List Int := if vM b = true then (vJ (vZ b).1.1, vJ (vZ b).1.2, vJ (vZ b).2) else ([], [], [])
theorem BaseOk.sh_incl {b : Base} (h : BaseOk b) {i : Nat} {x : Incl} (hx : b.incls[i]? = some x) : jZ b.names x.sub = true ∧ jZ b.names x.sup = true := ⟨(h.concepts _ (kE hx).1).2.2, (h.concepts _ (kE hx).2).2.2⟩
theorem BaseOk.sh_fact {b : Base} (h : BaseOk b) {i : Nat} {x : Fact} (hx : b.facts[i]? = some x) : jZ b.names x.con = true := (h.concepts _ (wB hx)).2.2
structure GoodI (m : Nat) (l : List Int) : Prop where
  nd : l.Nodup
  inr : ∀ x ∈ l, 0 ≤ x ∧ x < m
theorem GoodI.ins {m : Nat} {l : List Int} {k : Int} (h : GoodI m l) (hk : 0 ≤ k ∧ k < m) : GoodI m (zE l k) :=
  ⟨nB h.nd, fun x hx => by rcases insK_mm.1 hx with hx | rfl; exact h.inr x hx; exact hk⟩
theorem GoodS.r {n : Names} {s : List Int × List Int} (h : GoodS n s) : GoodI n.roles.length s.2 := ⟨h.nd2, h.in2⟩
theorem GoodS.c {n : Names} {s : List Int × List Int} (h : GoodS n s) : GoodI n.concepts.length s.1 := ⟨h.nd1, h.in1⟩
theorem GoodS.set2 {n : Names} {s : List Int × List Int} {r : List Int} (h : GoodS n s) (k : GoodI n.roles.length r) : GoodS n (s.1, r) := ⟨h.nd1, k.nd, h.in1, k.inr⟩
theorem GoodI.sortable {m : Nat} {l : List Int} (h : GoodI m l) (hm : m ≤ 1000) : l.Nodup ∧ l.length ≤ 1000 ∧ ∀ x ∈ l, i64 x :=
  ⟨h.nd, by have := gW h.nd h.inr; omega, fun x hx => by have := h.inr x hx; unfold i64; omega⟩

theorem gC {b : Base} (h : (!vM b) = false) : BaseOk b := by unfold vM at h; simpa using h

theorem qG2 {R : RO} {G : List Res} {w : World} {c_b : List Value} (b : Base) (hr_b : kBase.rep R b c_b) (hG : Glob R) (hw : Own w R (G)) :
    Calls Tryz.prog 73 [.agg c_b.toArray].toArray w (gZ R G (fun v_ R' L_ => ∃ (A_0 : Option Addr) (c_0 : Nat) (l_0 : List Value) (A_1 : Option Addr) (c_1 : Nat) (l_1 : List Value) (A_2 : Option Addr) (c_2 : Nat) (l_2 : List Value), v_ = (.tuple #[.slice A_0 (((vA b).1).length) c_0, .slice A_1 (((vA b).2.1).length) c_1, .slice A_2 (((vA b).2.2).length) c_2, .int .i64 (if vM b = true then 0 else 20 : Int)] : Value) ∧ L_ = ([.vec (.slice A_0 (((vA b).1).length) c_0) (((vA b).1).length) 3 1 l_0, .vec (.slice A_1 (((vA b).2.1).length) c_1) (((vA b).2.1).length) 3 1 l_1, .vec (.slice A_2 (((vA b).2.2).length) c_2) (((vA b).2.2).length) 3 1 l_2] : List Res) ∧ (kInt).reps R' ((vA b).1) l_0 ∧ (kInt).reps R' ((vA b).2.1) l_1 ∧ (kInt).reps R' ((vA b).2.2) l_2)) := by
 obtain ⟨c1, A3, d4, A6, d7, A9, d10, A12, d13, rfl, hr2, hs5, hs8, hs11, hs14⟩ := id hr_b
 have z27 := hs5.size
 unfold big at z27
 have z28 := hs8.size
 unfold big at z28
 have z29 := hs11.size
 unfold big at z29
 have z30 := hs14.size
 unfold big at z30
 obtain ⟨A15, d16, A19, d20, A23, d24, rfl, hs17, hs21, hs25⟩ := id hr2
 have z18 := hs17.size
 unfold big at z18
 have z22 := hs21.size
 unfold big at z22
 have z26 := hs25.size
 unfold big at z26
 refine xH (vs := [.agg #[.slice A15 b.names.concepts.length d16, .slice A19 b.names.roles.length d20, .slice A23 b.names.inds.length d24, .slice A3 b.incls.length d4, .slice A6 b.roles.length d7, .slice A9 b.facts.length d10, .slice A12 b.links.length d13]]) Tryz.func73 rfl rfl rfl ?_ hw
 refine qE <| qA ?_
 refine qW (l := [.slice A15 b.names.concepts.length d16, .slice A19 b.names.roles.length d20, .slice A23 b.names.inds.length d24, .slice A3 b.incls.length d4, .slice A6 b.roles.length d7, .slice A9 b.facts.length d10, .slice A12 b.links.length d13]) rfl rfl fun b34 => ?_
 refine tl (qD rfl) ?_
 refine tl (qD rfl) ?_
 refine tl (qD rfl) ?_
 refine tl (qD rfl) ?_
 refine qB <| qC <| qE <| qE <| qA ?_
 refine tl (qQ 0 [.slice A15 b.names.concepts.length d16, .slice A19 b.names.roles.length d20, .slice A23 b.names.inds.length d24, .slice A3 b.incls.length d4, .slice A6 b.roles.length d7, .slice A9 b.facts.length d10, .slice A12 b.links.length d13] rfl pN rfl rfl) ?_
 refine xC ca66 rfl (fun w hw => iL b hr_b (by first | assumption | omega) hw) rfl ?_
 refine tl (wJ rfl) ?_
 refine qB <| qC ?_
 refine vI 19 rfl (fun h35 => ?_) (fun h35 => ?_)
 refine xE rfl ?_
 refine qE <| qA ?_
 refine tl (qD rfl) ?_
 refine tl (qD rfl) ?_
 refine tl (qD rfl) ?_
 refine tl (qD rfl) ?_
 refine qB <| qC <| qV <| qI ?_
 refine tx_G _ (fun w hw => hw.vecnil 3 1) ?_
 have hv36 : (kInt).reps R [] [] := rfl
 refine tx_G _ (fun w hw => hw.vecnil 3 1) ?_
 have hv38 : (kInt).reps R [] [] := rfl
 refine tx_G _ (fun w hw => hw.vecnil 3 1) ?_
 have hv40 : (kInt).reps R [] [] := rfl
 refine qI4 (.inl rfl) rfl rfl rfl rfl rfl ?_
 have e42 : (([] : List (Int)) : List (Int)) = (vA b).1 := by (unfold vA; rw [if_neg (by grind)])
 have e43 : (([] : List (Int)) : List (Int)) = (vA b).2.1 := by (unfold vA; rw [if_neg (by grind)])
 have e44 : (([] : List (Int)) : List (Int)) = (vA b).2.2 := by (unfold vA; rw [if_neg (by grind)])
 have e45 : (20 : Int) = (if vM b = true then 0 else 20 : Int) := by (rw [if_neg (by grind)])
 intro w hw
 exact ⟨_, _, [.vec (.slice none 0 0) 0 3 1 [], .vec (.slice none 0 0) 0 3 1 [], .vec (.slice none 0 0) 0 3 1 []], rfl, .refl _, (((hw.pick 3).tail.pick 1).pick 2), none, 0, [], none, 0, [], none, 0, [], (Eq.trans (Eq.trans (Eq.trans (congrArg (fun (z0_ : List (Int)) => (.tuple #[.slice none z0_.length 0, .slice none ([] : List (Int)).length 0, .slice none ([] : List (Int)).length 0, .int .i64 20] : Value)) e42) (congrArg (fun (z1_ : List (Int)) => (.tuple #[.slice none ((vA b).1).length 0, .slice none z1_.length 0, .slice none ([] : List (Int)).length 0, .int .i64 20] : Value)) e43)) (congrArg (fun (z2_ : List (Int)) => (.tuple #[.slice none ((vA b).1).length 0, .slice none ((vA b).2.1).length 0, .slice none z2_.length 0, .int .i64 20] : Value)) e44)) (congrArg (fun (z3_ : Int) => (.tuple #[.slice none ((vA b).1).length 0, .slice none ((vA b).2.1).length 0, .slice none ((vA b).2.2).length 0, .int .i64 z3_] : Value)) e45)), (Eq.trans (Eq.trans (congrArg (fun (z0_ : List (Int)) => ([.vec (.slice none z0_.length 0) z0_.length 3 1 [], .vec (.slice none ([] : List (Int)).length 0) ([] : List (Int)).length 3 1 [], .vec (.slice none ([] : List (Int)).length 0) ([] : List (Int)).length 3 1 []] : List Res)) e42) (congrArg (fun (z1_ : List (Int)) => ([.vec (.slice none ((vA b).1).length 0) ((vA b).1).length 3 1 [], .vec (.slice none z1_.length 0) z1_.length 3 1 [], .vec (.slice none ([] : List (Int)).length 0) ([] : List (Int)).length 3 1 []] : List Res)) e43)) (congrArg (fun (z2_ : List (Int)) => ([.vec (.slice none ((vA b).1).length 0) ((vA b).1).length 3 1 [], .vec (.slice none ((vA b).2.1).length 0) ((vA b).2.1).length 3 1 [], .vec (.slice none z2_.length 0) z2_.length 3 1 []] : List Res)) e44)), (Eq.mp (congrArg (fun z => (kInt).reps R z []) e42) hv36), (Eq.mp (congrArg (fun z => (kInt).reps R z []) e43) hv38), (Eq.mp (congrArg (fun z => (kInt).reps R z []) e44) hv40)⟩
 refine xV rfl ?_
 refine qZ <| qC <| qE <| qA ?_
 refine xJ jS rfl fun b46 => ?_
 refine xJ jS rfl fun b47 => ?_
 refine xJ jS rfl fun b48 => ?_
 refine tl (qD rfl) ?_
 refine tl (qD rfl) ?_
 refine tl (qD rfl) ?_
 refine qB <| qC <| qE <| qE <| qA ?_
 refine tl (qH 3 rfl yK rfl) ?_
 refine tl (jM 3 rfl fG rfl rfl) ?_
 refine tl (jJ rfl eS) ?_
 refine tl (qG rfl) ?_
 refine qB <| qC <| qX ?_
 refine jF ?_
 refine wD (fun b_ : Nat × List Int × List Int => match b_ with | (i, sa, sr) => b.incls.length - i) (fun b_ : Nat × List Int × List Int => match b_ with | (i, sa, sr) => [(1, .pointer (some ⟨b34, 0, none⟩)), (2, .slice none 0 0), (3, .slice none 0 0), (4, .slice none 0 0), (5, .int .i64 0), (6, .map (some b46)), (7, .map (some b47)), (8, .map (some b48)), (24, .slice A3 b.incls.length d4), (25, .int .i64 (b.incls.length : Int)), (26, .int .i64 (i : Int))]) (fun b_ : Nat × List Int × List Int => match b_ with | (i, sa, sr) => (.set jS b48 ([] : List Int) :: .set jS b47 sr :: .set jS b46 sa :: .blk b34 [.slice A15 b.names.concepts.length d16, .slice A19 b.names.roles.length d20, .slice A23 b.names.inds.length d24, .slice A3 b.incls.length d4, .slice A6 b.roles.length d7, .slice A9 b.facts.length d10, .slice A12 b.links.length d13] 30 :: G)) (fun (b_ : Nat × List Int × List Int) (R_ : RO) => match b_ with | (i, sa, sr) => i ≤ b.incls.length ∧ (sa, sr) = qC3 (b.incls.take i) ([], []) ∧ GoodS b.names (sa, sr)) (0, ([] : List Int), ([] : List Int)) (by repeat' constructor) (by exact ⟨by omega, rfl, ⟨List.nodup_nil, List.nodup_nil, by simp, by simp⟩⟩) (fun w hw => hw) ?_
 rintro ⟨i, sa, sr⟩ R51 hle52 hI49 ih50
 try replace hs5 := hs5.mono hle52
 try replace hs8 := hs8.mono hle52
 try replace hs11 := hs11.mono hle52
 try replace hs14 := hs14.mono hle52
 try replace hG := hG.mono hle52
 show TC Tryz.prog _ _ _ [] [(1, .pointer (some ⟨b34, 0, none⟩)), (2, .slice none 0 0), (3, .slice none 0 0), (4, .slice none 0 0), (5, .int .i64 0), (6, .map (some b46)), (7, .map (some b47)), (8, .map (some b48)), (24, .slice A3 b.incls.length d4), (25, .int .i64 (b.incls.length : Int)), (26, .int .i64 (i : Int))] R51 (.set jS b48 ([] : List Int) :: .set jS b47 sr :: .set jS b46 sa :: .blk b34 [.slice A15 b.names.concepts.length d16, .slice A19 b.names.roles.length d20, .slice A23 b.names.inds.length d24, .slice A3 b.incls.length d4, .slice A6 b.roles.length d7, .slice A9 b.facts.length d10, .slice A12 b.links.length d13] 30 :: G)
 obtain ⟨hi1, hi2, hi3⟩ := hI49
 refine qE <| qA ?_
 refine tl (jR rfl rfl rfl) ?_
 refine qB <| qC <| qE ?_
 refine qP 27 rfl (fun h53 => ?_) (fun h53 => ?_)
 refine xE rfl ?_
 refine qZ <| qC <| qE <| qX <| qE <| qA ?_
 have hb59 : i < b.incls.length := by omega
 obtain ⟨x54, hx55⟩ : ∃ x, b.incls[i]? = some x := ⟨_, List.getElem?_eq_getElem hb59⟩
 obtain ⟨c56, hr57, ha58⟩ := hs5.get _ x54 hx55
 obtain ⟨c60, c61, rfl, hr62, hr63⟩ := id hr57
 obtain ⟨A64, d65, rfl, i66, i67, hs68⟩ := qM hr62
 unfold i64 at i66 i67
 have z69 := hs68.size
 unfold big at z69
 obtain ⟨A70, d71, rfl, i72, i73, hs74⟩ := qM hr63
 unfold i64 at i72 i73
 have z75 := hs74.size
 unfold big at z75
 refine tl (jV (i := i) hs5 rfl rfl rfl eS hb59) ?_
 refine tl (jA 0 [.int .i64 x54.sub.op, .int .i64 x54.sub.n, .slice A64 x54.sub.args.length d65, .int .i64 x54.sup.op, .int .i64 x54.sup.n, .slice A70 x54.sup.args.length d71] ha58 rfl qG8 rfl rfl) ?_
 refine qS zc92 rfl fun b76 => ?_
 refine xN 0 [.int .i64 x54.sub.op, .int .i64 x54.sub.n, .slice A64 x54.sub.args.length d65, .int .i64 x54.sup.op, .int .i64 x54.sup.n, .slice A70 x54.sup.args.length d71] rfl rfl qG8 rfl rfl rfl rfl rfl rfl ?_
 refine qB <| qC <| qE <| qA ?_
 refine tl (qH 0 rfl lS rfl) ?_
 refine tl (qQ 0 [.int .i64 x54.sub.op, .int .i64 x54.sub.n, .slice A64 x54.sub.args.length d65] rfl vU rfl rfl) ?_
 refine tl (qG rfl) ?_
 refine tl (qG rfl) ?_
 refine tR (.set jS b46 sa :: .set jS b47 sr :: .blk b76 [.int .i64 x54.sub.op, .int .i64 x54.sub.n, .slice A64 x54.sub.args.length d65, .int .i64 x54.sup.op, .int .i64 x54.sup.n, .slice A70 x54.sup.args.length d71] 92 :: .set jS b48 ([] : List Int) :: .blk b34 [.slice A15 b.names.concepts.length d16, .slice A19 b.names.roles.length d20, .slice A23 b.names.inds.length d24, .slice A3 b.incls.length d4, .slice A6 b.roles.length d7, .slice A9 b.facts.length d10, .slice A12 b.links.length d13] 30 :: G) (fun w hw => ((hw.pick 2).pick 3)) ?_
 refine xD ca93 rfl (fun w hw => sF x54.sub sa sr hr62 hw) rfl ?_
 rintro _ R78 _ hle79 ⟨rfl, rfl⟩
 try replace hs8 := hs8.mono hle79
 try replace hs11 := hs11.mono hle79
 try replace hs14 := hs14.mono hle79
 try replace hG := hG.mono hle79
 try replace hr63 := kConcept.mono _ _ _ _ hle79 hr63
 have hle80 := hle52.trans hle79
 refine qB <| qC <| qA ?_
 refine tl (qH 3 rfl lT rfl) ?_
 refine tl (qQ 2 [.int .i64 x54.sup.op, .int .i64 x54.sup.n, .slice A70 x54.sup.args.length d71] rfl vU rfl rfl) ?_
 refine tl (qG rfl) ?_
 refine tl (qG rfl) ?_
 refine xD ca93 rfl (fun w hw => sF x54.sup ((wN kY x54.sub (sa, sr)).1) ((wN kY x54.sub (sa, sr)).2) hr63 hw) rfl ?_
 rintro _ R82 _ hle83 ⟨rfl, rfl⟩
 try replace hs8 := hs8.mono hle83
 try replace hs11 := hs11.mono hle83
 try replace hs14 := hs14.mono hle83
 try replace hG := hG.mono hle83
 have hle84 := hle80.trans hle83
 have hle85 := hle79.trans hle83
 refine qB <| jC <| qC <| qA ?_
 refine tl (jT rfl rfl (by omega) (by omega)) ?_
 refine tl (qG rfl) ?_
 refine qB ?_
 refine xQ ?_
 exact fun a w ha hw => ih50.out (i + 1, ((wN kY x54.sup (((wN kY x54.sub (sa, sr)).1), ((wN kY x54.sub (sa, sr)).2))).1), ((wN kY x54.sup (((wN kY x54.sub (sa, sr)).1), ((wN kY x54.sub (sa, sr)).2))).2)) _ (hle85) (by (have q_ := (gC (b := b) (by assumption)).sh_incl hx55; exact ⟨by omega, by (rw [show qC3 (b.incls.take (i + 1)) ([], []) = _ from gX _ hx55 _]; rw [show (b.incls.take i).foldl _ ([], []) = (sa, sr) from hi2.symm]), sG _ _ q_.2 (sG _ _ q_.1 hi3)⟩)) (by (try dsimp only); omega) a w (ha.sub (xL (by repeat' constructor))) ((((((hw.pick 2).tail.pick 3).pick 1).pick 2).pick 3))
 refine xV rfl ?_
 refine jE <| qK <| qK <| xG <| qC <| qE <| qE <| qA ?_
 refine tl (qH 4 rfl yL rfl) ?_
 refine tl (jM 3 rfl fH rfl rfl) ?_
 refine tl (jJ rfl eU) ?_
 refine tl (qG rfl) ?_
 refine qB <| qC <| qX ?_
 refine jF ?_
 refine wD (fun b_ : Nat × List Int => match b_ with | (j, sr2) => b.roles.length - j) (fun b_ : Nat × List Int => match b_ with | (j, sr2) => [(1, .pointer (some ⟨b34, 0, none⟩)), (2, .slice none 0 0), (3, .slice none 0 0), (4, .slice none 0 0), (5, .int .i64 0), (6, .map (some b46)), (7, .map (some b47)), (8, .map (some b48)), (42, .slice A6 b.roles.length d7), (43, .int .i64 (b.roles.length : Int)), (44, .int .i64 (j : Int))]) (fun b_ : Nat × List Int => match b_ with | (j, sr2) => (.set jS b48 ([] : List Int) :: .set jS b47 sr2 :: .set jS b46 sa :: .blk b34 [.slice A15 b.names.concepts.length d16, .slice A19 b.names.roles.length d20, .slice A23 b.names.inds.length d24, .slice A3 b.incls.length d4, .slice A6 b.roles.length d7, .slice A9 b.facts.length d10, .slice A12 b.links.length d13] 30 :: G)) (fun (b_ : Nat × List Int) (R_ : RO) => match b_ with | (j, sr2) => j ≤ b.roles.length ∧ sr2 = qH2 (b.roles.take j) sr ∧ GoodI b.names.roles.length sr2) (0, sr) (by repeat' constructor) (by exact ⟨by omega, rfl, hi3.r⟩) (fun w hw => hw) ?_
 rintro ⟨j, sr2⟩ R88 hle89 hI86 ih87
 try replace hs8 := hs8.mono hle89
 try replace hs11 := hs11.mono hle89
 try replace hs14 := hs14.mono hle89
 try replace hG := hG.mono hle89
 have hle90 := hle52.trans hle89
 show TC Tryz.prog _ _ _ [] [(1, .pointer (some ⟨b34, 0, none⟩)), (2, .slice none 0 0), (3, .slice none 0 0), (4, .slice none 0 0), (5, .int .i64 0), (6, .map (some b46)), (7, .map (some b47)), (8, .map (some b48)), (42, .slice A6 b.roles.length d7), (43, .int .i64 (b.roles.length : Int)), (44, .int .i64 (j : Int))] R88 (.set jS b48 ([] : List Int) :: .set jS b47 sr2 :: .set jS b46 sa :: .blk b34 [.slice A15 b.names.concepts.length d16, .slice A19 b.names.roles.length d20, .slice A23 b.names.inds.length d24, .slice A3 b.incls.length d4, .slice A6 b.roles.length d7, .slice A9 b.facts.length d10, .slice A12 b.links.length d13] 30 :: G)
 obtain ⟨hj1, hj2, hj3⟩ := hI86
 refine qE <| qA ?_
 refine tl (jR rfl rfl rfl) ?_
 refine qB <| qC <| qE ?_
 refine qP 45 rfl (fun h91 => ?_) (fun h91 => ?_)
 refine xE rfl ?_
 refine qZ <| qC <| qE <| qX <| qE <| qA ?_
 have hb97 : j < b.roles.length := by omega
 obtain ⟨x92, hx93⟩ : ∃ x, b.roles[j]? = some x := ⟨_, List.getElem?_eq_getElem hb97⟩
 obtain ⟨c94, hr95, ha96⟩ := hs8.get _ x92 hx93
 obtain ⟨rfl, i98, i99⟩ := id hr95
 unfold i64 at i98
 unfold i64 at i99
 have hf100 := (gC (b := b) (by assumption)).role hx93
 refine tl (jV (i := j) hs8 rfl rfl rfl eU hb97) ?_
 refine tl (jA 0 [.int .i64 x92.sub, .int .i64 x92.sup] ha96 rfl qG9 rfl rfl) ?_
 refine qS zc84 rfl fun b101 => ?_
 refine xN 0 [.int .i64 x92.sub, .int .i64 x92.sup] rfl rfl qG9 rfl rfl rfl rfl rfl rfl ?_
 refine qB <| qC ?_
 refine vS R88 (.blk b101 [.int .i64 x92.sub, .int .i64 x92.sup] 84 :: .blk b34 [.slice A15 b.names.concepts.length d16, .slice A19 b.names.roles.length d20, .slice A23 b.names.inds.length d24, .slice A3 b.incls.length d4, .slice A6 b.roles.length d7, .slice A9 b.facts.length d10, .slice A12 b.links.length d13] 30 :: G) 10 mixed ?_
 refine td 0 rfl (by kernel_rfl) (qG rfl) (fun w hw => (((((hw.pick 1).tail.pick 1).tail.pick 1).tail.pick 1).pick 1)) ?_
 refine td 1 rfl (by kernel_rfl) (qH 0 rfl lU rfl) (fun w hw => (((((hw.pick 1).tail.pick 1).tail.pick 1).tail.pick 1).pick 1)) ?_
 refine td 2 rfl (by kernel_rfl) (jM 0 rfl ld3 rfl rfl) (fun w hw => (((((hw.pick 1).tail.pick 1).tail.pick 1).tail.pick 1).pick 1)) ?_
 refine td 3 rfl (by kernel_rfl) (dR rfl rfl (by omega) (by omega)) (fun w hw => (((((hw.pick 1).tail.pick 1).tail.pick 1).tail.pick 1).pick 1)) ?_
 refine td 4 rfl (by kernel_rfl) (qG rfl) (fun w hw => (((((hw.pick 1).tail.pick 1).tail.pick 1).tail.pick 1).pick 1)) ?_
 refine td 5 rfl (by kernel_rfl) (qH 1 rfl lV rfl) (fun w hw => (((((hw.pick 1).tail.pick 1).tail.pick 1).tail.pick 1).pick 1)) ?_
 refine td 6 rfl (by kernel_rfl) (jM 0 rfl ld3 rfl rfl) (fun w hw => (((((hw.pick 1).tail.pick 1).tail.pick 1).tail.pick 1).pick 1)) ?_
 refine td 7 rfl (by kernel_rfl) (dR rfl rfl (by omega) (by omega)) (fun w hw => (((((hw.pick 1).tail.pick 1).tail.pick 1).tail.pick 1).pick 1)) ?_
 refine td1 8 (by kernel_rfl) rfl ?_
 refine wX (K := jS) (ks := sr2) (k := (x92.sub / 2)) 2 lJ rfl rfl rfl ?_
 refine qB ?_
 refine qY (fun w hw => (((((hw.pick 1).tail.pick 1).tail.pick 1).tail.pick 1).pick 1)) ?_
 refine td1 9 (by kernel_rfl) rfl ?_
 refine wX (K := jS) (ks := (zE sr2 (x92.sub / 2))) (k := (x92.sup / 2)) 2 lJ rfl rfl rfl ?_
 refine qB ?_
 refine qY (fun w hw => (((((hw.pick 1).tail.pick 1).tail.pick 1).tail.pick 1).pick 1)) ?_
 refine xK (by kernel_rfl) ?_
 refine jC <| qC <| qA ?_
 refine tl (jT rfl rfl (by omega) (by omega)) ?_
 refine tl (qG rfl) ?_
 refine qB ?_
 refine xQ ?_
 exact fun a w ha hw => ih87.out (j + 1, (zE (zE sr2 (x92.sub / 2)) (x92.sup / 2))) _ (.refl _) (by (have q_ := (gC (b := b) (by assumption)).roles _ (List.mem_of_getElem? hx93); unfold okR at q_; exact ⟨by omega, by (rw [show qH2 (b.roles.take (j + 1)) sr = _ from gX _ hx93 _]; rw [show (b.roles.take j).foldl _ sr = sr2 from hj2.symm]), (hj3.ins (by omega)).ins (by omega)⟩)) (by (try dsimp only); omega) a w (ha.sub (xL ⟨rfl, rfl, rfl, rfl, rfl, rfl, rfl, rfl, rfl, rfl, congrArg (fun z => some (Value.int .i64 z)) (show ((j : Int) + 1 : Int) = ((j + 1) : Int) by first | rfl | omega), trivial⟩)) (hw.drop 1)
 refine xV rfl ?_
 refine jE <| qK <| qK <| xG <| qC <| qE <| qE <| qA ?_
 refine tl (qH 5 rfl zB rfl) ?_
 refine tl (jM 3 rfl iZ rfl rfl) ?_
 refine tl (jJ rfl fI) ?_
 refine tl (qG rfl) ?_
 refine qB <| qC <| qX ?_
 refine jF ?_
 refine wD (fun b_ : Nat × List Int × List Int × List Int => match b_ with | (k, sa3, sr3, si3) => b.facts.length - k) (fun b_ : Nat × List Int × List Int × List Int => match b_ with | (k, sa3, sr3, si3) => [(1, .pointer (some ⟨b34, 0, none⟩)), (2, .slice none 0 0), (3, .slice none 0 0), (4, .slice none 0 0), (5, .int .i64 0), (6, .map (some b46)), (7, .map (some b47)), (8, .map (some b48)), (58, .slice A9 b.facts.length d10), (59, .int .i64 (b.facts.length : Int)), (60, .int .i64 (k : Int))]) (fun b_ : Nat × List Int × List Int × List Int => match b_ with | (k, sa3, sr3, si3) => (.set jS b48 si3 :: .set jS b47 sr3 :: .set jS b46 sa3 :: .blk b34 [.slice A15 b.names.concepts.length d16, .slice A19 b.names.roles.length d20, .slice A23 b.names.inds.length d24, .slice A3 b.incls.length d4, .slice A6 b.roles.length d7, .slice A9 b.facts.length d10, .slice A12 b.links.length d13] 30 :: G)) (fun (b_ : Nat × List Int × List Int × List Int) (R_ : RO) => match b_ with | (k, sa3, sr3, si3) => k ≤ b.facts.length ∧ (sa3, sr3) = qG1 (b.facts.take k) (sa, sr2) ∧ GoodS b.names (sa3, sr3) ∧ si3 = rT (b.facts.take k) [] ∧ GoodI b.names.inds.length si3) (0, sa, sr2, ([] : List Int)) (by repeat' constructor) (by exact ⟨by omega, rfl, hi3.set2 hj3, rfl, ⟨List.nodup_nil, by simp⟩⟩) (fun w hw => hw) ?_
 rintro ⟨k, sa3, sr3, si3⟩ R104 hle105 hI102 ih103
 try replace hs11 := hs11.mono hle105
 try replace hs14 := hs14.mono hle105
 try replace hG := hG.mono hle105
 have hle106 := hle90.trans hle105
 have hle107 := hle89.trans hle105
 show TC Tryz.prog _ _ _ [] [(1, .pointer (some ⟨b34, 0, none⟩)), (2, .slice none 0 0), (3, .slice none 0 0), (4, .slice none 0 0), (5, .int .i64 0), (6, .map (some b46)), (7, .map (some b47)), (8, .map (some b48)), (58, .slice A9 b.facts.length d10), (59, .int .i64 (b.facts.length : Int)), (60, .int .i64 (k : Int))] R104 (.set jS b48 si3 :: .set jS b47 sr3 :: .set jS b46 sa3 :: .blk b34 [.slice A15 b.names.concepts.length d16, .slice A19 b.names.roles.length d20, .slice A23 b.names.inds.length d24, .slice A3 b.incls.length d4, .slice A6 b.roles.length d7, .slice A9 b.facts.length d10, .slice A12 b.links.length d13] 30 :: G)
 obtain ⟨hk1, hk2, hk3, hk4, hk5⟩ := hI102
 refine qE <| qA ?_
 refine tl (jR rfl rfl rfl) ?_
 refine qB <| qC <| qE ?_
 refine qP 61 rfl (fun h108 => ?_) (fun h108 => ?_)
 refine xE rfl ?_
 refine qZ <| qC <| qE <| qX <| qE <| qA ?_
 have hb114 : k < b.facts.length := by omega
 obtain ⟨x109, hx110⟩ : ∃ x, b.facts[k]? = some x := ⟨_, List.getElem?_eq_getElem hb114⟩
 obtain ⟨c111, hr112, ha113⟩ := hs11.get _ x109 hx110
 obtain ⟨c115, rfl, i116, hr117⟩ := id hr112
 unfold i64 at i116
 obtain ⟨A118, d119, rfl, i120, i121, hs122⟩ := qM hr117
 unfold i64 at i120 i121
 have z123 := hs122.size
 unfold big at z123
 refine tl (jV (i := k) hs11 rfl rfl rfl fI hb114) ?_
 refine tl (jA 0 [.int .i64 x109.ind, .int .i64 x109.con.op, .int .i64 x109.con.n, .slice A118 x109.con.args.length d119] ha113 rfl qB0 rfl rfl) ?_
 refine qS zc87 rfl fun b124 => ?_
 refine xN 0 [.int .i64 x109.ind, .int .i64 x109.con.op, .int .i64 x109.con.n, .slice A118 x109.con.args.length d119] rfl rfl qB0 rfl rfl rfl rfl rfl rfl ?_
 refine qB <| qC <| qE <| qA ?_
 refine tl (qH 1 rfl lR rfl) ?_
 refine tl (qQ 0 [.int .i64 x109.con.op, .int .i64 x109.con.n, .slice A118 x109.con.args.length d119] rfl vU rfl rfl) ?_
 refine tl (qG rfl) ?_
 refine tl (qG rfl) ?_
 refine tR (.set jS b46 sa3 :: .set jS b47 sr3 :: .blk b124 [.int .i64 x109.ind, .int .i64 x109.con.op, .int .i64 x109.con.n, .slice A118 x109.con.args.length d119] 87 :: .set jS b48 si3 :: .blk b34 [.slice A15 b.names.concepts.length d16, .slice A19 b.names.roles.length d20, .slice A23 b.names.inds.length d24, .slice A3 b.incls.length d4, .slice A6 b.roles.length d7, .slice A9 b.facts.length d10, .slice A12 b.links.length d13] 30 :: G) (fun w hw => ((hw.pick 2).pick 3)) ?_
 refine xD ca93 rfl (fun w hw => sF x109.con sa3 sr3 hr117 hw) rfl ?_
 rintro _ R126 _ hle127 ⟨rfl, rfl⟩
 try replace hs14 := hs14.mono hle127
 try replace hG := hG.mono hle127
 have hle128 := hle106.trans hle127
 have hle129 := hle107.trans hle127
 have hle130 := hle105.trans hle127
 refine qB <| qC <| qA ?_
 refine tl (qG rfl) ?_
 refine tl (qH 0 rfl qJ1 rfl) ?_
 refine tl (jM 2 rfl ld3 rfl rfl) ?_
 refine wX (K := jS) (ks := si3) (k := x109.ind) 3 lJ rfl rfl rfl ?_
 refine qB <| jC <| qC <| qA ?_
 refine tl (jT rfl rfl (by omega) (by omega)) ?_
 refine tl (qG rfl) ?_
 refine qB ?_
 refine xQ ?_
 exact fun a w ha hw => ih103.out (k + 1, ((wN kY x109.con (sa3, sr3)).1), ((wN kY x109.con (sa3, sr3)).2), (zE si3 x109.ind)) _ (hle127) (by (have q_ := (gC (b := b) (by assumption)).sh_fact hx110; have q2_ := (gC (b := b) (by assumption)).facts _ (List.mem_of_getElem? hx110); exact ⟨by omega, by (rw [show qG1 (b.facts.take (k + 1)) (sa, sr2) = _ from gX _ hx110 _]; rw [show (b.facts.take k).foldl _ (sa, sr2) = (sa3, sr3) from hk2.symm]), sG _ _ q_ hk3, by (rw [show rT (b.facts.take (k + 1)) [] = _ from gX _ hx110 _]; rw [show (b.facts.take k).foldl _ [] = si3 from hk4.symm]), hk5.ins q2_⟩)) (by (try dsimp only); omega) a w (ha.sub (xL ⟨rfl, rfl, rfl, rfl, rfl, rfl, rfl, rfl, rfl, rfl, congrArg (fun z => some (Value.int .i64 z)) (show ((k : Int) + 1 : Int) = ((k + 1) : Int) by first | rfl | omega), trivial⟩)) ((((((hw.pick 2).tail.pick 3).pick 1).pick 2).pick 3))
 refine xV rfl ?_
 refine jE <| qK <| qK <| xG <| qC <| qE <| qE <| qA ?_
 refine tl (qH 6 rfl pV rfl) ?_
 refine tl (jM 3 rfl rK rfl rfl) ?_
 refine tl (jJ rfl rA) ?_
 refine tl (qG rfl) ?_
 refine qB <| qC <| qX ?_
 refine jF ?_
 refine wD (fun b_ : Nat × List Int × List Int => match b_ with | (q, sr4, si4) => b.links.length - q) (fun b_ : Nat × List Int × List Int => match b_ with | (q, sr4, si4) => [(2, .slice none 0 0), (3, .slice none 0 0), (4, .slice none 0 0), (5, .int .i64 0), (6, .map (some b46)), (7, .map (some b47)), (8, .map (some b48)), (74, .slice A12 b.links.length d13), (75, .int .i64 (b.links.length : Int)), (76, .int .i64 (q : Int))]) (fun b_ : Nat × List Int × List Int => match b_ with | (q, sr4, si4) => (.set jS b48 si4 :: .set jS b47 sr4 :: .set jS b46 sa3 :: .blk b34 [.slice A15 b.names.concepts.length d16, .slice A19 b.names.roles.length d20, .slice A23 b.names.inds.length d24, .slice A3 b.incls.length d4, .slice A6 b.roles.length d7, .slice A9 b.facts.length d10, .slice A12 b.links.length d13] 30 :: G)) (fun (b_ : Nat × List Int × List Int) (R_ : RO) => match b_ with | (q, sr4, si4) => q ≤ b.links.length ∧ sr4 = qH3 (b.links.take q) sr3 ∧ GoodI b.names.roles.length sr4 ∧ si4 = rU (b.links.take q) si3 ∧ GoodI b.names.inds.length si4 ∧ GoodI b.names.concepts.length sa3) (0, sr3, si3) (by repeat' constructor) (by exact ⟨by omega, rfl, hk3.r, rfl, hk5, hk3.c⟩) (fun w hw => hw) ?_
 rintro ⟨q, sr4, si4⟩ R133 hle134 hI131 ih132
 try replace hs14 := hs14.mono hle134
 try replace hG := hG.mono hle134
 have hle135 := hle106.trans hle134
 have hle136 := hle107.trans hle134
 have hle137 := hle105.trans hle134
 show TC Tryz.prog _ _ _ [] [(2, .slice none 0 0), (3, .slice none 0 0), (4, .slice none 0 0), (5, .int .i64 0), (6, .map (some b46)), (7, .map (some b47)), (8, .map (some b48)), (74, .slice A12 b.links.length d13), (75, .int .i64 (b.links.length : Int)), (76, .int .i64 (q : Int))] R133 (.set jS b48 si4 :: .set jS b47 sr4 :: .set jS b46 sa3 :: .blk b34 [.slice A15 b.names.concepts.length d16, .slice A19 b.names.roles.length d20, .slice A23 b.names.inds.length d24, .slice A3 b.incls.length d4, .slice A6 b.roles.length d7, .slice A9 b.facts.length d10, .slice A12 b.links.length d13] 30 :: G)
 obtain ⟨hq1, hq2, hq3, hq4, hq5, hq6⟩ := hI131
 refine qE <| qA ?_
 refine tl (jR rfl rfl rfl) ?_
 refine qB <| qC <| qE ?_
 refine qP 77 rfl (fun h138 => ?_) (fun h138 => ?_)
 refine xE rfl ?_
 refine qZ <| qC <| qE <| qX <| qE <| qA ?_
 have hb144 : q < b.links.length := by omega
 obtain ⟨x139, hx140⟩ : ∃ x, b.links[q]? = some x := ⟨_, List.getElem?_eq_getElem hb144⟩
 obtain ⟨c141, hr142, ha143⟩ := hs14.get _ x139 hx140
 obtain ⟨rfl, i145, i146, i147⟩ := id hr142
 unfold i64 at i145
 unfold i64 at i146
 unfold i64 at i147
 refine tl (jV (i := q) hs14 rfl rfl rfl rA hb144) ?_
 refine tl (jA 0 [.int .i64 x139.role, .int .i64 x139.frm, .int .i64 x139.to] ha143 rfl qH0 rfl rfl) ?_
 refine qS zc89 rfl fun b148 => ?_
 refine xN 0 [.int .i64 x139.role, .int .i64 x139.frm, .int .i64 x139.to] rfl rfl qH0 rfl rfl rfl rfl rfl rfl ?_
 refine qB <| qC ?_
 refine vS R133 (.blk b148 [.int .i64 x139.role, .int .i64 x139.frm, .int .i64 x139.to] 89 :: .blk b34 [.slice A15 b.names.concepts.length d16, .slice A19 b.names.roles.length d20, .slice A23 b.names.inds.length d24, .slice A3 b.incls.length d4, .slice A6 b.roles.length d7, .slice A9 b.facts.length d10, .slice A12 b.links.length d13] 30 :: G) 12 mixed ?_
 refine td 0 rfl (by kernel_rfl) (qG rfl) (fun w hw => (((((hw.pick 1).tail.pick 1).tail.pick 1).tail.pick 1).pick 1)) ?_
 refine td 1 rfl (by kernel_rfl) (qH 0 rfl cS rfl) (fun w hw => (((((hw.pick 1).tail.pick 1).tail.pick 1).tail.pick 1).pick 1)) ?_
 refine td 2 rfl (by kernel_rfl) (jM 0 rfl ld3 rfl rfl) (fun w hw => (((((hw.pick 1).tail.pick 1).tail.pick 1).tail.pick 1).pick 1)) ?_
 refine td 3 rfl (by kernel_rfl) (qG rfl) (fun w hw => (((((hw.pick 1).tail.pick 1).tail.pick 1).tail.pick 1).pick 1)) ?_
 refine td 4 rfl (by kernel_rfl) (qH 1 rfl qJ2 rfl) (fun w hw => (((((hw.pick 1).tail.pick 1).tail.pick 1).tail.pick 1).pick 1)) ?_
 refine td 5 rfl (by kernel_rfl) (jM 0 rfl ld3 rfl rfl) (fun w hw => (((((hw.pick 1).tail.pick 1).tail.pick 1).tail.pick 1).pick 1)) ?_
 refine td 6 rfl (by kernel_rfl) (qG rfl) (fun w hw => (((((hw.pick 1).tail.pick 1).tail.pick 1).tail.pick 1).pick 1)) ?_
 refine td 7 rfl (by kernel_rfl) (qH 2 rfl qJ3 rfl) (fun w hw => (((((hw.pick 1).tail.pick 1).tail.pick 1).tail.pick 1).pick 1)) ?_
 refine td 8 rfl (by kernel_rfl) (jM 0 rfl ld3 rfl rfl) (fun w hw => (((((hw.pick 1).tail.pick 1).tail.pick 1).tail.pick 1).pick 1)) ?_
 refine td1 9 (by kernel_rfl) rfl ?_
 refine wX (K := jS) (ks := sr4) (k := x139.role) 2 lJ rfl rfl rfl ?_
 refine qB ?_
 refine qY (fun w hw => (((((hw.pick 1).tail.pick 1).tail.pick 1).tail.pick 1).pick 1)) ?_
 refine td1 10 (by kernel_rfl) rfl ?_
 refine wX (K := jS) (ks := si4) (k := x139.frm) 1 lJ rfl rfl rfl ?_
 refine qB ?_
 refine qY (fun w hw => (((((hw.pick 1).tail.pick 1).tail.pick 1).tail.pick 1).pick 1)) ?_
 refine td1 11 (by kernel_rfl) rfl ?_
 refine wX (K := jS) (ks := (zE si4 x139.frm)) (k := x139.to) 1 lJ rfl rfl rfl ?_
 refine qB ?_
 refine qY (fun w hw => (((((hw.pick 1).tail.pick 1).tail.pick 1).tail.pick 1).pick 1)) ?_
 refine xK (by kernel_rfl) ?_
 refine jC <| qC <| qA ?_
 refine tl (jT rfl rfl (by omega) (by omega)) ?_
 refine tl (qG rfl) ?_
 refine qB ?_
 refine xQ ?_
 exact fun a w ha hw => ih132.out (q + 1, (zE sr4 x139.role), (zE (zE si4 x139.frm) x139.to)) _ (.refl _) (by (have q_ := (gC (b := b) (by assumption)).links _ (List.mem_of_getElem? hx140); unfold okL at q_; exact ⟨by omega, by (rw [show qH3 (b.links.take (q + 1)) sr3 = _ from gX _ hx140 _]; rw [show (b.links.take q).foldl _ sr3 = sr4 from hq2.symm]), hq3.ins (by omega), by (rw [show rU (b.links.take (q + 1)) si3 = _ from gX _ hx140 _]; rw [show (b.links.take q).foldl _ si3 = si4 from hq4.symm]), (hq5.ins q_.2.2.1).ins q_.2.2.2, hq6⟩)) (by (try dsimp only); omega) a w (ha.sub (xL ⟨rfl, rfl, rfl, rfl, rfl, rfl, rfl, rfl, rfl, congrArg (fun z => some (Value.int .i64 z)) (show ((q : Int) + 1 : Int) = ((q + 1) : Int) by first | rfl | omega), trivial⟩)) (hw.drop 1)
 refine xV rfl ?_
 refine jE <| qK <| qK <| xG <| qC <| qE <| qA ?_
 refine tl (qG rfl) ?_
 refine tR (.set jS b46 sa3 :: .set jS b48 si4 :: .set jS b47 sr4 :: .blk b34 [.slice A15 b.names.concepts.length d16, .slice A19 b.names.roles.length d20, .slice A23 b.names.inds.length d24, .slice A3 b.incls.length d4, .slice A6 b.roles.length d7, .slice A9 b.facts.length d10, .slice A12 b.links.length d13] 30 :: G) (fun w hw => (hw.pick 2)) ?_
 refine xD ca94 rfl (fun w hw => gM sa3 (by first | exact GoodI.sortable (by assumption) (by (have := BaseOk.namesLen (gC (b := b) (by assumption)); omega))) hw) rfl ?_
 rintro _ R150 _ hle151 ⟨A_z149_0, c_z149_0, l_z149_0, rfl, rfl, hv_z149_0⟩
 try replace hG := hG.mono hle151
 have hle152 := hle135.trans hle151
 have hle153 := hle136.trans hle151
 have hle154 := hle137.trans hle151
 have hle155 := hle134.trans hle151
 refine tl (qG rfl) ?_
 refine tR (.set jS b47 sr4 :: .vec (.slice A_z149_0 ((vJ sa3).length) c_z149_0) ((vJ sa3).length) 3 1 l_z149_0 :: .set jS b46 sa3 :: .set jS b48 si4 :: .blk b34 [.slice A15 b.names.concepts.length d16, .slice A19 b.names.roles.length d20, .slice A23 b.names.inds.length d24, .slice A3 b.incls.length d4, .slice A6 b.roles.length d7, .slice A9 b.facts.length d10, .slice A12 b.links.length d13] 30 :: G) (fun w hw => (hw.pick 3)) ?_
 refine xD ca94 rfl (fun w hw => gM sr4 (by first | exact GoodI.sortable (by assumption) (by (have := BaseOk.namesLen (gC (b := b) (by assumption)); omega))) hw) rfl ?_
 rintro _ R157 _ hle158 ⟨A_z156_0, c_z156_0, l_z156_0, rfl, rfl, hv_z156_0⟩
 try replace hG := hG.mono hle158
 try replace hv_z149_0 := Kd.reps_mono hle158 hv_z149_0
 have hle159 := hle152.trans hle158
 have hle160 := hle153.trans hle158
 have hle161 := hle154.trans hle158
 have hle162 := hle155.trans hle158
 have hle163 := hle151.trans hle158
 refine tl (qG rfl) ?_
 refine tR (.set jS b48 si4 :: .vec (.slice A_z156_0 ((vJ sr4).length) c_z156_0) ((vJ sr4).length) 3 1 l_z156_0 :: .set jS b47 sr4 :: .vec (.slice A_z149_0 ((vJ sa3).length) c_z149_0) ((vJ sa3).length) 3 1 l_z149_0 :: .set jS b46 sa3 :: .blk b34 [.slice A15 b.names.concepts.length d16, .slice A19 b.names.roles.length d20, .slice A23 b.names.inds.length d24, .slice A3 b.incls.length d4, .slice A6 b.roles.length d7, .slice A9 b.facts.length d10, .slice A12 b.links.length d13] 30 :: G) (fun w hw => (hw.pick 4)) ?_
 refine xD ca94 rfl (fun w hw => gM si4 (by first | exact GoodI.sortable (by assumption) (by (have := BaseOk.namesLen (gC (b := b) (by assumption)); omega))) hw) rfl ?_
 rintro _ R165 _ hle166 ⟨A_z164_0, c_z164_0, l_z164_0, rfl, rfl, hv_z164_0⟩
 try replace hG := hG.mono hle166
 try replace hv_z149_0 := Kd.reps_mono hle166 hv_z149_0
 try replace hv_z156_0 := Kd.reps_mono hle166 hv_z156_0
 have hle167 := hle159.trans hle166
 have hle168 := hle160.trans hle166
 have hle169 := hle161.trans hle166
 have hle170 := hle162.trans hle166
 have hle171 := hle163.trans hle166
 have hle172 := hle158.trans hle166
 refine tl (qD rfl) ?_
 refine tl (qD rfl) ?_
 refine tl (qD rfl) ?_
 refine tl (qD rfl) ?_
 refine qB <| qC <| qV ?_
 refine qI4 (.inl rfl) rfl rfl rfl rfl rfl ?_
 have e173 : ((vJ sa3) : List (Int)) = (vA b).1 := by (rw [xF (l := b.incls) (by assumption) (by assumption)] at hi2; rw [xF (l := b.roles) (by assumption) (by assumption)] at hj2; rw [xF (l := b.facts) (by assumption) (by assumption)] at hk2 hk4; rw [xF (l := b.links) (by assumption) (by assumption)] at hq2 hq4; have e_ : vZ b = ((sa3, sr4), si4) := (by unfold vZ; simp only []; rw [← hi2]; simp only []; rw [← hj2, ← hk2]; simp only []; rw [← hq2, ← hk4, ← hq4]); unfold vA; rw [if_pos (by grind)]; rw [e_])
 have e174 : ((vJ sr4) : List (Int)) = (vA b).2.1 := by (rw [xF (l := b.incls) (by assumption) (by assumption)] at hi2; rw [xF (l := b.roles) (by assumption) (by assumption)] at hj2; rw [xF (l := b.facts) (by assumption) (by assumption)] at hk2 hk4; rw [xF (l := b.links) (by assumption) (by assumption)] at hq2 hq4; have e_ : vZ b = ((sa3, sr4), si4) := (by unfold vZ; simp only []; rw [← hi2]; simp only []; rw [← hj2, ← hk2]; simp only []; rw [← hq2, ← hk4, ← hq4]); unfold vA; rw [if_pos (by grind)]; rw [e_])
 have e175 : ((vJ si4) : List (Int)) = (vA b).2.2 := by (rw [xF (l := b.incls) (by assumption) (by assumption)] at hi2; rw [xF (l := b.roles) (by assumption) (by assumption)] at hj2; rw [xF (l := b.facts) (by assumption) (by assumption)] at hk2 hk4; rw [xF (l := b.links) (by assumption) (by assumption)] at hq2 hq4; have e_ : vZ b = ((sa3, sr4), si4) := (by unfold vZ; simp only []; rw [← hi2]; simp only []; rw [← hj2, ← hk2]; simp only []; rw [← hq2, ← hk4, ← hq4]); unfold vA; rw [if_pos (by grind)]; rw [e_])
 have e176 : (0 : Int) = (if vM b = true then 0 else 20 : Int) := by (rw [if_pos (by grind)])
 intro w hw
 exact ⟨_, _, [.vec (.slice A_z149_0 ((vJ sa3).length) c_z149_0) ((vJ sa3).length) 3 1 l_z149_0, .vec (.slice A_z156_0 ((vJ sr4).length) c_z156_0) ((vJ sr4).length) 3 1 l_z156_0, .vec (.slice A_z164_0 ((vJ si4).length) c_z164_0) ((vJ si4).length) 3 1 l_z164_0], rfl, hle167, ((((((hw.pick 1).tail.pick 2).tail.pick 3).tail.pick 3).tail.pick 1).pick 2), A_z149_0, c_z149_0, l_z149_0, A_z156_0, c_z156_0, l_z156_0, A_z164_0, c_z164_0, l_z164_0, (Eq.trans (Eq.trans (Eq.trans (congrArg (fun (z0_ : List (Int)) => (.tuple #[.slice A_z149_0 z0_.length c_z149_0, .slice A_z156_0 (vJ sr4).length c_z156_0, .slice A_z164_0 (vJ si4).length c_z164_0, .int .i64 0] : Value)) e173) (congrArg (fun (z1_ : List (Int)) => (.tuple #[.slice A_z149_0 ((vA b).1).length c_z149_0, .slice A_z156_0 z1_.length c_z156_0, .slice A_z164_0 (vJ si4).length c_z164_0, .int .i64 0] : Value)) e174)) (congrArg (fun (z2_ : List (Int)) => (.tuple #[.slice A_z149_0 ((vA b).1).length c_z149_0, .slice A_z156_0 ((vA b).2.1).length c_z156_0, .slice A_z164_0 z2_.length c_z164_0, .int .i64 0] : Value)) e175)) (congrArg (fun (z3_ : Int) => (.tuple #[.slice A_z149_0 ((vA b).1).length c_z149_0, .slice A_z156_0 ((vA b).2.1).length c_z156_0, .slice A_z164_0 ((vA b).2.2).length c_z164_0, .int .i64 z3_] : Value)) e176)), (Eq.trans (Eq.trans (congrArg (fun (z0_ : List (Int)) => ([.vec (.slice A_z149_0 z0_.length c_z149_0) z0_.length 3 1 l_z149_0, .vec (.slice A_z156_0 (vJ sr4).length c_z156_0) (vJ sr4).length 3 1 l_z156_0, .vec (.slice A_z164_0 (vJ si4).length c_z164_0) (vJ si4).length 3 1 l_z164_0] : List Res)) e173) (congrArg (fun (z1_ : List (Int)) => ([.vec (.slice A_z149_0 ((vA b).1).length c_z149_0) ((vA b).1).length 3 1 l_z149_0, .vec (.slice A_z156_0 z1_.length c_z156_0) z1_.length 3 1 l_z156_0, .vec (.slice A_z164_0 (vJ si4).length c_z164_0) (vJ si4).length 3 1 l_z164_0] : List Res)) e174)) (congrArg (fun (z2_ : List (Int)) => ([.vec (.slice A_z149_0 ((vA b).1).length c_z149_0) ((vA b).1).length 3 1 l_z149_0, .vec (.slice A_z156_0 ((vA b).2.1).length c_z156_0) ((vA b).2.1).length 3 1 l_z156_0, .vec (.slice A_z164_0 z2_.length c_z164_0) z2_.length 3 1 l_z164_0] : List Res)) e175)), (Eq.mp (congrArg (fun z => (kInt).reps R165 z l_z149_0) e173) hv_z149_0), (Eq.mp (congrArg (fun z => (kInt).reps R165 z l_z156_0) e174) hv_z156_0), (Eq.mp (congrArg (fun z => (kInt).reps R165 z l_z164_0) e175) hv_z164_0)⟩

theorem ca156 : Callable Tryz.prog 156 := ⟨by kernel_rfl⟩
theorem ca157 : Callable Tryz.prog 157 := ⟨by kernel_rfl⟩
theorem ca158 : Callable Tryz.prog 158 := ⟨by kernel_rfl⟩
theorem ca159 : Callable Tryz.prog 159 := ⟨by kernel_rfl⟩
theorem ca160 : Callable Tryz.prog 160 := ⟨by kernel_rfl⟩
theorem ca161 : Callable Tryz.prog 161 := ⟨by kernel_rfl⟩
theorem ca162 : Callable Tryz.prog 162 := ⟨by kernel_rfl⟩
theorem ca163 : Callable Tryz.prog 163 := ⟨by kernel_rfl⟩
theorem ca164 : Callable Tryz.prog 164 := ⟨by kernel_rfl⟩
theorem ca165 : Callable Tryz.prog 165 := ⟨by kernel_rfl⟩
theorem ca52 : Callable Tryz.prog 52 := ⟨by kernel_rfl⟩
theorem ca73 : Callable Tryz.prog 73 := ⟨by kernel_rfl⟩
theorem ca74 : Callable Tryz.prog 74 := ⟨by kernel_rfl⟩
theorem jX : kR Tryz.prog 112 = some (true, 2) := by kernel_rfl
theorem qL1 : lB Tryz.prog 141 "isagoge/module.all" = some 156 := by kernel_rfl
theorem qL2 : lB Tryz.prog 141 "isagoge/module.empty" = some 157 := by kernel_rfl
theorem qL3 : lB Tryz.prog 141 "isagoge/module.link" = some 158 := by kernel_rfl
theorem qL4 : lB Tryz.prog 141 "isagoge/module.role" = some 159 := by kernel_rfl
theorem qL5 : lB Tryz.prog 141 "isagoge/module.some" = some 160 := by kernel_rfl
theorem qL6 : lB Tryz.prog 142 "isagoge/module.all" = some 161 := by kernel_rfl
theorem qL7 : lB Tryz.prog 142 "isagoge/module.empty" = some 162 := by kernel_rfl
theorem qL8 : lB Tryz.prog 142 "isagoge/module.link" = some 163 := by kernel_rfl
theorem qL9 : lB Tryz.prog 142 "isagoge/module.role" = some 164 := by kernel_rfl
theorem qM0 : lB Tryz.prog 142 "isagoge/module.some" = some 165 := by kernel_rfl
theorem aT : pR Tryz.prog 112 = some (true, [(0, 1), (1, 1)], 0) := by kernel_rfl
theorem vB : zG Tryz.prog 112 = some [.bool false, .bool false] := by kernel_rfl

theorem oL {n : Names} : ∀ (l : List Incl) (s : List Int × List Int), (∀ x ∈ l, jZ n x.sub = true ∧ jZ n x.sup = true) → GoodS n s → GoodS n (qC3 l s)
  | [], s, _, h => h
  | x :: xs, s, hl, h => oL xs _ (fun y hy => hl y (by simp [hy])) (sG _ _ (hl x (by simp)).2 (sG _ _ (hl x (by simp)).1 h))
theorem oM {n : Names} : ∀ (l : List RoleIncl) (r : List Int), (∀ x ∈ l, okR n x.sub ∧ okR n x.sup) → GoodI n.roles.length r → GoodI n.roles.length (qH2 l r)
  | [], r, _, h => h
  | x :: xs, r, hl, h => by
    have q := hl x (by simp)
    unfold okR at q
    exact oM xs _ (fun y hy => hl y (by simp [hy])) ((h.ins (by omega)).ins (by omega))
theorem oN {n : Names} : ∀ (l : List Fact) (s : List Int × List Int), (∀ x ∈ l, jZ n x.con = true) → GoodS n s → GoodS n (qG1 l s)
  | [], s, _, h => h
  | x :: xs, s, hl, h => oN xs _ (fun y hy => hl y (by simp [hy])) (sG _ _ (hl x (by simp)) h)
theorem oO {n : Names} : ∀ (l : List Link) (r : List Int), (∀ x ∈ l, okL n x) → GoodI n.roles.length r → GoodI n.roles.length (qH3 l r)
  | [], r, _, h => h
  | x :: xs, r, hl, h => by
    have q := hl x (by simp)
    unfold okL at q
    exact oO xs _ (fun y hy => hl y (by simp [hy])) (h.ins (by omega))
theorem eN {b : Base} (h : BaseOk b) : GoodI b.names.concepts.length (vZ b).1.1 ∧ GoodI b.names.roles.length (vZ b).1.2 := by
  have h1 : GoodS b.names (qC3 b.incls ([], [])) := oL _ _ (fun x hx => by obtain ⟨i, hi⟩ := List.mem_iff_getElem?.1 hx; exact h.sh_incl hi) ⟨List.nodup_nil, List.nodup_nil, by simp, by simp⟩
  have h2 := oM b.roles _ h.roles h1.r
  have h3 := oN b.facts _ (fun x hx => by obtain ⟨i, hi⟩ := List.mem_iff_getElem?.1 hx; exact h.sh_fact hi) (h1.set2 h2)
  exact ⟨h3.c, oO b.links _ h.links h3.r⟩
theorem oP (b : Base) : (vA b).1.length ≤ 1000 ∧ (vA b).2.1.length ≤ 1000 := by
  unfold vA
  split
  · rename_i h
    have hb : BaseOk b := of_decide_eq_true h
    have hn := hb.namesLen
    have ⟨h1, h2⟩ := eN hb
    have := gW h1.nd h1.inr
    have := gW h2.nd h2.inr
    simp only [iN]
    exact ⟨by omega, by omega⟩
  · exact ⟨Nat.zero_le _, Nat.zero_le _⟩
def vW (b : Base) (l : List Int) : Sig := ⟨(vA (zY b l)).1, (vA (zY b l)).2.1⟩

theorem aU {R : RO} {G : List Res} {w : World} {c_b : List Value} (b : Base) {A_l : Option Addr} {d_l : Nat} (l : List (Int)) (hr_b : kBase.rep R b c_b) (hs_l : SlAt kInt R A_l l) (hG : Glob R) (hB : BaseOk b) (hl : l.length ≤ 100 ∧ ∀ k ∈ l, 0 ≤ k ∧ k < xT b) (hw : Own w R (G)) :
    Calls Tryz.prog 53 [.agg c_b.toArray, .slice A_l l.length d_l].toArray w (gZ R G (fun v_ R' L_ => ∃ (cs_0 : List Value), v_ = (.agg cs_0.toArray : Value) ∧ L_ = ([] : List Res) ∧ kSig.rep R' (vW b l) cs_0)) := by
 obtain ⟨c1, A3, d4, A6, d7, A9, d10, A12, d13, rfl, hr2, hs5, hs8, hs11, hs14⟩ := id hr_b
 have z27 := hs5.size
 unfold big at z27
 have z28 := hs8.size
 unfold big at z28
 have z29 := hs11.size
 unfold big at z29
 have z30 := hs14.size
 unfold big at z30
 obtain ⟨A15, d16, A19, d20, A23, d24, rfl, hs17, hs21, hs25⟩ := id hr2
 have z18 := hs17.size
 unfold big at z18
 have z22 := hs21.size
 unfold big at z22
 have z26 := hs25.size
 unfold big at z26
 have hz_l := hs_l.size
 unfold big at hz_l
 refine xH (vs := [.agg #[.slice A15 b.names.concepts.length d16, .slice A19 b.names.roles.length d20, .slice A23 b.names.inds.length d24, .slice A3 b.incls.length d4, .slice A6 b.roles.length d7, .slice A9 b.facts.length d10, .slice A12 b.links.length d13], .slice A_l l.length d_l]) Tryz.func53 rfl rfl rfl ?_ hw
 refine qE <| qA ?_
 refine qW (l := [.slice A15 b.names.concepts.length d16, .slice A19 b.names.roles.length d20, .slice A23 b.names.inds.length d24, .slice A3 b.incls.length d4, .slice A6 b.roles.length d7, .slice A9 b.facts.length d10, .slice A12 b.links.length d13]) rfl rfl fun b31 => ?_
 refine qS tS rfl fun b32 => ?_
 refine qB <| qC <| qE <| qA ?_
 refine tl (qQ 1 [.slice A15 b.names.concepts.length d16, .slice A19 b.names.roles.length d20, .slice A23 b.names.inds.length d24, .slice A3 b.incls.length d4, .slice A6 b.roles.length d7, .slice A9 b.facts.length d10, .slice A12 b.links.length d13] rfl pN rfl rfl) ?_
 refine tl (qG rfl) ?_
 refine xD ca74 rfl (fun w hw => qF9 b l hr_b hs_l (by first | assumption | omega) (by first | assumption | omega) hw) rfl ?_
 rintro _ R34 _ hle35 ⟨cs_z33_0, rfl, rfl, hr_z33_0⟩
 try replace hG := hG.mono hle35
 obtain ⟨c36, A38, d39, A41, d42, A44, d45, A47, d48, rfl, hr37, hs40, hs43, hs46, hs49⟩ := id hr_z33_0
 have z62 := hs40.size
 unfold big at z62
 have z63 := hs43.size
 unfold big at z63
 have z64 := hs46.size
 unfold big at z64
 have z65 := hs49.size
 unfold big at z65
 obtain ⟨A50, d51, A54, d55, A58, d59, rfl, hs52, hs56, hs60⟩ := id hr37
 have z53 := hs52.size
 unfold big at z53
 have z57 := hs56.size
 unfold big at z57
 have z61 := hs60.size
 unfold big at z61
 refine xD ca73 rfl (fun w hw => qG2 (zY b l) hr_z33_0 (by first | assumption | omega) hw) rfl ?_
 rintro _ R67 _ hle68 ⟨A_z66_0, c_z66_0, l_z66_0, A_z66_1, c_z66_1, l_z66_1, A_z66_2, c_z66_2, l_z66_2, rfl, rfl, hv_z66_0, hv_z66_1, hv_z66_2⟩
 try replace hG := hG.mono hle68
 have hle69 := hle35.trans hle68
 refine tl (qG rfl) ?_
 refine tl (jG rfl rfl) ?_
 refine tl (jG rfl rfl) ?_
 refine tl (jG rfl rfl) ?_
 refine tl (jG rfl rfl) ?_
 refine tl (qD rfl) ?_
 refine tl (qD rfl) ?_
 refine tl (qD rfl) ?_
 refine tl (qD rfl) ?_
 refine qB <| qC <| qE <| qA ?_
 refine tl (qG rfl) ?_
 refine tl (qG rfl) ?_
 refine tl (xP [.slice A_z66_0 (((vA (zY b l)).1).length) c_z66_0, .slice A_z66_1 (((vA (zY b l)).2.1).length) c_z66_1] tS mT rfl rfl) ?_
 refine xN 3 [.slice A_z66_0 (((vA (zY b l)).1).length) c_z66_0, .slice A_z66_1 (((vA (zY b l)).2.1).length) c_z66_1] rfl rfl yM rfl rfl rfl rfl rfl rfl ?_
 refine qB <| qC <| qV ?_
 refine kZ (k := kInt) (l := ((vA (zY b l)).1)) 0 rfl hv_z66_0 rfl (by (unfold big; have q_ := oP (zY b l); omega)) fun R71 hle72 hs70 => ?_
 try replace hG := hG.mono hle72
 try replace hv_z66_1 := Kd.reps_mono hle72 hv_z66_1
 have hle73 := hle69.trans hle72
 have hle74 := hle68.trans hle72
 have z75 := hs70.size
 unfold big at z75
 refine kZ (k := kInt) (l := ((vA (zY b l)).2.1)) 0 rfl hv_z66_1 rfl (by (unfold big; have q_ := oP (zY b l); omega)) fun R77 hle78 hs76 => ?_
 try replace hG := hG.mono hle78
 try replace hs70 := hs70.mono hle78
 have hle79 := hle73.trans hle78
 have hle80 := hle74.trans hle78
 have hle81 := hle72.trans hle78
 have z82 := hs76.size
 unfold big at z82
 refine kO (cells := [.slice A_z66_0 (((vA (zY b l)).1).length) c_z66_0, .slice A_z66_1 (((vA (zY b l)).2.1).length) c_z66_1]) 1 (.inl rfl) rfl rfl yM rfl ?_
 have e83 : ((Sig.mk ((vA (zY b l)).1) ((vA (zY b l)).2.1)) : Sig) = vW b l := by rfl
 intro w hw
 exact ⟨_, _, [], rfl, hle79, hw.drop 3, ([.slice A_z66_0 (((vA (zY b l)).1).length) c_z66_0, .slice A_z66_1 (((vA (zY b l)).2.1).length) c_z66_1]), rfl, rfl, (Eq.mp (congrArg (fun z => kSig.rep R77 z [.slice A_z66_0 (((vA (zY b l)).1).length) c_z66_0, .slice A_z66_1 (((vA (zY b l)).2.1).length) c_z66_1]) e83) ⟨_, _, _, _, rfl, hs70, hs76⟩)⟩

def jU (t : Bool) : Nat := if t then 142 else 141
def rB : List Value := [.func (.func 85) #[] #[], .func (.func 86) #[] #[], .func (.func 87) #[] #[], .func (.func 88) #[] #[], .func (.func 89) #[] #[], .func (.func 90) #[] #[], .func (.func 91) #[] #[], .func (.func 92) #[] #[]]
theorem how_at {R : RO} {b : Nat} (h : R.at b 0 rB) {i : Int} (h0 : 0 ≤ i) (h1 : i ≤ 7) : R.at b i.toNat [.func (.func (85 + i.toNat)) #[] #[]] := by
  intro j v hj
  obtain ⟨k, rfl⟩ := Int.eq_ofNat_of_zero_le h0
  have : k = 0 ∨ k = 1 ∨ k = 2 ∨ k = 3 ∨ k = 4 ∨ k = 5 ∨ k = 6 ∨ k = 7 := by omega
  have hj0 : j = 0 := by
    have := (List.getElem?_eq_some_iff.1 hj).1
    simpa using this
  subst hj0
  simp only [List.getElem?_cons_zero, Option.some.injEq] at hj
  subst hj
  rcases this with rfl | rfl | rfl | rfl | rfl | rfl | rfl | rfl
  · exact h 0 _ rfl
  · exact h 1 _ rfl
  · exact h 2 _ rfl
  · exact h 3 _ rfl
  · exact h 4 _ rfl
  · exact h 5 _ rfl
  · exact h 6 _ rfl
  · exact h 7 _ rfl

theorem aV {R : RO} {G : List Res} {w : World} {c_n : List Value} (n : Names) {c_s : List Value} (s : Sig) (hr_n : kNames.rep R n c_n) (hr_s : kSig.rep R s c_s) (hw : Own w R (G)) :
    Calls Tryz.prog 35 [.agg c_n.toArray, .agg c_s.toArray].toArray w (kK R G (.bool (dI n s))) := by
 obtain ⟨A1, d2, A5, d6, A9, d10, rfl, hs3, hs7, hs11⟩ := id hr_n
 have z4 := hs3.size
 unfold big at z4
 have z8 := hs7.size
 unfold big at z8
 have z12 := hs11.size
 unfold big at z12
 obtain ⟨A13, d14, A17, d18, rfl, hs15, hs19⟩ := id hr_s
 have z16 := hs15.size
 unfold big at z16
 have z20 := hs19.size
 unfold big at z20
 refine xH (vs := [.agg #[.slice A1 n.concepts.length d2, .slice A5 n.roles.length d6, .slice A9 n.inds.length d10], .agg #[.slice A13 s.concepts.length d14, .slice A17 s.roles.length d18]]) Tryz.func35 rfl rfl rfl ?_ hw
 refine qE <| qA ?_
 refine qW (l := [.slice A1 n.concepts.length d2, .slice A5 n.roles.length d6, .slice A9 n.inds.length d10]) rfl rfl fun b21 => ?_
 refine qW (l := [.slice A13 s.concepts.length d14, .slice A17 s.roles.length d18]) rfl rfl fun b22 => ?_
 refine tl (qD rfl) ?_
 refine qB <| qC ?_
 refine vH [(0, .agg #[.slice A1 n.concepts.length d2, .slice A5 n.roles.length d6, .slice A9 n.inds.length d10]), (1, .agg #[.slice A13 s.concepts.length d14, .slice A17 s.roles.length d18]), (4, .bool (decide (((kC s.concepts (n.concepts.length : Int)) = true) ∧ ((kC s.roles (n.roles.length : Int)) = true))))] (.blk b22 [.slice A13 s.concepts.length d14, .slice A17 s.roles.length d18] 33 :: .blk b21 [.slice A1 n.concepts.length d2, .slice A5 n.roles.length d6, .slice A9 n.inds.length d10] 24 :: G) (fun _ => True) (fun K hK23 hE24 => ?_) ?_
 refine qA ?_
 refine tl (qH 0 rfl eK rfl) ?_
 refine tl (jM 0 rfl iA rfl rfl) ?_
 refine tl (qH 0 rfl bN rfl) ?_
 refine tl (jM 1 rfl uO rfl rfl) ?_
 refine tl (jJ rfl uK) ?_
 refine xC ca52 rfl (fun w hw => aQ s.concepts (n.concepts.length : Int) hs15 (by unfold i64; omega) hw) rfl ?_
 refine tl (qG rfl) ?_
 refine kQ 11 rfl (fun h25 => ?_) (fun h25 => ?_)
 refine qJ 11 rfl rfl ?_
 refine tl (qH 1 rfl pW rfl) ?_
 refine qJ 11 rfl rfl ?_
 refine tl (jM 0 rfl iA rfl rfl) ?_
 refine qJ 11 rfl rfl ?_
 refine tl (qH 1 rfl pP rfl) ?_
 refine qJ 11 rfl rfl ?_
 refine tl (jM 1 rfl uO rfl rfl) ?_
 refine qJ 11 rfl rfl ?_
 refine tl (jJ rfl uK) ?_
 refine qJ 11 rfl rfl ?_
 refine xC ca52 rfl (fun w hw => aQ s.roles (n.roles.length : Int) hs19 (by unfold i64; omega) hw) rfl ?_
 refine tl (qR rfl rfl) ?_
 refine tl (qD rfl) ?_
 refine qB ?_
 exact xW hK23 (.refl _) (trivial) ⟨rfl, rfl, show some (Value.bool (kC s.roles (n.roles.length : Int))) = some (Value.bool (decide (((kC s.concepts (n.concepts.length : Int)) = true) ∧ ((kC s.roles (n.roles.length : Int)) = true)))) by first | (simp [h25]; done) | grind | (simp [h25] <;> omega), trivial⟩ (fun w hw => hw)
 refine qF 11 rfl rfl rfl ?_
 refine qF 11 rfl rfl rfl ?_
 refine qF 11 rfl rfl rfl ?_
 refine qF 11 rfl rfl rfl ?_
 refine qF 11 rfl rfl rfl ?_
 refine qF 11 rfl rfl rfl ?_
 refine tl (qO rfl rfl) ?_
 refine tl (qD rfl) ?_
 refine qB ?_
 exact xW hK23 (.refl _) (trivial) ⟨rfl, rfl, show some (Value.bool false) = some (Value.bool (decide (((kC s.concepts (n.concepts.length : Int)) = true) ∧ ((kC s.roles (n.roles.length : Int)) = true)))) by first | (simp [h25]; done) | grind | (simp [h25] <;> omega), trivial⟩ (fun w hw => hw)
 refine fun R27 hle28 hj26 => jH hle28 ?_
 refine qV ?_
 refine xB (.inl rfl) rfl rfl ?_
 have e29 : (decide (((kC s.concepts (n.concepts.length : Int)) = true) ∧ ((kC s.roles (n.roles.length : Int)) = true)) : Bool) = dI n s := by (simp only [dI]; grind)
 exact fun w hw => ⟨congrArg Ending.returned (congrArg (fun x0 => Value.bool x0) e29), hw.drop 2⟩

theorem uJ {R : RO} {G : List Res} {w : World}  (hw : Own w R (G)) :
    Calls Tryz.prog 157 [.agg #[]].toArray w (kK R G (.bool true)) := by
 refine xH (vs := [.agg #[]]) Tryz.func157 rfl rfl rfl ?_ hw
 refine qE <| qA ?_
 refine qW (l := []) rfl rfl fun b1 => ?_
 refine tl (qD rfl) ?_
 refine qB <| qC <| qE <| qA ?_
 refine tl (qD rfl) ?_
 refine qB <| qC <| qV ?_
 refine xB (.inl rfl) rfl rfl ?_
 have e2 : (true : Bool) = true := by rfl
 exact fun w hw => ⟨congrArg Ending.returned (congrArg (fun x0 => Value.bool x0) e2), hw.drop 1⟩

theorem uT {R : RO} {G : List Res} {w : World} (c : Bool × Bool) (hw : Own w R (G)) :
    Calls Tryz.prog 160 [.agg #[], .agg #[.bool c.1, .bool c.2]].toArray w (kK R G (.agg #[.bool (true, false).1, .bool (true, false).2])) := by
 refine xH (vs := [.agg #[], .agg #[.bool c.1, .bool c.2]]) Tryz.func160 rfl rfl rfl ?_ hw
 refine qE <| qA ?_
 refine qW (l := []) rfl rfl fun b1 => ?_
 refine qW (l := [.bool c.1, .bool c.2]) rfl rfl fun b2 => ?_
 refine qS vB rfl fun b3 => ?_
 refine qB <| qC <| qE <| qA ?_
 refine tl (xP [.bool true, .bool false] vB aT rfl rfl) ?_
 refine xN 0 [.bool true, .bool false] rfl rfl jX rfl rfl rfl rfl rfl rfl ?_
 refine qB <| qC <| qV ?_
 refine kO (cells := [.bool true, .bool false]) 0 (.inl rfl) rfl rfl jX rfl ?_
 have e4 : ((true, false) : Bool × Bool) = (true, false) := by rfl
 exact fun w hw => ⟨congrArg (fun (z : Bool × Bool) => Ending.returned (Value.agg #[.bool z.1, .bool z.2])) e4, hw.drop 3⟩

theorem aW {R : RO} {G : List Res} {w : World} (c : Bool × Bool) (hw : Own w R (G)) :
    Calls Tryz.prog 156 [.agg #[], .agg #[.bool c.1, .bool c.2]].toArray w (kK R G (.agg #[.bool (false, true).1, .bool (false, true).2])) := by
 refine xH (vs := [.agg #[], .agg #[.bool c.1, .bool c.2]]) Tryz.func156 rfl rfl rfl ?_ hw
 refine qE <| qA ?_
 refine qW (l := []) rfl rfl fun b1 => ?_
 refine qW (l := [.bool c.1, .bool c.2]) rfl rfl fun b2 => ?_
 refine qS vB rfl fun b3 => ?_
 refine qB <| qC <| qE <| qA ?_
 refine tl (xP [.bool false, .bool true] vB aT rfl rfl) ?_
 refine xN 0 [.bool false, .bool true] rfl rfl jX rfl rfl rfl rfl rfl rfl ?_
 refine qB <| qC <| qV ?_
 refine kO (cells := [.bool false, .bool true]) 0 (.inl rfl) rfl rfl jX rfl ?_
 have e4 : ((false, true) : Bool × Bool) = (false, true) := by rfl
 exact fun w hw => ⟨congrArg (fun (z : Bool × Bool) => Ending.returned (Value.agg #[.bool z.1, .bool z.2])) e4, hw.drop 3⟩

theorem uU {R : RO} {G : List Res} {w : World} (x : Bool) (y : Bool) (hw : Own w R (G)) :
    Calls Tryz.prog 159 [.agg #[], .bool x, .bool y].toArray w (kK R G (.bool (!x))) := by
 refine xH (vs := [.agg #[], .bool x, .bool y]) Tryz.func159 rfl rfl rfl ?_ hw
 refine qE <| qA ?_
 refine qW (l := []) rfl rfl fun b1 => ?_
 refine tl (qD rfl) ?_
 refine qB <| qC <| qE <| qA ?_
 refine tl (qG rfl) ?_
 refine tl (wJ rfl) ?_
 refine tl (qD rfl) ?_
 refine qB <| qC <| qV ?_
 refine xB (.inl rfl) rfl rfl ?_
 have e2 : (!x : Bool) = !x := by rfl
 exact fun w hw => ⟨congrArg Ending.returned (congrArg (fun x0 => Value.bool x0) e2), hw.drop 1⟩

theorem uV {R : RO} {G : List Res} {w : World} (x : Bool) (hw : Own w R (G)) :
    Calls Tryz.prog 158 [.agg #[], .bool x].toArray w (kK R G (.bool false)) := by
 refine xH (vs := [.agg #[], .bool x]) Tryz.func158 rfl rfl rfl ?_ hw
 refine qE <| qA ?_
 refine qW (l := []) rfl rfl fun b1 => ?_
 refine tl (qD rfl) ?_
 refine qB <| qC <| qE <| qA ?_
 refine tl (qD rfl) ?_
 refine qB <| qC <| qV ?_
 refine xB (.inl rfl) rfl rfl ?_
 have e2 : (false : Bool) = false := by rfl
 exact fun w hw => ⟨congrArg Ending.returned (congrArg (fun x0 => Value.bool x0) e2), hw.drop 1⟩

theorem sN {R : RO} {G : List Res} {w : World}  (hw : Own w R (G)) :
    Calls Tryz.prog 162 [.agg #[]].toArray w (kK R G (.bool false)) := by
 refine xH (vs := [.agg #[]]) Tryz.func162 rfl rfl rfl ?_ hw
 refine qE <| qA ?_
 refine qW (l := []) rfl rfl fun b1 => ?_
 refine tl (qD rfl) ?_
 refine qB <| qC <| qE <| qA ?_
 refine tl (qD rfl) ?_
 refine qB <| qC <| qV ?_
 refine xB (.inl rfl) rfl rfl ?_
 have e2 : (false : Bool) = false := by rfl
 exact fun w hw => ⟨congrArg Ending.returned (congrArg (fun x0 => Value.bool x0) e2), hw.drop 1⟩

theorem tD {R : RO} {G : List Res} {w : World} (c : Bool × Bool) (hw : Own w R (G)) :
    Calls Tryz.prog 165 [.agg #[], .agg #[.bool c.1, .bool c.2]].toArray w (kK R G (.agg #[.bool c.1, .bool c.2])) := by
 refine xH (vs := [.agg #[], .agg #[.bool c.1, .bool c.2]]) Tryz.func165 rfl rfl rfl ?_ hw
 refine qE <| qA ?_
 refine qW (l := []) rfl rfl fun b1 => ?_
 refine qW (l := [.bool c.1, .bool c.2]) rfl rfl fun b2 => ?_
 refine qS vB rfl fun b3 => ?_
 refine qB <| qC <| qE <| qA ?_
 refine tl (qQ 1 [.bool c.1, .bool c.2] rfl jX rfl rfl) ?_
 refine xN 0 [.bool c.1, .bool c.2] rfl rfl jX rfl rfl rfl rfl rfl rfl ?_
 refine qB <| qC <| qV ?_
 refine kO (cells := [.bool c.1, .bool c.2]) 0 (.inl rfl) rfl rfl jX rfl ?_
 have e4 : ((c.1, c.2) : Bool × Bool) = c := by rfl
 exact fun w hw => ⟨congrArg (fun (z : Bool × Bool) => Ending.returned (Value.agg #[.bool z.1, .bool z.2])) e4, hw.drop 3⟩

theorem tO {R : RO} {G : List Res} {w : World} (c : Bool × Bool) (hw : Own w R (G)) :
    Calls Tryz.prog 161 [.agg #[], .agg #[.bool c.1, .bool c.2]].toArray w (kK R G (.agg #[.bool c.1, .bool c.2])) := by
 refine xH (vs := [.agg #[], .agg #[.bool c.1, .bool c.2]]) Tryz.func161 rfl rfl rfl ?_ hw
 refine qE <| qA ?_
 refine qW (l := []) rfl rfl fun b1 => ?_
 refine qW (l := [.bool c.1, .bool c.2]) rfl rfl fun b2 => ?_
 refine qS vB rfl fun b3 => ?_
 refine qB <| qC <| qE <| qA ?_
 refine tl (qQ 1 [.bool c.1, .bool c.2] rfl jX rfl rfl) ?_
 refine xN 0 [.bool c.1, .bool c.2] rfl rfl jX rfl rfl rfl rfl rfl rfl ?_
 refine qB <| qC <| qV ?_
 refine kO (cells := [.bool c.1, .bool c.2]) 0 (.inl rfl) rfl rfl jX rfl ?_
 have e4 : ((c.1, c.2) : Bool × Bool) = c := by rfl
 exact fun w hw => ⟨congrArg (fun (z : Bool × Bool) => Ending.returned (Value.agg #[.bool z.1, .bool z.2])) e4, hw.drop 3⟩

theorem tE {R : RO} {G : List Res} {w : World} (x : Bool) (y : Bool) (hw : Own w R (G)) :
    Calls Tryz.prog 164 [.agg #[], .bool x, .bool y].toArray w (kK R G (.bool (!y))) := by
 refine xH (vs := [.agg #[], .bool x, .bool y]) Tryz.func164 rfl rfl rfl ?_ hw
 refine qE <| qA ?_
 refine qW (l := []) rfl rfl fun b1 => ?_
 refine tl (qD rfl) ?_
 refine qB <| qC <| qE <| qA ?_
 refine tl (qG rfl) ?_
 refine tl (wJ rfl) ?_
 refine tl (qD rfl) ?_
 refine qB <| qC <| qV ?_
 refine xB (.inl rfl) rfl rfl ?_
 have e2 : (!y : Bool) = !y := by rfl
 exact fun w hw => ⟨congrArg Ending.returned (congrArg (fun x0 => Value.bool x0) e2), hw.drop 1⟩

theorem tF {R : RO} {G : List Res} {w : World} (x : Bool) (hw : Own w R (G)) :
    Calls Tryz.prog 163 [.agg #[], .bool x].toArray w (kK R G (.bool (!x))) := by
 refine xH (vs := [.agg #[], .bool x]) Tryz.func163 rfl rfl rfl ?_ hw
 refine qE <| qA ?_
 refine qW (l := []) rfl rfl fun b1 => ?_
 refine tl (qD rfl) ?_
 refine qB <| qC <| qE <| qA ?_
 refine tl (qG rfl) ?_
 refine tl (wJ rfl) ?_
 refine tl (qD rfl) ?_
 refine qB <| qC <| qV ?_
 refine xB (.inl rfl) rfl rfl ?_
 have e2 : (!x : Bool) = !x := by rfl
 exact fun w hw => ⟨congrArg Ending.returned (congrArg (fun x0 => Value.bool x0) e2), hw.drop 1⟩

def iR (t : Bool) : Nat := if t then 162 else 157
theorem qC4 (t : Bool) : Callable Tryz.prog (iR t) := by cases t; exact ca157; exact ca162
theorem qC5 (t : Bool) : lB Tryz.prog (jU t) "isagoge/module.empty" = some (iR t) := by cases t; exact qL2; exact qL7
theorem eO {R : RO} {G : List Res} {w : World} (t : Bool)  (hw : Own w R G) : Calls Tryz.prog (iR t) [.agg #[]].toArray w (kK R G (.bool (!t))) := by
  cases t
  · exact by simpa [iR] using (uJ  hw)
  · exact by simpa [iR] using (sN  hw)

def oQ (t : Bool) : Nat := if t then 165 else 160
theorem ca_some (t : Bool) : Callable Tryz.prog (oQ t) := by cases t; exact ca160; exact ca165
theorem mr_some (t : Bool) : lB Tryz.prog (jU t) "isagoge/module.some" = some (oQ t) := by cases t; exact qL5; exact qM0
theorem rV {R : RO} {G : List Res} {w : World} (t : Bool) (c : Bool × Bool) (hw : Own w R G) : Calls Tryz.prog (oQ t) [.agg #[], .agg #[.bool c.1, .bool c.2]].toArray w (kK R G (.agg #[.bool (if t = true then c else (true, false)).1, .bool (if t = true then c else (true, false)).2])) := by
  cases t
  · exact by simpa [oQ] using (uT c hw)
  · exact by simpa [oQ] using (tD c hw)

def qM1 (t : Bool) : Nat := if t then 161 else 156
theorem ca_all (t : Bool) : Callable Tryz.prog (qM1 t) := by cases t; exact ca156; exact ca161
theorem mr_all (t : Bool) : lB Tryz.prog (jU t) "isagoge/module.all" = some (qM1 t) := by cases t; exact qL1; exact qL6
theorem qG3 {R : RO} {G : List Res} {w : World} (t : Bool) (c : Bool × Bool) (hw : Own w R G) : Calls Tryz.prog (qM1 t) [.agg #[], .agg #[.bool c.1, .bool c.2]].toArray w (kK R G (.agg #[.bool (if t = true then c else (false, true)).1, .bool (if t = true then c else (false, true)).2])) := by
  cases t
  · exact by simpa [qM1] using (aW c hw)
  · exact by simpa [qM1] using (tO c hw)

def oR (t : Bool) : Nat := if t then 164 else 159
theorem ca_role (t : Bool) : Callable Tryz.prog (oR t) := by cases t; exact ca159; exact ca164
theorem mr_role (t : Bool) : lB Tryz.prog (jU t) "isagoge/module.role" = some (oR t) := by cases t; exact qL4; exact qL9
theorem rW {R : RO} {G : List Res} {w : World} (t : Bool) (x : Bool) (y : Bool) (hw : Own w R G) : Calls Tryz.prog (oR t) [.agg #[], .bool x, .bool y].toArray w (kK R G (.bool (if t = true then !y else !x))) := by
  cases t
  · exact by simpa [oR] using (uU x y hw)
  · exact by simpa [oR] using (tE x y hw)

def oS (t : Bool) : Nat := if t then 163 else 158
theorem ca_link (t : Bool) : Callable Tryz.prog (oS t) := by cases t; exact ca158; exact ca163
theorem mr_link (t : Bool) : lB Tryz.prog (jU t) "isagoge/module.link" = some (oS t) := by cases t; exact qL3; exact qL8
theorem rX {R : RO} {G : List Res} {w : World} (t : Bool) (x : Bool) (hw : Own w R G) : Calls Tryz.prog (oS t) [.agg #[], .bool x].toArray w (kK R G (.bool (t && !x))) := by
  cases t
  · exact by simpa [oS] using (uV x hw)
  · exact by simpa [oS] using (tF x hw)

end Go.Proofs.YtcbcdlajnmkioaaGreatDoor
