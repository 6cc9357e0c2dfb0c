/- A part of the proof of the statement ModuleShapes of isagogelaw19: functions walked, and plain laws on what they answer. -/
import Derived.Test.YtcbcdlajnmkioaaGreatDoorH
namespace Go.Proofs.YtcbcdlajnmkioaaGreatDoor
open Go Go.Proofs
set_option linter.unusedSimpArgs false
set_option linter.unusedVariables false
theorem ca56 : Callable Tryz.prog 56 := ⟨by kernel_rfl⟩
theorem lN : pJ Tryz.prog 33 = some (true, [(0, 1), (1, 1)], 0) := by kernel_rfl

theorem qD2 {b : Base} (h : BaseOk b) : ∀ (l : List Int) (s : Sig), (jX b l s).concepts.length ≤ s.concepts.length + l.length * 800 ∧ (jX b l s).roles.length ≤ s.roles.length + l.length * 800
  | [], s => by simp [jX]
  | x :: xs, s => by
    have h1 := nP h x.toNat s
    have h2 := qD2 h xs (yE b x.toNat s)
    have e : jX b (x :: xs) s = jX b xs (yE b x.toNat s) := rfl
    rw [e]; simp only [List.length_cons, Nat.add_mul]; omega

set_option maxRecDepth 20000 in
set_option maxHeartbeats 8000000 in
theorem aG {R : RO} {G : List Res} {w : World} {c_b : List Value} (b : Base) {A_l : Option Addr} {d_l : Nat} (l : List (Int)) {c_s : List Value} (s : Sig) (hr_b : kBase.rep R b c_b) (hs_l : SlAt kInt R A_l l) (hr_s : kSig.rep R s c_s) (hB : BaseOk b) (hl : l.length ≤ 1000 ∧ ∀ x ∈ l, 0 ≤ x ∧ x < xX b) (hb : s.concepts.length ≤ 1000 ∧ s.roles.length ≤ 1000) (hw : Own w R (G)) :
    Calls Tryz.prog 26 [.agg c_b.toArray, .slice A_l l.length d_l, .agg c_s.toArray].toArray w (hY R G (fun v_ R' L_ => ∃ (A_01 : Option Addr) (c_01 : Nat) (l_01 : List Value) (A_02 : Option Addr) (c_02 : Nat) (l_02 : List Value), v_ = (.agg #[.slice A_01 ((jX b l s).concepts.length) c_01, .slice A_02 ((jX b l s).roles.length) c_02] : Value) ∧ L_ = ([.vec (.slice A_01 ((jX b l s).concepts.length) c_01) ((jX b l s).concepts.length) 3 1 l_01, .vec (.slice A_02 ((jX b l s).roles.length) c_02) ((jX b l s).roles.length) 3 1 l_02] : List Res) ∧ kInt.reps R' (jX b l s).concepts l_01 ∧ kInt.reps R' (jX b l s).roles l_02)) := by
 obtain ⟨c1, A3, d4, A6, d7, A9, d10, A12, d13, rfl, hr2, hs5, hs8, hs11, hs14⟩ := id hr_b
 have z27 := hs5.size
 unfold big at z27
 have z28 := hs8.size
 unfold big at z28
 have z29 := hs11.size
 unfold big at z29
 have z30 := hs14.size
 unfold big at z30
 obtain ⟨A15, d16, A19, d20, A23, d24, rfl, hs17, hs21, hs25⟩ := id hr2
 have z18 := hs17.size
 unfold big at z18
 have z22 := hs21.size
 unfold big at z22
 have z26 := hs25.size
 unfold big at z26
 have hz_l := hs_l.size
 unfold big at hz_l
 obtain ⟨A31, d32, A35, d36, rfl, hs33, hs37⟩ := id hr_s
 have z34 := hs33.size
 unfold big at z34
 have z38 := hs37.size
 unfold big at z38
 refine xG (vs := [.agg #[.slice A15 b.names.concepts.length d16, .slice A19 b.names.roles.length d20, .slice A23 b.names.inds.length d24, .slice A3 b.incls.length d4, .slice A6 b.roles.length d7, .slice A9 b.facts.length d10, .slice A12 b.links.length d13], .slice A_l l.length d_l, .agg #[.slice A31 s.concepts.length d32, .slice A35 s.roles.length d36]]) Tryz.func26 rfl rfl rfl ?_ hw
 refine qF <| qA ?_
 refine qX (l := [.slice A15 b.names.concepts.length d16, .slice A19 b.names.roles.length d20, .slice A23 b.names.inds.length d24, .slice A3 b.incls.length d4, .slice A6 b.roles.length d7, .slice A9 b.facts.length d10, .slice A12 b.links.length d13]) rfl rfl fun b41 => ?_
 refine qX (l := [.slice A31 s.concepts.length d32, .slice A35 s.roles.length d36]) rfl rfl fun b42 => ?_
 refine qT tA rfl fun b43 => ?_
 refine qB <| qC ?_
 refine tQ (X := Nat × Option Addr × Nat × Option Addr × Nat × List Value × List Value) (fun (z_ : Nat × Option Addr × Nat × Option Addr × Nat × List Value × List Value) => match z_ with | (b66, A47, c48, A58, c59, l60, l49) => [(1, .slice A_l l.length d_l), (3, .pointer (some ⟨b41, 0, none⟩)), (6, .pointer (some ⟨b43, 0, none⟩)), (7, .pointer (some ⟨b66, 0, none⟩))]) (fun (z_ : Nat × Option Addr × Nat × Option Addr × Nat × List Value × List Value) => match z_ with | (b66, A47, c48, A58, c59, l60, l49) => (.blk b66 [.slice A47 ((([] : List (Int)) ++ s.concepts).length) c48, .slice A58 ((([] : List (Int)) ++ s.roles).length) c59] 33 :: .vec (.slice A58 ((([] : List (Int)) ++ s.roles).length) c59) ((([] : List (Int)) ++ s.roles).length) 3 1 l60 :: .vec (.slice A47 ((([] : List (Int)) ++ s.concepts).length) c48) ((([] : List (Int)) ++ s.concepts).length) 3 1 l49 :: .blk b43 [.slice none 0 0, .slice none 0 0] 33 :: .blk b42 [.slice A31 s.concepts.length d32, .slice A35 s.roles.length d36] 33 :: .blk b41 [.slice A15 b.names.concepts.length d16, .slice A19 b.names.roles.length d20, .slice A23 b.names.inds.length d24, .slice A3 b.incls.length d4, .slice A6 b.roles.length d7, .slice A9 b.facts.length d10, .slice A12 b.links.length d13] 30 :: G)) (fun (z_ : Nat × Option Addr × Nat × Option Addr × Nat × List Value × List Value) (R_ : RO) => match z_ with | (b66, A47, c48, A58, c59, l60, l49) => (kInt).reps R_ (([] : List (Int)) ++ s.roles) l60 ∧ (kInt).reps R_ (([] : List (Int)) ++ s.concepts) l49) (fun K hK67 hE68 => ?_) ?_
 refine vW R (.blk b43 [.slice none 0 0, .slice none 0 0] 33 :: .blk b42 [.slice A31 s.concepts.length d32, .slice A35 s.roles.length d36] 33 :: .blk b41 [.slice A15 b.names.concepts.length d16, .slice A19 b.names.roles.length d20, .slice A23 b.names.inds.length d24, .slice A3 b.incls.length d4, .slice A6 b.roles.length d7, .slice A9 b.facts.length d10, .slice A12 b.links.length d13] 30 :: G) 10 mixed ?_
 refine td 1 rfl (by kernel_rfl) (qH 0 rfl aF rfl) (fun w hw => hw) ?_
 refine td 2 rfl (by kernel_rfl) (jN 1 rfl cI rfl rfl) (fun w hw => hw) ?_
 refine td 5 rfl (by kernel_rfl) (qH 1 rfl gF rfl) (fun w hw => hw) ?_
 refine td 6 rfl (by kernel_rfl) (jN 1 rfl cI rfl rfl) (fun w hw => hw) ?_
 refine jO [0, 4, 9] (by kernel_rfl) rfl ?_
 refine tds rfl ?_ ?_
 refine jF [] zV rfl rfl rfl rfl rfl rfl rfl fun b69 => ?_
 refine qB ?_
 refine qW (fun w hw => hw.drop 1) ?_
 refine jO [3, 4, 9] (by kernel_rfl) rfl ?_
 refine tds rfl ?_ ?_
 refine kL 0 0 1 rfl rfl rfl ?_
 have hv70 : (kInt).reps R ([] : List (Int)) [] := rfl
 obtain ⟨ds76, rp77, src78⟩ := kZ kP hs33
 refine kI (k := kInt) (m := s.concepts) 0 hv70 (rp77) zV rfl rfl rfl (rfl) (src78 _) (by first | omega | (simp; omega)) rfl rfl fun A72 c73 l74 hv75 => ?_
 refine qB ?_
 refine qW (fun w hw => hw.drop 1) ?_
 refine jO [4, 9] (by kernel_rfl) rfl ?_
 refine tds rfl ?_ ?_
 refine jF [] zV rfl rfl rfl rfl rfl rfl rfl fun b80 => ?_
 refine qB ?_
 refine qW (fun w hw => hw.drop 2) ?_
 refine jO [7, 9] (by kernel_rfl) rfl ?_
 refine tds rfl ?_ ?_
 refine kL 0 0 1 rfl rfl rfl ?_
 have hv81 : (kInt).reps R ([] : List (Int)) [] := rfl
 obtain ⟨ds87, rp88, src89⟩ := kZ kP hs37
 refine kI (k := kInt) (m := s.roles) 0 hv81 (rp88) zV rfl rfl rfl (rfl) (src89 _) (by first | omega | (simp; omega)) rfl rfl fun A83 c84 l85 hv86 => ?_
 refine qB ?_
 refine qW (fun w hw => hw.drop 2) ?_
 refine td 8 rfl (by kernel_rfl) (xO [.slice A72 ((([] : List (Int)) ++ s.concepts).length) c73, .slice A83 ((([] : List (Int)) ++ s.roles).length) c84] tA lN rfl rfl) (fun w hw => hw.drop 2) ?_
 refine td1 9 (by kernel_rfl) rfl ?_
 refine qT tA rfl fun b91 => ?_
 refine qB ?_
 refine qW (fun w hw => hw.drop 3) ?_
 refine td1 10 (by kernel_rfl) rfl ?_
 refine xM 0 [.slice A72 ((([] : List (Int)) ++ s.concepts).length) c73, .slice A83 ((([] : List (Int)) ++ s.roles).length) c84] rfl rfl yO rfl rfl rfl rfl rfl rfl ?_
 refine qB ?_
 refine xZ ?_
 refine xJ (by kernel_rfl) ?_
 exact xP hK67 (b91, A72, c73, A83, c84, l85, l74) (.refl _) (⟨hv86, hv75⟩) ⟨rfl, rfl, rfl, rfl, trivial⟩ (fun w hw => hw)
 refine tds rfl ?_ ?_
 refine qT tA rfl fun b92 => ?_
 refine qB ?_
 refine qW (fun w hw => hw.drop 3) ?_
 refine td1 7 (by kernel_rfl) rfl ?_
 refine kL 1 0 1 rfl rfl rfl ?_
 have hv93 : (kInt).reps R ([] : List (Int)) [] := rfl
 obtain ⟨ds99, rp100, src101⟩ := kZ kP hs37
 refine kI (k := kInt) (m := s.roles) 0 hv93 (rp100) zV rfl rfl rfl (rfl) (src101 _) (by first | omega | (simp; omega)) rfl rfl fun A95 c96 l97 hv98 => ?_
 refine qB ?_
 refine qW (fun w hw => hw.drop 3) ?_
 refine td 8 rfl (by kernel_rfl) (xO [.slice A72 ((([] : List (Int)) ++ s.concepts).length) c73, .slice A95 ((([] : List (Int)) ++ s.roles).length) c96] tA lN rfl rfl) (fun w hw => hw.drop 3) ?_
 refine td1 10 (by kernel_rfl) rfl ?_
 refine xM 1 [.slice A72 ((([] : List (Int)) ++ s.concepts).length) c73, .slice A95 ((([] : List (Int)) ++ s.roles).length) c96] rfl rfl yO rfl rfl rfl rfl rfl rfl ?_
 refine qB ?_
 refine xZ ?_
 refine xJ (by kernel_rfl) ?_
 exact xP hK67 (b92, A72, c73, A95, c96, l97, l74) (.refl _) (⟨hv98, hv75⟩) ⟨rfl, rfl, rfl, rfl, trivial⟩ (fun w hw => ((((((hw.pick 5).pick 5).pick 5).pick 5).pick 4).pick 5))
 exact jB
 refine tds rfl ?_ ?_
 refine qT tA rfl fun b103 => ?_
 refine qB ?_
 refine qW (fun w hw => hw.drop 2) ?_
 refine td1 4 (by kernel_rfl) rfl ?_
 refine jF [] zV rfl rfl rfl rfl rfl rfl rfl fun b104 => ?_
 refine qB ?_
 refine qW (fun w hw => hw.drop 3) ?_
 refine td1 7 (by kernel_rfl) rfl ?_
 refine kL 0 0 1 rfl rfl rfl ?_
 have hv105 : (kInt).reps R ([] : List (Int)) [] := rfl
 obtain ⟨ds111, rp112, src113⟩ := kZ kP hs37
 refine kI (k := kInt) (m := s.roles) 0 hv105 (rp112) zV rfl rfl rfl (rfl) (src113 _) (by first | omega | (simp; omega)) rfl rfl fun A107 c108 l109 hv110 => ?_
 refine qB ?_
 refine qW (fun w hw => hw.drop 3) ?_
 refine td 8 rfl (by kernel_rfl) (xO [.slice A72 ((([] : List (Int)) ++ s.concepts).length) c73, .slice A107 ((([] : List (Int)) ++ s.roles).length) c108] tA lN rfl rfl) (fun w hw => hw.drop 3) ?_
 refine td1 10 (by kernel_rfl) rfl ?_
 refine xM 1 [.slice A72 ((([] : List (Int)) ++ s.concepts).length) c73, .slice A107 ((([] : List (Int)) ++ s.roles).length) c108] rfl rfl yO rfl rfl rfl rfl rfl rfl ?_
 refine qB ?_
 refine xZ ?_
 refine xJ (by kernel_rfl) ?_
 exact xP hK67 (b103, A72, c73, A107, c108, l109, l74) (.refl _) (⟨hv110, hv75⟩) ⟨rfl, rfl, rfl, rfl, trivial⟩ (fun w hw => ((((((hw.pick 5).pick 5).pick 5).pick 5).pick 4).pick 5))
 exact jB
 refine tds rfl ?_ ?_
 refine jF [] zV rfl rfl rfl rfl rfl rfl rfl fun b115 => ?_
 refine qB ?_
 refine qW (fun w hw => hw.drop 2) ?_
 refine jO [3, 9] (by kernel_rfl) rfl ?_
 refine tds rfl ?_ ?_
 refine kL 1 0 1 rfl rfl rfl ?_
 have hv116 : (kInt).reps R ([] : List (Int)) [] := rfl
 obtain ⟨ds122, rp123, src124⟩ := kZ kP hs33
 refine kI (k := kInt) (m := s.concepts) 0 hv116 (rp123) zV rfl rfl rfl (rfl) (src124 _) (by first | omega | (simp; omega)) rfl rfl fun A118 c119 l120 hv121 => ?_
 refine qB ?_
 refine qW (fun w hw => hw.drop 2) ?_
 refine jO [7, 9] (by kernel_rfl) rfl ?_
 refine tds rfl ?_ ?_
 refine kL 1 0 1 rfl rfl rfl ?_
 have hv126 : (kInt).reps R ([] : List (Int)) [] := rfl
 obtain ⟨ds132, rp133, src134⟩ := kZ kP hs37
 refine kI (k := kInt) (m := s.roles) 0 hv126 (rp133) zV rfl rfl rfl (rfl) (src134 _) (by first | omega | (simp; omega)) rfl rfl fun A128 c129 l130 hv131 => ?_
 refine qB ?_
 refine qW (fun w hw => hw.drop 2) ?_
 refine td 8 rfl (by kernel_rfl) (xO [.slice A118 ((([] : List (Int)) ++ s.concepts).length) c119, .slice A128 ((([] : List (Int)) ++ s.roles).length) c129] tA lN rfl rfl) (fun w hw => hw.drop 2) ?_
 refine td1 9 (by kernel_rfl) rfl ?_
 refine qT tA rfl fun b136 => ?_
 refine qB ?_
 refine qW (fun w hw => hw.drop 3) ?_
 refine td1 10 (by kernel_rfl) rfl ?_
 refine xM 0 [.slice A118 ((([] : List (Int)) ++ s.concepts).length) c119, .slice A128 ((([] : List (Int)) ++ s.roles).length) c129] rfl rfl yO rfl rfl rfl rfl rfl rfl ?_
 refine qB ?_
 refine xZ ?_
 refine xJ (by kernel_rfl) ?_
 exact xP hK67 (b136, A118, c119, A128, c129, l130, l120) (.refl _) (⟨hv131, hv121⟩) ⟨rfl, rfl, rfl, rfl, trivial⟩ (fun w hw => hw)
 refine tds rfl ?_ ?_
 refine qT tA rfl fun b137 => ?_
 refine qB ?_
 refine qW (fun w hw => hw.drop 3) ?_
 refine td1 7 (by kernel_rfl) rfl ?_
 refine kL 2 0 1 rfl rfl rfl ?_
 have hv138 : (kInt).reps R ([] : List (Int)) [] := rfl
 obtain ⟨ds144, rp145, src146⟩ := kZ kP hs37
 refine kI (k := kInt) (m := s.roles) 0 hv138 (rp145) zV rfl rfl rfl (rfl) (src146 _) (by first | omega | (simp; omega)) rfl rfl fun A140 c141 l142 hv143 => ?_
 refine qB ?_
 refine qW (fun w hw => hw.drop 3) ?_
 refine td 8 rfl (by kernel_rfl) (xO [.slice A118 ((([] : List (Int)) ++ s.concepts).length) c119, .slice A140 ((([] : List (Int)) ++ s.roles).length) c141] tA lN rfl rfl) (fun w hw => hw.drop 3) ?_
 refine td1 10 (by kernel_rfl) rfl ?_
 refine xM 1 [.slice A118 ((([] : List (Int)) ++ s.concepts).length) c119, .slice A140 ((([] : List (Int)) ++ s.roles).length) c141] rfl rfl yO rfl rfl rfl rfl rfl rfl ?_
 refine qB ?_
 refine xZ ?_
 refine xJ (by kernel_rfl) ?_
 exact xP hK67 (b137, A118, c119, A140, c141, l142, l120) (.refl _) (⟨hv143, hv121⟩) ⟨rfl, rfl, rfl, rfl, trivial⟩ (fun w hw => ((((((hw.pick 5).pick 5).pick 5).pick 5).pick 4).pick 5))
 exact jB
 refine tds rfl ?_ ?_
 refine qT tA rfl fun b148 => ?_
 refine qB ?_
 refine qW (fun w hw => hw.drop 3) ?_
 refine td1 3 (by kernel_rfl) rfl ?_
 refine kL 2 0 1 rfl rfl rfl ?_
 have hv149 : (kInt).reps R ([] : List (Int)) [] := rfl
 obtain ⟨ds155, rp156, src157⟩ := kZ kP hs33
 refine kI (k := kInt) (m := s.concepts) 0 hv149 (rp156) zV rfl rfl rfl (rfl) (src157 _) (by first | omega | (simp; omega)) rfl rfl fun A151 c152 l153 hv154 => ?_
 refine qB ?_
 refine qW (fun w hw => hw.drop 3) ?_
 refine td1 7 (by kernel_rfl) rfl ?_
 refine kL 2 0 1 rfl rfl rfl ?_
 have hv159 : (kInt).reps R ([] : List (Int)) [] := rfl
 obtain ⟨ds165, rp166, src167⟩ := kZ kP hs37
 refine kI (k := kInt) (m := s.roles) 0 hv159 (rp166) zV rfl rfl rfl (rfl) (src167 _) (by first | omega | (simp; omega)) rfl rfl fun A161 c162 l163 hv164 => ?_
 refine qB ?_
 refine qW (fun w hw => hw.drop 3) ?_
 refine td 8 rfl (by kernel_rfl) (xO [.slice A151 ((([] : List (Int)) ++ s.concepts).length) c152, .slice A161 ((([] : List (Int)) ++ s.roles).length) c162] tA lN rfl rfl) (fun w hw => hw.drop 3) ?_
 refine td1 10 (by kernel_rfl) rfl ?_
 refine xM 2 [.slice A151 ((([] : List (Int)) ++ s.concepts).length) c152, .slice A161 ((([] : List (Int)) ++ s.roles).length) c162] rfl rfl yO rfl rfl rfl rfl rfl rfl ?_
 refine qB ?_
 refine xZ ?_
 refine xJ (by kernel_rfl) ?_
 exact xP hK67 (b148, A151, c152, A161, c162, l163, l153) (.refl _) (⟨hv164, hv154⟩) ⟨rfl, rfl, rfl, rfl, trivial⟩ (fun w hw => ((((((hw.pick 5).pick 5).pick 5).pick 4).pick 4).pick 5))
 exact jB
 refine tds rfl ?_ ?_
 refine qT tA rfl fun b169 => ?_
 refine qB ?_
 refine qW (fun w hw => hw.drop 2) ?_
 refine jO [3, 4] (by kernel_rfl) rfl ?_
 refine tds rfl ?_ ?_
 refine kL 1 0 1 rfl rfl rfl ?_
 have hv170 : (kInt).reps R ([] : List (Int)) [] := rfl
 obtain ⟨ds176, rp177, src178⟩ := kZ kP hs33
 refine kI (k := kInt) (m := s.concepts) 0 hv170 (rp177) zV rfl rfl rfl (rfl) (src178 _) (by first | omega | (simp; omega)) rfl rfl fun A172 c173 l174 hv175 => ?_
 refine qB ?_
 refine qW (fun w hw => hw.drop 2) ?_
 refine td1 4 (by kernel_rfl) rfl ?_
 refine jF [] zV rfl rfl rfl rfl rfl rfl rfl fun b180 => ?_
 refine qB ?_
 refine qW (fun w hw => hw.drop 3) ?_
 refine td1 7 (by kernel_rfl) rfl ?_
 refine kL 0 0 1 rfl rfl rfl ?_
 have hv181 : (kInt).reps R ([] : List (Int)) [] := rfl
 obtain ⟨ds187, rp188, src189⟩ := kZ kP hs37
 refine kI (k := kInt) (m := s.roles) 0 hv181 (rp188) zV rfl rfl rfl (rfl) (src189 _) (by first | omega | (simp; omega)) rfl rfl fun A183 c184 l185 hv186 => ?_
 refine qB ?_
 refine qW (fun w hw => hw.drop 3) ?_
 refine td 8 rfl (by kernel_rfl) (xO [.slice A172 ((([] : List (Int)) ++ s.concepts).length) c173, .slice A183 ((([] : List (Int)) ++ s.roles).length) c184] tA lN rfl rfl) (fun w hw => hw.drop 3) ?_
 refine td1 10 (by kernel_rfl) rfl ?_
 refine xM 2 [.slice A172 ((([] : List (Int)) ++ s.concepts).length) c173, .slice A183 ((([] : List (Int)) ++ s.roles).length) c184] rfl rfl yO rfl rfl rfl rfl rfl rfl ?_
 refine qB ?_
 refine xZ ?_
 refine xJ (by kernel_rfl) ?_
 exact xP hK67 (b169, A172, c173, A183, c184, l185, l174) (.refl _) (⟨hv186, hv175⟩) ⟨rfl, rfl, rfl, rfl, trivial⟩ (fun w hw => ((((((hw.pick 5).pick 5).pick 5).pick 4).pick 4).pick 5))
 refine tds rfl ?_ ?_
 refine jF [] zV rfl rfl rfl rfl rfl rfl rfl fun b191 => ?_
 refine qB ?_
 refine qW (fun w hw => hw.drop 3) ?_
 refine td1 3 (by kernel_rfl) rfl ?_
 refine kL 2 0 1 rfl rfl rfl ?_
 have hv192 : (kInt).reps R ([] : List (Int)) [] := rfl
 obtain ⟨ds198, rp199, src200⟩ := kZ kP hs33
 refine kI (k := kInt) (m := s.concepts) 0 hv192 (rp199) zV rfl rfl rfl (rfl) (src200 _) (by first | omega | (simp; omega)) rfl rfl fun A194 c195 l196 hv197 => ?_
 refine qB ?_
 refine qW (fun w hw => hw.drop 3) ?_
 refine td1 7 (by kernel_rfl) rfl ?_
 refine kL 1 0 1 rfl rfl rfl ?_
 have hv202 : (kInt).reps R ([] : List (Int)) [] := rfl
 obtain ⟨ds208, rp209, src210⟩ := kZ kP hs37
 refine kI (k := kInt) (m := s.roles) 0 hv202 (rp209) zV rfl rfl rfl (rfl) (src210 _) (by first | omega | (simp; omega)) rfl rfl fun A204 c205 l206 hv207 => ?_
 refine qB ?_
 refine qW (fun w hw => hw.drop 3) ?_
 refine td 8 rfl (by kernel_rfl) (xO [.slice A194 ((([] : List (Int)) ++ s.concepts).length) c195, .slice A204 ((([] : List (Int)) ++ s.roles).length) c205] tA lN rfl rfl) (fun w hw => hw.drop 3) ?_
 refine td1 10 (by kernel_rfl) rfl ?_
 refine xM 2 [.slice A194 ((([] : List (Int)) ++ s.concepts).length) c195, .slice A204 ((([] : List (Int)) ++ s.roles).length) c205] rfl rfl yO rfl rfl rfl rfl rfl rfl ?_
 refine qB ?_
 refine xZ ?_
 refine xJ (by kernel_rfl) ?_
 exact xP hK67 (b169, A194, c195, A204, c205, l206, l196) (.refl _) (⟨hv207, hv197⟩) ⟨rfl, rfl, rfl, rfl, trivial⟩ (fun w hw => ((((((hw.pick 5).pick 5).pick 5).pick 4).pick 4).pick 5))
 exact jB
 exact jB
 refine tds rfl ?_ ?_
 refine jF [] zV rfl rfl rfl rfl rfl rfl rfl fun b212 => ?_
 refine qB ?_
 refine qW (fun w hw => hw.drop 1) ?_
 refine jO [0, 9] (by kernel_rfl) rfl ?_
 refine tds rfl ?_ ?_
 refine jF [] zV rfl rfl rfl rfl rfl rfl rfl fun b213 => ?_
 refine qB ?_
 refine qW (fun w hw => hw.drop 2) ?_
 refine jO [3, 9] (by kernel_rfl) rfl ?_
 refine tds rfl ?_ ?_
 refine kL 0 0 1 rfl rfl rfl ?_
 have hv214 : (kInt).reps R ([] : List (Int)) [] := rfl
 obtain ⟨ds220, rp221, src222⟩ := kZ kP hs33
 refine kI (k := kInt) (m := s.concepts) 0 hv214 (rp221) zV rfl rfl rfl (rfl) (src222 _) (by first | omega | (simp; omega)) rfl rfl fun A216 c217 l218 hv219 => ?_
 refine qB ?_
 refine qW (fun w hw => hw.drop 2) ?_
 refine jO [7, 9] (by kernel_rfl) rfl ?_
 refine tds rfl ?_ ?_
 refine kL 1 0 1 rfl rfl rfl ?_
 have hv224 : (kInt).reps R ([] : List (Int)) [] := rfl
 obtain ⟨ds230, rp231, src232⟩ := kZ kP hs37
 refine kI (k := kInt) (m := s.roles) 0 hv224 (rp231) zV rfl rfl rfl (rfl) (src232 _) (by first | omega | (simp; omega)) rfl rfl fun A226 c227 l228 hv229 => ?_
 refine qB ?_
 refine qW (fun w hw => hw.drop 2) ?_
 refine td 8 rfl (by kernel_rfl) (xO [.slice A216 ((([] : List (Int)) ++ s.concepts).length) c217, .slice A226 ((([] : List (Int)) ++ s.roles).length) c227] tA lN rfl rfl) (fun w hw => hw.drop 2) ?_
 refine td1 9 (by kernel_rfl) rfl ?_
 refine qT tA rfl fun b234 => ?_
 refine qB ?_
 refine qW (fun w hw => hw.drop 3) ?_
 refine td1 10 (by kernel_rfl) rfl ?_
 refine xM 0 [.slice A216 ((([] : List (Int)) ++ s.concepts).length) c217, .slice A226 ((([] : List (Int)) ++ s.roles).length) c227] rfl rfl yO rfl rfl rfl rfl rfl rfl ?_
 refine qB ?_
 refine xZ ?_
 refine xJ (by kernel_rfl) ?_
 exact xP hK67 (b234, A216, c217, A226, c227, l228, l218) (.refl _) (⟨hv229, hv219⟩) ⟨rfl, rfl, rfl, rfl, trivial⟩ (fun w hw => hw)
 refine tds rfl ?_ ?_
 refine qT tA rfl fun b235 => ?_
 refine qB ?_
 refine qW (fun w hw => hw.drop 3) ?_
 refine td1 7 (by kernel_rfl) rfl ?_
 refine kL 2 0 1 rfl rfl rfl ?_
 have hv236 : (kInt).reps R ([] : List (Int)) [] := rfl
 obtain ⟨ds242, rp243, src244⟩ := kZ kP hs37
 refine kI (k := kInt) (m := s.roles) 0 hv236 (rp243) zV rfl rfl rfl (rfl) (src244 _) (by first | omega | (simp; omega)) rfl rfl fun A238 c239 l240 hv241 => ?_
 refine qB ?_
 refine qW (fun w hw => hw.drop 3) ?_
 refine td 8 rfl (by kernel_rfl) (xO [.slice A216 ((([] : List (Int)) ++ s.concepts).length) c217, .slice A238 ((([] : List (Int)) ++ s.roles).length) c239] tA lN rfl rfl) (fun w hw => hw.drop 3) ?_
 refine td1 10 (by kernel_rfl) rfl ?_
 refine xM 1 [.slice A216 ((([] : List (Int)) ++ s.concepts).length) c217, .slice A238 ((([] : List (Int)) ++ s.roles).length) c239] rfl rfl yO rfl rfl rfl rfl rfl rfl ?_
 refine qB ?_
 refine xZ ?_
 refine xJ (by kernel_rfl) ?_
 exact xP hK67 (b235, A216, c217, A238, c239, l240, l218) (.refl _) (⟨hv241, hv219⟩) ⟨rfl, rfl, rfl, rfl, trivial⟩ (fun w hw => ((((((hw.pick 5).pick 5).pick 5).pick 5).pick 4).pick 5))
 exact jB
 refine tds rfl ?_ ?_
 refine qT tA rfl fun b246 => ?_
 refine qB ?_
 refine qW (fun w hw => hw.drop 3) ?_
 refine td1 3 (by kernel_rfl) rfl ?_
 refine kL 1 0 1 rfl rfl rfl ?_
 have hv247 : (kInt).reps R ([] : List (Int)) [] := rfl
 obtain ⟨ds253, rp254, src255⟩ := kZ kP hs33
 refine kI (k := kInt) (m := s.concepts) 0 hv247 (rp254) zV rfl rfl rfl (rfl) (src255 _) (by first | omega | (simp; omega)) rfl rfl fun A249 c250 l251 hv252 => ?_
 refine qB ?_
 refine qW (fun w hw => hw.drop 3) ?_
 refine td1 7 (by kernel_rfl) rfl ?_
 refine kL 2 0 1 rfl rfl rfl ?_
 have hv257 : (kInt).reps R ([] : List (Int)) [] := rfl
 obtain ⟨ds263, rp264, src265⟩ := kZ kP hs37
 refine kI (k := kInt) (m := s.roles) 0 hv257 (rp264) zV rfl rfl rfl (rfl) (src265 _) (by first | omega | (simp; omega)) rfl rfl fun A259 c260 l261 hv262 => ?_
 refine qB ?_
 refine qW (fun w hw => hw.drop 3) ?_
 refine td 8 rfl (by kernel_rfl) (xO [.slice A249 ((([] : List (Int)) ++ s.concepts).length) c250, .slice A259 ((([] : List (Int)) ++ s.roles).length) c260] tA lN rfl rfl) (fun w hw => hw.drop 3) ?_
 refine td1 10 (by kernel_rfl) rfl ?_
 refine xM 2 [.slice A249 ((([] : List (Int)) ++ s.concepts).length) c250, .slice A259 ((([] : List (Int)) ++ s.roles).length) c260] rfl rfl yO rfl rfl rfl rfl rfl rfl ?_
 refine qB ?_
 refine xZ ?_
 refine xJ (by kernel_rfl) ?_
 exact xP hK67 (b246, A249, c250, A259, c260, l261, l251) (.refl _) (⟨hv262, hv252⟩) ⟨rfl, rfl, rfl, rfl, trivial⟩ (fun w hw => ((((((hw.pick 5).pick 5).pick 5).pick 4).pick 4).pick 5))
 exact jB
 refine tds rfl ?_ ?_
 refine qT tA rfl fun b267 => ?_
 refine qB ?_
 refine qW (fun w hw => hw.drop 2) ?_
 refine td1 0 (by kernel_rfl) rfl ?_
 refine jF [] zV rfl rfl rfl rfl rfl rfl rfl fun b268 => ?_
 refine qB ?_
 refine qW (fun w hw => hw.drop 3) ?_
 refine td1 3 (by kernel_rfl) rfl ?_
 refine kL 0 0 1 rfl rfl rfl ?_
 have hv269 : (kInt).reps R ([] : List (Int)) [] := rfl
 obtain ⟨ds275, rp276, src277⟩ := kZ kP hs33
 refine kI (k := kInt) (m := s.concepts) 0 hv269 (rp276) zV rfl rfl rfl (rfl) (src277 _) (by first | omega | (simp; omega)) rfl rfl fun A271 c272 l273 hv274 => ?_
 refine qB ?_
 refine qW (fun w hw => hw.drop 3) ?_
 refine td1 7 (by kernel_rfl) rfl ?_
 refine kL 2 0 1 rfl rfl rfl ?_
 have hv279 : (kInt).reps R ([] : List (Int)) [] := rfl
 obtain ⟨ds285, rp286, src287⟩ := kZ kP hs37
 refine kI (k := kInt) (m := s.roles) 0 hv279 (rp286) zV rfl rfl rfl (rfl) (src287 _) (by first | omega | (simp; omega)) rfl rfl fun A281 c282 l283 hv284 => ?_
 refine qB ?_
 refine qW (fun w hw => hw.drop 3) ?_
 refine td 8 rfl (by kernel_rfl) (xO [.slice A271 ((([] : List (Int)) ++ s.concepts).length) c272, .slice A281 ((([] : List (Int)) ++ s.roles).length) c282] tA lN rfl rfl) (fun w hw => hw.drop 3) ?_
 refine td1 10 (by kernel_rfl) rfl ?_
 refine xM 2 [.slice A271 ((([] : List (Int)) ++ s.concepts).length) c272, .slice A281 ((([] : List (Int)) ++ s.roles).length) c282] rfl rfl yO rfl rfl rfl rfl rfl rfl ?_
 refine qB ?_
 refine xZ ?_
 refine xJ (by kernel_rfl) ?_
 exact xP hK67 (b267, A271, c272, A281, c282, l283, l273) (.refl _) (⟨hv284, hv274⟩) ⟨rfl, rfl, rfl, rfl, trivial⟩ (fun w hw => ((((((hw.pick 5).pick 5).pick 5).pick 4).pick 4).pick 5))
 exact jB
 refine tds rfl ?_ ?_
 refine qT tA rfl fun b289 => ?_
 refine qB ?_
 refine qW (fun w hw => hw.drop 1) ?_
 refine jO [0, 4] (by kernel_rfl) rfl ?_
 refine tds rfl ?_ ?_
 refine jF [] zV rfl rfl rfl rfl rfl rfl rfl fun b290 => ?_
 refine qB ?_
 refine qW (fun w hw => hw.drop 2) ?_
 refine jO [3, 4] (by kernel_rfl) rfl ?_
 refine tds rfl ?_ ?_
 refine kL 0 0 1 rfl rfl rfl ?_
 have hv291 : (kInt).reps R ([] : List (Int)) [] := rfl
 obtain ⟨ds297, rp298, src299⟩ := kZ kP hs33
 refine kI (k := kInt) (m := s.concepts) 0 hv291 (rp298) zV rfl rfl rfl (rfl) (src299 _) (by first | omega | (simp; omega)) rfl rfl fun A293 c294 l295 hv296 => ?_
 refine qB ?_
 refine qW (fun w hw => hw.drop 2) ?_
 refine td1 4 (by kernel_rfl) rfl ?_
 refine jF [] zV rfl rfl rfl rfl rfl rfl rfl fun b301 => ?_
 refine qB ?_
 refine qW (fun w hw => hw.drop 3) ?_
 refine td1 7 (by kernel_rfl) rfl ?_
 refine kL 0 0 1 rfl rfl rfl ?_
 have hv302 : (kInt).reps R ([] : List (Int)) [] := rfl
 obtain ⟨ds308, rp309, src310⟩ := kZ kP hs37
 refine kI (k := kInt) (m := s.roles) 0 hv302 (rp309) zV rfl rfl rfl (rfl) (src310 _) (by first | omega | (simp; omega)) rfl rfl fun A304 c305 l306 hv307 => ?_
 refine qB ?_
 refine qW (fun w hw => hw.drop 3) ?_
 refine td 8 rfl (by kernel_rfl) (xO [.slice A293 ((([] : List (Int)) ++ s.concepts).length) c294, .slice A304 ((([] : List (Int)) ++ s.roles).length) c305] tA lN rfl rfl) (fun w hw => hw.drop 3) ?_
 refine td1 10 (by kernel_rfl) rfl ?_
 refine xM 2 [.slice A293 ((([] : List (Int)) ++ s.concepts).length) c294, .slice A304 ((([] : List (Int)) ++ s.roles).length) c305] rfl rfl yO rfl rfl rfl rfl rfl rfl ?_
 refine qB ?_
 refine xZ ?_
 refine xJ (by kernel_rfl) ?_
 exact xP hK67 (b289, A293, c294, A304, c305, l306, l295) (.refl _) (⟨hv307, hv296⟩) ⟨rfl, rfl, rfl, rfl, trivial⟩ (fun w hw => ((((((hw.pick 5).pick 5).pick 5).pick 4).pick 4).pick 5))
 refine tds rfl ?_ ?_
 refine jF [] zV rfl rfl rfl rfl rfl rfl rfl fun b312 => ?_
 refine qB ?_
 refine qW (fun w hw => hw.drop 3) ?_
 refine td1 3 (by kernel_rfl) rfl ?_
 refine kL 1 0 1 rfl rfl rfl ?_
 have hv313 : (kInt).reps R ([] : List (Int)) [] := rfl
 obtain ⟨ds319, rp320, src321⟩ := kZ kP hs33
 refine kI (k := kInt) (m := s.concepts) 0 hv313 (rp320) zV rfl rfl rfl (rfl) (src321 _) (by first | omega | (simp; omega)) rfl rfl fun A315 c316 l317 hv318 => ?_
 refine qB ?_
 refine qW (fun w hw => hw.drop 3) ?_
 refine td1 7 (by kernel_rfl) rfl ?_
 refine kL 1 0 1 rfl rfl rfl ?_
 have hv323 : (kInt).reps R ([] : List (Int)) [] := rfl
 obtain ⟨ds329, rp330, src331⟩ := kZ kP hs37
 refine kI (k := kInt) (m := s.roles) 0 hv323 (rp330) zV rfl rfl rfl (rfl) (src331 _) (by first | omega | (simp; omega)) rfl rfl fun A325 c326 l327 hv328 => ?_
 refine qB ?_
 refine qW (fun w hw => hw.drop 3) ?_
 refine td 8 rfl (by kernel_rfl) (xO [.slice A315 ((([] : List (Int)) ++ s.concepts).length) c316, .slice A325 ((([] : List (Int)) ++ s.roles).length) c326] tA lN rfl rfl) (fun w hw => hw.drop 3) ?_
 refine td1 10 (by kernel_rfl) rfl ?_
 refine xM 2 [.slice A315 ((([] : List (Int)) ++ s.concepts).length) c316, .slice A325 ((([] : List (Int)) ++ s.roles).length) c326] rfl rfl yO rfl rfl rfl rfl rfl rfl ?_
 refine qB ?_
 refine xZ ?_
 refine xJ (by kernel_rfl) ?_
 exact xP hK67 (b289, A315, c316, A325, c326, l327, l317) (.refl _) (⟨hv328, hv318⟩) ⟨rfl, rfl, rfl, rfl, trivial⟩ (fun w hw => ((((((hw.pick 5).pick 5).pick 5).pick 4).pick 4).pick 5))
 exact jB
 refine tds rfl ?_ ?_
 refine jF [] zV rfl rfl rfl rfl rfl rfl rfl fun b333 => ?_
 refine qB ?_
 refine qW (fun w hw => hw.drop 2) ?_
 refine td1 0 (by kernel_rfl) rfl ?_
 refine jF [] zV rfl rfl rfl rfl rfl rfl rfl fun b334 => ?_
 refine qB ?_
 refine qW (fun w hw => hw.drop 3) ?_
 refine td1 3 (by kernel_rfl) rfl ?_
 refine kL 0 0 1 rfl rfl rfl ?_
 have hv335 : (kInt).reps R ([] : List (Int)) [] := rfl
 obtain ⟨ds341, rp342, src343⟩ := kZ kP hs33
 refine kI (k := kInt) (m := s.concepts) 0 hv335 (rp342) zV rfl rfl rfl (rfl) (src343 _) (by first | omega | (simp; omega)) rfl rfl fun A337 c338 l339 hv340 => ?_
 refine qB ?_
 refine qW (fun w hw => hw.drop 3) ?_
 refine td1 7 (by kernel_rfl) rfl ?_
 refine kL 1 0 1 rfl rfl rfl ?_
 have hv345 : (kInt).reps R ([] : List (Int)) [] := rfl
 obtain ⟨ds351, rp352, src353⟩ := kZ kP hs37
 refine kI (k := kInt) (m := s.roles) 0 hv345 (rp352) zV rfl rfl rfl (rfl) (src353 _) (by first | omega | (simp; omega)) rfl rfl fun A347 c348 l349 hv350 => ?_
 refine qB ?_
 refine qW (fun w hw => hw.drop 3) ?_
 refine td 8 rfl (by kernel_rfl) (xO [.slice A337 ((([] : List (Int)) ++ s.concepts).length) c338, .slice A347 ((([] : List (Int)) ++ s.roles).length) c348] tA lN rfl rfl) (fun w hw => hw.drop 3) ?_
 refine td1 10 (by kernel_rfl) rfl ?_
 refine xM 2 [.slice A337 ((([] : List (Int)) ++ s.concepts).length) c338, .slice A347 ((([] : List (Int)) ++ s.roles).length) c348] rfl rfl yO rfl rfl rfl rfl rfl rfl ?_
 refine qB ?_
 refine xZ ?_
 refine xJ (by kernel_rfl) ?_
 exact xP hK67 (b289, A337, c338, A347, c348, l349, l339) (.refl _) (⟨hv350, hv340⟩) ⟨rfl, rfl, rfl, rfl, trivial⟩ (fun w hw => ((((((hw.pick 5).pick 5).pick 5).pick 4).pick 4).pick 5))
 exact jB
 exact jB
 rintro ⟨b66, A47, c48, A58, c59, l60, l49⟩ R356 hle357 hj355
 obtain ⟨hv358, hv359⟩ := hj355
 try replace hr_b := kBase.mono _ _ _ _ hle357 hr_b
 try replace hs_l := hs_l.mono hle357
 show TC Tryz.prog _ _ _ [] [(1, .slice A_l l.length d_l), (3, .pointer (some ⟨b41, 0, none⟩)), (6, .pointer (some ⟨b43, 0, none⟩)), (7, .pointer (some ⟨b66, 0, none⟩))] R356 (.blk b66 [.slice A47 ((([] : List (Int)) ++ s.concepts).length) c48, .slice A58 ((([] : List (Int)) ++ s.roles).length) c59] 33 :: .vec (.slice A58 ((([] : List (Int)) ++ s.roles).length) c59) ((([] : List (Int)) ++ s.roles).length) 3 1 l60 :: .vec (.slice A47 ((([] : List (Int)) ++ s.concepts).length) c48) ((([] : List (Int)) ++ s.concepts).length) 3 1 l49 :: .blk b43 [.slice none 0 0, .slice none 0 0] 33 :: .blk b42 [.slice A31 s.concepts.length d32, .slice A35 s.roles.length d36] 33 :: .blk b41 [.slice A15 b.names.concepts.length d16, .slice A19 b.names.roles.length d20, .slice A23 b.names.inds.length d24, .slice A3 b.incls.length d4, .slice A6 b.roles.length d7, .slice A9 b.facts.length d10, .slice A12 b.links.length d13] 30 :: G)
 refine qF <| qF <| qA ?_
 refine tl (qG rfl) ?_
 refine tl (jM rfl pY) ?_
 refine tl (qG rfl) ?_
 refine qB <| qC <| xB ?_
 refine jL ?_
 refine wW (fun b_ : Nat × List (Int) × Option Addr × Nat × List Value × List (Int) × Option Addr × Nat × List Value => match b_ with | (i, x, A_x, c_x, l_x, y, A_y, c_y, l_y) => l.length - i) (fun b_ : Nat × List (Int) × Option Addr × Nat × List Value × List (Int) × Option Addr × Nat × List Value => match b_ with | (i, x, A_x, c_x, l_x, y, A_y, c_y, l_y) => [(3, .pointer (some ⟨b41, 0, none⟩)), (6, .pointer (some ⟨b43, 0, none⟩)), (7, .pointer (some ⟨b66, 0, none⟩)), (19, .slice A_l l.length d_l), (20, .int .i64 (l.length : Int)), (21, .int .i64 (i : Int))]) (fun b_ : Nat × List (Int) × Option Addr × Nat × List Value × List (Int) × Option Addr × Nat × List Value => match b_ with | (i, x, A_x, c_x, l_x, y, A_y, c_y, l_y) => (.blk b66 [.slice A_x x.length c_x, .slice A_y y.length c_y] 33 :: .vec (.slice A_y y.length c_y) y.length 3 1 l_y :: .vec (.slice A_x x.length c_x) x.length 3 1 l_x :: .blk b43 [.slice none 0 0, .slice none 0 0] 33 :: .blk b42 [.slice A31 s.concepts.length d32, .slice A35 s.roles.length d36] 33 :: .blk b41 [.slice A15 b.names.concepts.length d16, .slice A19 b.names.roles.length d20, .slice A23 b.names.inds.length d24, .slice A3 b.incls.length d4, .slice A6 b.roles.length d7, .slice A9 b.facts.length d10, .slice A12 b.links.length d13] 30 :: G)) (fun (b_ : Nat × List (Int) × Option Addr × Nat × List Value × List (Int) × Option Addr × Nat × List Value) (R_ : RO) => match b_ with | (i, x, A_x, c_x, l_x, y, A_y, c_y, l_y) => (kInt).reps R_ x l_x ∧ (kInt).reps R_ y l_y ∧ (i ≤ l.length ∧ Sig.mk x y = jX b (l.take i) s ∧ x.length ≤ 1000 + i * 800 ∧ y.length ≤ 1000 + i * 800)) (0, (([] : List (Int)) ++ s.concepts), A47, c48, l49, (([] : List (Int)) ++ s.roles), A58, c59, l60) (by repeat' constructor) (by refine ⟨hv359, hv358, ?_⟩; exact ⟨by omega, rfl, by simp; omega, by simp; omega⟩) (fun w hw => hw) ?_
 rintro ⟨i, x, A_x, c_x, l_x, y, A_y, c_y, l_y⟩ R366 hle367 hI364 ih365
 try replace hr_b := kBase.mono _ _ _ _ hle367 hr_b
 try replace hs_l := hs_l.mono hle367
 have hle368 := hle357.trans hle367
 show TC Tryz.prog _ _ _ [] [(3, .pointer (some ⟨b41, 0, none⟩)), (6, .pointer (some ⟨b43, 0, none⟩)), (7, .pointer (some ⟨b66, 0, none⟩)), (19, .slice A_l l.length d_l), (20, .int .i64 (l.length : Int)), (21, .int .i64 (i : Int))] R366 (.blk b66 [.slice A_x x.length c_x, .slice A_y y.length c_y] 33 :: .vec (.slice A_y y.length c_y) y.length 3 1 l_y :: .vec (.slice A_x x.length c_x) x.length 3 1 l_x :: .blk b43 [.slice none 0 0, .slice none 0 0] 33 :: .blk b42 [.slice A31 s.concepts.length d32, .slice A35 s.roles.length d36] 33 :: .blk b41 [.slice A15 b.names.concepts.length d16, .slice A19 b.names.roles.length d20, .slice A23 b.names.inds.length d24, .slice A3 b.incls.length d4, .slice A6 b.roles.length d7, .slice A9 b.facts.length d10, .slice A12 b.links.length d13] 30 :: G)
 obtain ⟨hv361, hv363, hI369⟩ := hI364
 obtain ⟨hi1, hi2, hi3, hi4⟩ := hI369
 have hi5 : i ≤ 1000 := by omega
 refine qF <| qA ?_
 refine tl (jQ rfl rfl rfl) ?_
 refine qB <| qC <| qF ?_
 refine qR 22 rfl (fun h370 => ?_) (fun h370 => ?_)
 refine xD rfl ?_
 refine xA <| qC <| qF <| xB <| qF <| qA ?_
 have hb376 : i < l.length := by omega
 obtain ⟨x371, hx372⟩ : ∃ x, l[i]? = some x := ⟨_, List.getElem?_eq_getElem hb376⟩
 obtain ⟨c373, hr374, ha375⟩ := hs_l.get _ x371 hx372
 obtain ⟨rfl, i377⟩ := hr374
 unfold i64 at i377
 have hf378 := hl.2 _ (List.mem_of_getElem? hx372)
 have hf379 := fS (b := b) hx372 s
 refine tl (kC (i := i) hs_l rfl rfl rfl pY hb376) ?_
 refine tl (yL 0 ha375 rfl ld3 rfl rfl) ?_
 refine tl (qD rfl) ?_
 refine qB <| qC <| qA ?_
 refine tl (qQ 5 [.slice A15 b.names.concepts.length d16, .slice A19 b.names.roles.length d20, .slice A23 b.names.inds.length d24, .slice A3 b.incls.length d4, .slice A6 b.roles.length d7, .slice A9 b.facts.length d10, .slice A12 b.links.length d13] rfl sZ rfl rfl) ?_
 refine tl (qG rfl) ?_
 refine tl (qQ 0 [.slice A_x x.length c_x, .slice A_y y.length c_y] rfl yO rfl rfl) ?_
 refine tP (.vec (.slice A_x x.length c_x) x.length 3 1 l_x :: .vec (.slice A_y y.length c_y) y.length 3 1 l_y :: .blk b66 [.slice A_x x.length c_x, .slice A_y y.length c_y] 33 :: .blk b43 [.slice none 0 0, .slice none 0 0] 33 :: .blk b42 [.slice A31 s.concepts.length d32, .slice A35 s.roles.length d36] 33 :: .blk b41 [.slice A15 b.names.concepts.length d16, .slice A19 b.names.roles.length d20, .slice A23 b.names.inds.length d24, .slice A3 b.incls.length d4, .slice A6 b.roles.length d7, .slice A9 b.facts.length d10, .slice A12 b.links.length d13] 30 :: G) (fun w hw => ((hw.pick 1).pick 2)) ?_
 refine xE ca56 rfl (fun w hw => bA b x371 (Sig.mk x y) hr_b (by unfold i64; omega) hv361 hv363 (by first | assumption | omega | (dsimp only; omega)) (by first | assumption | omega | (dsimp only; omega)) (by first | assumption | omega | (dsimp only; omega)) hw) rfl ?_
 rintro _ R381 _ hle382 ⟨A_z380_01, c_z380_01, l_z380_01, A_z380_02, c_z380_02, l_z380_02, rfl, rfl, hv_z380_01, hv_z380_02⟩
 try replace hv361 := Kd.reps_mono hle382 hv361
 try replace hv363 := Kd.reps_mono hle382 hv363
 have hle383 := hle368.trans hle382
 have hle384 := hle367.trans hle382
 refine xM 2 [.slice A_z380_01 ((yE b x371.toNat (Sig.mk x y)).concepts.length) c_z380_01, .slice A_z380_02 ((yE b x371.toNat (Sig.mk x y)).roles.length) c_z380_02] rfl rfl yO rfl rfl rfl rfl rfl rfl ?_
 refine qB <| jG <| qC <| qA ?_
 refine tl (kF rfl rfl (by omega) (by omega)) ?_
 refine tl (qG rfl) ?_
 refine qB ?_
 refine xY ?_
 exact fun a w ha hw => ih365.out (i + 1, (yE b x371.toNat (Sig.mk x y)).concepts, A_z380_01, c_z380_01, l_z380_01, (yE b x371.toNat (Sig.mk x y)).roles, A_z380_02, c_z380_02, l_z380_02) _ (hle382) (by refine ⟨hv_z380_01, hv_z380_02, ?_⟩; (have u_ := nP hB x371.toNat (Sig.mk x y); simp only at u_; refine ⟨by omega, ?_, by omega, by omega⟩; rw [fS hx372, ← hi2])) (by (try dsimp only); omega) a w (ha.sub (xS (by repeat' constructor))) (((((((hw.pick 5).pick 5).pick 5).pick 3).pick 4).pick 5))
 refine xW rfl ?_
 refine jK <| qL <| qL <| xI <| qC <| qF <| qA ?_
 refine tl (qQ 0 [.slice A_x x.length c_x, .slice A_y y.length c_y] rfl yO rfl rfl) ?_
 refine xM 3 [.slice A_x x.length c_x, .slice A_y y.length c_y] rfl rfl yO rfl rfl rfl rfl rfl rfl ?_
 refine qB <| qC <| qV ?_
 refine kT (cells := [.slice A_x x.length c_x, .slice A_y y.length c_y]) 3 (.inl rfl) rfl rfl yO rfl ?_
 have e385 : (Sig.mk x y : Sig) = jX b l s := by (rw [hi2, xF (by assumption) (by assumption)])
 intro w hw
 exact ⟨_, _, [.vec (.slice A_x x.length c_x) x.length 3 1 l_x, .vec (.slice A_y y.length c_y) y.length 3 1 l_y], rfl, hle368, ((((hw.tail.pick 2).tail.pick 2).tail.pick 2).tail.pick 1), A_x, c_x, l_x, A_y, c_y, l_y, (congrArg (fun (z0_ : Sig) => (.agg #[.slice A_x (Sig.concepts z0_).length c_x, .slice A_y (Sig.roles z0_).length c_y] : Value)) e385), (congrArg (fun (z0_ : Sig) => ([.vec (.slice A_x (Sig.concepts z0_).length c_x) (Sig.concepts z0_).length 3 1 l_x, .vec (.slice A_y (Sig.roles z0_).length c_y) (Sig.roles z0_).length 3 1 l_y] : List Res)) e385), (Eq.mp (congrArg (fun z => kInt.reps R366 (Sig.concepts z) l_x) e385) hv361), (Eq.mp (congrArg (fun z => kInt.reps R366 (Sig.roles z) l_y) e385) hv363)⟩

end Go.Proofs.YtcbcdlajnmkioaaGreatDoor

namespace Go.Proofs.YtcbcdlajnmkioaaGreatDoor
open Go Go.Proofs
set_option linter.unusedSimpArgs false
set_option linter.unusedVariables false
theorem ap106 : yM Tryz.prog 106 = some (4, 1, 1, [.bool false]) := by kernel_rfl
theorem ca30 : Callable Tryz.prog 30 := ⟨by kernel_rfl⟩
theorem ld4 : kS Tryz.prog 4 = some (false, 1) := by kernel_rfl
theorem sB : wJ Tryz.prog 106 = some (4, 1) := by kernel_rfl

mutual
def wfC : Concept → Bool
  | .mk op n args => decide (kJ op = args.length ∧ 0 ≤ n) && wfCs args
def wfCs : List Concept → Bool
  | [] => true
  | x :: xs => wfC x && wfCs xs
end
theorem rX : ∀ l : List Concept, wfCs l = true ↔ ∀ x ∈ l, wfC x = true
  | [] => by simp [wfCs]
  | x :: xs => by simp [wfCs, rX xs]
theorem gB (c : Concept) : wfC c = true ↔ (kJ c.op = c.args.length ∧ 0 ≤ c.n) ∧ ∀ x ∈ c.args, wfC x = true := by
  cases c with
  | mk op a args =>
    show wfC (.mk op a args) = true ↔ (kJ op = args.length ∧ 0 ≤ a) ∧ ∀ x ∈ args, wfC x = true
    rw [wfC, Bool.and_eq_true, decide_eq_true_eq, rX]
theorem cJ (n : Names) (m : Nat) : ∀ c : Concept, SizeOf.sizeOf c = m → jV n c = true → wfC c = true := by
  induction m using Nat.strongRecOn with
  | _ m ih =>
    intro c hm h
    rw [gB]
    rw [vJ] at h
    refine ⟨⟨h.1.1, h.1.2.1⟩, fun x hx => ?_⟩
    obtain ⟨i, hi⟩ := List.mem_iff_getElem?.1 hx
    exact ih _ (hm ▸ Concept.sizeOf_arg hi) x rfl (h.2 x hx)
def shE (l : List (Bool × Bool)) (i : Nat) : Bool := (l[i]?.getD (false, false)).1
def shF (l : List (Bool × Bool)) (i : Nat) : Bool := (l[i]?.getD (false, false)).2
def yH (s : Sig) (op n : Int) : Bool := decide ((op = 6 ∨ op = 7) ∧ ¬ n / 2 ∈ s.roles)
def jI (s : Sig) (top : Bool) (op n : Int) (l : List (Bool × Bool)) : Bool × Bool :=
  if op = 0 then (!decide (n ∈ s.concepts) && !top, !decide (n ∈ s.concepts) && top) else if op = 1 then (false, true) else if op = 2 then (true, false)
  else if op = 3 then (shF l 0, shE l 0) else if op = 4 then (shE l 0 || shE l 1, shF l 0 && shF l 1) else if op = 5 then (shE l 0 && shE l 1, shF l 0 || shF l 1)
  else if op = 6 then (shE l 0 || (yH s op n && !top), yH s op n && top && shF l 0) else (yH s op n && top && shE l 0, shF l 0 || (yH s op n && !top))
mutual
def qK (s : Sig) (top : Bool) : Concept → Bool × Bool
  | .mk op n args => jI s top op n (jJ s top args)
def jJ (s : Sig) (top : Bool) : List Concept → List (Bool × Bool)
  | [] => []
  | x :: xs => qK s top x :: jJ s top xs
end
theorem xL (s : Sig) (top : Bool) (c : Concept) : qK s top c = jI s top c.op c.n (jJ s top c.args) := by cases c; rw [qK]; rfl
theorem bF (s : Sig) (top : Bool) : ∀ (l m : List Concept), jJ s top (l ++ m) = jJ s top l ++ jJ s top m
  | [], m => by simp [jJ]
  | x :: xs, m => by simp [jJ, bF s top xs m]
theorem xQ (s : Sig) (top : Bool) : ∀ (l : List Concept), (jJ s top l).length = l.length
  | [] => rfl
  | x :: xs => by simp [jJ, xQ s top xs]
theorem aH {s : Sig} {top : Bool} {l : List Concept} {i : Nat} {x : Concept} (h : l[i]? = some x) : jJ s top (l.take (i + 1)) = jJ s top (l.take i) ++ [qK s top x] := by rw [jP h, bF]; rfl
theorem kW {l : List (Bool × Bool)} {e : List Bool} {i : Nat} {x : Bool} (h : e = l.map Prod.fst) (hx : e[i]? = some x) : shE l i = x := by
  subst h; rw [List.getElem?_map] at hx; unfold shE
  cases hl : l[i]? with
  | none => rw [hl] at hx; cases hx
  | some p => rw [hl] at hx; simpa using hx
theorem kX {l : List (Bool × Bool)} {e : List Bool} {i : Nat} {x : Bool} (h : e = l.map Prod.snd) (hx : e[i]? = some x) : shF l i = x := by
  subst h; rw [List.getElem?_map] at hx; unfold shF
  cases hl : l[i]? with
  | none => rw [hl] at hx; cases hx
  | some p => rw [hl] at hx; simpa using hx

set_option maxRecDepth 20000 in
set_option maxHeartbeats 8000000 in
theorem uL (m : Nat) : ∀ {R : RO} {G : List Res} {w : World} {c_c : List Value} (c : Concept) {c_s : List Value} (s : Sig) (top : Bool) (hr_c : kConcept.rep R c c_c) (hr_s : kSig.rep R s c_s) (hwc : wfC c = true), SizeOf.sizeOf c = m → Own w R (G) →
    Calls Tryz.prog 30 [.agg c_c.toArray, .agg c_s.toArray, .bool top].toArray w (kK R G (.tuple #[.bool ((qK s top c).1), .bool ((qK s top c).2)])) := by
 induction m using Nat.strongRecOn with
 | _ m ih =>
  intro R G w c_c c c_s s top hr_c hr_s hwc hm hw
  subst hm
  replace ih := Aside.mk ih
  obtain ⟨A1, d2, rfl, i3, i4, hs5⟩ := qM hr_c
  unfold i64 at i3 i4
  have z6 := hs5.size
  unfold big at z6
  obtain ⟨A7, d8, A11, d12, rfl, hs9, hs13⟩ := id hr_s
  have z10 := hs9.size
  unfold big at z10
  have z14 := hs13.size
  unfold big at z14
  have hwf := (gB c).1 hwc
  have har := hwf.1.1
  unfold kJ at har
  refine xG (vs := [.agg #[.int .i64 c.op, .int .i64 c.n, .slice A1 c.args.length d2], .agg #[.slice A7 s.concepts.length d8, .slice A11 s.roles.length d12], .bool top]) Tryz.func30 rfl rfl rfl ?_ hw
  refine qF <| qA ?_
  refine qX (l := [.int .i64 c.op, .int .i64 c.n, .slice A1 c.args.length d2]) rfl rfl fun b15 => ?_
  refine qX (l := [.slice A7 s.concepts.length d8, .slice A11 s.roles.length d12]) rfl rfl fun b16 => ?_
  refine tl (qD rfl) ?_
  refine tl (qD rfl) ?_
  refine qB <| qC <| qF <| qA ?_
  refine tl (qD rfl) ?_
  refine tl (qD rfl) ?_
  refine qB <| qC <| qF <| qF <| qA ?_
  refine tl (qH 2 rfl wR rfl) ?_
  refine tl (jN 1 rfl cW rfl rfl) ?_
  refine tl (jM rfl pZ) ?_
  refine tl (qG rfl) ?_
  refine qB <| qC <| xB ?_
  refine qH5 _ (fun w hw => hw.vecnil 4 1) ?_
  have hv17 : (kBool).reps R [] [] := rfl
  refine qH5 _ (fun w hw => hw.vecnil 4 1) ?_
  have hv21 : (kBool).reps R [] [] := rfl
  refine jL ?_
  refine jS (fun b_ : Nat × List (Bool) × Option Addr × Nat × List Value × List (Bool) × Option Addr × Nat × List Value => match b_ with | (i, e, A_e, c_e, l_e, f, A_f, c_f, l_f) => c.args.length - i) (fun b_ : Nat × List (Bool) × Option Addr × Nat × List Value × List (Bool) × Option Addr × Nat × List Value => match b_ with | (i, e, A_e, c_e, l_e, f, A_f, c_f, l_f) => [(2, .bool top), (3, .pointer (some ⟨b15, 0, none⟩)), (4, .pointer (some ⟨b16, 0, none⟩)), (6, .bool false), (7, .bool false), (17, .slice A1 c.args.length d2), (18, .int .i64 (c.args.length : Int)), (19, .int .i64 (i : Int)), (8, .slice A_e e.length c_e), (9, .slice A_f f.length c_f)]) (fun b_ : Nat × List (Bool) × Option Addr × Nat × List Value × List (Bool) × Option Addr × Nat × List Value => match b_ with | (i, e, A_e, c_e, l_e, f, A_f, c_f, l_f) => (.vec (.slice A_f f.length c_f) f.length 4 1 l_f :: .vec (.slice A_e e.length c_e) e.length 4 1 l_e :: .blk b16 [.slice A7 s.concepts.length d8, .slice A11 s.roles.length d12] 33 :: .blk b15 [.int .i64 c.op, .int .i64 c.n, .slice A1 c.args.length d2] 37 :: G)) (fun (b_ : Nat × List (Bool) × Option Addr × Nat × List Value × List (Bool) × Option Addr × Nat × List Value) => match b_ with | (i, e, A_e, c_e, l_e, f, A_f, c_f, l_f) => (kBool).reps R e l_e ∧ (kBool).reps R f l_f ∧ (i ≤ c.args.length ∧ e = (jJ s top (c.args.take i)).map Prod.fst ∧ f = (jJ s top (c.args.take i)).map Prod.snd)) (0, ([] : List (Bool)), none, 0, [], ([] : List (Bool)), none, 0, []) (by repeat' constructor) (by refine ⟨hv17, hv21, ?_⟩; exact ⟨by omega, rfl, rfl⟩) (fun w hw => hw) ?_
  rintro ⟨i, e, A_e, c_e, l_e, f, A_f, c_f, l_f⟩ hI25 ih26
  show TC Tryz.prog _ _ _ [] [(2, .bool top), (3, .pointer (some ⟨b15, 0, none⟩)), (4, .pointer (some ⟨b16, 0, none⟩)), (6, .bool false), (7, .bool false), (17, .slice A1 c.args.length d2), (18, .int .i64 (c.args.length : Int)), (19, .int .i64 (i : Int)), (8, .slice A_e e.length c_e), (9, .slice A_f f.length c_f)] R (.vec (.slice A_f f.length c_f) f.length 4 1 l_f :: .vec (.slice A_e e.length c_e) e.length 4 1 l_e :: .blk b16 [.slice A7 s.concepts.length d8, .slice A11 s.roles.length d12] 33 :: .blk b15 [.int .i64 c.op, .int .i64 c.n, .slice A1 c.args.length d2] 37 :: G)
  obtain ⟨hv20, hv24, hI29⟩ := hI25
  obtain ⟨hi1, hi2, hi3⟩ := hI29
  refine qF <| qA ?_
  refine tl (jQ rfl rfl rfl) ?_
  refine qB <| qC <| qF ?_
  refine qR 20 rfl (fun h30 => ?_) (fun h30 => ?_)
  refine xD rfl ?_
  refine xA <| qC <| qF <| xB <| qF <| qA ?_
  have hb36 : i < c.args.length := by first | omega | (rw [hi2, List.length_map, xQ, List.length_take]; grind) | (rw [hi3, List.length_map, xQ, List.length_take]; grind)
  obtain ⟨x31, hx32⟩ : ∃ x, c.args[i]? = some x := ⟨_, List.getElem?_eq_getElem hb36⟩
  obtain ⟨c33, hr34, ha35⟩ := hs5.get _ x31 hx32
  obtain ⟨A37, d38, rfl, i39, i40, hs41⟩ := qM hr34
  unfold i64 at i39 i40
  have z42 := hs41.size
  unfold big at z42
  have hf43 := hwf.2 _ (List.mem_of_getElem? hx32)
  have hf44 := aH (s := s) (top := top) hx32
  refine tl (kC (i := i) hs5 rfl rfl rfl pZ hb36) ?_
  refine tl (jD 0 [.int .i64 x31.op, .int .i64 x31.n, .slice A37 x31.args.length d38] ha35 rfl vS rfl rfl) ?_
  refine qT fD rfl fun b45 => ?_
  refine xM 0 [.int .i64 x31.op, .int .i64 x31.n, .slice A37 x31.args.length d38] rfl rfl vS rfl rfl rfl rfl rfl rfl ?_
  refine qB <| qC <| qF <| qA ?_
  refine tl (qQ 0 [.int .i64 x31.op, .int .i64 x31.n, .slice A37 x31.args.length d38] rfl vS rfl rfl) ?_
  refine tl (qQ 3 [.slice A7 s.concepts.length d8, .slice A11 s.roles.length d12] rfl yO rfl rfl) ?_
  refine tl (qG rfl) ?_
  refine qY ca30 rfl (fun w hw => ih.out (SizeOf.sizeOf x31) (by exact Concept.sizeOf_arg hx32) x31 s top hr34 hr_s (by first | assumption | omega) rfl hw) rfl ?_
  refine tl (qG rfl) ?_
  refine tl (jE rfl rfl) ?_
  refine tl (jE rfl rfl) ?_
  refine tl (qD rfl) ?_
  refine tl (qD rfl) ?_
  refine qB <| qC <| qA ?_
  refine tl (qG rfl) ?_
  refine tl (qG rfl) ?_
  refine jF [.bool ((qK s top x31).1)] ap106 rfl rfl rfl rfl rfl rfl rfl fun b46 => ?_
  refine zZ (k := kBool) (e := (qK s top x31).1) 3 0 hv20 (rfl) ap106 rfl rfl rfl rfl rfl (by first | omega | (rw [hi2, List.length_map, xQ, List.length_take]; grind) | (rw [hi3, List.length_map, xQ, List.length_take]; grind)) rfl rfl fun A47 c48 l49 hv50 => ?_
  refine tl (qG rfl) ?_
  refine tl (qG rfl) ?_
  refine jF [.bool ((qK s top x31).2)] ap106 rfl rfl rfl rfl rfl rfl rfl fun b52 => ?_
  refine zZ (k := kBool) (e := (qK s top x31).2) 3 0 hv24 (rfl) ap106 rfl rfl rfl rfl rfl (by first | omega | (rw [hi2, List.length_map, xQ, List.length_take]; grind) | (rw [hi3, List.length_map, xQ, List.length_take]; grind)) rfl rfl fun A53 c54 l55 hv56 => ?_
  refine tl (qD rfl) ?_
  refine tl (qD rfl) ?_
  refine qB <| jG <| qC <| qA ?_
  refine tl (kF rfl rfl (by omega) (by omega)) ?_
  refine tl (qG rfl) ?_
  refine qB ?_
  refine xY ?_
  exact fun a w ha hw => ih26.out (i + 1, (e ++ [(qK s top x31).1]), A47, c48, l49, (f ++ [(qK s top x31).2]), A53, c54, l55) (by refine ⟨hv50, hv56, ?_⟩; exact ⟨by omega, by rw [aH hx32, hi2]; simp, by rw [aH hx32, hi3]; simp⟩) (by (try dsimp only); omega) a w (ha.sub (xS (by repeat' constructor))) (hw.drop 3)
  refine xW rfl ?_
  refine jK <| qL <| qL <| xI <| qC ?_
  refine kN [(2, .bool top), (3, .pointer (some ⟨b15, 0, none⟩)), (4, .pointer (some ⟨b16, 0, none⟩)), (6, .bool false), (7, .bool false), (17, .slice A1 c.args.length d2), (18, .int .i64 (c.args.length : Int)), (19, .int .i64 (i : Int)), (8, .slice A_e e.length c_e), (9, .slice A_f f.length c_f), (20, .bool false), (14, .bool (decide ((c.op = 6 ∨ c.op = 7) ∧ (¬ ((c.n / 2) ∈ s.roles)))))] (.vec (.slice A_f f.length c_f) f.length 4 1 l_f :: .vec (.slice A_e e.length c_e) e.length 4 1 l_e :: .blk b16 [.slice A7 s.concepts.length d8, .slice A11 s.roles.length d12] 33 :: .blk b15 [.int .i64 c.op, .int .i64 c.n, .slice A1 c.args.length d2] 37 :: G) (fun _ => True) (fun K hK58 hE59 => ?_) ?_
  refine qA ?_
  refine tl (qH 0 rfl sF rfl) ?_
  refine tl (jN 3 rfl ld3 rfl rfl) ?_
  refine qY ca61 rfl (fun w hw => vR c.op (by unfold i64; omega) hw) rfl ?_
  refine tl (qG rfl) ?_
  refine xR 42 rfl (fun h60 => ?_) (fun h60 => ?_)
  refine qJ 42 rfl rfl ?_
  refine tl (qH 1 rfl gF rfl) ?_
  refine qJ 42 rfl rfl ?_
  refine tl (jN 2 rfl cI rfl rfl) ?_
  refine qJ 42 rfl rfl ?_
  refine tl (qH 1 rfl zA rfl) ?_
  refine qJ 42 rfl rfl ?_
  refine tl (jN 3 rfl ld3 rfl rfl) ?_
  refine qJ 42 rfl rfl ?_
  refine tl (dF rfl rfl (by omega) (by omega)) ?_
  refine qJ 42 rfl rfl ?_
  refine qY ca43 rfl (fun w hw => vU s.roles (c.n / 2) hs13 (by unfold i64; omega) hw) rfl ?_
  refine qJ 42 rfl rfl ?_
  refine tl (wK rfl) ?_
  refine tl (qP rfl rfl) ?_
  refine tl (qD rfl) ?_
  refine qB ?_
  exact xK hK58 (.refl _) (trivial) ⟨rfl, rfl, rfl, rfl, rfl, rfl, rfl, rfl, rfl, rfl, rfl, show some (Value.bool (decide (¬ ((c.n / 2) ∈ s.roles)))) = some (Value.bool (decide ((c.op = 6 ∨ c.op = 7) ∧ (¬ ((c.n / 2) ∈ s.roles))))) by first | (simp [h60]; done) | grind | (simp [h60] <;> omega), trivial⟩ (fun w hw => hw)
  refine qE 42 rfl rfl rfl ?_
  refine qE 42 rfl rfl rfl ?_
  refine qE 42 rfl rfl rfl ?_
  refine qE 42 rfl rfl rfl ?_
  refine qE 42 rfl rfl rfl ?_
  refine qE 42 rfl rfl rfl ?_
  refine qE 42 rfl rfl rfl ?_
  refine tl (qN rfl rfl) ?_
  refine tl (qD rfl) ?_
  refine qB ?_
  exact xK hK58 (.refl _) (trivial) ⟨rfl, rfl, rfl, rfl, rfl, rfl, rfl, rfl, rfl, rfl, rfl, show some (Value.bool false) = some (Value.bool (decide ((c.op = 6 ∨ c.op = 7) ∧ (¬ ((c.n / 2) ∈ s.roles))))) by first | (simp [h60]; done) | grind | (simp [h60] <;> omega), trivial⟩ (fun w hw => hw)
  refine fun R62 hle63 hj61 => jC hle63 ?_
  refine qF <| qF <| qA ?_
  refine tl (qH 0 rfl sF rfl) ?_
  refine tl (jN 3 rfl ld3 rfl rfl) ?_
  refine qB <| qC <| xB <| qF <| qA ?_
  refine tl (jQ rfl rfl rfl) ?_
  refine tl (qD rfl) ?_
  refine qB <| qC ?_
  refine qR 53 rfl (fun h64 => ?_) (fun h64 => ?_)
  refine xD rfl ?_
  refine qF <| qA ?_
  refine tl (qH 0 rfl aF rfl) ?_
  refine tl (jN 2 rfl cI rfl rfl) ?_
  refine tl (qH 1 rfl zA rfl) ?_
  refine tl (jN 3 rfl ld3 rfl rfl) ?_
  refine qY ca43 rfl (fun w hw => vU s.concepts c.n hs9 (by unfold i64; omega) hw) rfl ?_
  refine tl (wK rfl) ?_
  refine tl (qD rfl) ?_
  refine qB <| qC ?_
  refine kN [(2, .bool top), (3, .pointer (some ⟨b15, 0, none⟩)), (4, .pointer (some ⟨b16, 0, none⟩)), (17, .slice A1 c.args.length d2), (18, .int .i64 (c.args.length : Int)), (19, .int .i64 (i : Int)), (8, .slice A_e e.length c_e), (9, .slice A_f f.length c_f), (20, .bool false), (14, .bool (decide ((c.op = 6 ∨ c.op = 7) ∧ (¬ ((c.n / 2) ∈ s.roles))))), (52, .int .i64 c.op), (53, .bool true), (6, .bool (decide ((¬ (c.n ∈ s.concepts)) ∧ ((!top) = true)))), (7, .bool (decide ((¬ (c.n ∈ s.concepts)) ∧ (top = true))))] (.vec (.slice A_f f.length c_f) f.length 4 1 l_f :: .vec (.slice A_e e.length c_e) e.length 4 1 l_e :: .blk b16 [.slice A7 s.concepts.length d8, .slice A11 s.roles.length d12] 33 :: .blk b15 [.int .i64 c.op, .int .i64 c.n, .slice A1 c.args.length d2] 37 :: G) (fun _ => True) (fun K hK65 hE66 => ?_) ?_
  refine qA ?_
  refine tl (qG rfl) ?_
  refine tl (qG rfl) ?_
  refine xR 62 rfl (fun h67 => ?_) (fun h67 => ?_)
  refine qJ 62 rfl rfl ?_
  refine tl (qG rfl) ?_
  refine qJ 62 rfl rfl ?_
  refine tl (wB rfl) ?_
  refine tl (qP rfl rfl) ?_
  refine tl (qG rfl) ?_
  refine tl (qG rfl) ?_
  refine xR 67 rfl (fun h68 => ?_) (fun h68 => ?_)
  refine qJ 67 rfl rfl ?_
  refine tl (qG rfl) ?_
  refine tl (qP rfl rfl) ?_
  refine tl (qD rfl) ?_
  refine tl (qD rfl) ?_
  refine qB ?_
  exact xK hK65 (.refl _) (trivial) ⟨rfl, rfl, rfl, rfl, rfl, rfl, rfl, rfl, rfl, rfl, rfl, rfl, show some (Value.bool (!top)) = some (Value.bool (decide ((¬ (c.n ∈ s.concepts)) ∧ ((!top) = true)))) by first | (simp [h67, h68]; done) | grind | (simp [h67, h68] <;> omega), show some (Value.bool top) = some (Value.bool (decide ((¬ (c.n ∈ s.concepts)) ∧ (top = true)))) by first | (simp [h67, h68]; done) | grind | (simp [h67, h68] <;> omega), trivial⟩ (fun w hw => hw)
  refine qE 67 rfl rfl rfl ?_
  refine tl (qN rfl rfl) ?_
  refine tl (qD rfl) ?_
  refine tl (qD rfl) ?_
  refine qB ?_
  exact xK hK65 (.refl _) (trivial) ⟨rfl, rfl, rfl, rfl, rfl, rfl, rfl, rfl, rfl, rfl, rfl, rfl, show some (Value.bool (!top)) = some (Value.bool (decide ((¬ (c.n ∈ s.concepts)) ∧ ((!top) = true)))) by first | (simp [h67, h68]; done) | grind | (simp [h67, h68] <;> omega), show some (Value.bool false) = some (Value.bool (decide ((¬ (c.n ∈ s.concepts)) ∧ (top = true)))) by first | (simp [h67, h68]; done) | grind | (simp [h67, h68] <;> omega), trivial⟩ (fun w hw => hw)
  refine qE 62 rfl rfl rfl ?_
  refine qE 62 rfl rfl rfl ?_
  refine tl (qN rfl rfl) ?_
  refine tl (qG rfl) ?_
  refine tl (qG rfl) ?_
  refine xR 67 rfl (fun h69 => ?_) (fun h69 => ?_)
  refine qJ 67 rfl rfl ?_
  refine tl (qG rfl) ?_
  refine tl (qP rfl rfl) ?_
  refine tl (qD rfl) ?_
  refine tl (qD rfl) ?_
  refine qB ?_
  exact xK hK65 (.refl _) (trivial) ⟨rfl, rfl, rfl, rfl, rfl, rfl, rfl, rfl, rfl, rfl, rfl, rfl, show some (Value.bool false) = some (Value.bool (decide ((¬ (c.n ∈ s.concepts)) ∧ ((!top) = true)))) by first | (simp [h67, h69]; done) | grind | (simp [h67, h69] <;> omega), show some (Value.bool top) = some (Value.bool (decide ((¬ (c.n ∈ s.concepts)) ∧ (top = true)))) by first | (simp [h67, h69]; done) | grind | (simp [h67, h69] <;> omega), trivial⟩ (fun w hw => hw)
  refine qE 67 rfl rfl rfl ?_
  refine tl (qN rfl rfl) ?_
  refine tl (qD rfl) ?_
  refine tl (qD rfl) ?_
  refine qB ?_
  exact xK hK65 (.refl _) (trivial) ⟨rfl, rfl, rfl, rfl, rfl, rfl, rfl, rfl, rfl, rfl, rfl, rfl, show some (Value.bool false) = some (Value.bool (decide ((¬ (c.n ∈ s.concepts)) ∧ ((!top) = true)))) by first | (simp [h67, h69]; done) | grind | (simp [h67, h69] <;> omega), show some (Value.bool false) = some (Value.bool (decide ((¬ (c.n ∈ s.concepts)) ∧ (top = true)))) by first | (simp [h67, h69]; done) | grind | (simp [h67, h69] <;> omega), trivial⟩ (fun w hw => hw)
  refine fun R71 hle72 hj70 => jC hle72 ?_
  refine qV <| qO <| qI ?_
  refine kM (.inl rfl) rfl rfl rfl ?_
  have e73 : (decide ((¬ (c.n ∈ s.concepts)) ∧ ((!top) = true)) : Bool) = (qK s top c).1 := by (have t_ := xF (l := c.args) (by assumption) (by assumption); rw [t_] at hi2 hi3; rw [xL]; unfold jI; grind [yH])
  have e74 : (decide ((¬ (c.n ∈ s.concepts)) ∧ (top = true)) : Bool) = (qK s top c).2 := by (have t_ := xF (l := c.args) (by assumption) (by assumption); rw [t_] at hi2 hi3; rw [xL]; unfold jI; grind [yH])
  exact fun w hw => ⟨congrArg Ending.returned (yX (fun x0 x1 => Value.tuple #[.bool x0, .bool x1]) e73 e74), hw.drop 4⟩
  refine xW rfl ?_
  refine qF <| qA ?_
  refine tl (jQ rfl rfl rfl) ?_
  refine tl (qD rfl) ?_
  refine qB <| qC ?_
  refine qR 70 rfl (fun h75 => ?_) (fun h75 => ?_)
  refine xD rfl ?_
  refine qF <| qA ?_
  refine tl (qD rfl) ?_
  refine tl (qD rfl) ?_
  refine qB <| qC <| qV <| qO <| qI ?_
  refine kM (.inl rfl) rfl rfl rfl ?_
  have e76 : (false : Bool) = (qK s top c).1 := by (have t_ := xF (l := c.args) (by assumption) (by assumption); rw [t_] at hi2 hi3; rw [xL]; unfold jI; grind [yH])
  have e77 : (true : Bool) = (qK s top c).2 := by (have t_ := xF (l := c.args) (by assumption) (by assumption); rw [t_] at hi2 hi3; rw [xL]; unfold jI; grind [yH])
  exact fun w hw => ⟨congrArg Ending.returned (yX (fun x0 x1 => Value.tuple #[.bool x0, .bool x1]) e76 e77), hw.drop 4⟩
  refine xW rfl ?_
  refine qF <| qA ?_
  refine tl (jQ rfl rfl rfl) ?_
  refine tl (qD rfl) ?_
  refine qB <| qC ?_
  refine qR 72 rfl (fun h78 => ?_) (fun h78 => ?_)
  refine xD rfl ?_
  refine qF <| qA ?_
  refine tl (qD rfl) ?_
  refine tl (qD rfl) ?_
  refine qB <| qC <| qV <| qO <| qI ?_
  refine kM (.inl rfl) rfl rfl rfl ?_
  have e79 : (true : Bool) = (qK s top c).1 := by (have t_ := xF (l := c.args) (by assumption) (by assumption); rw [t_] at hi2 hi3; rw [xL]; unfold jI; grind [yH])
  have e80 : (false : Bool) = (qK s top c).2 := by (have t_ := xF (l := c.args) (by assumption) (by assumption); rw [t_] at hi2 hi3; rw [xL]; unfold jI; grind [yH])
  exact fun w hw => ⟨congrArg Ending.returned (yX (fun x0 x1 => Value.tuple #[.bool x0, .bool x1]) e79 e80), hw.drop 4⟩
  refine xW rfl ?_
  refine qF <| qA ?_
  refine tl (jQ rfl rfl rfl) ?_
  refine tl (qD rfl) ?_
  refine qB <| qC ?_
  refine qR 74 rfl (fun h81 => ?_) (fun h81 => ?_)
  refine xD rfl ?_
  refine qF ?_
  refine wD mixed (by kernel_rfl) ?_
  refine tq (qG rfl) ?_
  have hb84 : 0 < f.length := by first | omega | (rw [hi2, List.length_map, xQ, List.length_take]; grind) | (rw [hi3, List.length_map, xQ, List.length_take]; grind)
  obtain ⟨x82, hx83⟩ : ∃ x, f[0]? = some x := ⟨_, List.getElem?_eq_getElem hb84⟩
  obtain ⟨c85, hr86, hc87⟩ := Kd.reps_get1 rfl hv24 hx83
  cases (show _ = _ from id hr86)
  refine tq (vX (i := 0) 0 rfl rfl rfl sB hb84) ?_
  refine tq (hZ 0 rfl rfl ld4 hc87) ?_
  refine tq (qG rfl) ?_
  have hb91 : 0 < e.length := by first | omega | (rw [hi2, List.length_map, xQ, List.length_take]; grind) | (rw [hi3, List.length_map, xQ, List.length_take]; grind)
  obtain ⟨x89, hx90⟩ : ∃ x, e[0]? = some x := ⟨_, List.getElem?_eq_getElem hb91⟩
  obtain ⟨c92, hr93, hc94⟩ := Kd.reps_get1 rfl hv20 hx90
  cases (show _ = _ from id hr93)
  refine tq (vX (i := 0) 1 rfl rfl rfl sB hb91) ?_
  refine tq (hZ 1 rfl rfl ld4 hc94) ?_
  refine tq (qD rfl) ?_
  refine tq (qD rfl) ?_
  refine vB <| qC <| qV <| qO <| qI ?_
  refine kM (.inl rfl) rfl rfl rfl ?_
  have e96 : (x82 : Bool) = (qK s top c).1 := by (have t_ := xF (l := c.args) (by assumption) (by assumption); rw [t_] at hi2 hi3; have p0_ := kX hi3 hx83; have p1_ := kW hi2 hx90; rw [xL]; unfold jI; grind [yH])
  have e97 : (x89 : Bool) = (qK s top c).2 := by (have t_ := xF (l := c.args) (by assumption) (by assumption); rw [t_] at hi2 hi3; have p0_ := kX hi3 hx83; have p1_ := kW hi2 hx90; rw [xL]; unfold jI; grind [yH])
  exact fun w hw => ⟨congrArg Ending.returned (yX (fun x0 x1 => Value.tuple #[.bool x0, .bool x1]) e96 e97), hw.drop 4⟩
  refine xW rfl ?_
  refine qF <| qA ?_
  refine tl (jQ rfl rfl rfl) ?_
  refine tl (qD rfl) ?_
  refine qB <| qC ?_
  refine qR 82 rfl (fun h98 => ?_) (fun h98 => ?_)
  refine xD rfl ?_
  refine qF ?_
  refine wD mixed (by kernel_rfl) ?_
  refine tq (qG rfl) ?_
  have hb101 : 0 < e.length := by first | omega | (rw [hi2, List.length_map, xQ, List.length_take]; grind) | (rw [hi3, List.length_map, xQ, List.length_take]; grind)
  obtain ⟨x99, hx100⟩ : ∃ x, e[0]? = some x := ⟨_, List.getElem?_eq_getElem hb101⟩
  obtain ⟨c102, hr103, hc104⟩ := Kd.reps_get1 rfl hv20 hx100
  cases (show _ = _ from id hr103)
  refine tq (vX (i := 0) 1 rfl rfl rfl sB hb101) ?_
  refine tq (hZ 1 rfl rfl ld4 hc104) ?_
  refine tq (qG rfl) ?_
  refine wC 87 rfl (fun h106 => ?_) (fun h106 => ?_)
  refine qZ 87 rfl rfl rfl ?_
  refine qZ 87 rfl rfl rfl ?_
  refine qZ 87 rfl rfl rfl ?_
  refine tq (qP rfl rfl) ?_
  refine tq (qG rfl) ?_
  have hb109 : 0 < f.length := by first | omega | (rw [hi2, List.length_map, xQ, List.length_take]; grind) | (rw [hi3, List.length_map, xQ, List.length_take]; grind)
  obtain ⟨x107, hx108⟩ : ∃ x, f[0]? = some x := ⟨_, List.getElem?_eq_getElem hb109⟩
  obtain ⟨c110, hr111, hc112⟩ := Kd.reps_get1 rfl hv24 hx108
  cases (show _ = _ from id hr111)
  refine tq (vX (i := 0) 0 rfl rfl rfl sB hb109) ?_
  refine tq (hZ 0 rfl rfl ld4 hc112) ?_
  refine tq (qG rfl) ?_
  refine wC 95 rfl (fun h114 => ?_) (fun h114 => ?_)
  refine xU 95 rfl rfl ?_
  refine tq (qG rfl) ?_
  refine xU 95 rfl rfl ?_
  have hb117 : 1 < f.length := by first | omega | (rw [hi2, List.length_map, xQ, List.length_take]; grind) | (rw [hi3, List.length_map, xQ, List.length_take]; grind)
  obtain ⟨x115, hx116⟩ : ∃ x, f[1]? = some x := ⟨_, List.getElem?_eq_getElem hb117⟩
  obtain ⟨c118, hr119, hc120⟩ := Kd.reps_get1 rfl hv24 hx116
  cases (show _ = _ from id hr119)
  refine tq (vX (i := 1) 0 rfl rfl rfl sB hb117) ?_
  refine xU 95 rfl rfl ?_
  refine tq (hZ 0 rfl rfl ld4 hc120) ?_
  refine tq (qP rfl rfl) ?_
  refine tq (qD rfl) ?_
  refine tq (qD rfl) ?_
  refine vB <| qC <| qV <| qO <| qI ?_
  refine kM (.inl rfl) rfl rfl rfl ?_
  have e122 : (true : Bool) = (qK s top c).1 := by (have t_ := xF (l := c.args) (by assumption) (by assumption); rw [t_] at hi2 hi3; have p0_ := kW hi2 hx100; have p1_ := kX hi3 hx108; have p2_ := kX hi3 hx116; rw [xL]; unfold jI; grind [yH])
  have e123 : (x115 : Bool) = (qK s top c).2 := by (have t_ := xF (l := c.args) (by assumption) (by assumption); rw [t_] at hi2 hi3; have p0_ := kW hi2 hx100; have p1_ := kX hi3 hx108; have p2_ := kX hi3 hx116; rw [xL]; unfold jI; grind [yH])
  exact fun w hw => ⟨congrArg Ending.returned (yX (fun x0 x1 => Value.tuple #[.bool x0, .bool x1]) e122 e123), hw.drop 4⟩
  refine qZ 95 rfl rfl rfl ?_
  refine qZ 95 rfl rfl rfl ?_
  refine qZ 95 rfl rfl rfl ?_
  refine tq (qN rfl rfl) ?_
  refine tq (qD rfl) ?_
  refine tq (qD rfl) ?_
  refine vB <| qC <| qV <| qO <| qI ?_
  refine kM (.inl rfl) rfl rfl rfl ?_
  have e124 : (true : Bool) = (qK s top c).1 := by (have t_ := xF (l := c.args) (by assumption) (by assumption); rw [t_] at hi2 hi3; have p0_ := kW hi2 hx100; have p1_ := kX hi3 hx108; rw [xL]; unfold jI; grind [yH])
  have e125 : (false : Bool) = (qK s top c).2 := by (have t_ := xF (l := c.args) (by assumption) (by assumption); rw [t_] at hi2 hi3; have p0_ := kW hi2 hx100; have p1_ := kX hi3 hx108; rw [xL]; unfold jI; grind [yH])
  exact fun w hw => ⟨congrArg Ending.returned (yX (fun x0 x1 => Value.tuple #[.bool x0, .bool x1]) e124 e125), hw.drop 4⟩
  refine xU 87 rfl rfl ?_
  refine tq (qG rfl) ?_
  refine xU 87 rfl rfl ?_
  have hb128 : 1 < e.length := by first | omega | (rw [hi2, List.length_map, xQ, List.length_take]; grind) | (rw [hi3, List.length_map, xQ, List.length_take]; grind)
  obtain ⟨x126, hx127⟩ : ∃ x, e[1]? = some x := ⟨_, List.getElem?_eq_getElem hb128⟩
  obtain ⟨c129, hr130, hc131⟩ := Kd.reps_get1 rfl hv20 hx127
  cases (show _ = _ from id hr130)
  refine tq (vX (i := 1) 1 rfl rfl rfl sB hb128) ?_
  refine xU 87 rfl rfl ?_
  refine tq (hZ 1 rfl rfl ld4 hc131) ?_
  refine tq (qN rfl rfl) ?_
  refine tq (qG rfl) ?_
  have hb135 : 0 < f.length := by first | omega | (rw [hi2, List.length_map, xQ, List.length_take]; grind) | (rw [hi3, List.length_map, xQ, List.length_take]; grind)
  obtain ⟨x133, hx134⟩ : ∃ x, f[0]? = some x := ⟨_, List.getElem?_eq_getElem hb135⟩
  obtain ⟨c136, hr137, hc138⟩ := Kd.reps_get1 rfl hv24 hx134
  cases (show _ = _ from id hr137)
  refine tq (vX (i := 0) 0 rfl rfl rfl sB hb135) ?_
  refine tq (hZ 0 rfl rfl ld4 hc138) ?_
  refine tq (qG rfl) ?_
  refine wC 95 rfl (fun h140 => ?_) (fun h140 => ?_)
  refine xU 95 rfl rfl ?_
  refine tq (qG rfl) ?_
  refine xU 95 rfl rfl ?_
  have hb143 : 1 < f.length := by first | omega | (rw [hi2, List.length_map, xQ, List.length_take]; grind) | (rw [hi3, List.length_map, xQ, List.length_take]; grind)
  obtain ⟨x141, hx142⟩ : ∃ x, f[1]? = some x := ⟨_, List.getElem?_eq_getElem hb143⟩
  obtain ⟨c144, hr145, hc146⟩ := Kd.reps_get1 rfl hv24 hx142
  cases (show _ = _ from id hr145)
  refine tq (vX (i := 1) 0 rfl rfl rfl sB hb143) ?_
  refine xU 95 rfl rfl ?_
  refine tq (hZ 0 rfl rfl ld4 hc146) ?_
  refine tq (qP rfl rfl) ?_
  refine tq (qD rfl) ?_
  refine tq (qD rfl) ?_
  refine vB <| qC <| qV <| qO <| qI ?_
  refine kM (.inl rfl) rfl rfl rfl ?_
  have e148 : (x126 : Bool) = (qK s top c).1 := by (have t_ := xF (l := c.args) (by assumption) (by assumption); rw [t_] at hi2 hi3; have p0_ := kW hi2 hx100; have p1_ := kW hi2 hx127; have p2_ := kX hi3 hx134; have p3_ := kX hi3 hx142; rw [xL]; unfold jI; grind [yH])
  have e149 : (x141 : Bool) = (qK s top c).2 := by (have t_ := xF (l := c.args) (by assumption) (by assumption); rw [t_] at hi2 hi3; have p0_ := kW hi2 hx100; have p1_ := kW hi2 hx127; have p2_ := kX hi3 hx134; have p3_ := kX hi3 hx142; rw [xL]; unfold jI; grind [yH])
  exact fun w hw => ⟨congrArg Ending.returned (yX (fun x0 x1 => Value.tuple #[.bool x0, .bool x1]) e148 e149), hw.drop 4⟩
  refine qZ 95 rfl rfl rfl ?_
  refine qZ 95 rfl rfl rfl ?_
  refine qZ 95 rfl rfl rfl ?_
  refine tq (qN rfl rfl) ?_
  refine tq (qD rfl) ?_
  refine tq (qD rfl) ?_
  refine vB <| qC <| qV <| qO <| qI ?_
  refine kM (.inl rfl) rfl rfl rfl ?_
  have e150 : (x126 : Bool) = (qK s top c).1 := by (have t_ := xF (l := c.args) (by assumption) (by assumption); rw [t_] at hi2 hi3; have p0_ := kW hi2 hx100; have p1_ := kW hi2 hx127; have p2_ := kX hi3 hx134; rw [xL]; unfold jI; grind [yH])
  have e151 : (false : Bool) = (qK s top c).2 := by (have t_ := xF (l := c.args) (by assumption) (by assumption); rw [t_] at hi2 hi3; have p0_ := kW hi2 hx100; have p1_ := kW hi2 hx127; have p2_ := kX hi3 hx134; rw [xL]; unfold jI; grind [yH])
  exact fun w hw => ⟨congrArg Ending.returned (yX (fun x0 x1 => Value.tuple #[.bool x0, .bool x1]) e150 e151), hw.drop 4⟩
  refine xW rfl ?_
  refine qF <| qA ?_
  refine tl (jQ rfl rfl rfl) ?_
  refine tl (qD rfl) ?_
  refine qB <| qC ?_
  refine qR 100 rfl (fun h152 => ?_) (fun h152 => ?_)
  refine xD rfl ?_
  refine qF ?_
  refine wD mixed (by kernel_rfl) ?_
  refine tq (qG rfl) ?_
  have hb155 : 0 < e.length := by first | omega | (rw [hi2, List.length_map, xQ, List.length_take]; grind) | (rw [hi3, List.length_map, xQ, List.length_take]; grind)
  obtain ⟨x153, hx154⟩ : ∃ x, e[0]? = some x := ⟨_, List.getElem?_eq_getElem hb155⟩
  obtain ⟨c156, hr157, hc158⟩ := Kd.reps_get1 rfl hv20 hx154
  cases (show _ = _ from id hr157)
  refine tq (vX (i := 0) 1 rfl rfl rfl sB hb155) ?_
  refine tq (hZ 1 rfl rfl ld4 hc158) ?_
  refine tq (qG rfl) ?_
  refine wC 105 rfl (fun h160 => ?_) (fun h160 => ?_)
  refine xU 105 rfl rfl ?_
  refine tq (qG rfl) ?_
  refine xU 105 rfl rfl ?_
  have hb163 : 1 < e.length := by first | omega | (rw [hi2, List.length_map, xQ, List.length_take]; grind) | (rw [hi3, List.length_map, xQ, List.length_take]; grind)
  obtain ⟨x161, hx162⟩ : ∃ x, e[1]? = some x := ⟨_, List.getElem?_eq_getElem hb163⟩
  obtain ⟨c164, hr165, hc166⟩ := Kd.reps_get1 rfl hv20 hx162
  cases (show _ = _ from id hr165)
  refine tq (vX (i := 1) 1 rfl rfl rfl sB hb163) ?_
  refine xU 105 rfl rfl ?_
  refine tq (hZ 1 rfl rfl ld4 hc166) ?_
  refine tq (qP rfl rfl) ?_
  refine tq (qG rfl) ?_
  have hb170 : 0 < f.length := by first | omega | (rw [hi2, List.length_map, xQ, List.length_take]; grind) | (rw [hi3, List.length_map, xQ, List.length_take]; grind)
  obtain ⟨x168, hx169⟩ : ∃ x, f[0]? = some x := ⟨_, List.getElem?_eq_getElem hb170⟩
  obtain ⟨c171, hr172, hc173⟩ := Kd.reps_get1 rfl hv24 hx169
  cases (show _ = _ from id hr172)
  refine tq (vX (i := 0) 0 rfl rfl rfl sB hb170) ?_
  refine tq (hZ 0 rfl rfl ld4 hc173) ?_
  refine tq (qG rfl) ?_
  refine wC 113 rfl (fun h175 => ?_) (fun h175 => ?_)
  refine qZ 113 rfl rfl rfl ?_
  refine qZ 113 rfl rfl rfl ?_
  refine qZ 113 rfl rfl rfl ?_
  refine tq (qP rfl rfl) ?_
  refine tq (qD rfl) ?_
  refine tq (qD rfl) ?_
  refine vB <| qC <| qV <| qO <| qI ?_
  refine kM (.inl rfl) rfl rfl rfl ?_
  have e176 : (x161 : Bool) = (qK s top c).1 := by (have t_ := xF (l := c.args) (by assumption) (by assumption); rw [t_] at hi2 hi3; have p0_ := kW hi2 hx154; have p1_ := kW hi2 hx162; have p2_ := kX hi3 hx169; rw [xL]; unfold jI; grind [yH])
  have e177 : (true : Bool) = (qK s top c).2 := by (have t_ := xF (l := c.args) (by assumption) (by assumption); rw [t_] at hi2 hi3; have p0_ := kW hi2 hx154; have p1_ := kW hi2 hx162; have p2_ := kX hi3 hx169; rw [xL]; unfold jI; grind [yH])
  exact fun w hw => ⟨congrArg Ending.returned (yX (fun x0 x1 => Value.tuple #[.bool x0, .bool x1]) e176 e177), hw.drop 4⟩
  refine xU 113 rfl rfl ?_
  refine tq (qG rfl) ?_
  refine xU 113 rfl rfl ?_
  have hb180 : 1 < f.length := by first | omega | (rw [hi2, List.length_map, xQ, List.length_take]; grind) | (rw [hi3, List.length_map, xQ, List.length_take]; grind)
  obtain ⟨x178, hx179⟩ : ∃ x, f[1]? = some x := ⟨_, List.getElem?_eq_getElem hb180⟩
  obtain ⟨c181, hr182, hc183⟩ := Kd.reps_get1 rfl hv24 hx179
  cases (show _ = _ from id hr182)
  refine tq (vX (i := 1) 0 rfl rfl rfl sB hb180) ?_
  refine xU 113 rfl rfl ?_
  refine tq (hZ 0 rfl rfl ld4 hc183) ?_
  refine tq (qN rfl rfl) ?_
  refine tq (qD rfl) ?_
  refine tq (qD rfl) ?_
  refine vB <| qC <| qV <| qO <| qI ?_
  refine kM (.inl rfl) rfl rfl rfl ?_
  have e185 : (x161 : Bool) = (qK s top c).1 := by (have t_ := xF (l := c.args) (by assumption) (by assumption); rw [t_] at hi2 hi3; have p0_ := kW hi2 hx154; have p1_ := kW hi2 hx162; have p2_ := kX hi3 hx169; have p3_ := kX hi3 hx179; rw [xL]; unfold jI; grind [yH])
  have e186 : (x178 : Bool) = (qK s top c).2 := by (have t_ := xF (l := c.args) (by assumption) (by assumption); rw [t_] at hi2 hi3; have p0_ := kW hi2 hx154; have p1_ := kW hi2 hx162; have p2_ := kX hi3 hx169; have p3_ := kX hi3 hx179; rw [xL]; unfold jI; grind [yH])
  exact fun w hw => ⟨congrArg Ending.returned (yX (fun x0 x1 => Value.tuple #[.bool x0, .bool x1]) e185 e186), hw.drop 4⟩
  refine qZ 105 rfl rfl rfl ?_
  refine qZ 105 rfl rfl rfl ?_
  refine qZ 105 rfl rfl rfl ?_
  refine tq (qN rfl rfl) ?_
  refine tq (qG rfl) ?_
  have hb189 : 0 < f.length := by first | omega | (rw [hi2, List.length_map, xQ, List.length_take]; grind) | (rw [hi3, List.length_map, xQ, List.length_take]; grind)
  obtain ⟨x187, hx188⟩ : ∃ x, f[0]? = some x := ⟨_, List.getElem?_eq_getElem hb189⟩
  obtain ⟨c190, hr191, hc192⟩ := Kd.reps_get1 rfl hv24 hx188
  cases (show _ = _ from id hr191)
  refine tq (vX (i := 0) 0 rfl rfl rfl sB hb189) ?_
  refine tq (hZ 0 rfl rfl ld4 hc192) ?_
  refine tq (qG rfl) ?_
  refine wC 113 rfl (fun h194 => ?_) (fun h194 => ?_)
  refine qZ 113 rfl rfl rfl ?_
  refine qZ 113 rfl rfl rfl ?_
  refine qZ 113 rfl rfl rfl ?_
  refine tq (qP rfl rfl) ?_
  refine tq (qD rfl) ?_
  refine tq (qD rfl) ?_
  refine vB <| qC <| qV <| qO <| qI ?_
  refine kM (.inl rfl) rfl rfl rfl ?_
  have e195 : (false : Bool) = (qK s top c).1 := by (have t_ := xF (l := c.args) (by assumption) (by assumption); rw [t_] at hi2 hi3; have p0_ := kW hi2 hx154; have p1_ := kX hi3 hx188; rw [xL]; unfold jI; grind [yH])
  have e196 : (true : Bool) = (qK s top c).2 := by (have t_ := xF (l := c.args) (by assumption) (by assumption); rw [t_] at hi2 hi3; have p0_ := kW hi2 hx154; have p1_ := kX hi3 hx188; rw [xL]; unfold jI; grind [yH])
  exact fun w hw => ⟨congrArg Ending.returned (yX (fun x0 x1 => Value.tuple #[.bool x0, .bool x1]) e195 e196), hw.drop 4⟩
  refine xU 113 rfl rfl ?_
  refine tq (qG rfl) ?_
  refine xU 113 rfl rfl ?_
  have hb199 : 1 < f.length := by first | omega | (rw [hi2, List.length_map, xQ, List.length_take]; grind) | (rw [hi3, List.length_map, xQ, List.length_take]; grind)
  obtain ⟨x197, hx198⟩ : ∃ x, f[1]? = some x := ⟨_, List.getElem?_eq_getElem hb199⟩
  obtain ⟨c200, hr201, hc202⟩ := Kd.reps_get1 rfl hv24 hx198
  cases (show _ = _ from id hr201)
  refine tq (vX (i := 1) 0 rfl rfl rfl sB hb199) ?_
  refine xU 113 rfl rfl ?_
  refine tq (hZ 0 rfl rfl ld4 hc202) ?_
  refine tq (qN rfl rfl) ?_
  refine tq (qD rfl) ?_
  refine tq (qD rfl) ?_
  refine vB <| qC <| qV <| qO <| qI ?_
  refine kM (.inl rfl) rfl rfl rfl ?_
  have e204 : (false : Bool) = (qK s top c).1 := by (have t_ := xF (l := c.args) (by assumption) (by assumption); rw [t_] at hi2 hi3; have p0_ := kW hi2 hx154; have p1_ := kX hi3 hx188; have p2_ := kX hi3 hx198; rw [xL]; unfold jI; grind [yH])
  have e205 : (x197 : Bool) = (qK s top c).2 := by (have t_ := xF (l := c.args) (by assumption) (by assumption); rw [t_] at hi2 hi3; have p0_ := kW hi2 hx154; have p1_ := kX hi3 hx188; have p2_ := kX hi3 hx198; rw [xL]; unfold jI; grind [yH])
  exact fun w hw => ⟨congrArg Ending.returned (yX (fun x0 x1 => Value.tuple #[.bool x0, .bool x1]) e204 e205), hw.drop 4⟩
  refine xW rfl ?_
  refine qF <| qA ?_
  refine tl (jQ rfl rfl rfl) ?_
  refine tl (qD rfl) ?_
  refine qB <| qC ?_
  refine qR 118 rfl (fun h206 => ?_) (fun h206 => ?_)
  refine xD rfl ?_
  refine qF ?_
  refine wD mixed (by kernel_rfl) ?_
  refine tq (qG rfl) ?_
  have hb209 : 0 < e.length := by first | omega | (rw [hi2, List.length_map, xQ, List.length_take]; grind) | (rw [hi3, List.length_map, xQ, List.length_take]; grind)
  obtain ⟨x207, hx208⟩ : ∃ x, e[0]? = some x := ⟨_, List.getElem?_eq_getElem hb209⟩
  obtain ⟨c210, hr211, hc212⟩ := Kd.reps_get1 rfl hv20 hx208
  cases (show _ = _ from id hr211)
  refine tq (vX (i := 0) 1 rfl rfl rfl sB hb209) ?_
  refine tq (hZ 1 rfl rfl ld4 hc212) ?_
  refine tq (qG rfl) ?_
  refine wC 123 rfl (fun h214 => ?_) (fun h214 => ?_)
  refine qZ 123 rfl rfl rfl ?_
  refine qZ 123 rfl rfl rfl ?_
  refine gQ 125 rfl rfl rfl ?_
  refine gQ 125 rfl rfl rfl ?_
  refine qZ 123 rfl rfl rfl ?_
  refine tq (qP rfl rfl) ?_
  refine tq (qG rfl) ?_
  refine tq (qG rfl) ?_
  refine yK 131 rfl (fun h215 => ?_) (fun h215 => ?_)
  refine xU 131 rfl rfl ?_
  refine tq (qG rfl) ?_
  refine tq (qP rfl rfl) ?_
  refine tq (qG rfl) ?_
  refine wC 134 rfl (fun h216 => ?_) (fun h216 => ?_)
  refine xU 134 rfl rfl ?_
  refine tq (qG rfl) ?_
  refine xU 134 rfl rfl ?_
  have hb219 : 0 < f.length := by first | omega | (rw [hi2, List.length_map, xQ, List.length_take]; grind) | (rw [hi3, List.length_map, xQ, List.length_take]; grind)
  obtain ⟨x217, hx218⟩ : ∃ x, f[0]? = some x := ⟨_, List.getElem?_eq_getElem hb219⟩
  obtain ⟨c220, hr221, hc222⟩ := Kd.reps_get1 rfl hv24 hx218
  cases (show _ = _ from id hr221)
  refine tq (vX (i := 0) 0 rfl rfl rfl sB hb219) ?_
  refine xU 134 rfl rfl ?_
  refine tq (hZ 0 rfl rfl ld4 hc222) ?_
  refine tq (qP rfl rfl) ?_
  refine tq (qD rfl) ?_
  refine tq (qD rfl) ?_
  refine vB <| qC <| qV <| qO <| qI ?_
  refine kM (.inl rfl) rfl rfl rfl ?_
  have e224 : (true : Bool) = (qK s top c).1 := by (have t_ := xF (l := c.args) (by assumption) (by assumption); rw [t_] at hi2 hi3; have p0_ := kW hi2 hx208; have p1_ := kX hi3 hx218; rw [xL]; unfold jI; grind [yH])
  have e225 : (x217 : Bool) = (qK s top c).2 := by (have t_ := xF (l := c.args) (by assumption) (by assumption); rw [t_] at hi2 hi3; have p0_ := kW hi2 hx208; have p1_ := kX hi3 hx218; rw [xL]; unfold jI; grind [yH])
  exact fun w hw => ⟨congrArg Ending.returned (yX (fun x0 x1 => Value.tuple #[.bool x0, .bool x1]) e224 e225), hw.drop 4⟩
  refine qZ 134 rfl rfl rfl ?_
  refine qZ 134 rfl rfl rfl ?_
  refine qZ 134 rfl rfl rfl ?_
  refine tq (qN rfl rfl) ?_
  refine tq (qD rfl) ?_
  refine tq (qD rfl) ?_
  refine vB <| qC <| qV <| qO <| qI ?_
  refine kM (.inl rfl) rfl rfl rfl ?_
  have e226 : (true : Bool) = (qK s top c).1 := by (have t_ := xF (l := c.args) (by assumption) (by assumption); rw [t_] at hi2 hi3; have p0_ := kW hi2 hx208; rw [xL]; unfold jI; grind [yH])
  have e227 : (false : Bool) = (qK s top c).2 := by (have t_ := xF (l := c.args) (by assumption) (by assumption); rw [t_] at hi2 hi3; have p0_ := kW hi2 hx208; rw [xL]; unfold jI; grind [yH])
  exact fun w hw => ⟨congrArg Ending.returned (yX (fun x0 x1 => Value.tuple #[.bool x0, .bool x1]) e226 e227), hw.drop 4⟩
  refine qZ 131 rfl rfl rfl ?_
  refine tq (qN rfl rfl) ?_
  refine tq (qG rfl) ?_
  refine qZ 134 rfl rfl rfl ?_
  refine qZ 134 rfl rfl rfl ?_
  refine qZ 134 rfl rfl rfl ?_
  refine tq (qN rfl rfl) ?_
  refine tq (qD rfl) ?_
  refine tq (qD rfl) ?_
  refine vB <| qC <| qV <| qO <| qI ?_
  refine kM (.inl rfl) rfl rfl rfl ?_
  have e228 : (true : Bool) = (qK s top c).1 := by (have t_ := xF (l := c.args) (by assumption) (by assumption); rw [t_] at hi2 hi3; have p0_ := kW hi2 hx208; rw [xL]; unfold jI; grind [yH])
  have e229 : (false : Bool) = (qK s top c).2 := by (have t_ := xF (l := c.args) (by assumption) (by assumption); rw [t_] at hi2 hi3; have p0_ := kW hi2 hx208; rw [xL]; unfold jI; grind [yH])
  exact fun w hw => ⟨congrArg Ending.returned (yX (fun x0 x1 => Value.tuple #[.bool x0, .bool x1]) e228 e229), hw.drop 4⟩
  refine xU 123 rfl rfl ?_
  refine tq (qG rfl) ?_
  refine xU 123 rfl rfl ?_
  refine tq (qG rfl) ?_
  refine yK 125 rfl (fun h230 => ?_) (fun h230 => ?_)
  refine xU 125 rfl rfl ?_
  refine tq (qG rfl) ?_
  refine xU 125 rfl rfl ?_
  refine tq (wB rfl) ?_
  refine xU 123 rfl rfl ?_
  refine tq (qP rfl rfl) ?_
  refine tq (qN rfl rfl) ?_
  refine tq (qG rfl) ?_
  refine tq (qG rfl) ?_
  refine yK 131 rfl (fun h231 => ?_) (fun h231 => ?_)
  refine xU 131 rfl rfl ?_
  refine tq (qG rfl) ?_
  refine tq (qP rfl rfl) ?_
  refine tq (qG rfl) ?_
  refine wC 134 rfl (fun h232 => ?_) (fun h232 => ?_)
  refine xU 134 rfl rfl ?_
  refine tq (qG rfl) ?_
  refine xU 134 rfl rfl ?_
  have hb235 : 0 < f.length := by first | omega | (rw [hi2, List.length_map, xQ, List.length_take]; grind) | (rw [hi3, List.length_map, xQ, List.length_take]; grind)
  obtain ⟨x233, hx234⟩ : ∃ x, f[0]? = some x := ⟨_, List.getElem?_eq_getElem hb235⟩
  obtain ⟨c236, hr237, hc238⟩ := Kd.reps_get1 rfl hv24 hx234
  cases (show _ = _ from id hr237)
  refine tq (vX (i := 0) 0 rfl rfl rfl sB hb235) ?_
  refine xU 134 rfl rfl ?_
  refine tq (hZ 0 rfl rfl ld4 hc238) ?_
  refine tq (qP rfl rfl) ?_
  refine tq (qD rfl) ?_
  refine tq (qD rfl) ?_
  refine vB <| qC <| qV <| qO <| qI ?_
  refine kM (.inl rfl) rfl rfl rfl ?_
  have e240 : (!top : Bool) = (qK s top c).1 := by (have t_ := xF (l := c.args) (by assumption) (by assumption); rw [t_] at hi2 hi3; have p0_ := kW hi2 hx208; have p1_ := kX hi3 hx234; rw [xL]; unfold jI; grind [yH])
  have e241 : (x233 : Bool) = (qK s top c).2 := by (have t_ := xF (l := c.args) (by assumption) (by assumption); rw [t_] at hi2 hi3; have p0_ := kW hi2 hx208; have p1_ := kX hi3 hx234; rw [xL]; unfold jI; grind [yH])
  exact fun w hw => ⟨congrArg Ending.returned (yX (fun x0 x1 => Value.tuple #[.bool x0, .bool x1]) e240 e241), hw.drop 4⟩
  refine qZ 134 rfl rfl rfl ?_
  refine qZ 134 rfl rfl rfl ?_
  refine qZ 134 rfl rfl rfl ?_
  refine tq (qN rfl rfl) ?_
  refine tq (qD rfl) ?_
  refine tq (qD rfl) ?_
  refine vB <| qC <| qV <| qO <| qI ?_
  refine kM (.inl rfl) rfl rfl rfl ?_
  have e242 : (!top : Bool) = (qK s top c).1 := by (have t_ := xF (l := c.args) (by assumption) (by assumption); rw [t_] at hi2 hi3; have p0_ := kW hi2 hx208; rw [xL]; unfold jI; grind [yH])
  have e243 : (false : Bool) = (qK s top c).2 := by (have t_ := xF (l := c.args) (by assumption) (by assumption); rw [t_] at hi2 hi3; have p0_ := kW hi2 hx208; rw [xL]; unfold jI; grind [yH])
  exact fun w hw => ⟨congrArg Ending.returned (yX (fun x0 x1 => Value.tuple #[.bool x0, .bool x1]) e242 e243), hw.drop 4⟩
  refine qZ 131 rfl rfl rfl ?_
  refine tq (qN rfl rfl) ?_
  refine tq (qG rfl) ?_
  refine qZ 134 rfl rfl rfl ?_
  refine qZ 134 rfl rfl rfl ?_
  refine qZ 134 rfl rfl rfl ?_
  refine tq (qN rfl rfl) ?_
  refine tq (qD rfl) ?_
  refine tq (qD rfl) ?_
  refine vB <| qC <| qV <| qO <| qI ?_
  refine kM (.inl rfl) rfl rfl rfl ?_
  have e244 : (!top : Bool) = (qK s top c).1 := by (have t_ := xF (l := c.args) (by assumption) (by assumption); rw [t_] at hi2 hi3; have p0_ := kW hi2 hx208; rw [xL]; unfold jI; grind [yH])
  have e245 : (false : Bool) = (qK s top c).2 := by (have t_ := xF (l := c.args) (by assumption) (by assumption); rw [t_] at hi2 hi3; have p0_ := kW hi2 hx208; rw [xL]; unfold jI; grind [yH])
  exact fun w hw => ⟨congrArg Ending.returned (yX (fun x0 x1 => Value.tuple #[.bool x0, .bool x1]) e244 e245), hw.drop 4⟩
  refine qZ 125 rfl rfl rfl ?_
  refine qZ 125 rfl rfl rfl ?_
  refine xU 123 rfl rfl ?_
  refine tq (qN rfl rfl) ?_
  refine tq (qN rfl rfl) ?_
  refine tq (qG rfl) ?_
  refine tq (qG rfl) ?_
  refine yK 131 rfl (fun h246 => ?_) (fun h246 => ?_)
  refine xU 131 rfl rfl ?_
  refine tq (qG rfl) ?_
  refine tq (qP rfl rfl) ?_
  refine tq (qG rfl) ?_
  refine wC 134 rfl (fun h247 => ?_) (fun h247 => ?_)
  refine xU 134 rfl rfl ?_
  refine tq (qG rfl) ?_
  refine xU 134 rfl rfl ?_
  have hb250 : 0 < f.length := by first | omega | (rw [hi2, List.length_map, xQ, List.length_take]; grind) | (rw [hi3, List.length_map, xQ, List.length_take]; grind)
  obtain ⟨x248, hx249⟩ : ∃ x, f[0]? = some x := ⟨_, List.getElem?_eq_getElem hb250⟩
  obtain ⟨c251, hr252, hc253⟩ := Kd.reps_get1 rfl hv24 hx249
  cases (show _ = _ from id hr252)
  refine tq (vX (i := 0) 0 rfl rfl rfl sB hb250) ?_
  refine xU 134 rfl rfl ?_
  refine tq (hZ 0 rfl rfl ld4 hc253) ?_
  refine tq (qP rfl rfl) ?_
  refine tq (qD rfl) ?_
  refine tq (qD rfl) ?_
  refine vB <| qC <| qV <| qO <| qI ?_
  refine kM (.inl rfl) rfl rfl rfl ?_
  have e255 : (false : Bool) = (qK s top c).1 := by (have t_ := xF (l := c.args) (by assumption) (by assumption); rw [t_] at hi2 hi3; have p0_ := kW hi2 hx208; have p1_ := kX hi3 hx249; rw [xL]; unfold jI; grind [yH])
  have e256 : (x248 : Bool) = (qK s top c).2 := by (have t_ := xF (l := c.args) (by assumption) (by assumption); rw [t_] at hi2 hi3; have p0_ := kW hi2 hx208; have p1_ := kX hi3 hx249; rw [xL]; unfold jI; grind [yH])
  exact fun w hw => ⟨congrArg Ending.returned (yX (fun x0 x1 => Value.tuple #[.bool x0, .bool x1]) e255 e256), hw.drop 4⟩
  refine qZ 134 rfl rfl rfl ?_
  refine qZ 134 rfl rfl rfl ?_
  refine qZ 134 rfl rfl rfl ?_
  refine tq (qN rfl rfl) ?_
  refine tq (qD rfl) ?_
  refine tq (qD rfl) ?_
  refine vB <| qC <| qV <| qO <| qI ?_
  refine kM (.inl rfl) rfl rfl rfl ?_
  have e257 : (false : Bool) = (qK s top c).1 := by (have t_ := xF (l := c.args) (by assumption) (by assumption); rw [t_] at hi2 hi3; have p0_ := kW hi2 hx208; rw [xL]; unfold jI; grind [yH])
  have e258 : (false : Bool) = (qK s top c).2 := by (have t_ := xF (l := c.args) (by assumption) (by assumption); rw [t_] at hi2 hi3; have p0_ := kW hi2 hx208; rw [xL]; unfold jI; grind [yH])
  exact fun w hw => ⟨congrArg Ending.returned (yX (fun x0 x1 => Value.tuple #[.bool x0, .bool x1]) e257 e258), hw.drop 4⟩
  refine qZ 131 rfl rfl rfl ?_
  refine tq (qN rfl rfl) ?_
  refine tq (qG rfl) ?_
  refine qZ 134 rfl rfl rfl ?_
  refine qZ 134 rfl rfl rfl ?_
  refine qZ 134 rfl rfl rfl ?_
  refine tq (qN rfl rfl) ?_
  refine tq (qD rfl) ?_
  refine tq (qD rfl) ?_
  refine vB <| qC <| qV <| qO <| qI ?_
  refine kM (.inl rfl) rfl rfl rfl ?_
  have e259 : (false : Bool) = (qK s top c).1 := by (have t_ := xF (l := c.args) (by assumption) (by assumption); rw [t_] at hi2 hi3; have p0_ := kW hi2 hx208; rw [xL]; unfold jI; grind [yH])
  have e260 : (false : Bool) = (qK s top c).2 := by (have t_ := xF (l := c.args) (by assumption) (by assumption); rw [t_] at hi2 hi3; have p0_ := kW hi2 hx208; rw [xL]; unfold jI; grind [yH])
  exact fun w hw => ⟨congrArg Ending.returned (yX (fun x0 x1 => Value.tuple #[.bool x0, .bool x1]) e259 e260), hw.drop 4⟩
  refine xW rfl ?_
  refine xA <| jG <| qC <| qF ?_
  refine wD mixed (by kernel_rfl) ?_
  refine tq (qG rfl) ?_
  refine tq (qG rfl) ?_
  refine yK 140 rfl (fun h261 => ?_) (fun h261 => ?_)
  refine xU 140 rfl rfl ?_
  refine tq (qG rfl) ?_
  refine tq (qP rfl rfl) ?_
  refine tq (qG rfl) ?_
  refine wC 143 rfl (fun h262 => ?_) (fun h262 => ?_)
  refine xU 143 rfl rfl ?_
  refine tq (qG rfl) ?_
  refine xU 143 rfl rfl ?_
  have hb265 : 0 < e.length := by first | omega | (rw [hi2, List.length_map, xQ, List.length_take]; grind) | (rw [hi3, List.length_map, xQ, List.length_take]; grind)
  obtain ⟨x263, hx264⟩ : ∃ x, e[0]? = some x := ⟨_, List.getElem?_eq_getElem hb265⟩
  obtain ⟨c266, hr267, hc268⟩ := Kd.reps_get1 rfl hv20 hx264
  cases (show _ = _ from id hr267)
  refine tq (vX (i := 0) 1 rfl rfl rfl sB hb265) ?_
  refine xU 143 rfl rfl ?_
  refine tq (hZ 1 rfl rfl ld4 hc268) ?_
  refine tq (qP rfl rfl) ?_
  refine tq (qG rfl) ?_
  have hb272 : 0 < f.length := by first | omega | (rw [hi2, List.length_map, xQ, List.length_take]; grind) | (rw [hi3, List.length_map, xQ, List.length_take]; grind)
  obtain ⟨x270, hx271⟩ : ∃ x, f[0]? = some x := ⟨_, List.getElem?_eq_getElem hb272⟩
  obtain ⟨c273, hr274, hc275⟩ := Kd.reps_get1 rfl hv24 hx271
  cases (show _ = _ from id hr274)
  refine tq (vX (i := 0) 0 rfl rfl rfl sB hb272) ?_
  refine tq (hZ 0 rfl rfl ld4 hc275) ?_
  refine tq (qG rfl) ?_
  refine wC 151 rfl (fun h277 => ?_) (fun h277 => ?_)
  refine qZ 151 rfl rfl rfl ?_
  refine qZ 151 rfl rfl rfl ?_
  refine gQ 153 rfl rfl rfl ?_
  refine gQ 153 rfl rfl rfl ?_
  refine qZ 151 rfl rfl rfl ?_
  refine tq (qP rfl rfl) ?_
  refine tq (qD rfl) ?_
  refine tq (qD rfl) ?_
  refine vB <| qC <| qV ?_
  refine kM (.inl rfl) rfl rfl rfl ?_
  have e278 : (x263 : Bool) = (qK s top c).1 := by (have t_ := xF (l := c.args) (by assumption) (by assumption); rw [t_] at hi2 hi3; have p0_ := kW hi2 hx264; have p1_ := kX hi3 hx271; rw [xL]; unfold jI; grind [yH])
  have e279 : (true : Bool) = (qK s top c).2 := by (have t_ := xF (l := c.args) (by assumption) (by assumption); rw [t_] at hi2 hi3; have p0_ := kW hi2 hx264; have p1_ := kX hi3 hx271; rw [xL]; unfold jI; grind [yH])
  exact fun w hw => ⟨congrArg Ending.returned (yX (fun x0 x1 => Value.tuple #[.bool x0, .bool x1]) e278 e279), hw.drop 4⟩
  refine xU 151 rfl rfl ?_
  refine tq (qG rfl) ?_
  refine xU 151 rfl rfl ?_
  refine tq (qG rfl) ?_
  refine yK 153 rfl (fun h280 => ?_) (fun h280 => ?_)
  refine xU 153 rfl rfl ?_
  refine tq (qG rfl) ?_
  refine xU 153 rfl rfl ?_
  refine tq (wB rfl) ?_
  refine xU 151 rfl rfl ?_
  refine tq (qP rfl rfl) ?_
  refine tq (qN rfl rfl) ?_
  refine tq (qD rfl) ?_
  refine tq (qD rfl) ?_
  refine vB <| qC <| qV ?_
  refine kM (.inl rfl) rfl rfl rfl ?_
  have e281 : (x263 : Bool) = (qK s top c).1 := by (have t_ := xF (l := c.args) (by assumption) (by assumption); rw [t_] at hi2 hi3; have p0_ := kW hi2 hx264; have p1_ := kX hi3 hx271; rw [xL]; unfold jI; grind [yH])
  have e282 : (!top : Bool) = (qK s top c).2 := by (have t_ := xF (l := c.args) (by assumption) (by assumption); rw [t_] at hi2 hi3; have p0_ := kW hi2 hx264; have p1_ := kX hi3 hx271; rw [xL]; unfold jI; grind [yH])
  exact fun w hw => ⟨congrArg Ending.returned (yX (fun x0 x1 => Value.tuple #[.bool x0, .bool x1]) e281 e282), hw.drop 4⟩
  refine qZ 153 rfl rfl rfl ?_
  refine qZ 153 rfl rfl rfl ?_
  refine xU 151 rfl rfl ?_
  refine tq (qN rfl rfl) ?_
  refine tq (qN rfl rfl) ?_
  refine tq (qD rfl) ?_
  refine tq (qD rfl) ?_
  refine vB <| qC <| qV ?_
  refine kM (.inl rfl) rfl rfl rfl ?_
  have e283 : (x263 : Bool) = (qK s top c).1 := by (have t_ := xF (l := c.args) (by assumption) (by assumption); rw [t_] at hi2 hi3; have p0_ := kW hi2 hx264; have p1_ := kX hi3 hx271; rw [xL]; unfold jI; grind [yH])
  have e284 : (false : Bool) = (qK s top c).2 := by (have t_ := xF (l := c.args) (by assumption) (by assumption); rw [t_] at hi2 hi3; have p0_ := kW hi2 hx264; have p1_ := kX hi3 hx271; rw [xL]; unfold jI; grind [yH])
  exact fun w hw => ⟨congrArg Ending.returned (yX (fun x0 x1 => Value.tuple #[.bool x0, .bool x1]) e283 e284), hw.drop 4⟩
  refine qZ 143 rfl rfl rfl ?_
  refine qZ 143 rfl rfl rfl ?_
  refine qZ 143 rfl rfl rfl ?_
  refine tq (qN rfl rfl) ?_
  refine tq (qG rfl) ?_
  have hb287 : 0 < f.length := by first | omega | (rw [hi2, List.length_map, xQ, List.length_take]; grind) | (rw [hi3, List.length_map, xQ, List.length_take]; grind)
  obtain ⟨x285, hx286⟩ : ∃ x, f[0]? = some x := ⟨_, List.getElem?_eq_getElem hb287⟩
  obtain ⟨c288, hr289, hc290⟩ := Kd.reps_get1 rfl hv24 hx286
  cases (show _ = _ from id hr289)
  refine tq (vX (i := 0) 0 rfl rfl rfl sB hb287) ?_
  refine tq (hZ 0 rfl rfl ld4 hc290) ?_
  refine tq (qG rfl) ?_
  refine wC 151 rfl (fun h292 => ?_) (fun h292 => ?_)
  refine qZ 151 rfl rfl rfl ?_
  refine qZ 151 rfl rfl rfl ?_
  refine gQ 153 rfl rfl rfl ?_
  refine gQ 153 rfl rfl rfl ?_
  refine qZ 151 rfl rfl rfl ?_
  refine tq (qP rfl rfl) ?_
  refine tq (qD rfl) ?_
  refine tq (qD rfl) ?_
  refine vB <| qC <| qV ?_
  refine kM (.inl rfl) rfl rfl rfl ?_
  have e293 : (false : Bool) = (qK s top c).1 := by (have t_ := xF (l := c.args) (by assumption) (by assumption); rw [t_] at hi2 hi3; have p0_ := kX hi3 hx286; rw [xL]; unfold jI; grind [yH])
  have e294 : (true : Bool) = (qK s top c).2 := by (have t_ := xF (l := c.args) (by assumption) (by assumption); rw [t_] at hi2 hi3; have p0_ := kX hi3 hx286; rw [xL]; unfold jI; grind [yH])
  exact fun w hw => ⟨congrArg Ending.returned (yX (fun x0 x1 => Value.tuple #[.bool x0, .bool x1]) e293 e294), hw.drop 4⟩
  refine xU 151 rfl rfl ?_
  refine tq (qG rfl) ?_
  refine xU 151 rfl rfl ?_
  refine tq (qG rfl) ?_
  refine yK 153 rfl (fun h295 => ?_) (fun h295 => ?_)
  refine xU 153 rfl rfl ?_
  refine tq (qG rfl) ?_
  refine xU 153 rfl rfl ?_
  refine tq (wB rfl) ?_
  refine xU 151 rfl rfl ?_
  refine tq (qP rfl rfl) ?_
  refine tq (qN rfl rfl) ?_
  refine tq (qD rfl) ?_
  refine tq (qD rfl) ?_
  refine vB <| qC <| qV ?_
  refine kM (.inl rfl) rfl rfl rfl ?_
  have e296 : (false : Bool) = (qK s top c).1 := by (have t_ := xF (l := c.args) (by assumption) (by assumption); rw [t_] at hi2 hi3; have p0_ := kX hi3 hx286; rw [xL]; unfold jI; grind [yH])
  have e297 : (!top : Bool) = (qK s top c).2 := by (have t_ := xF (l := c.args) (by assumption) (by assumption); rw [t_] at hi2 hi3; have p0_ := kX hi3 hx286; rw [xL]; unfold jI; grind [yH])
  exact fun w hw => ⟨congrArg Ending.returned (yX (fun x0 x1 => Value.tuple #[.bool x0, .bool x1]) e296 e297), hw.drop 4⟩
  refine qZ 153 rfl rfl rfl ?_
  refine qZ 153 rfl rfl rfl ?_
  refine xU 151 rfl rfl ?_
  refine tq (qN rfl rfl) ?_
  refine tq (qN rfl rfl) ?_
  refine tq (qD rfl) ?_
  refine tq (qD rfl) ?_
  refine vB <| qC <| qV ?_
  refine kM (.inl rfl) rfl rfl rfl ?_
  have e298 : (false : Bool) = (qK s top c).1 := by (have t_ := xF (l := c.args) (by assumption) (by assumption); rw [t_] at hi2 hi3; have p0_ := kX hi3 hx286; rw [xL]; unfold jI; grind [yH])
  have e299 : (false : Bool) = (qK s top c).2 := by (have t_ := xF (l := c.args) (by assumption) (by assumption); rw [t_] at hi2 hi3; have p0_ := kX hi3 hx286; rw [xL]; unfold jI; grind [yH])
  exact fun w hw => ⟨congrArg Ending.returned (yX (fun x0 x1 => Value.tuple #[.bool x0, .bool x1]) e298 e299), hw.drop 4⟩
  refine qZ 140 rfl rfl rfl ?_
  refine tq (qN rfl rfl) ?_
  refine tq (qG rfl) ?_
  refine qZ 143 rfl rfl rfl ?_
  refine qZ 143 rfl rfl rfl ?_
  refine qZ 143 rfl rfl rfl ?_
  refine tq (qN rfl rfl) ?_
  refine tq (qG rfl) ?_
  have hb302 : 0 < f.length := by first | omega | (rw [hi2, List.length_map, xQ, List.length_take]; grind) | (rw [hi3, List.length_map, xQ, List.length_take]; grind)
  obtain ⟨x300, hx301⟩ : ∃ x, f[0]? = some x := ⟨_, List.getElem?_eq_getElem hb302⟩
  obtain ⟨c303, hr304, hc305⟩ := Kd.reps_get1 rfl hv24 hx301
  cases (show _ = _ from id hr304)
  refine tq (vX (i := 0) 0 rfl rfl rfl sB hb302) ?_
  refine tq (hZ 0 rfl rfl ld4 hc305) ?_
  refine tq (qG rfl) ?_
  refine wC 151 rfl (fun h307 => ?_) (fun h307 => ?_)
  refine qZ 151 rfl rfl rfl ?_
  refine qZ 151 rfl rfl rfl ?_
  refine gQ 153 rfl rfl rfl ?_
  refine gQ 153 rfl rfl rfl ?_
  refine qZ 151 rfl rfl rfl ?_
  refine tq (qP rfl rfl) ?_
  refine tq (qD rfl) ?_
  refine tq (qD rfl) ?_
  refine vB <| qC <| qV ?_
  refine kM (.inl rfl) rfl rfl rfl ?_
  have e308 : (false : Bool) = (qK s top c).1 := by (have t_ := xF (l := c.args) (by assumption) (by assumption); rw [t_] at hi2 hi3; have p0_ := kX hi3 hx301; rw [xL]; unfold jI; grind [yH])
  have e309 : (true : Bool) = (qK s top c).2 := by (have t_ := xF (l := c.args) (by assumption) (by assumption); rw [t_] at hi2 hi3; have p0_ := kX hi3 hx301; rw [xL]; unfold jI; grind [yH])
  exact fun w hw => ⟨congrArg Ending.returned (yX (fun x0 x1 => Value.tuple #[.bool x0, .bool x1]) e308 e309), hw.drop 4⟩
  refine xU 151 rfl rfl ?_
  refine tq (qG rfl) ?_
  refine xU 151 rfl rfl ?_
  refine tq (qG rfl) ?_
  refine yK 153 rfl (fun h310 => ?_) (fun h310 => ?_)
  refine xU 153 rfl rfl ?_
  refine tq (qG rfl) ?_
  refine xU 153 rfl rfl ?_
  refine tq (wB rfl) ?_
  refine xU 151 rfl rfl ?_
  refine tq (qP rfl rfl) ?_
  refine tq (qN rfl rfl) ?_
  refine tq (qD rfl) ?_
  refine tq (qD rfl) ?_
  refine vB <| qC <| qV ?_
  refine kM (.inl rfl) rfl rfl rfl ?_
  have e311 : (false : Bool) = (qK s top c).1 := by (have t_ := xF (l := c.args) (by assumption) (by assumption); rw [t_] at hi2 hi3; have p0_ := kX hi3 hx301; rw [xL]; unfold jI; grind [yH])
  have e312 : (!top : Bool) = (qK s top c).2 := by (have t_ := xF (l := c.args) (by assumption) (by assumption); rw [t_] at hi2 hi3; have p0_ := kX hi3 hx301; rw [xL]; unfold jI; grind [yH])
  exact fun w hw => ⟨congrArg Ending.returned (yX (fun x0 x1 => Value.tuple #[.bool x0, .bool x1]) e311 e312), hw.drop 4⟩
  refine qZ 153 rfl rfl rfl ?_
  refine qZ 153 rfl rfl rfl ?_
  refine xU 151 rfl rfl ?_
  refine tq (qN rfl rfl) ?_
  refine tq (qN rfl rfl) ?_
  refine tq (qD rfl) ?_
  refine tq (qD rfl) ?_
  refine vB <| qC <| qV ?_
  refine kM (.inl rfl) rfl rfl rfl ?_
  have e313 : (false : Bool) = (qK s top c).1 := by (have t_ := xF (l := c.args) (by assumption) (by assumption); rw [t_] at hi2 hi3; have p0_ := kX hi3 hx301; rw [xL]; unfold jI; grind [yH])
  have e314 : (false : Bool) = (qK s top c).2 := by (have t_ := xF (l := c.args) (by assumption) (by assumption); rw [t_] at hi2 hi3; have p0_ := kX hi3 hx301; rw [xL]; unfold jI; grind [yH])
  exact fun w hw => ⟨congrArg Ending.returned (yX (fun x0 x1 => Value.tuple #[.bool x0, .bool x1]) e313 e314), hw.drop 4⟩
theorem wP {R : RO} {G : List Res} {w : World} {c_c : List Value} (c : Concept) {c_s : List Value} (s : Sig) (top : Bool) (hr_c : kConcept.rep R c c_c) (hr_s : kSig.rep R s c_s) (hwc : wfC c = true) (hw : Own w R (G)) :
    Calls Tryz.prog 30 [.agg c_c.toArray, .agg c_s.toArray, .bool top].toArray w (kK R G (.tuple #[.bool ((qK s top c).1), .bool ((qK s top c).2)])) := uL _ c s top hr_c hr_s hwc rfl hw

end Go.Proofs.YtcbcdlajnmkioaaGreatDoor
