/- A part of the proof of the statement ModuleShapes of isagogelaw19: functions walked, and plain laws on what they answer. -/
import Derived.Test.YtcbcdlajnmkioaaGreatDoorZ3
namespace Go.Proofs.YtcbcdlajnmkioaaGreatDoor
open Go Go.Proofs
set_option linter.unusedSimpArgs false
set_option linter.unusedVariables false
theorem ca31 : Callable Tryz.prog 31 := ⟨by kernel_rfl⟩
theorem ca64 : Callable Tryz.prog 64 := ⟨by kernel_rfl⟩
theorem ca65 : Callable Tryz.prog 65 := ⟨by kernel_rfl⟩
theorem sl74 : wJ Tryz.prog 74 = some (33, 2) := by kernel_rfl

set_option maxRecDepth 20000 in
set_option maxHeartbeats 8000000 in
theorem vQ {R : RO} {G : List Res} {w : World} (i : Int) (hi_i : i64 i) (hw : Own w R (G)) :
    Calls Tryz.prog 65 [.int .i64 i].toArray w (hY R G (fun v_ R' L_ => ∃ (cs_0 : List Value), v_ = (.agg cs_0.toArray : Value) ∧ L_ = ([] : List Res) ∧ kConcept.rep R' (Concept.mk 0 i []) cs_0)) := by
 unfold i64 at hi_i
 refine xG (vs := [.int .i64 i]) Tryz.func65 rfl rfl rfl ?_ hw
 refine qF <| qA ?_
 refine qT fD rfl fun b1 => ?_
 refine qB <| qC <| qF <| qA ?_
 refine tl (qG rfl) ?_
 have hs2 : SlAt kConcept R none ([] : List (Concept)) := SlAt.nil _ _ _
 refine xE ca64 rfl (fun w hw => sH 0 i ([] : List (Concept)) (by unfold i64; omega) (by unfold i64; omega) hs2 hw) rfl ?_
 rintro _ R4 _ hle5 ⟨cs_z3_0, rfl, rfl, hr_z3_0⟩
 obtain ⟨A6, d7, rfl, i8, i9, hs10⟩ := qM hr_z3_0
 unfold i64 at i8 i9
 have z11 := hs10.size
 unfold big at z11
 refine xM 0 [.int .i64 ((Concept.mk 0 i ([] : List (Concept))).op), .int .i64 ((Concept.mk 0 i ([] : List (Concept))).n), .slice A6 (((Concept.mk 0 i ([] : List (Concept))).args).length) d7] rfl rfl vS rfl rfl rfl rfl rfl rfl ?_
 refine qB <| qC <| qV ?_
 refine kT (cells := [.int .i64 ((Concept.mk 0 i ([] : List (Concept))).op), .int .i64 ((Concept.mk 0 i ([] : List (Concept))).n), .slice A6 (((Concept.mk 0 i ([] : List (Concept))).args).length) d7]) 0 (.inl rfl) rfl rfl vS rfl ?_
 have e12 : ((Concept.mk 0 i ([] : List (Concept))) : Concept) = Concept.mk 0 i [] := by rfl
 intro w hw
 exact ⟨_, _, [], rfl, hle5, hw.drop 1, ([.int .i64 ((Concept.mk 0 i ([] : List (Concept))).op), .int .i64 ((Concept.mk 0 i ([] : List (Concept))).n), .slice A6 (((Concept.mk 0 i ([] : List (Concept))).args).length) d7]), rfl, rfl, (Eq.mp (congrArg (fun z => kConcept.rep R4 z [.int .i64 ((Concept.mk 0 i ([] : List (Concept))).op), .int .i64 ((Concept.mk 0 i ([] : List (Concept))).n), .slice A6 (((Concept.mk 0 i ([] : List (Concept))).args).length) d7]) e12) hr_z3_0)⟩

def ltr (n : Nat) : ByteArray := ⟨#[n.toUInt8]⟩
def lettersB : Base := ⟨⟨[⟨#[65]⟩, ⟨#[66]⟩, ⟨#[67]⟩, ⟨#[68]⟩, ⟨#[69]⟩], [⟨#[114]⟩], []⟩, [⟨.mk 0 0 [], .mk 6 0 [.mk 0 1 []]⟩, ⟨.mk 0 1 [], .mk 0 2 []⟩, ⟨.mk 0 3 [], .mk 0 4 []⟩], [], [], []⟩

set_option maxRecDepth 20000 in
set_option maxHeartbeats 8000000 in
theorem yF {R : RO} {G : List Res} {w : World}  (hw : Own w R (G)) :
    Calls Tryz.prog 33 [].toArray w (hY R G (fun v_ R' L_ => ∃ (cs_0 : List Value), v_ = (.agg cs_0.toArray : Value) ∧ L_ = ([] : List Res) ∧ kBase.rep R' lettersB cs_0)) := by
 refine xG (vs := []) Tryz.func33 rfl rfl rfl ?_ hw
 refine qF <| qA ?_
 refine qT zc30 rfl fun b1 => ?_
 refine qB <| qC <| qF <| qA ?_
 refine jF [.string (⟨#[65]⟩), .string (⟨#[66]⟩), .string (⟨#[67]⟩), .string (⟨#[68]⟩), .string (⟨#[69]⟩)] ap22 rfl rfl rfl rfl rfl rfl rfl fun b2 => ?_
 refine jF [.string (⟨#[114]⟩)] ap22 rfl rfl rfl rfl rfl rfl rfl fun b3 => ?_
 refine tl (xO [.slice (some ⟨b2, 0, none⟩) 5 5, .slice (some ⟨b3, 0, none⟩) 1 1, .slice none 0 0] zc24 pl24 rfl rfl) ?_
 refine qT zc24 rfl fun b4 => ?_
 refine xM 0 [.slice (some ⟨b2, 0, none⟩) 5 5, .slice (some ⟨b3, 0, none⟩) 1 1, .slice none 0 0] rfl rfl uR rfl rfl rfl rfl rfl rfl ?_
 refine qB <| qC <| qF <| qA ?_
 refine xE ca65 rfl (fun w hw => vQ 1 (by unfold i64; omega) hw) rfl ?_
 rintro _ R6 _ hle7 ⟨cs_z5_0, rfl, rfl, hr_z5_0⟩
 obtain ⟨A8, d9, rfl, i10, i11, hs12⟩ := qM hr_z5_0
 unfold i64 at i10 i11
 have z13 := hs12.size
 unfold big at z13
 refine jF [.int .i64 ((Concept.mk 0 1 []).op), .int .i64 ((Concept.mk 0 1 []).n), .slice A8 (((Concept.mk 0 1 []).args).length) d9] ap35 rfl rfl rfl rfl rfl rfl rfl fun b14 => ?_
 refine zH (k := kConcept) (l := ([(Concept.mk 0 1 [])] : List (Concept))) 0 rfl (⟨_, _, rfl, hr_z5_0, rfl⟩) (by show 1 ≤ big; unfold big; omega) fun R16 hle17 hs15 => ?_
 have hle18 := hle7.trans hle17
 have z19 := hs15.size
 unfold big at z19
 refine xE ca64 rfl (fun w hw => sH 6 0 ([(Concept.mk 0 1 [])] : List (Concept)) (by unfold i64; omega) (by unfold i64; omega) hs15 hw) rfl ?_
 rintro _ R21 _ hle22 ⟨cs_z20_0, rfl, rfl, hr_z20_0⟩
 have hle23 := hle18.trans hle22
 have hle24 := hle17.trans hle22
 obtain ⟨A25, d26, rfl, i27, i28, hs29⟩ := qM hr_z20_0
 unfold i64 at i27 i28
 have z30 := hs29.size
 unfold big at z30
 refine qT fD rfl fun b31 => ?_
 refine xM 0 [.int .i64 ((Concept.mk 6 0 ([(Concept.mk 0 1 [])] : List (Concept))).op), .int .i64 ((Concept.mk 6 0 ([(Concept.mk 0 1 [])] : List (Concept))).n), .slice A25 (((Concept.mk 6 0 ([(Concept.mk 0 1 [])] : List (Concept))).args).length) d26] rfl rfl vS rfl rfl rfl rfl rfl rfl ?_
 refine qB <| qC <| qF ?_
 refine vW R21 (.blk b31 [.int .i64 ((Concept.mk 6 0 ([(Concept.mk 0 1 [])] : List (Concept))).op), .int .i64 ((Concept.mk 6 0 ([(Concept.mk 0 1 [])] : List (Concept))).n), .slice A25 (((Concept.mk 6 0 ([(Concept.mk 0 1 [])] : List (Concept))).args).length) d26] 37 :: .blk b4 [.slice (some ⟨b2, 0, none⟩) 5 5, .slice (some ⟨b3, 0, none⟩) 1 1, .slice none 0 0] 24 :: .blk b3 [.string (⟨#[114]⟩)] 9 :: .blk b2 [.string (⟨#[65]⟩), .string (⟨#[66]⟩), .string (⟨#[67]⟩), .string (⟨#[68]⟩), .string (⟨#[69]⟩)] 9 :: .blk b1 [.slice none 0 0, .slice none 0 0, .slice none 0 0, .slice none 0 0, .slice none 0 0, .slice none 0 0, .slice none 0 0] 30 :: G) 12 mixed ?_
 refine td 0 rfl (by kernel_rfl) (qQ 1 [.slice (some ⟨b2, 0, none⟩) 5 5, .slice (some ⟨b3, 0, none⟩) 1 1, .slice none 0 0] rfl uR rfl rfl) (fun w hw => hw) ?_
 refine td 2 rfl (by kernel_rfl) (qQ 0 [.int .i64 ((Concept.mk 6 0 ([(Concept.mk 0 1 [])] : List (Concept))).op), .int .i64 ((Concept.mk 6 0 ([(Concept.mk 0 1 [])] : List (Concept))).n), .slice A25 (((Concept.mk 6 0 ([(Concept.mk 0 1 [])] : List (Concept))).args).length) d26] rfl vS rfl rfl) (fun w hw => hw) ?_
 refine td1 1 (by kernel_rfl) rfl ?_
 refine xE ca65 rfl (fun w hw => vQ 0 (by unfold i64; omega) hw) rfl ?_
 rintro _ R33 _ hle34 ⟨cs_z32_0, rfl, rfl, hr_z32_0⟩
 try replace hr_z20_0 := kConcept.mono _ _ _ _ hle34 hr_z20_0
 have hle35 := hle23.trans hle34
 have hle36 := hle24.trans hle34
 have hle37 := hle22.trans hle34
 obtain ⟨A38, d39, rfl, i40, i41, hs42⟩ := qM hr_z32_0
 unfold i64 at i40 i41
 have z43 := hs42.size
 unfold big at z43
 refine qB ?_
 refine qW (fun w hw => (hw).weaken hle34) ?_
 refine td 3 rfl (by kernel_rfl) (xO [.int .i64 ((Concept.mk 0 0 []).op), .int .i64 ((Concept.mk 0 0 []).n), .slice A38 (((Concept.mk 0 0 []).args).length) d39, .int .i64 ((Concept.mk 6 0 ([(Concept.mk 0 1 [])] : List (Concept))).op), .int .i64 ((Concept.mk 6 0 ([(Concept.mk 0 1 [])] : List (Concept))).n), .slice A25 (((Concept.mk 6 0 ([(Concept.mk 0 1 [])] : List (Concept))).args).length) d26] zc92 pl92 rfl rfl) (fun w hw => (hw).weaken hle34) ?_
 refine td1 4 (by kernel_rfl) rfl ?_
 refine xE ca65 rfl (fun w hw => vQ 1 (by unfold i64; omega) hw) rfl ?_
 rintro _ R45 _ hle46 ⟨cs_z44_0, rfl, rfl, hr_z44_0⟩
 try replace hr_z20_0 := kConcept.mono _ _ _ _ hle46 hr_z20_0
 try replace hr_z32_0 := kConcept.mono _ _ _ _ hle46 hr_z32_0
 have hle47 := hle35.trans hle46
 have hle48 := hle36.trans hle46
 have hle49 := hle37.trans hle46
 have hle50 := hle34.trans hle46
 obtain ⟨A51, d52, rfl, i53, i54, hs55⟩ := qM hr_z44_0
 unfold i64 at i53 i54
 have z56 := hs55.size
 unfold big at z56
 refine qB ?_
 refine qW (fun w hw => (hw).weaken hle50) ?_
 refine td1 5 (by kernel_rfl) rfl ?_
 refine xE ca65 rfl (fun w hw => vQ 2 (by unfold i64; omega) hw) rfl ?_
 rintro _ R58 _ hle59 ⟨cs_z57_0, rfl, rfl, hr_z57_0⟩
 try replace hr_z20_0 := kConcept.mono _ _ _ _ hle59 hr_z20_0
 try replace hr_z32_0 := kConcept.mono _ _ _ _ hle59 hr_z32_0
 try replace hr_z44_0 := kConcept.mono _ _ _ _ hle59 hr_z44_0
 have hle60 := hle47.trans hle59
 have hle61 := hle48.trans hle59
 have hle62 := hle49.trans hle59
 have hle63 := hle50.trans hle59
 have hle64 := hle46.trans hle59
 obtain ⟨A65, d66, rfl, i67, i68, hs69⟩ := qM hr_z57_0
 unfold i64 at i67 i68
 have z70 := hs69.size
 unfold big at z70
 refine qB ?_
 refine qW (fun w hw => (hw).weaken hle63) ?_
 refine td 6 rfl (by kernel_rfl) (xO [.int .i64 ((Concept.mk 0 1 []).op), .int .i64 ((Concept.mk 0 1 []).n), .slice A51 (((Concept.mk 0 1 []).args).length) d52, .int .i64 ((Concept.mk 0 2 []).op), .int .i64 ((Concept.mk 0 2 []).n), .slice A65 (((Concept.mk 0 2 []).args).length) d66] zc92 pl92 rfl rfl) (fun w hw => (hw).weaken hle63) ?_
 refine td1 7 (by kernel_rfl) rfl ?_
 refine xE ca65 rfl (fun w hw => vQ 3 (by unfold i64; omega) hw) rfl ?_
 rintro _ R72 _ hle73 ⟨cs_z71_0, rfl, rfl, hr_z71_0⟩
 try replace hr_z20_0 := kConcept.mono _ _ _ _ hle73 hr_z20_0
 try replace hr_z32_0 := kConcept.mono _ _ _ _ hle73 hr_z32_0
 try replace hr_z44_0 := kConcept.mono _ _ _ _ hle73 hr_z44_0
 try replace hr_z57_0 := kConcept.mono _ _ _ _ hle73 hr_z57_0
 have hle74 := hle60.trans hle73
 have hle75 := hle61.trans hle73
 have hle76 := hle62.trans hle73
 have hle77 := hle63.trans hle73
 have hle78 := hle64.trans hle73
 have hle79 := hle59.trans hle73
 obtain ⟨A80, d81, rfl, i82, i83, hs84⟩ := qM hr_z71_0
 unfold i64 at i82 i83
 have z85 := hs84.size
 unfold big at z85
 refine qB ?_
 refine qW (fun w hw => (hw).weaken hle77) ?_
 refine td1 8 (by kernel_rfl) rfl ?_
 refine xE ca65 rfl (fun w hw => vQ 4 (by unfold i64; omega) hw) rfl ?_
 rintro _ R87 _ hle88 ⟨cs_z86_0, rfl, rfl, hr_z86_0⟩
 try replace hr_z20_0 := kConcept.mono _ _ _ _ hle88 hr_z20_0
 try replace hr_z32_0 := kConcept.mono _ _ _ _ hle88 hr_z32_0
 try replace hr_z44_0 := kConcept.mono _ _ _ _ hle88 hr_z44_0
 try replace hr_z57_0 := kConcept.mono _ _ _ _ hle88 hr_z57_0
 try replace hr_z71_0 := kConcept.mono _ _ _ _ hle88 hr_z71_0
 have hle89 := hle74.trans hle88
 have hle90 := hle75.trans hle88
 have hle91 := hle76.trans hle88
 have hle92 := hle77.trans hle88
 have hle93 := hle78.trans hle88
 have hle94 := hle79.trans hle88
 have hle95 := hle73.trans hle88
 obtain ⟨A96, d97, rfl, i98, i99, hs100⟩ := qM hr_z86_0
 unfold i64 at i98 i99
 have z101 := hs100.size
 unfold big at z101
 refine qB ?_
 refine qW (fun w hw => (hw).weaken hle92) ?_
 refine td 9 rfl (by kernel_rfl) (xO [.int .i64 ((Concept.mk 0 3 []).op), .int .i64 ((Concept.mk 0 3 []).n), .slice A80 (((Concept.mk 0 3 []).args).length) d81, .int .i64 ((Concept.mk 0 4 []).op), .int .i64 ((Concept.mk 0 4 []).n), .slice A96 (((Concept.mk 0 4 []).args).length) d97] zc92 pl92 rfl rfl) (fun w hw => (hw).weaken hle92) ?_
 refine td1 10 (by kernel_rfl) rfl ?_
 refine jF [.int .i64 ((Concept.mk 0 0 []).op), .int .i64 ((Concept.mk 0 0 []).n), .slice A38 (((Concept.mk 0 0 []).args).length) d39, .int .i64 ((Concept.mk 6 0 ([(Concept.mk 0 1 [])] : List (Concept))).op), .int .i64 ((Concept.mk 6 0 ([(Concept.mk 0 1 [])] : List (Concept))).n), .slice A25 (((Concept.mk 6 0 ([(Concept.mk 0 1 [])] : List (Concept))).args).length) d26, .int .i64 ((Concept.mk 0 1 []).op), .int .i64 ((Concept.mk 0 1 []).n), .slice A51 (((Concept.mk 0 1 []).args).length) d52, .int .i64 ((Concept.mk 0 2 []).op), .int .i64 ((Concept.mk 0 2 []).n), .slice A65 (((Concept.mk 0 2 []).args).length) d66, .int .i64 ((Concept.mk 0 3 []).op), .int .i64 ((Concept.mk 0 3 []).n), .slice A80 (((Concept.mk 0 3 []).args).length) d81, .int .i64 ((Concept.mk 0 4 []).op), .int .i64 ((Concept.mk 0 4 []).n), .slice A96 (((Concept.mk 0 4 []).args).length) d97] ap25 rfl rfl rfl rfl rfl rfl rfl fun b102 => ?_
 refine qB ?_
 refine qW (fun w hw => (hw.drop 1).weaken hle92) ?_
 refine td 11 rfl (by kernel_rfl) (xO [.slice (some ⟨b2, 0, none⟩) 5 5, .slice (some ⟨b3, 0, none⟩) 1 1, .slice none 0 0, .slice (some ⟨b102, 0, none⟩) 3 3, .slice none 0 0, .slice none 0 0, .slice none 0 0] zc30 pl30 rfl rfl) (fun w hw => (hw.drop 1).weaken hle92) ?_
 refine td1 12 (by kernel_rfl) rfl ?_
 refine xM 5 [.slice (some ⟨b2, 0, none⟩) 5 5, .slice (some ⟨b3, 0, none⟩) 1 1, .slice none 0 0, .slice (some ⟨b102, 0, none⟩) 3 3, .slice none 0 0, .slice none 0 0, .slice none 0 0] rfl rfl sZ rfl rfl rfl rfl rfl rfl ?_
 refine qB ?_
 refine xZ ?_
 refine xJ (by kernel_rfl) ?_
 refine qC <| qV ?_
 refine dI (k := kStr) (l := ([⟨#[65]⟩, ⟨#[66]⟩, ⟨#[67]⟩, ⟨#[68]⟩, ⟨#[69]⟩] : List (ByteArray))) 4 rfl (⟨_, _, rfl, ⟨rfl, by unfold big; decide⟩, ⟨_, _, rfl, ⟨rfl, by unfold big; decide⟩, ⟨_, _, rfl, ⟨rfl, by unfold big; decide⟩, ⟨_, _, rfl, ⟨rfl, by unfold big; decide⟩, ⟨_, _, rfl, ⟨rfl, by unfold big; decide⟩, rfl⟩⟩⟩⟩⟩) (by show 5 ≤ big; unfold big; omega) fun R104 hle105 hs103 => ?_
 try replace hr_z20_0 := kConcept.mono _ _ _ _ hle105 hr_z20_0
 try replace hr_z32_0 := kConcept.mono _ _ _ _ hle105 hr_z32_0
 try replace hr_z44_0 := kConcept.mono _ _ _ _ hle105 hr_z44_0
 try replace hr_z57_0 := kConcept.mono _ _ _ _ hle105 hr_z57_0
 try replace hr_z71_0 := kConcept.mono _ _ _ _ hle105 hr_z71_0
 try replace hr_z86_0 := kConcept.mono _ _ _ _ hle105 hr_z86_0
 have hle106 := hle89.trans hle105
 have hle107 := hle90.trans hle105
 have hle108 := hle91.trans hle105
 have hle109 := hle92.trans hle105
 have hle110 := hle93.trans hle105
 have hle111 := hle94.trans hle105
 have hle112 := hle95.trans hle105
 have hle113 := hle88.trans hle105
 have z114 := hs103.size
 unfold big at z114
 refine dI (k := kStr) (l := ([⟨#[114]⟩] : List (ByteArray))) 3 rfl (⟨_, _, rfl, ⟨rfl, by unfold big; decide⟩, rfl⟩) (by show 1 ≤ big; unfold big; omega) fun R116 hle117 hs115 => ?_
 try replace hr_z20_0 := kConcept.mono _ _ _ _ hle117 hr_z20_0
 try replace hr_z32_0 := kConcept.mono _ _ _ _ hle117 hr_z32_0
 try replace hr_z44_0 := kConcept.mono _ _ _ _ hle117 hr_z44_0
 try replace hr_z57_0 := kConcept.mono _ _ _ _ hle117 hr_z57_0
 try replace hr_z71_0 := kConcept.mono _ _ _ _ hle117 hr_z71_0
 try replace hr_z86_0 := kConcept.mono _ _ _ _ hle117 hr_z86_0
 try replace hs103 := hs103.mono hle117
 have hle118 := hle106.trans hle117
 have hle119 := hle107.trans hle117
 have hle120 := hle108.trans hle117
 have hle121 := hle109.trans hle117
 have hle122 := hle110.trans hle117
 have hle123 := hle111.trans hle117
 have hle124 := hle112.trans hle117
 have hle125 := hle113.trans hle117
 have hle126 := hle105.trans hle117
 have z127 := hs115.size
 unfold big at z127
 refine dI (k := kIncl) (l := ([(Incl.mk (Concept.mk 0 0 []) (Concept.mk 6 0 ([(Concept.mk 0 1 [])] : List (Concept)))), (Incl.mk (Concept.mk 0 1 []) (Concept.mk 0 2 [])), (Incl.mk (Concept.mk 0 3 []) (Concept.mk 0 4 []))] : List (Incl))) 0 rfl (⟨_, _, rfl, ⟨[.int .i64 ((Concept.mk 0 0 []).op), .int .i64 ((Concept.mk 0 0 []).n), .slice A38 (((Concept.mk 0 0 []).args).length) d39], [.int .i64 ((Concept.mk 6 0 ([(Concept.mk 0 1 [])] : List (Concept))).op), .int .i64 ((Concept.mk 6 0 ([(Concept.mk 0 1 [])] : List (Concept))).n), .slice A25 (((Concept.mk 6 0 ([(Concept.mk 0 1 [])] : List (Concept))).args).length) d26], rfl, hr_z32_0, hr_z20_0⟩, ⟨_, _, rfl, ⟨[.int .i64 ((Concept.mk 0 1 []).op), .int .i64 ((Concept.mk 0 1 []).n), .slice A51 (((Concept.mk 0 1 []).args).length) d52], [.int .i64 ((Concept.mk 0 2 []).op), .int .i64 ((Concept.mk 0 2 []).n), .slice A65 (((Concept.mk 0 2 []).args).length) d66], rfl, hr_z44_0, hr_z57_0⟩, ⟨_, _, rfl, ⟨[.int .i64 ((Concept.mk 0 3 []).op), .int .i64 ((Concept.mk 0 3 []).n), .slice A80 (((Concept.mk 0 3 []).args).length) d81], [.int .i64 ((Concept.mk 0 4 []).op), .int .i64 ((Concept.mk 0 4 []).n), .slice A96 (((Concept.mk 0 4 []).args).length) d97], rfl, hr_z71_0, hr_z86_0⟩, rfl⟩⟩⟩) (by show 3 ≤ big; unfold big; omega) fun R129 hle130 hs128 => ?_
 try replace hs103 := hs103.mono hle130
 try replace hs115 := hs115.mono hle130
 have hle131 := hle118.trans hle130
 have hle132 := hle119.trans hle130
 have hle133 := hle120.trans hle130
 have hle134 := hle121.trans hle130
 have hle135 := hle122.trans hle130
 have hle136 := hle123.trans hle130
 have hle137 := hle124.trans hle130
 have hle138 := hle125.trans hle130
 have hle139 := hle126.trans hle130
 have hle140 := hle117.trans hle130
 have z141 := hs128.size
 unfold big at z141
 refine kT (cells := [.slice (some ⟨b2, 0, none⟩) 5 5, .slice (some ⟨b3, 0, none⟩) 1 1, .slice none 0 0, .slice (some ⟨b102, 0, none⟩) 3 3, .slice none 0 0, .slice none 0 0, .slice none 0 0]) 2 (.inl rfl) rfl rfl sZ rfl ?_
 have e142 : ((Base.mk (Names.mk ([⟨#[65]⟩, ⟨#[66]⟩, ⟨#[67]⟩, ⟨#[68]⟩, ⟨#[69]⟩] : List (ByteArray)) ([⟨#[114]⟩] : List (ByteArray)) ([] : List (ByteArray))) ([(Incl.mk (Concept.mk 0 0 []) (Concept.mk 6 0 ([(Concept.mk 0 1 [])] : List (Concept)))), (Incl.mk (Concept.mk 0 1 []) (Concept.mk 0 2 [])), (Incl.mk (Concept.mk 0 3 []) (Concept.mk 0 4 []))] : List (Incl)) ([] : List (RoleIncl)) ([] : List (Fact)) ([] : List (Link))) : Base) = lettersB := by rfl
 intro w hw
 exact ⟨_, _, [], rfl, hle131, hw.drop 3, ([.slice (some ⟨b2, 0, none⟩) 5 5, .slice (some ⟨b3, 0, none⟩) 1 1, .slice none 0 0, .slice (some ⟨b102, 0, none⟩) 3 3, .slice none 0 0, .slice none 0 0, .slice none 0 0]), rfl, rfl, (Eq.mp (congrArg (fun z => kBase.rep R129 z [.slice (some ⟨b2, 0, none⟩) 5 5, .slice (some ⟨b3, 0, none⟩) 1 1, .slice none 0 0, .slice (some ⟨b102, 0, none⟩) 3 3, .slice none 0 0, .slice none 0 0, .slice none 0 0]) e142) ⟨[.slice (some ⟨b2, 0, none⟩) 5 5, .slice (some ⟨b3, 0, none⟩) 1 1, .slice none 0 0], _, _, _, _, _, _, _, _, rfl, ⟨_, _, _, _, _, _, rfl, hs103, hs115, (SlAt.nil _ _ _)⟩, hs128, (SlAt.nil _ _ _), (SlAt.nil _ _ _), (SlAt.nil _ _ _)⟩)⟩

def bZ (b : Base) (c : Concept) (l : List Sig) : Bool := decide ((∀ s ∈ l, s.concepts.length ≤ 100 ∧ s.roles.length ≤ 100) ∧ qF8 b 400 = true ∧ jT c ≤ 400)

set_option maxRecDepth 20000 in
set_option maxHeartbeats 8000000 in
theorem uP {R : RO} {G : List Res} {w : World} {c_b : List Value} (b : Base) {c_c : List Value} (c : Concept) {A_l : Option Addr} {d_l : Nat} (l : List (Sig)) (hr_b : kBase.rep R b c_b) (hr_c : kConcept.rep R c c_c) (hs_l : SlAt kSig R A_l l) (hw : Own w R (G)) :
    Calls Tryz.prog 7 [.agg c_b.toArray, .agg c_c.toArray, .slice A_l l.length d_l].toArray w (kK R G (.bool (bZ b c l))) := by
 obtain ⟨c1, A3, d4, A6, d7, A9, d10, A12, d13, rfl, hr2, hs5, hs8, hs11, hs14⟩ := id hr_b
 have z27 := hs5.size
 unfold big at z27
 have z28 := hs8.size
 unfold big at z28
 have z29 := hs11.size
 unfold big at z29
 have z30 := hs14.size
 unfold big at z30
 obtain ⟨A15, d16, A19, d20, A23, d24, rfl, hs17, hs21, hs25⟩ := id hr2
 have z18 := hs17.size
 unfold big at z18
 have z22 := hs21.size
 unfold big at z22
 have z26 := hs25.size
 unfold big at z26
 obtain ⟨A31, d32, rfl, i33, i34, hs35⟩ := qM hr_c
 unfold i64 at i33 i34
 have z36 := hs35.size
 unfold big at z36
 have hz_l := hs_l.size
 unfold big at hz_l
 refine xG (vs := [.agg #[.slice A15 b.names.concepts.length d16, .slice A19 b.names.roles.length d20, .slice A23 b.names.inds.length d24, .slice A3 b.incls.length d4, .slice A6 b.roles.length d7, .slice A9 b.facts.length d10, .slice A12 b.links.length d13], .agg #[.int .i64 c.op, .int .i64 c.n, .slice A31 c.args.length d32], .slice A_l l.length d_l]) Tryz.func7 rfl rfl rfl ?_ hw
 refine qF <| qA ?_
 refine qX (l := [.slice A15 b.names.concepts.length d16, .slice A19 b.names.roles.length d20, .slice A23 b.names.inds.length d24, .slice A3 b.incls.length d4, .slice A6 b.roles.length d7, .slice A9 b.facts.length d10, .slice A12 b.links.length d13]) rfl rfl fun b37 => ?_
 refine qX (l := [.int .i64 c.op, .int .i64 c.n, .slice A31 c.args.length d32]) rfl rfl fun b38 => ?_
 refine tl (qD rfl) ?_
 refine qB <| qC <| qF <| qF <| qA ?_
 refine tl (qG rfl) ?_
 refine tl (jM rfl sl74) ?_
 refine tl (qG rfl) ?_
 refine qB <| qC <| xB ?_
 refine jL ?_
 refine jS (fun i : Nat => l.length - i) (fun i : Nat => [(3, .pointer (some ⟨b37, 0, none⟩)), (4, .pointer (some ⟨b38, 0, none⟩)), (9, .slice A_l l.length d_l), (10, .int .i64 (l.length : Int)), (11, .int .i64 (i : Int))]) (fun i : Nat => (.blk b38 [.int .i64 c.op, .int .i64 c.n, .slice A31 c.args.length d32] 37 :: .blk b37 [.slice A15 b.names.concepts.length d16, .slice A19 b.names.roles.length d20, .slice A23 b.names.inds.length d24, .slice A3 b.incls.length d4, .slice A6 b.roles.length d7, .slice A9 b.facts.length d10, .slice A12 b.links.length d13] 30 :: G)) (fun (i : Nat) => i ≤ l.length ∧ ∀ s ∈ l.take i, s.concepts.length ≤ 100 ∧ s.roles.length ≤ 100) (0) (by repeat' constructor) (by exact ⟨by omega, by simp⟩) (fun w hw => hw) ?_
 rintro i hI39 ih40
 show TC Tryz.prog _ _ _ [] [(3, .pointer (some ⟨b37, 0, none⟩)), (4, .pointer (some ⟨b38, 0, none⟩)), (9, .slice A_l l.length d_l), (10, .int .i64 (l.length : Int)), (11, .int .i64 (i : Int))] R (.blk b38 [.int .i64 c.op, .int .i64 c.n, .slice A31 c.args.length d32] 37 :: .blk b37 [.slice A15 b.names.concepts.length d16, .slice A19 b.names.roles.length d20, .slice A23 b.names.inds.length d24, .slice A3 b.incls.length d4, .slice A6 b.roles.length d7, .slice A9 b.facts.length d10, .slice A12 b.links.length d13] 30 :: G)
 obtain ⟨hi1, hi2⟩ := hI39
 refine qF <| qA ?_
 refine tl (jQ rfl rfl rfl) ?_
 refine qB <| qC <| qF ?_
 refine qR 12 rfl (fun h43 => ?_) (fun h43 => ?_)
 refine xD rfl ?_
 refine xA <| qC <| qF <| xB <| qF <| qA ?_
 have hb49 : i < l.length := by omega
 obtain ⟨x44, hx45⟩ : ∃ x, l[i]? = some x := ⟨_, List.getElem?_eq_getElem hb49⟩
 obtain ⟨c46, hr47, ha48⟩ := hs_l.get _ x44 hx45
 obtain ⟨A50, d51, A54, d55, rfl, hs52, hs56⟩ := id hr47
 have z53 := hs52.size
 unfold big at z53
 have z57 := hs56.size
 unfold big at z57
 refine tl (kC (i := i) hs_l rfl rfl rfl sl74 hb49) ?_
 refine tl (jD 0 [.slice A50 x44.concepts.length d51, .slice A54 x44.roles.length d55] ha48 rfl yO rfl rfl) ?_
 refine qT tA rfl fun b58 => ?_
 refine xM 0 [.slice A50 x44.concepts.length d51, .slice A54 x44.roles.length d55] rfl rfl yO rfl rfl rfl rfl rfl rfl ?_
 refine qB <| qC ?_
 refine kN [(3, .pointer (some ⟨b37, 0, none⟩)), (4, .pointer (some ⟨b38, 0, none⟩)), (9, .slice A_l l.length d_l), (10, .int .i64 (l.length : Int)), (11, .int .i64 (i : Int)), (12, .bool true), (8, .pointer (some ⟨b58, 0, none⟩)), (24, .bool (decide ((100 < (x44.concepts.length : Int)) ∨ (100 < (x44.roles.length : Int)))))] (.blk b58 [.slice A50 x44.concepts.length d51, .slice A54 x44.roles.length d55] 33 :: .blk b38 [.int .i64 c.op, .int .i64 c.n, .slice A31 c.args.length d32] 37 :: .blk b37 [.slice A15 b.names.concepts.length d16, .slice A19 b.names.roles.length d20, .slice A23 b.names.inds.length d24, .slice A3 b.incls.length d4, .slice A6 b.roles.length d7, .slice A9 b.facts.length d10, .slice A12 b.links.length d13] 30 :: G) (fun _ => True) (fun K hK59 hE60 => ?_) ?_
 refine qA ?_
 refine tl (qH 0 rfl aF rfl) ?_
 refine tl (jN 0 rfl cI rfl rfl) ?_
 refine tl (jM rfl pY) ?_
 refine tl (jQ rfl rfl rfl) ?_
 refine tl (qG rfl) ?_
 refine xR 19 rfl (fun h61 => ?_) (fun h61 => ?_)
 refine qE 19 rfl rfl rfl ?_
 refine qE 19 rfl rfl rfl ?_
 refine qE 19 rfl rfl rfl ?_
 refine qE 19 rfl rfl rfl ?_
 refine tl (qP rfl rfl) ?_
 refine qB ?_
 exact xK hK59 (.refl _) (trivial) ⟨rfl, rfl, rfl, rfl, rfl, rfl, rfl, show some (Value.bool true) = some (Value.bool (decide ((100 < (x44.concepts.length : Int)) ∨ (100 < (x44.roles.length : Int))))) by first | (simp [h61]; done) | grind | (simp [h61] <;> omega), trivial⟩ (fun w hw => hw)
 refine qJ 19 rfl rfl ?_
 refine tl (qH 1 rfl gF rfl) ?_
 refine qJ 19 rfl rfl ?_
 refine tl (jN 0 rfl cI rfl rfl) ?_
 refine qJ 19 rfl rfl ?_
 refine tl (jM rfl pY) ?_
 refine qJ 19 rfl rfl ?_
 refine tl (jQ rfl rfl rfl) ?_
 refine tl (qN rfl rfl) ?_
 refine qB ?_
 exact xK hK59 (.refl _) (trivial) ⟨rfl, rfl, rfl, rfl, rfl, rfl, rfl, show some (Value.bool (decide (100 < (x44.roles.length : Int)))) = some (Value.bool (decide ((100 < (x44.concepts.length : Int)) ∨ (100 < (x44.roles.length : Int))))) by first | (simp [h61]; done) | grind | (simp [h61] <;> omega), trivial⟩ (fun w hw => hw)
 refine fun R63 hle64 hj62 => jC hle64 ?_
 refine qR 24 rfl (fun h65 => ?_) (fun h65 => ?_)
 refine xD rfl ?_
 refine qF <| qA ?_
 refine tl (qD rfl) ?_
 refine qB <| qC <| qV <| qO <| qI <| qI <| qO <| qI ?_
 refine xC (.inl rfl) rfl rfl ?_
 have e66 : (false : Bool) = bZ b c l := by (rw [eq_comm]; unfold bZ; rw [decide_eq_false_iff_not]; rintro ⟨h_, -⟩; have h2_ := h_ _ (List.mem_of_getElem? hx45); omega)
 exact fun w hw => ⟨congrArg Ending.returned (congrArg (fun x0 => Value.bool x0) e66), hw.drop 3⟩
 refine xW rfl ?_
 refine xA <| jG <| qC <| qA ?_
 refine tl (kF rfl rfl (by omega) (by omega)) ?_
 refine tl (qG rfl) ?_
 refine qB ?_
 refine xY ?_
 exact fun a w ha hw => ih40.out (i + 1) (by exact ⟨by omega, vV hi2 hx45 (by omega)⟩) (by (try dsimp only); omega) a w (ha.sub (xS (by repeat' constructor))) (hw.drop 1)
 refine xW rfl ?_
 refine jK <| qL <| qL <| xI <| qC ?_
 refine kN [(9, .slice A_l l.length d_l), (10, .int .i64 (l.length : Int)), (11, .int .i64 (i : Int)), (12, .bool false), (6, .bool (decide (((qF8 b 400) = true) ∧ ((jT c : Int) ≤ 400))))] (.blk b38 [.int .i64 c.op, .int .i64 c.n, .slice A31 c.args.length d32] 37 :: .blk b37 [.slice A15 b.names.concepts.length d16, .slice A19 b.names.roles.length d20, .slice A23 b.names.inds.length d24, .slice A3 b.incls.length d4, .slice A6 b.roles.length d7, .slice A9 b.facts.length d10, .slice A12 b.links.length d13] 30 :: G) (fun _ => True) (fun K hK67 hE68 => ?_) ?_
 refine qA ?_
 refine tl (qQ 1 [.slice A15 b.names.concepts.length d16, .slice A19 b.names.roles.length d20, .slice A23 b.names.inds.length d24, .slice A3 b.incls.length d4, .slice A6 b.roles.length d7, .slice A9 b.facts.length d10, .slice A12 b.links.length d13] rfl sZ rfl rfl) ?_
 refine qY ca31 rfl (fun w hw => bN b 400 hr_b (by unfold i64; omega) (by first | assumption | omega) hw) rfl ?_
 refine tl (qG rfl) ?_
 refine kB 28 rfl (fun h69 => ?_) (fun h69 => ?_)
 refine qJ 28 rfl rfl ?_
 refine tl (qQ 0 [.int .i64 c.op, .int .i64 c.n, .slice A31 c.args.length d32] rfl vS rfl rfl) ?_
 refine qJ 28 rfl rfl ?_
 refine qY ca32 rfl (fun w hw => zC c 400 hr_c (by unfold i64; omega) (by first | assumption | omega) hw) rfl ?_
 refine tl (qP rfl rfl) ?_
 refine tl (qD rfl) ?_
 refine qB ?_
 exact xK hK67 (.refl _) (trivial) ⟨rfl, rfl, rfl, rfl, show some (Value.bool (decide ((jT c : Int) ≤ 400))) = some (Value.bool (decide (((qF8 b 400) = true) ∧ ((jT c : Int) ≤ 400)))) by first | (simp [h69]; done) | grind | (simp [h69] <;> omega), trivial⟩ (fun w hw => hw)
 refine qE 28 rfl rfl rfl ?_
 refine qE 28 rfl rfl rfl ?_
 refine tl (qN rfl rfl) ?_
 refine tl (qD rfl) ?_
 refine qB ?_
 exact xK hK67 (.refl _) (trivial) ⟨rfl, rfl, rfl, rfl, show some (Value.bool false) = some (Value.bool (decide (((qF8 b 400) = true) ∧ ((jT c : Int) ≤ 400)))) by first | (simp [h69]; done) | grind | (simp [h69] <;> omega), trivial⟩ (fun w hw => hw)
 refine fun R71 hle72 hj70 => jC hle72 ?_
 refine qV ?_
 refine xC (.inl rfl) rfl rfl ?_
 have e73 : (decide (((qF8 b 400) = true) ∧ ((jT c : Int) ≤ 400)) : Bool) = bZ b c l := by (rw [xF (l := l) (by assumption) (by assumption)] at hi2; rw [Bool.eq_iff_iff]; unfold bZ; rw [decide_eq_true_eq]; grind)
 exact fun w hw => ⟨congrArg Ending.returned (congrArg (fun x0 => Value.bool x0) e73), hw.drop 2⟩

end Go.Proofs.YtcbcdlajnmkioaaGreatDoor

namespace Go.Proofs.YtcbcdlajnmkioaaGreatDoor
open Go Go.Proofs
set_option linter.unusedSimpArgs false
set_option linter.unusedVariables false
theorem ca19 : Callable Tryz.prog 19 := ⟨by kernel_rfl⟩
theorem ca22 : Callable Tryz.prog 22 := ⟨by kernel_rfl⟩
theorem ca33 : Callable Tryz.prog 33 := ⟨by kernel_rfl⟩
theorem ca9 : Callable Tryz.prog 9 := ⟨by kernel_rfl⟩

def sA : Sig := ⟨[0], []⟩
def topB : Base := ⟨⟨[⟨#[116, 111, 112]⟩], [], []⟩, [], [], [], []⟩
theorem dX : vK lettersB = true := by decide +kernel
theorem topB_no : ¬ vK topB = true := by decide +kernel
theorem aw4 : xV (Base.mk (Names.mk [⟨#[116, 111, 112]⟩] [] []) [] [] [] []) [] = (⟨[], []⟩, 20) := uD topB_no
theorem aw3 : jZ lettersB 2 (Sig.mk [0] []) 0 = (true, 0) := by
  rw [cV dX (by decide +kernel)]
  exact Prod.ext (by decide +kernel) rfl
theorem lt_up : allL lettersB = [0, 1, 2] := by decide +kernel
theorem qL8 : aJ lettersB [0, 1, 2] sA false = [0, 1] := by
  have h0 : modP lettersB [0, 1, 2] sA false 0 := fT (o := []) (t := sA) (by simp) (by simp) (fU _) (by decide +kernel)
  have h1 : modP lettersB [0, 1, 2] sA false 1 := fT (o := [0]) (t := jX lettersB [0] sA) (by simpa using h0) (by simp) (fU _) (by decide +kernel)
  refine (qI4 (by decide +kernel) (by decide +kernel) ?_ (by unfold dK; decide +kernel)).symm
  intro x hx
  simp only [List.mem_cons, List.not_mem_nil, or_false] at hx
  rcases hx with rfl | rfl
  · exact ⟨by simp, h0⟩
  · exact ⟨by simp, h1⟩
theorem aw_top : aJ lettersB [0, 1] sA true = [] := (qI4 (by decide +kernel) List.Pairwise.nil (by simp) (by unfold dK; decide +kernel)).symm
theorem qB9 (s : Sig) (top : Bool) : aJ lettersB [] s top = [] := by classical rfl
theorem aw1 : vM lettersB (Sig.mk [0] []) 0 = ([0, 1], 0) := by
  show vM lettersB sA 0 = _
  rw [zU dX (by decide +kernel)]
  unfold bP
  rw [if_pos (by omega), lt_up, ← qL8]; rfl
theorem aw2 : vM lettersB (Sig.mk [0] []) 2 = ([], 0) := by
  show vM lettersB sA 2 = _
  rw [zU dX (by decide +kernel)]
  unfold bP
  rw [if_neg (by omega), lt_up, ← dM (by omega) (by rw [qL8]; decide), qL8, ← dM (by omega) (by rw [show (!false) = true from rfl, aw_top]; decide), show (!false) = true from rfl, aw_top, ← fX (by omega) (qB9 _ _), qB9, ← fX (by omega) (qB9 _ _), qB9, nZ (by omega)]

set_option maxRecDepth 20000 in
set_option maxHeartbeats 8000000 in
theorem vL {R : RO} {G : List Res} {w : World} (hG : Glob R) (hw : Own w R (G)) :
    Calls Tryz.prog 8 [].toArray w (kK R G (.bool true)) := by
 have aw1_ := aw1
 have aw2_ := aw2
 have aw3_ := aw3
 have aw4_ := aw4
 refine xG (vs := []) Tryz.func8 rfl rfl rfl ?_ hw
 refine qF <| qA ?_
 refine tl (qD rfl) ?_
 refine qB <| qC <| qF <| qA ?_
 refine jF [.int .i64 0] zV rfl rfl rfl rfl rfl rfl rfl fun b1 => ?_
 refine zH (k := kInt) (l := [0]) 0 rfl (⟨_, _, rfl, ⟨rfl, by unfold i64; omega⟩, rfl⟩) (by show 1 ≤ big; unfold big; omega) fun R2 hle3 hs4 => ?_
 try replace hG := hG.mono hle3
 have z5 := hs4.size
 unfold big at z5
 refine tl (xO [.slice (some ⟨b1, 0, none⟩) 1 1, .slice none 0 0] tA lN rfl rfl) ?_
 refine qT tA rfl fun b6 => ?_
 refine xM 0 [.slice (some ⟨b1, 0, none⟩) 1 1, .slice none 0 0] rfl rfl yO rfl rfl rfl rfl rfl rfl ?_
 refine qB <| qC <| qF ?_
 refine vW R2 (.blk b6 [.slice (some ⟨b1, 0, none⟩) 1 1, .slice none 0 0] 33 :: G) 8 mixed ?_
 refine td 1 rfl (by kernel_rfl) (qQ 0 [.slice (some ⟨b1, 0, none⟩) 1 1, .slice none 0 0] rfl yO rfl rfl) (fun w hw => hw) ?_
 refine td1 0 (by kernel_rfl) rfl ?_
 refine xE ca33 rfl (fun w hw => yF  hw) rfl ?_
 rintro _ R8 _ hle9 ⟨cs_z7_0, rfl, rfl, hr_z7_0⟩
 try replace hG := hG.mono hle9
 try replace hs4 := hs4.mono hle9
 have hle10 := hle3.trans hle9
 obtain ⟨c11, A13, d14, A16, d17, A19, d20, A22, d23, rfl, hr12, hs15, hs18, hs21, hs24⟩ := id hr_z7_0
 have z37 := hs15.size
 unfold big at z37
 have z38 := hs18.size
 unfold big at z38
 have z39 := hs21.size
 unfold big at z39
 have z40 := hs24.size
 unfold big at z40
 obtain ⟨A25, d26, A29, d30, A33, d34, rfl, hs27, hs31, hs35⟩ := id hr12
 have z28 := hs27.size
 unfold big at z28
 have z32 := hs31.size
 unfold big at z32
 have z36 := hs35.size
 unfold big at z36
 refine qB ?_
 refine qW (fun w hw => (hw).weaken hle9) ?_
 refine td1 2 (by kernel_rfl) rfl ?_
 refine xE ca9 rfl (fun w hw => uH lettersB (Sig.mk ([0]) ([] : List (Int))) 0 hr_z7_0 ⟨_, _, _, _, rfl, hs4, (SlAt.nil _ _ _)⟩ (by unfold i64; omega) (by first | assumption | decide) (by first | assumption | decide) hw) rfl ?_
 rintro _ R42 _ hle43 ⟨A_z41_0, d_z41_0, rfl, rfl, hs_z41_0⟩
 try replace hG := hG.mono hle43
 try replace hs4 := hs4.mono hle43
 have hle44 := hle10.trans hle43
 have hle45 := hle9.trans hle43
 have z46 := hs_z41_0.size
 unfold big at z46
 refine qB ?_
 refine qW (fun w hw => (hw).weaken hle45) ?_
 refine td 3 rfl (by kernel_rfl) (qG rfl) (fun w hw => (hw).weaken hle45) ?_
 refine td 4 rfl (by kernel_rfl) (jE rfl rfl) (fun w hw => (hw).weaken hle45) ?_
 refine td 5 rfl (by kernel_rfl) (jE rfl rfl) (fun w hw => (hw).weaken hle45) ?_
 refine td 6 rfl (by kernel_rfl) (qD rfl) (fun w hw => (hw).weaken hle45) ?_
 refine td 7 rfl (by kernel_rfl) (qD rfl) (fun w hw => (hw).weaken hle45) ?_
 refine xJ (by kernel_rfl) ?_
 refine qC <| qF ?_
 refine vW R42 (.blk b6 [.slice (some ⟨b1, 0, none⟩) 1 1, .slice none 0 0] 33 :: G) 8 mixed ?_
 refine td 1 rfl (by kernel_rfl) (qQ 0 [.slice (some ⟨b1, 0, none⟩) 1 1, .slice none 0 0] rfl yO rfl rfl) (fun w hw => hw) ?_
 refine td1 0 (by kernel_rfl) rfl ?_
 refine xE ca33 rfl (fun w hw => yF  hw) rfl ?_
 rintro _ R48 _ hle49 ⟨cs_z47_0, rfl, rfl, hr_z47_0⟩
 try replace hG := hG.mono hle49
 try replace hs4 := hs4.mono hle49
 try replace hs_z41_0 := hs_z41_0.mono hle49
 have hle50 := hle44.trans hle49
 have hle51 := hle45.trans hle49
 have hle52 := hle43.trans hle49
 obtain ⟨c53, A55, d56, A58, d59, A61, d62, A64, d65, rfl, hr54, hs57, hs60, hs63, hs66⟩ := id hr_z47_0
 have z79 := hs57.size
 unfold big at z79
 have z80 := hs60.size
 unfold big at z80
 have z81 := hs63.size
 unfold big at z81
 have z82 := hs66.size
 unfold big at z82
 obtain ⟨A67, d68, A71, d72, A75, d76, rfl, hs69, hs73, hs77⟩ := id hr54
 have z70 := hs69.size
 unfold big at z70
 have z74 := hs73.size
 unfold big at z74
 have z78 := hs77.size
 unfold big at z78
 refine qB ?_
 refine qW (fun w hw => (hw).weaken hle49) ?_
 refine td1 2 (by kernel_rfl) rfl ?_
 refine xE ca9 rfl (fun w hw => uH lettersB (Sig.mk ([0]) ([] : List (Int))) 2 hr_z47_0 ⟨_, _, _, _, rfl, hs4, (SlAt.nil _ _ _)⟩ (by unfold i64; omega) (by first | assumption | decide) (by first | assumption | decide) hw) rfl ?_
 rintro _ R84 _ hle85 ⟨A_z83_0, d_z83_0, rfl, rfl, hs_z83_0⟩
 try replace hG := hG.mono hle85
 try replace hs4 := hs4.mono hle85
 try replace hs_z41_0 := hs_z41_0.mono hle85
 have hle86 := hle50.trans hle85
 have hle87 := hle51.trans hle85
 have hle88 := hle52.trans hle85
 have hle89 := hle49.trans hle85
 have z90 := hs_z83_0.size
 unfold big at z90
 refine qB ?_
 refine qW (fun w hw => (hw).weaken hle89) ?_
 refine td 3 rfl (by kernel_rfl) (qG rfl) (fun w hw => (hw).weaken hle89) ?_
 refine td 4 rfl (by kernel_rfl) (jE rfl rfl) (fun w hw => (hw).weaken hle89) ?_
 refine td 5 rfl (by kernel_rfl) (jE rfl rfl) (fun w hw => (hw).weaken hle89) ?_
 refine td 6 rfl (by kernel_rfl) (qD rfl) (fun w hw => (hw).weaken hle89) ?_
 refine td 7 rfl (by kernel_rfl) (qD rfl) (fun w hw => (hw).weaken hle89) ?_
 refine xJ (by kernel_rfl) ?_
 refine qC <| qF ?_
 refine vW R84 (.blk b6 [.slice (some ⟨b1, 0, none⟩) 1 1, .slice none 0 0] 33 :: G) 8 mixed ?_
 refine td 1 rfl (by kernel_rfl) (qQ 0 [.slice (some ⟨b1, 0, none⟩) 1 1, .slice none 0 0] rfl yO rfl rfl) (fun w hw => hw) ?_
 refine td1 0 (by kernel_rfl) rfl ?_
 refine xE ca33 rfl (fun w hw => yF  hw) rfl ?_
 rintro _ R92 _ hle93 ⟨cs_z91_0, rfl, rfl, hr_z91_0⟩
 try replace hG := hG.mono hle93
 try replace hs4 := hs4.mono hle93
 try replace hs_z41_0 := hs_z41_0.mono hle93
 have hle94 := hle86.trans hle93
 have hle95 := hle87.trans hle93
 have hle96 := hle88.trans hle93
 have hle97 := hle89.trans hle93
 have hle98 := hle85.trans hle93
 obtain ⟨c99, A101, d102, A104, d105, A107, d108, A110, d111, rfl, hr100, hs103, hs106, hs109, hs112⟩ := id hr_z91_0
 have z125 := hs103.size
 unfold big at z125
 have z126 := hs106.size
 unfold big at z126
 have z127 := hs109.size
 unfold big at z127
 have z128 := hs112.size
 unfold big at z128
 obtain ⟨A113, d114, A117, d118, A121, d122, rfl, hs115, hs119, hs123⟩ := id hr100
 have z116 := hs115.size
 unfold big at z116
 have z120 := hs119.size
 unfold big at z120
 have z124 := hs123.size
 unfold big at z124
 refine qB ?_
 refine qW (fun w hw => (hw).weaken hle93) ?_
 refine td1 2 (by kernel_rfl) rfl ?_
 refine qY ca19 rfl (fun w hw => aQ lettersB 2 (Sig.mk ([0]) ([] : List (Int))) 0 hr_z91_0 (by unfold i64; omega) ⟨_, _, _, _, rfl, hs4, (SlAt.nil _ _ _)⟩ (by unfold i64; omega) (by first | assumption | decide) (by first | assumption | decide) hw) rfl ?_
 refine qB ?_
 refine qW (fun w hw => (hw).weaken hle93) ?_
 refine td 3 rfl (by kernel_rfl) (qG rfl) (fun w hw => (hw).weaken hle93) ?_
 refine td 4 rfl (by kernel_rfl) (jE rfl rfl) (fun w hw => (hw).weaken hle93) ?_
 refine td 5 rfl (by kernel_rfl) (jE rfl rfl) (fun w hw => (hw).weaken hle93) ?_
 refine td 6 rfl (by kernel_rfl) (qD rfl) (fun w hw => (hw).weaken hle93) ?_
 refine td 7 rfl (by kernel_rfl) (qD rfl) (fun w hw => (hw).weaken hle93) ?_
 refine xJ (by kernel_rfl) ?_
 refine qC <| qF <| qA ?_
 refine jF [.string (⟨#[116, 111, 112]⟩)] ap22 rfl rfl rfl rfl rfl rfl rfl fun b129 => ?_
 refine tl (xO [.slice (some ⟨b129, 0, none⟩) 1 1, .slice none 0 0, .slice none 0 0] zc24 pl24 rfl rfl) ?_
 refine tl (xO [.slice (some ⟨b129, 0, none⟩) 1 1, .slice none 0 0, .slice none 0 0, .slice none 0 0, .slice none 0 0, .slice none 0 0, .slice none 0 0] zc30 pl30 rfl rfl) ?_
 refine zH (k := kStr) (l := ([⟨#[116, 111, 112]⟩] : List (ByteArray))) 0 rfl (⟨_, _, rfl, ⟨rfl, by unfold big; decide⟩, rfl⟩) (by show 1 ≤ big; unfold big; omega) fun R131 hle132 hs130 => ?_
 try replace hG := hG.mono hle132
 try replace hs_z41_0 := hs_z41_0.mono hle132
 have hle133 := hle94.trans hle132
 have hle134 := hle95.trans hle132
 have hle135 := hle96.trans hle132
 have hle136 := hle97.trans hle132
 have hle137 := hle98.trans hle132
 have hle138 := hle93.trans hle132
 have z139 := hs130.size
 unfold big at z139
 have hs140 : SlAt kInt R131 none ([] : List (Int)) := SlAt.nil _ _ _
 refine xE ca22 rfl (fun w hw => aR (Base.mk (Names.mk ([⟨#[116, 111, 112]⟩] : List (ByteArray)) ([] : List (ByteArray)) ([] : List (ByteArray))) ([] : List (Incl)) ([] : List (RoleIncl)) ([] : List (Fact)) ([] : List (Link))) ([] : List (Int)) ⟨[.slice (some ⟨b129, 0, none⟩) 1 1, .slice none 0 0, .slice none 0 0], _, _, _, _, _, _, _, _, rfl, ⟨_, _, _, _, _, _, rfl, hs130, (SlAt.nil _ _ _), (SlAt.nil _ _ _)⟩, (SlAt.nil _ _ _), (SlAt.nil _ _ _), (SlAt.nil _ _ _), (SlAt.nil _ _ _)⟩ hs140 (by first | assumption | omega) hw) rfl ?_
 rintro _ R142 _ hle143 ⟨cs_z141_0, rfl, rfl, hr_z141_0⟩
 try replace hG := hG.mono hle143
 try replace hs_z41_0 := hs_z41_0.mono hle143
 have hle144 := hle133.trans hle143
 have hle145 := hle134.trans hle143
 have hle146 := hle135.trans hle143
 have hle147 := hle136.trans hle143
 have hle148 := hle137.trans hle143
 have hle149 := hle138.trans hle143
 have hle150 := hle132.trans hle143
 obtain ⟨A151, d152, A155, d156, rfl, hs153, hs157⟩ := id hr_z141_0
 have z154 := hs153.size
 unfold big at z154
 have z158 := hs157.size
 unfold big at z158
 refine tl (qG rfl) ?_
 refine tl (jE rfl rfl) ?_
 refine tl (jE rfl rfl) ?_
 refine qT tA rfl fun b159 => ?_
 refine xM 0 [.slice A151 ((((xV (Base.mk (Names.mk ([⟨#[116, 111, 112]⟩] : List (ByteArray)) ([] : List (ByteArray)) ([] : List (ByteArray))) ([] : List (Incl)) ([] : List (RoleIncl)) ([] : List (Fact)) ([] : List (Link))) ([] : List (Int))).1).concepts).length) d152, .slice A155 ((((xV (Base.mk (Names.mk ([⟨#[116, 111, 112]⟩] : List (ByteArray)) ([] : List (ByteArray)) ([] : List (ByteArray))) ([] : List (Incl)) ([] : List (RoleIncl)) ([] : List (Fact)) ([] : List (Link))) ([] : List (Int))).1).roles).length) d156] rfl rfl yO rfl rfl rfl rfl rfl rfl ?_
 refine tl (qD rfl) ?_
 refine qB <| qC <| qF <| qA ?_
 refine tl (qG rfl) ?_
 refine tl (jQ rfl rfl rfl) ?_
 refine tl (qG rfl) ?_
 refine xR 39 rfl (fun h160 => ?_) (fun h160 => ?_)
 refine qJ 39 rfl rfl ?_
 refine tl (qG rfl) ?_
 refine qJ 39 rfl rfl ?_
 refine jF [.int .i64 0, .int .i64 1] zV rfl rfl rfl rfl rfl rfl rfl fun b161 => ?_
 refine qJ 39 rfl rfl ?_
 refine zH (k := kInt) (l := ([0, 1] : List (Int))) 0 rfl (⟨_, _, rfl, ⟨rfl, by unfold i64; omega⟩, ⟨_, _, rfl, ⟨rfl, by unfold i64; omega⟩, rfl⟩⟩) (by show 2 ≤ big; unfold big; omega) fun R163 hle164 hs162 => ?_
 try replace hG := hG.mono hle164
 try replace hs_z41_0 := hs_z41_0.mono hle164
 have hle165 := hle144.trans hle164
 have hle166 := hle145.trans hle164
 have hle167 := hle146.trans hle164
 have hle168 := hle147.trans hle164
 have hle169 := hle148.trans hle164
 have hle170 := hle149.trans hle164
 have hle171 := hle150.trans hle164
 have hle172 := hle143.trans hle164
 have z173 := hs162.size
 unfold big at z173
 refine qY ca12 rfl (fun w hw => wU ((vM lettersB (Sig.mk ([0]) ([] : List (Int))) 0).1) ([0, 1] : List (Int)) hs_z41_0 hs162 hw) rfl ?_
 refine tl (qP rfl rfl) ?_
 refine tl (qG rfl) ?_
 refine xR 44 rfl (fun h174 => ?_) (fun h174 => ?_)
 refine qJ 44 rfl rfl ?_
 refine tl (qG rfl) ?_
 refine qJ 44 rfl rfl ?_
 refine tl (jQ rfl rfl rfl) ?_
 refine tl (qP rfl rfl) ?_
 refine tl (qG rfl) ?_
 refine xR 48 rfl (fun h175 => ?_) (fun h175 => ?_)
 refine qJ 48 rfl rfl ?_
 refine tl (qG rfl) ?_
 refine qJ 48 rfl rfl ?_
 refine tl (jM rfl pY) ?_
 refine qJ 48 rfl rfl ?_
 refine tl (jQ rfl rfl rfl) ?_
 refine tl (qP rfl rfl) ?_
 refine tl (qG rfl) ?_
 refine xR 53 rfl (fun h176 => ?_) (fun h176 => ?_)
 refine qJ 53 rfl rfl ?_
 refine tl (qG rfl) ?_
 refine qJ 53 rfl rfl ?_
 refine tl (jQ rfl rfl rfl) ?_
 refine tl (qP rfl rfl) ?_
 refine tl (qG rfl) ?_
 refine xR 57 rfl (fun h177 => ?_) (fun h177 => ?_)
 refine qJ 57 rfl rfl ?_
 refine tl (qG rfl) ?_
 refine tl (qP rfl rfl) ?_
 refine tl (qG rfl) ?_
 refine kB 60 rfl (fun h178 => ?_) (fun h178 => ?_)
 refine qJ 60 rfl rfl ?_
 refine tl (qG rfl) ?_
 refine qJ 60 rfl rfl ?_
 refine tl (jQ rfl rfl rfl) ?_
 refine tl (qP rfl rfl) ?_
 refine tl (qD rfl) ?_
 refine qB <| qC <| qV ?_
 refine xC (.inl rfl) rfl rfl ?_
 have e179 : (decide (((xV (Base.mk (Names.mk ([⟨#[116, 111, 112]⟩] : List (ByteArray)) ([] : List (ByteArray)) ([] : List (ByteArray))) ([] : List (Incl)) ([] : List (RoleIncl)) ([] : List (Fact)) ([] : List (Link))) ([] : List (Int))).2) = 20) : Bool) = true := by (first | rfl | grind)
 exact fun w hw => ⟨congrArg Ending.returned (congrArg (fun x0 => Value.bool x0) e179), (hw.drop 2).weaken hle165⟩
 refine qE 60 rfl rfl rfl ?_
 refine qE 60 rfl rfl rfl ?_
 refine tl (qN rfl rfl) ?_
 refine tl (qD rfl) ?_
 refine qB <| qC <| qV ?_
 refine xC (.inl rfl) rfl rfl ?_
 have e180 : (false : Bool) = true := by (first | rfl | grind)
 exact fun w hw => ⟨congrArg Ending.returned (congrArg (fun x0 => Value.bool x0) e180), (hw.drop 2).weaken hle165⟩
 refine qE 57 rfl rfl rfl ?_
 refine tl (qN rfl rfl) ?_
 refine tl (qG rfl) ?_
 refine qE 60 rfl rfl rfl ?_
 refine qE 60 rfl rfl rfl ?_
 refine tl (qN rfl rfl) ?_
 refine tl (qD rfl) ?_
 refine qB <| qC <| qV ?_
 refine xC (.inl rfl) rfl rfl ?_
 have e181 : (false : Bool) = true := by (first | rfl | grind)
 exact fun w hw => ⟨congrArg Ending.returned (congrArg (fun x0 => Value.bool x0) e181), (hw.drop 2).weaken hle165⟩
 refine qE 53 rfl rfl rfl ?_
 refine qE 53 rfl rfl rfl ?_
 refine tl (qN rfl rfl) ?_
 refine tl (qG rfl) ?_
 refine qE 57 rfl rfl rfl ?_
 refine tl (qN rfl rfl) ?_
 refine tl (qG rfl) ?_
 refine qE 60 rfl rfl rfl ?_
 refine qE 60 rfl rfl rfl ?_
 refine tl (qN rfl rfl) ?_
 refine tl (qD rfl) ?_
 refine qB <| qC <| qV ?_
 refine xC (.inl rfl) rfl rfl ?_
 have e182 : (false : Bool) = true := by (first | rfl | grind)
 exact fun w hw => ⟨congrArg Ending.returned (congrArg (fun x0 => Value.bool x0) e182), (hw.drop 2).weaken hle165⟩
 refine qE 48 rfl rfl rfl ?_
 refine qE 48 rfl rfl rfl ?_
 refine qE 48 rfl rfl rfl ?_
 refine tl (qN rfl rfl) ?_
 refine tl (qG rfl) ?_
 refine qE 53 rfl rfl rfl ?_
 refine qE 53 rfl rfl rfl ?_
 refine tl (qN rfl rfl) ?_
 refine tl (qG rfl) ?_
 refine qE 57 rfl rfl rfl ?_
 refine tl (qN rfl rfl) ?_
 refine tl (qG rfl) ?_
 refine qE 60 rfl rfl rfl ?_
 refine qE 60 rfl rfl rfl ?_
 refine tl (qN rfl rfl) ?_
 refine tl (qD rfl) ?_
 refine qB <| qC <| qV ?_
 refine xC (.inl rfl) rfl rfl ?_
 have e183 : (false : Bool) = true := by (first | rfl | grind)
 exact fun w hw => ⟨congrArg Ending.returned (congrArg (fun x0 => Value.bool x0) e183), (hw.drop 2).weaken hle165⟩
 refine qE 44 rfl rfl rfl ?_
 refine qE 44 rfl rfl rfl ?_
 refine tl (qN rfl rfl) ?_
 refine tl (qG rfl) ?_
 refine qE 48 rfl rfl rfl ?_
 refine qE 48 rfl rfl rfl ?_
 refine qE 48 rfl rfl rfl ?_
 refine tl (qN rfl rfl) ?_
 refine tl (qG rfl) ?_
 refine qE 53 rfl rfl rfl ?_
 refine qE 53 rfl rfl rfl ?_
 refine tl (qN rfl rfl) ?_
 refine tl (qG rfl) ?_
 refine qE 57 rfl rfl rfl ?_
 refine tl (qN rfl rfl) ?_
 refine tl (qG rfl) ?_
 refine qE 60 rfl rfl rfl ?_
 refine qE 60 rfl rfl rfl ?_
 refine tl (qN rfl rfl) ?_
 refine tl (qD rfl) ?_
 refine qB <| qC <| qV ?_
 refine xC (.inl rfl) rfl rfl ?_
 have e184 : (false : Bool) = true := by (first | rfl | grind)
 exact fun w hw => ⟨congrArg Ending.returned (congrArg (fun x0 => Value.bool x0) e184), (hw.drop 2).weaken hle165⟩
 refine qE 39 rfl rfl rfl ?_
 refine qE 39 rfl rfl rfl ?_
 refine qE 39 rfl rfl rfl ?_
 refine tl (qN rfl rfl) ?_
 refine tl (qG rfl) ?_
 refine qE 44 rfl rfl rfl ?_
 refine qE 44 rfl rfl rfl ?_
 refine tl (qN rfl rfl) ?_
 refine tl (qG rfl) ?_
 refine qE 48 rfl rfl rfl ?_
 refine qE 48 rfl rfl rfl ?_
 refine qE 48 rfl rfl rfl ?_
 refine tl (qN rfl rfl) ?_
 refine tl (qG rfl) ?_
 refine qE 53 rfl rfl rfl ?_
 refine qE 53 rfl rfl rfl ?_
 refine tl (qN rfl rfl) ?_
 refine tl (qG rfl) ?_
 refine qE 57 rfl rfl rfl ?_
 refine tl (qN rfl rfl) ?_
 refine tl (qG rfl) ?_
 refine qE 60 rfl rfl rfl ?_
 refine qE 60 rfl rfl rfl ?_
 refine tl (qN rfl rfl) ?_
 refine tl (qD rfl) ?_
 refine qB <| qC <| qV ?_
 refine xC (.inl rfl) rfl rfl ?_
 have e185 : (false : Bool) = true := by (first | rfl | grind)
 exact fun w hw => ⟨congrArg Ending.returned (congrArg (fun x0 => Value.bool x0) e185), (hw.drop 2).weaken hle144⟩

end Go.Proofs.YtcbcdlajnmkioaaGreatDoor

namespace Go.Proofs.YtcbcdlajnmkioaaGreatDoor
open Go Go.Proofs
set_option linter.unusedSimpArgs false
set_option linter.unusedVariables false
theorem ap74 : yM Tryz.prog 74 = some (33, 2, 48, [.slice none 0 0, .slice none 0 0]) := by kernel_rfl
theorem ca10 : Callable Tryz.prog 10 := ⟨by kernel_rfl⟩
theorem ca11 : Callable Tryz.prog 11 := ⟨by kernel_rfl⟩
theorem ca15 : Callable Tryz.prog 15 := ⟨by kernel_rfl⟩
theorem ca7 : Callable Tryz.prog 7 := ⟨by kernel_rfl⟩
theorem ca8 : Callable Tryz.prog 8 := ⟨by kernel_rfl⟩

theorem qL9 {b : Base} {l : List Int} {s t : Sig} (h : s.le t) {top : Bool} {i : Int} (hi : modP b l s top i) : modP b l t top i :=
  fun X hX => hi X fun j hj hn => tI (nS (fun _ h => h) h) b j.toNat top (hX j hj hn)
theorem qM0 {b : Base} {l : List Int} {s t : Sig} (h : s.le t) {top : Bool} : ∀ x ∈ aJ b l s top, x ∈ aJ b l t top := by
  classical
  intro x hx
  unfold aJ at *
  rw [List.mem_filter] at *
  exact ⟨hx.1, by simpa using qL9 h (by simpa using hx.2)⟩
theorem sigB_iff {n : Names} {s : Sig} : gH n s = true ↔ (Up s.concepts ∧ ∀ x ∈ s.concepts, 0 ≤ x ∧ x < n.concepts.length) ∧ (Up s.roles ∧ ∀ x ∈ s.roles, 0 ≤ x ∧ x < n.roles.length) := by
  unfold gH kA
  rw [Bool.and_eq_true, decide_eq_true_eq, decide_eq_true_eq]
theorem sig_small {b : Base} {s : Sig} (h : vK b = true) (hs : gH b.names s = true) : s.concepts.length ≤ 1000 ∧ s.roles.length ≤ 1000 := by
  have hn := (kO h).namesLen
  obtain ⟨⟨h1, h2⟩, h3, h4⟩ := sigB_iff.1 hs
  have := yS (eY h1) h2
  have := yS (eY h3) h4
  omega
theorem grows {b : Base} {s t : Sig} {kind : Int} (hb : vK b = true) (hs : gH b.names s = true) (ht : gH b.names t = true) (hk : kind = 0 ∨ kind = 1) (hle : s.le t) :
    (vM b s kind).2 = 0 ∧ (vM b t kind).2 = 0 ∧ subB (vM b s kind).1 (vM b t kind).1 = true := by
  rw [zU hb ⟨hs, by omega, by omega⟩, zU hb ⟨ht, by omega, by omega⟩]
  refine ⟨rfl, rfl, ?_⟩
  unfold subB bP
  rw [decide_eq_true_eq, if_pos (by omega), if_pos (by omega)]
  exact qM0 hle
structure Grow (n : Nat) (s u : List Int) : Prop where
  up : Up u
  rng : ∀ x ∈ u, 0 ≤ x ∧ x < n
  sub : ∀ x ∈ s, x ∈ u
theorem Grow.init {n : Nat} {s : List Int} (h : Up s ∧ ∀ x ∈ s, 0 ≤ x ∧ x < n) : Grow n s s := ⟨h.1, h.2, fun _ h => h⟩
theorem Grow.step {n : Nat} {s u : List Int} {x : Int} (h : Grow n s u) (hx : 0 ≤ x ∧ x < n) : Grow n s (yC u x) :=
  ⟨bJ h.up, fun y hy => by rcases insI_mem.1 hy with hy | rfl; exact h.rng y hy; exact hx, fun y hy => insI_mem.2 (.inl (h.sub y hy))⟩
theorem Grow.len {n : Nat} {s u : List Int} (h : Grow n s u) : u.length ≤ n := yS (eY h.up) h.rng
theorem Grow.sig {n : Names} {s : Sig} {u v : List Int} (h1 : Grow n.concepts.length s.concepts u) (h2 : Grow n.roles.length s.roles v) : gH n (Sig.mk u v) = true ∧ s.le (Sig.mk u v) :=
  ⟨sigB_iff.2 ⟨⟨h1.up, h1.rng⟩, h2.up, h2.rng⟩, h1.sub, h2.sub⟩
theorem sig_at {n : Names} {s : Sig} {i : Nat} {x : Int} (h : gH n s = true) : (s.concepts[i]? = some x → 0 ≤ x ∧ x < n.concepts.length) ∧ (s.roles[i]? = some x → 0 ≤ x ∧ x < n.roles.length) :=
  ⟨fun h1 => (sigB_iff.1 h).1.2 x (List.mem_of_getElem? h1), fun h1 => (sigB_iff.1 h).2.2 x (List.mem_of_getElem? h1)⟩

end Go.Proofs.YtcbcdlajnmkioaaGreatDoor

namespace Go.Proofs.YtcbcdlajnmkioaaGreatDoor
open Go Go.Proofs
set_option linter.unusedSimpArgs false
set_option linter.unusedVariables false
theorem ca54 : Callable Tryz.prog 54 := ⟨by kernel_rfl⟩

def isB (n : Names) (c : Concept) : Bool := decide (jT c ≤ 400 ∧ wT c ≤ 20 ∧ jV n c = true)
theorem oK (n : Names) (c : Concept) : tX n [c] = if wH n = true then (if isB n c = true then 0 else 10) else 20 := by
  unfold tX isB
  have h := (cP n c 400 1 (by omega)).1
  have e : (∀ x ∈ [c], (wM n x 400 1).1 = true) ↔ decide (jT c ≤ 400 ∧ wT c ≤ 20 ∧ jV n c = true) = true := by
    rw [decide_eq_true_eq]
    simp only [List.mem_singleton, forall_eq]
    rw [h]
    constructor
    · rintro ⟨h1, h2, h3⟩; exact ⟨by omega, by omega, h3⟩
    · rintro ⟨h1, h2, h3⟩; exact ⟨by omega, by omega, h3⟩
  simp only [e]
theorem lT (s : Sig) (top : Bool) (c : Concept) : qK (Sig.mk (kD [] s.concepts) (kD [] s.roles)) top c = qK s top c := by
  have h1 : s.le (Sig.mk (kD [] s.concepts) (kD [] s.roles)) := ⟨fun x hx => by rw [yB (s := [])]; exact .inr hx, fun x hx => by rw [yB (s := [])]; exact .inr hx⟩
  have h2 : (Sig.mk (kD [] s.concepts) (kD [] s.roles)).le s := ⟨fun x hx => by rw [yB (s := [])] at hx; simpa using hx, fun x hx => by rw [yB (s := [])] at hx; simpa using hx⟩
  have a1 := tH h1 top c; have a2 := tH h2 top c
  unfold pleB at a1 a2
  exact Prod.ext (Bool.eq_iff_iff.2 ⟨a1.1, a2.1⟩) (Bool.eq_iff_iff.2 ⟨a1.2, a2.2⟩)
/-- What module.Shape answers. -/
def xT (n : Names) (c : Concept) (s : Sig) (kind : Int) : (Bool × Bool) × Int := if wH n = true then (if isB n c = true then (if gH n s = true ∧ (kind = 0 ∨ kind = 1) then (qK s (decide (kind = 1)) c, 0) else ((false, false), 1)) else ((false, false), 10)) else ((false, false), 20)
theorem dS {n : Names} {c : Concept} {s : Sig} {kind : Int} (h : ¬ tX n [c] = 0) : xT n c s kind = ((false, false), tX n [c]) := by
  rw [oK] at *
  unfold xT
  split
  · split
    · simp_all
    · rfl
  · rfl
theorem pW {n : Names} {c : Concept} (h : tX n [c] = 0) : wH n = true ∧ isB n c = true := by
  rw [oK] at h
  split at h
  · split at h
    · exact ⟨by assumption, by assumption⟩
    · omega
  · omega
theorem dT {n : Names} {c : Concept} {s : Sig} {kind : Int} (h : tX n [c] = 0) (h2 : ¬ (gH n s = true ∧ (kind = 0 ∨ kind = 1))) : xT n c s kind = ((false, false), 1) := by
  unfold xT; rw [if_pos (pW h).1, if_pos (pW h).2, if_neg h2]
theorem iK {n : Names} {c : Concept} {s : Sig} {kind : Int} (h : tX n [c] = 0) (h2 : gH n s = true ∧ (kind = 0 ∨ kind = 1)) : xT n c s kind = (qK s (decide (kind = 1)) c, 0) := by
  unfold xT; rw [if_pos (pW h).1, if_pos (pW h).2, if_pos h2]
theorem qB0 {n : Names} {c : Concept} (h : isB n c = true) : wfC c = true := by
  unfold isB at h; rw [decide_eq_true_eq] at h
  exact cJ n _ c rfl h.2.2

set_option maxRecDepth 20000 in
set_option maxHeartbeats 8000000 in
theorem iL {R : RO} {G : List Res} {w : World} {c_n : List Value} (n : Names) {c_c : List Value} (c : Concept) {c_s : List Value} (s : Sig) (kind : Int) (hr_n : kNames.rep R n c_n) (hr_c : kConcept.rep R c c_c) (hr_s : kSig.rep R s c_s) (hi_kind : i64 kind) (hG : Glob R) (hb : s.concepts.length ≤ 1000 ∧ s.roles.length ≤ 1000) (hw : Own w R (G)) :
    Calls Tryz.prog 23 [.agg c_n.toArray, .agg c_c.toArray, .agg c_s.toArray, .int .i64 kind].toArray w (kK R G (.tuple #[.bool ((xT n c s kind).1.1), .bool ((xT n c s kind).1.2), .int .i64 ((xT n c s kind).2)])) := by
 obtain ⟨A1, d2, A5, d6, A9, d10, rfl, hs3, hs7, hs11⟩ := id hr_n
 have z4 := hs3.size
 unfold big at z4
 have z8 := hs7.size
 unfold big at z8
 have z12 := hs11.size
 unfold big at z12
 obtain ⟨A13, d14, rfl, i15, i16, hs17⟩ := qM hr_c
 unfold i64 at i15 i16
 have z18 := hs17.size
 unfold big at z18
 obtain ⟨A19, d20, A23, d24, rfl, hs21, hs25⟩ := id hr_s
 have z22 := hs21.size
 unfold big at z22
 have z26 := hs25.size
 unfold big at z26
 unfold i64 at hi_kind
 refine xG (vs := [.agg #[.slice A1 n.concepts.length d2, .slice A5 n.roles.length d6, .slice A9 n.inds.length d10], .agg #[.int .i64 c.op, .int .i64 c.n, .slice A13 c.args.length d14], .agg #[.slice A19 s.concepts.length d20, .slice A23 s.roles.length d24], .int .i64 kind]) Tryz.func23 rfl rfl rfl ?_ hw
 refine qF <| qA ?_
 refine qX (l := [.slice A1 n.concepts.length d2, .slice A5 n.roles.length d6, .slice A9 n.inds.length d10]) rfl rfl fun b27 => ?_
 refine qX (l := [.int .i64 c.op, .int .i64 c.n, .slice A13 c.args.length d14]) rfl rfl fun b28 => ?_
 refine qX (l := [.slice A19 s.concepts.length d20, .slice A23 s.roles.length d24]) rfl rfl fun b29 => ?_
 refine tl (qD rfl) ?_
 refine tl (qD rfl) ?_
 refine tl (qD rfl) ?_
 refine qB <| qC <| qF <| qF <| qA ?_
 refine tl (qQ 2 [.slice A1 n.concepts.length d2, .slice A5 n.roles.length d6, .slice A9 n.inds.length d10] rfl uR rfl rfl) ?_
 refine tl (qQ 1 [.int .i64 c.op, .int .i64 c.n, .slice A13 c.args.length d14] rfl vS rfl rfl) ?_
 refine qY ca54 rfl (fun w hw => eN n c hr_n hr_c (by first | assumption | omega) hw) rfl ?_
 refine tl (qD rfl) ?_
 refine qB <| qC <| qF <| qA ?_
 refine tl (qG rfl) ?_
 refine tl (jQ rfl rfl rfl) ?_
 refine qB <| qC ?_
 refine qR 17 rfl (fun h30 => ?_) (fun h30 => ?_)
 refine xD rfl ?_
 refine qF <| qA ?_
 refine tl (qG rfl) ?_
 refine tl (qD rfl) ?_
 refine tl (qD rfl) ?_
 refine tl (qD rfl) ?_
 refine qB <| qC <| qV <| qI ?_
 refine oX (.inl rfl) rfl rfl rfl rfl ?_
 have e31 : (false : Bool) = (xT n c s kind).1.1 := by (rw [dS (by grind)])
 have e32 : (false : Bool) = (xT n c s kind).1.2 := by (rw [dS (by grind)])
 have e33 : (tX n [c] : Int) = (xT n c s kind).2 := by (rw [dS (by grind)])
 exact fun w hw => ⟨congrArg Ending.returned (cong3 (fun x0 x1 x2 => Value.tuple #[.bool x0, .bool x1, .int .i64 x2]) e31 e32 e33), hw.drop 3⟩
 refine xW rfl ?_
 refine xA <| qC <| qF ?_
 refine kN [(0, .agg #[.slice A1 n.concepts.length d2, .slice A5 n.roles.length d6, .slice A9 n.inds.length d10]), (1, .agg #[.int .i64 c.op, .int .i64 c.n, .slice A13 c.args.length d14]), (2, .agg #[.slice A19 s.concepts.length d20, .slice A23 s.roles.length d24]), (3, .int .i64 kind), (4, .pointer (some ⟨b27, 0, none⟩)), (5, .pointer (some ⟨b28, 0, none⟩)), (6, .pointer (some ⟨b29, 0, none⟩)), (8, .bool false), (9, .bool false), (10, .int .i64 0), (11, .int .i64 (tX n [c])), (17, .bool false), (30, .bool (decide (((!(gH n s)) = true) ∨ ((¬ kind = 0) ∧ (¬ kind = 1)))))] (.blk b29 [.slice A19 s.concepts.length d20, .slice A23 s.roles.length d24] 33 :: .blk b28 [.int .i64 c.op, .int .i64 c.n, .slice A13 c.args.length d14] 37 :: .blk b27 [.slice A1 n.concepts.length d2, .slice A5 n.roles.length d6, .slice A9 n.inds.length d10] 24 :: G) (fun _ => True) (fun K hK34 hE35 => ?_) ?_
 refine qA ?_
 refine tl (qQ 2 [.slice A1 n.concepts.length d2, .slice A5 n.roles.length d6, .slice A9 n.inds.length d10] rfl uR rfl rfl) ?_
 refine tl (qQ 0 [.slice A19 s.concepts.length d20, .slice A23 s.roles.length d24] rfl yO rfl rfl) ?_
 refine qY ca35 rfl (fun w hw => pU n s hr_n hr_s hw) rfl ?_
 refine tl (wB rfl) ?_
 refine tl (qG rfl) ?_
 refine kB 23 rfl (fun h36 => ?_) (fun h36 => ?_)
 refine qE 23 rfl rfl rfl ?_
 refine qE 23 rfl rfl rfl ?_
 refine qE 23 rfl rfl rfl ?_
 refine jA 26 rfl rfl rfl ?_
 refine jA 26 rfl rfl rfl ?_
 refine qE 23 rfl rfl rfl ?_
 refine tl (qP rfl rfl) ?_
 refine qB ?_
 exact xK hK34 (.refl _) (trivial) ⟨rfl, rfl, rfl, rfl, rfl, rfl, rfl, rfl, rfl, rfl, rfl, rfl, show some (Value.bool true) = some (Value.bool (decide (((!(gH n s)) = true) ∨ ((¬ kind = 0) ∧ (¬ kind = 1))))) by first | (simp [h36]; done) | grind | (simp [h36] <;> omega), trivial⟩ (fun w hw => hw)
 refine qJ 23 rfl rfl ?_
 refine tl (qG rfl) ?_
 refine qJ 23 rfl rfl ?_
 refine tl (jQ rfl rfl rfl) ?_
 refine qJ 23 rfl rfl ?_
 refine tl (qG rfl) ?_
 refine xR 26 rfl (fun h37 => ?_) (fun h37 => ?_)
 refine qJ 26 rfl rfl ?_
 refine tl (qG rfl) ?_
 refine qJ 26 rfl rfl ?_
 refine tl (jQ rfl rfl rfl) ?_
 refine qJ 23 rfl rfl ?_
 refine tl (qP rfl rfl) ?_
 refine tl (qN rfl rfl) ?_
 refine qB ?_
 exact xK hK34 (.refl _) (trivial) ⟨rfl, rfl, rfl, rfl, rfl, rfl, rfl, rfl, rfl, rfl, rfl, rfl, show some (Value.bool (decide (¬ kind = 1))) = some (Value.bool (decide (((!(gH n s)) = true) ∨ ((¬ kind = 0) ∧ (¬ kind = 1))))) by first | (simp [h36, h37]; done) | grind | (simp [h36, h37] <;> omega), trivial⟩ (fun w hw => hw)
 refine qE 26 rfl rfl rfl ?_
 refine qE 26 rfl rfl rfl ?_
 refine qJ 23 rfl rfl ?_
 refine tl (qN rfl rfl) ?_
 refine tl (qN rfl rfl) ?_
 refine qB ?_
 exact xK hK34 (.refl _) (trivial) ⟨rfl, rfl, rfl, rfl, rfl, rfl, rfl, rfl, rfl, rfl, rfl, rfl, show some (Value.bool false) = some (Value.bool (decide (((!(gH n s)) = true) ∨ ((¬ kind = 0) ∧ (¬ kind = 1))))) by first | (simp [h36, h37]; done) | grind | (simp [h36, h37] <;> omega), trivial⟩ (fun w hw => hw)
 refine fun R39 hle40 hj38 => jC hle40 ?_
 refine qR 30 rfl (fun h41 => ?_) (fun h41 => ?_)
 refine xD rfl ?_
 refine qF <| qA ?_
 refine tl (qD rfl) ?_
 refine tl (qD rfl) ?_
 refine tl (qD rfl) ?_
 refine qB <| qC <| qV <| qI ?_
 refine oX (.inl rfl) rfl rfl rfl rfl ?_
 have e42 : (false : Bool) = (xT n c s kind).1.1 := by (rw [dT (by grind) (by grind)])
 have e43 : (false : Bool) = (xT n c s kind).1.2 := by (rw [dT (by grind) (by grind)])
 have e44 : (1 : Int) = (xT n c s kind).2 := by (rw [dT (by grind) (by grind)])
 exact fun w hw => ⟨congrArg Ending.returned (cong3 (fun x0 x1 x2 => Value.tuple #[.bool x0, .bool x1, .int .i64 x2]) e42 e43 e44), hw.drop 3⟩
 refine xW rfl ?_
 refine xA <| qC ?_
 refine tQ (X := Nat) (fun (b51 : Nat) => [(8, .bool false), (9, .bool false), (10, .int .i64 0), (12, .pointer (some ⟨b51, 0, none⟩))]) (fun (b51 : Nat) => (.blk b51 [.bool ((qK (Sig.mk (kD [] s.concepts) (kD [] s.roles)) (decide (kind = 1)) c).1), .bool ((qK (Sig.mk (kD [] s.concepts) (kD [] s.roles)) (decide (kind = 1)) c).2)] 112 :: .blk b29 [.slice A19 s.concepts.length d20, .slice A23 s.roles.length d24] 33 :: .blk b28 [.int .i64 c.op, .int .i64 c.n, .slice A13 c.args.length d14] 37 :: .blk b27 [.slice A1 n.concepts.length d2, .slice A5 n.roles.length d6, .slice A9 n.inds.length d10] 24 :: G)) (fun (b51 : Nat) (R_ : RO) => True) (fun K hK52 hE53 => ?_) ?_
 refine vW R (.blk b29 [.slice A19 s.concepts.length d20, .slice A23 s.roles.length d24] 33 :: .blk b28 [.int .i64 c.op, .int .i64 c.n, .slice A13 c.args.length d14] 37 :: .blk b27 [.slice A1 n.concepts.length d2, .slice A5 n.roles.length d6, .slice A9 n.inds.length d10] 24 :: G) 6 mixed ?_
 refine td 0 rfl (by kernel_rfl) (qQ 0 [.slice A19 s.concepts.length d20, .slice A23 s.roles.length d24] rfl yO rfl rfl) (fun w hw => hw) ?_
 refine td 1 rfl (by kernel_rfl) (qG rfl) (fun w hw => hw) ?_
 refine td 3 rfl (by kernel_rfl) (qQ 1 [.int .i64 c.op, .int .i64 c.n, .slice A13 c.args.length d14] rfl vS rfl rfl) (fun w hw => hw) ?_
 refine jO [2, 5] (by kernel_rfl) rfl ?_
 refine tds rfl ?_ ?_
 refine xE ca45 rfl (fun w hw => yZ s kind hr_s (by unfold i64; omega) (by omega) hw) rfl ?_
 rintro _ R58 _ hle59 ⟨b54, b55, b56, rfl, rfl, hh57⟩
 try replace hr_c := kConcept.mono _ _ _ _ hle59 hr_c
 try replace hr_s := kSig.mono _ _ _ _ hle59 hr_s
 try replace hG := hG.mono hle59
 refine qB ?_
 refine qW (fun w hw => (hw.drop 2).weaken hle59) ?_
 refine jO [4, 5] (by kernel_rfl) rfl ?_
 refine tds rfl ?_ ?_
 refine qY sO rfl (fun w hw => vZ (decide (kind = 1)) (kD [] s.concepts) (kD [] s.roles) c (.head _) (.tail _ (.head _)) hh57 hr_c (by first | assumption | exact qB0 (n := n) (pW (n := n) (c := c) (by grind)).2) hw) rfl ?_
 refine qB ?_
 refine qW (fun w hw => (hw.drop 2).weaken hle59) ?_
 refine td1 5 (by kernel_rfl) rfl ?_
 refine qT kY rfl fun b60 => ?_
 refine qB ?_
 refine qW (fun w hw => (hw.drop 3).weaken hle59) ?_
 refine td1 6 (by kernel_rfl) rfl ?_
 refine xM 0 [.bool ((qK (Sig.mk (kD [] s.concepts) (kD [] s.roles)) (decide (kind = 1)) c).1), .bool ((qK (Sig.mk (kD [] s.concepts) (kD [] s.roles)) (decide (kind = 1)) c).2)] rfl rfl jW rfl rfl rfl rfl rfl rfl ?_
 refine qB ?_
 refine xZ ?_
 refine xJ (by kernel_rfl) ?_
 exact xP hK52 (b60) (hle59) (trivial) ⟨rfl, rfl, rfl, rfl, trivial⟩ (fun w hw => ((((((hw.pick 1).tail.pick 1).tail.pick 3).pick 3).pick 3).pick 3))
 refine tds rfl ?_ ?_
 refine qT kY rfl fun b61 => ?_
 refine qB ?_
 refine qW (fun w hw => (hw.drop 3).weaken hle59) ?_
 refine td1 4 (by kernel_rfl) rfl ?_
 refine qY sO rfl (fun w hw => vZ (decide (kind = 1)) (kD [] s.concepts) (kD [] s.roles) c (.tail _ (.head _)) (.tail _ (.tail _ (.head _))) hh57 hr_c (by first | assumption | exact qB0 (n := n) (pW (n := n) (c := c) (by grind)).2) hw) rfl ?_
 refine qB ?_
 refine qW (fun w hw => (hw.drop 3).weaken hle59) ?_
 refine td1 6 (by kernel_rfl) rfl ?_
 refine xM 0 [.bool ((qK (Sig.mk (kD [] s.concepts) (kD [] s.roles)) (decide (kind = 1)) c).1), .bool ((qK (Sig.mk (kD [] s.concepts) (kD [] s.roles)) (decide (kind = 1)) c).2)] rfl rfl jW rfl rfl rfl rfl rfl rfl ?_
 refine qB ?_
 refine xZ ?_
 refine xJ (by kernel_rfl) ?_
 exact xP hK52 (b61) (hle59) (trivial) ⟨rfl, rfl, rfl, rfl, trivial⟩ (fun w hw => ((((((hw.pick 1).tail.pick 1).tail.pick 3).pick 3).pick 3).pick 3))
 exact jB
 refine tds rfl ?_ ?_
 refine qT kY rfl fun b62 => ?_
 refine qB ?_
 refine qW (fun w hw => hw.drop 1) ?_
 refine td1 2 (by kernel_rfl) rfl ?_
 refine xE ca45 rfl (fun w hw => yZ s kind hr_s (by unfold i64; omega) (by omega) hw) rfl ?_
 rintro _ R67 _ hle68 ⟨b63, b64, b65, rfl, rfl, hh66⟩
 try replace hr_c := kConcept.mono _ _ _ _ hle68 hr_c
 try replace hG := hG.mono hle68
 refine qB ?_
 refine qW (fun w hw => (hw.drop 3).weaken hle68) ?_
 refine td1 4 (by kernel_rfl) rfl ?_
 refine qY sO rfl (fun w hw => vZ (decide (kind = 1)) (kD [] s.concepts) (kD [] s.roles) c (.head _) (.tail _ (.head _)) hh66 hr_c (by first | assumption | exact qB0 (n := n) (pW (n := n) (c := c) (by grind)).2) hw) rfl ?_
 refine qB ?_
 refine qW (fun w hw => (hw.drop 3).weaken hle68) ?_
 refine td1 6 (by kernel_rfl) rfl ?_
 refine xM 2 [.bool ((qK (Sig.mk (kD [] s.concepts) (kD [] s.roles)) (decide (kind = 1)) c).1), .bool ((qK (Sig.mk (kD [] s.concepts) (kD [] s.roles)) (decide (kind = 1)) c).2)] rfl rfl jW rfl rfl rfl rfl rfl rfl ?_
 refine qB ?_
 refine xZ ?_
 refine xJ (by kernel_rfl) ?_
 exact xP hK52 (b62) (hle68) (trivial) ⟨rfl, rfl, rfl, rfl, trivial⟩ (fun w hw => hw.drop 2)
 exact jB
 rintro b51 R70 hle71 hj69
 try replace hG := hG.mono hle71
 show TC Tryz.prog _ _ _ [] [(8, .bool false), (9, .bool false), (10, .int .i64 0), (12, .pointer (some ⟨b51, 0, none⟩))] R70 (.blk b51 [.bool ((qK (Sig.mk (kD [] s.concepts) (kD [] s.roles)) (decide (kind = 1)) c).1), .bool ((qK (Sig.mk (kD [] s.concepts) (kD [] s.roles)) (decide (kind = 1)) c).2)] 112 :: .blk b29 [.slice A19 s.concepts.length d20, .slice A23 s.roles.length d24] 33 :: .blk b28 [.int .i64 c.op, .int .i64 c.n, .slice A13 c.args.length d14] 37 :: .blk b27 [.slice A1 n.concepts.length d2, .slice A5 n.roles.length d6, .slice A9 n.inds.length d10] 24 :: G)
 refine qF ?_
 refine wD mixed (by kernel_rfl) ?_
 refine tq (qH 0 rfl bS rfl) ?_
 refine tq (jN 0 rfl ld4 rfl rfl) ?_
 refine tq (qH 1 rfl pV rfl) ?_
 refine tq (jN 0 rfl ld4 rfl rfl) ?_
 refine tq (qD rfl) ?_
 refine tq (qD rfl) ?_
 refine tq (qD rfl) ?_
 refine vB <| qC <| qV ?_
 refine oX (.inl rfl) rfl rfl rfl rfl ?_
 have e72 : ((qK (Sig.mk (kD [] s.concepts) (kD [] s.roles)) (decide (kind = 1)) c).1 : Bool) = (xT n c s kind).1.1 := by (rw [iK (by grind) ⟨by grind, by omega⟩, lT])
 have e73 : ((qK (Sig.mk (kD [] s.concepts) (kD [] s.roles)) (decide (kind = 1)) c).2 : Bool) = (xT n c s kind).1.2 := by (rw [iK (by grind) ⟨by grind, by omega⟩, lT])
 have e74 : (0 : Int) = (xT n c s kind).2 := by (rw [iK (by grind) ⟨by grind, by omega⟩])
 exact fun w hw => ⟨congrArg Ending.returned (cong3 (fun x0 x1 x2 => Value.tuple #[.bool x0, .bool x1, .int .i64 x2]) e72 e73 e74), (hw.drop 4).weaken hle71⟩

end Go.Proofs.YtcbcdlajnmkioaaGreatDoor

namespace Go.Proofs.YtcbcdlajnmkioaaGreatDoor
open Go Go.Proofs
set_option linter.unusedSimpArgs false
set_option linter.unusedVariables false


def AxC : Ax → Int → Prop
  | .incl y, x => inC y.sub x ∨ inC y.sup x
  | .fact y, x => inC y.con x
  | _, _ => False
def AxR : Ax → Int → Prop
  | .incl y, x => inR y.sub x ∨ inR y.sup x
  | .role y, x => x = y.sub / 2 ∨ x = y.sup / 2
  | .fact y, x => inR y.con x
  | .link y, x => x = y.role
theorem mT {n : Names} {x : Int} : ∀ (l : List Incl) (s : List Int × List Int), (∀ i ∈ l, jV n i.sub = true ∧ jV n i.sup = true) →
    (x ∈ (qA7 l s).1 ↔ x ∈ s.1 ∨ ∃ i ∈ l, inC i.sub x ∨ inC i.sup x) ∧ (x ∈ (qA7 l s).2 ↔ x ∈ s.2 ∨ ∃ i ∈ l, inR i.sub x ∨ inR i.sup x)
  | [], s, _ => by simp [qA7]
  | y :: ys, s, h => by
    have e : qA7 (y :: ys) s = qA7 ys (wQ vA y.sup (wQ vA y.sub s)) := rfl
    have h1 := mT (x := x) ys (wQ vA y.sup (wQ vA y.sub s)) fun i hi => h i (by simp [hi])
    have h2 := h y (by simp)
    rw [e, h1.1, h1.2, (yA y.sup h2.2 _ x).1, (yA y.sup h2.2 _ x).2, (yA y.sub h2.1 _ x).1, (yA y.sub h2.1 _ x).2]
    simp only [List.mem_cons, exists_eq_or_imp, or_assoc]
    exact ⟨trivial, trivial⟩
theorem mU {n : Names} {x : Int} : ∀ (l : List Fact) (s : List Int × List Int), (∀ i ∈ l, jV n i.con = true) →
    (x ∈ (qE6 l s).1 ↔ x ∈ s.1 ∨ ∃ i ∈ l, inC i.con x) ∧ (x ∈ (qE6 l s).2 ↔ x ∈ s.2 ∨ ∃ i ∈ l, inR i.con x)
  | [], s, _ => by simp [qE6]
  | y :: ys, s, h => by
    have e : qE6 (y :: ys) s = qE6 ys (wQ vA y.con s) := rfl
    have h1 := mU (x := x) ys (wQ vA y.con s) fun i hi => h i (by simp [hi])
    have h2 := h y (by simp)
    rw [e, h1.1, h1.2, (yA y.con h2 _ x).1, (yA y.con h2 _ x).2]
    simp only [List.mem_cons, exists_eq_or_imp, or_assoc]
    exact ⟨trivial, trivial⟩
theorem qB1 {x : Int} : ∀ (l : List RoleIncl) (r : List Int), x ∈ qF9 l r ↔ x ∈ r ∨ ∃ i ∈ l, x = i.sub / 2 ∨ x = i.sup / 2
  | [], r => by simp [qF9]
  | y :: ys, r => by
    have e : qF9 (y :: ys) r = qF9 ys (zD (zD r (y.sub / 2)) (y.sup / 2)) := rfl
    rw [e, qB1 ys, insK_mm, insK_mm]
    simp only [List.mem_cons, exists_eq_or_imp, or_assoc]
theorem qB2 {x : Int} : ∀ (l : List Link) (r : List Int), x ∈ qG0 l r ↔ x ∈ r ∨ ∃ i ∈ l, x = i.role
  | [], r => by simp [qG0]
  | y :: ys, r => by
    have e : qG0 (y :: ys) r = qG0 ys (zD r y.role) := rfl
    rw [e, qB2 ys, insK_mm]
    simp only [List.mem_cons, exists_eq_or_imp, or_assoc]
theorem bX {b : Base} (hB : BaseOk b) (x : Int) : (x ∈ (wE b).1.1 ↔ ∃ y ∈ tB b, AxC y x) ∧ (x ∈ (wE b).1.2 ↔ ∃ y ∈ tB b, AxR y x) := by
  have hI : ∀ i ∈ b.incls, jV b.names i.sub = true ∧ jV b.names i.sup = true := fun i hi => by obtain ⟨j, hj⟩ := List.mem_iff_getElem?.1 hi; exact hB.sh_incl hj
  have hF : ∀ i ∈ b.facts, jV b.names i.con = true := fun i hi => by obtain ⟨j, hj⟩ := List.mem_iff_getElem?.1 hi; exact hB.sh_fact hj
  unfold wE
  dsimp only
  rw [(mU b.facts _ hF).1, qB2, (mU b.facts _ hF).2]
  dsimp only
  rw [(mT b.incls _ hI).1, qB1, (mT b.incls _ hI).2]
  have h : ∀ p : Ax → Prop, (∃ y ∈ tB b, p y) ↔ (∃ i ∈ b.incls, p (.incl i)) ∨ (∃ i ∈ b.roles, p (.role i)) ∨ (∃ i ∈ b.facts, p (.fact i)) ∨ (∃ i ∈ b.links, p (.link i)) := fun p => by
    constructor
    · rintro ⟨y, hy, hp⟩
      simp only [tB, List.mem_append, List.mem_map] at hy
      rcases hy with ((⟨z, hz, rfl⟩ | ⟨z, hz, rfl⟩) | ⟨z, hz, rfl⟩) | ⟨z, hz, rfl⟩
      · exact .inl ⟨z, hz, hp⟩
      · exact .inr (.inl ⟨z, hz, hp⟩)
      · exact .inr (.inr (.inl ⟨z, hz, hp⟩))
      · exact .inr (.inr (.inr ⟨z, hz, hp⟩))
    · rintro (⟨z, hz, hp⟩ | ⟨z, hz, hp⟩ | ⟨z, hz, hp⟩ | ⟨z, hz, hp⟩)
      · exact ⟨_, by simp only [tB, List.mem_append, List.mem_map]; exact .inl (.inl (.inl ⟨z, hz, rfl⟩)), hp⟩
      · exact ⟨_, by simp only [tB, List.mem_append, List.mem_map]; exact .inl (.inl (.inr ⟨z, hz, rfl⟩)), hp⟩
      · exact ⟨_, by simp only [tB, List.mem_append, List.mem_map]; exact .inl (.inr ⟨z, hz, rfl⟩), hp⟩
      · exact ⟨_, by simp only [tB, List.mem_append, List.mem_map]; exact .inr ⟨z, hz, rfl⟩, hp⟩
  rw [h, h]
  constructor <;> simp only [AxC, AxR, List.not_mem_nil, false_or, or_false, and_false, exists_false, or_assoc]
theorem qB3 {α : Type} (A : List α) : ∀ (l : List Int) (m : Nat), Up l → (∀ x ∈ l, (m : Int) ≤ x) → (l.filterMap fun k => A[k.toNat]?).Sublist (A.drop m)
  | [], m, _, _ => by simp
  | x :: xs, m, h, hm => by
    have hx := hm x (by simp)
    have hu := List.pairwise_cons.1 h
    have ih := qB3 A xs (x.toNat + 1) hu.2 fun y hy => by have := hu.1 y hy; omega
    have hd : (A.drop x.toNat).Sublist (A.drop m) := by
      have : A.drop x.toNat = (A.drop m).drop (x.toNat - m) := by rw [List.drop_drop]; congr 1; omega
      rw [this]; exact List.drop_sublist _ _
    rw [List.filterMap_cons]
    cases hA : A[x.toNat]? with
    | none => exact (ih.trans (by rw [← List.drop_drop]; exact List.drop_sublist _ _)).trans hd
    | some y =>
      obtain ⟨hl, rfl⟩ := List.getElem?_eq_some_iff.1 hA
      refine List.Sublist.trans ?_ hd
      rw [List.drop_eq_getElem_cons hl]
      exact ih.cons_cons _
theorem ofB_all (b : Base) : ofB b.names (tB b) = b := by
  cases b with
  | mk n i r f l =>
    have e {α β : Type} : ∀ q : List α, q.filterMap (fun _ => (none : Option β)) = [] := fun q => by induction q with
      | nil => rfl
      | cons x xs ih => rw [List.filterMap_cons]; exact ih
    simp only [ofB, tB, exI, exR, exF, exL, List.filterMap_append, List.filterMap_map]
    simp [Function.comp_def, e]
theorem qB4 {n : Names} {A : List Ax} {y : Ax} : y ∈ tB (ofB n A) ↔ y ∈ A := by
  simp only [tB, ofB, exI, exR, exF, exL, List.mem_append, List.mem_map, List.mem_filterMap]
  constructor
  · rintro (((⟨z, ⟨w, hw, e⟩, rfl⟩ | ⟨z, ⟨w, hw, e⟩, rfl⟩) | ⟨z, ⟨w, hw, e⟩, rfl⟩) | ⟨z, ⟨w, hw, e⟩, rfl⟩) <;> cases w <;> simp at e <;> subst e <;> exact hw
  · intro h
    cases y with
    | incl z => exact .inl (.inl (.inl ⟨z, ⟨_, h, rfl⟩, rfl⟩))
    | role z => exact .inl (.inl (.inr ⟨z, ⟨_, h, rfl⟩, rfl⟩))
    | fact z => exact .inl (.inr ⟨z, ⟨_, h, rfl⟩, rfl⟩)
    | link z => exact .inr ⟨z, ⟨_, h, rfl⟩, rfl⟩
theorem iM {α β : Type} (f : α → List β) {l m : List α} (h : l.Sublist m) : (l.flatMap f).Sublist (m.flatMap f) := by
  induction h with
  | slnil => exact .slnil
  | cons x _ ih => rw [List.flatMap_cons]; exact ih.trans (List.sublist_append_right _ _)
  | cons_cons x _ ih => rw [List.flatMap_cons, List.flatMap_cons]; exact (List.Sublist.refl _).append ih
theorem pick_ok {b : Base} (hB : BaseOk b) {l : List Int} (hl : Up l) (h0 : ∀ x ∈ l, 0 ≤ x) : BaseOk (zX b l) := by
  have hs : (aM b l).Sublist (tB b) := by
    have := qB3 (tB b) l 0 hl (fun x hx => by have := h0 x hx; omega)
    rwa [List.drop_zero] at this
  have e := ofB_all b
  have i1 : (exI (aM b l)).Sublist b.incls := by have := hs.filterMap (fun | .incl x => some x | _ => none : Ax → Option Incl); rw [show b.incls = exI (tB b) from (congrArg Base.incls e).symm]; exact this
  have i2 : (exR (aM b l)).Sublist b.roles := by have := hs.filterMap (fun | .role x => some x | _ => none : Ax → Option RoleIncl); rw [show b.roles = exR (tB b) from (congrArg Base.roles e).symm]; exact this
  have i3 : (exF (aM b l)).Sublist b.facts := by have := hs.filterMap (fun | .fact x => some x | _ => none : Ax → Option Fact); rw [show b.facts = exF (tB b) from (congrArg Base.facts e).symm]; exact this
  have i4 : (exL (aM b l)).Sublist b.links := by have := hs.filterMap (fun | .link x => some x | _ => none : Ax → Option Link); rw [show b.links = exL (tB b) from (congrArg Base.links e).symm]; exact this
  have ic : (xN (zX b l)).Sublist (xN b) := by
    unfold xN wO wL
    exact (iM _ i1).append (i3.map _)
  refine ⟨hB.names, ?_, fun c hc => hB.concepts c (ic.subset hc), fun x hx => hB.roles x (i2.subset hx), fun x hx => hB.facts x (i3.subset hx), fun x hx => hB.links x (i4.subset hx), Nat.le_trans (dU ic) hB.nodes⟩
  have h1 := i1.length_le; have h2 := i2.length_le; have h3 := i3.length_le; have h4 := i4.length_le; have hc := hB.count
  unfold xX at *
  show (exI _).length + (exR _).length + (exF _).length + (exL _).length ≤ 60
  omega
theorem qB5 {l : List Int} (h : l.Nodup) : Up (vI l) := by
  have hs : (vI l).Pairwise fun x y => decide (x ≤ y) = true := List.pairwise_mergeSort (fun a b c h1 h2 => by simp at *; omega) (fun a b => by simp; omega) l
  have hn : (vI l).Nodup := (List.mergeSort_perm l _).nodup_iff.2 h
  exact List.Pairwise.imp (fun {a b} hab => by have := of_decide_eq_true hab.1; have := hab.2; omega) (hs.and hn)
mutual
theorem qB6 : ∀ (c : Concept) (s : List Int × List Int), Up s.1 → Up s.2 → Up (kU c s).1 ∧ Up (kU c s).2
  | .mk op n args, s, h1, h2 => by
    rw [kU]
    exact qB7 args _ (by dsimp only; split; exact bJ h1; exact h1) (by dsimp only; split; exact bJ h2; exact h2)
theorem qB7 : ∀ (l : List Concept) (s : List Int × List Int), Up s.1 → Up s.2 → Up (zO l s).1 ∧ Up (zO l s).2
  | [], s, h1, h2 => by rw [zO]; exact ⟨h1, h2⟩
  | c :: cs, s, h1, h2 => by
    rw [zO]
    have h := qB6 c s h1 h2
    exact qB7 cs _ h.1 h.2
end
theorem rM {s : Sig} {c : Concept} (h : Up s.concepts ∧ Up s.roles) : Up (zW s c).concepts ∧ Up (zW s c).roles := qB6 c (s.concepts, s.roles) h.1 h.2
theorem usesA_up {b : Base} {k : Nat} {s : Sig} (h : Up s.concepts ∧ Up s.roles) : Up (yE b k s).concepts ∧ Up (yE b k s).roles := by
  unfold yE
  split
  · exact rM (rM h)
  · split
    · exact ⟨h.1, bJ (bJ h.2)⟩
    · split
      · exact rM h
      · split
        · exact ⟨h.1, bJ h.2⟩
        · exact h
theorem oL {b : Base} : ∀ {l : List Int} {s : Sig}, Up s.concepts ∧ Up s.roles → Up (jX b l s).concepts ∧ Up (jX b l s).roles
  | [], s, h => h
  | k :: l, s, h => oL (l := l) (usesA_up h)
theorem axC_at {b : Base} (hB : BaseOk b) {k : Int} {y : Ax} (hk : 0 ≤ k ∧ k < xX b) (hy : (tB b)[k.toNat]? = some y) (x : Int) : (axC b k.toNat x ↔ AxC y x) ∧ (axR b k.toNat x ↔ AxR y x) := by
  have h1 := iO hB hk x
  have hB1 := one_ok hB (List.mem_of_getElem? hy)
  have ep : zX b [k] = ofB b.names [y] := by simp [zX, aM, hy]
  have h2 := cU hB1 x
  have h3 := bX hB1 x
  unfold vY at h1
  rw [ep] at h1
  rw [← h1.1, ← h1.2, h2.1, h2.2, h3.1, h3.2]
  simp only [qB4, List.mem_singleton, exists_eq_left]
  exact ⟨trivial, trivial⟩
theorem oM {b : Base} (hB : BaseOk b) {l : List Int} (hl : kA l (xX b) = true) : vY b l = jX b l ⟨[], []⟩ := by
  unfold kA at hl
  rw [decide_eq_true_eq] at hl
  have hP := pick_ok hB hl.1 fun x hx => (hl.2 x hx).1
  have hb : vK (zX b l) = true := decide_eq_true hP
  have hg := eH hP
  have hu := oL (b := b) (l := l) (s := ⟨[], []⟩) ⟨List.Pairwise.nil, List.Pairwise.nil⟩
  have each (p : Ax → Prop) (q : Nat → Prop) (hpq : ∀ k ∈ l, ∀ y, (tB b)[k.toNat]? = some y → (q k.toNat ↔ p y)) : (∃ y ∈ tB (zX b l), p y) ↔ ∃ k ∈ l, q k.toNat := by
    unfold zX
    simp only [qB4, aM, List.mem_filterMap]
    constructor
    · rintro ⟨y, ⟨k, hk, hy⟩, hp⟩; exact ⟨k, hk, (hpq k hk y hy).2 hp⟩
    · rintro ⟨k, hk, hq⟩
      have hr := hl.2 k hk
      obtain ⟨y, hy⟩ : ∃ y, (tB b)[k.toNat]? = some y := ⟨_, List.getElem?_eq_getElem (by rw [mR]; omega)⟩
      exact ⟨y, ⟨k, hk, hy⟩, (hpq k hk y hy).1 hq⟩
  have h1 : (vY b l).concepts = (jX b l ⟨[], []⟩).concepts := by
    refine nB ?_ hu.1 fun x => ?_
    · unfold vY vC; rw [if_pos hb]; exact qB5 hg.1.nd
    · unfold vY
      dsimp only
      rw [(cU hP x).1, (bX hP x).1, (gI b x l ⟨[], []⟩).1, each (fun y => AxC y x) (fun k => axC b k x) fun k hk y hy => (axC_at hB (hl.2 k hk) hy x).1]
      simp
  have h2 : (vY b l).roles = (jX b l ⟨[], []⟩).roles := by
    refine nB ?_ hu.2 fun x => ?_
    · unfold vY vC; rw [if_pos hb]; exact qB5 hg.2.nd
    · unfold vY
      dsimp only
      rw [(cU hP x).2, (bX hP x).2, (gI b x l ⟨[], []⟩).2, each (fun y => AxR y x) (fun k => axR b k x) fun k hk y hy => (axC_at hB (hl.2 k hk) hy x).2]
      simp
  calc vY b l = ⟨(vY b l).concepts, (vY b l).roles⟩ := rfl
    _ = _ := by rw [h1, h2]

end Go.Proofs.YtcbcdlajnmkioaaGreatDoor
