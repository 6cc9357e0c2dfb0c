/- A part of the proof of the statement ModuleModules of isagogelaw19: functions walked, and plain laws on what they answer. -/
import Derived.Test.YtcbcdlajnmkioaaGreatDoorZ3
namespace Go.Proofs.YtcbcdlajnmkioaaGreatDoor
open Go Go.Proofs
set_option linter.unusedSimpArgs false
set_option linter.unusedVariables false
set_option maxRecDepth 20000
set_option maxHeartbeats 8000000
theorem ca31 : Callable Tryz.prog 31 := ⟨by kernel_rfl⟩
theorem ca64 : Callable Tryz.prog 64 := ⟨by kernel_rfl⟩
theorem ca65 : Callable Tryz.prog 65 := ⟨by kernel_rfl⟩
theorem sl74 : wE Tryz.prog 74 = some (33, 2) := by kernel_rfl

theorem vO {R : RO} {G : List Res} {w : World} (i : Int) (hi_i : i64 i) (hw : Own w R (G)) :
    Calls Tryz.prog 65 [.int .i64 i].toArray w (gZ R G (fun v_ R' L_ => ∃ (cs_0 : List Value), v_ = (.agg cs_0.toArray : Value) ∧ L_ = ([] : List Res) ∧ kConcept.rep R' (Concept.mk 0 i []) cs_0)) := by
 unfold i64 at hi_i
 refine xH (vs := [.int .i64 i]) Tryz.func65 rfl rfl rfl ?_ hw
 refine qE <| qA ?_
 refine qS eZ rfl fun b1 => ?_
 refine qB <| qC <| qE <| qA ?_
 refine tl (qG rfl) ?_
 have hs2 : SlAt kConcept R none ([] : List (Concept)) := SlAt.nil _ _ _
 refine xD ca64 rfl (fun w hw => sQ 0 i ([] : List (Concept)) (by unfold i64; omega) (by unfold i64; omega) hs2 hw) rfl ?_
 rintro _ R4 _ hle5 ⟨cs_z3_0, rfl, rfl, hr_z3_0⟩
 obtain ⟨A6, d7, rfl, i8, i9, hs10⟩ := qM hr_z3_0
 unfold i64 at i8 i9
 have z11 := hs10.size
 unfold big at z11
 refine xN 0 [.int .i64 ((Concept.mk 0 i ([] : List (Concept))).op), .int .i64 ((Concept.mk 0 i ([] : List (Concept))).n), .slice A6 (((Concept.mk 0 i ([] : List (Concept))).args).length) d7] rfl rfl vU rfl rfl rfl rfl rfl rfl ?_
 refine qB <| qC <| qV ?_
 refine kO (cells := [.int .i64 ((Concept.mk 0 i ([] : List (Concept))).op), .int .i64 ((Concept.mk 0 i ([] : List (Concept))).n), .slice A6 (((Concept.mk 0 i ([] : List (Concept))).args).length) d7]) 0 (.inl rfl) rfl rfl vU rfl ?_
 have e12 : ((Concept.mk 0 i ([] : List (Concept))) : Concept) = Concept.mk 0 i [] := by rfl
 intro w hw
 exact ⟨_, _, [], rfl, hle5, hw.drop 1, ([.int .i64 ((Concept.mk 0 i ([] : List (Concept))).op), .int .i64 ((Concept.mk 0 i ([] : List (Concept))).n), .slice A6 (((Concept.mk 0 i ([] : List (Concept))).args).length) d7]), rfl, rfl, (Eq.mp (congrArg (fun z => kConcept.rep R4 z [.int .i64 ((Concept.mk 0 i ([] : List (Concept))).op), .int .i64 ((Concept.mk 0 i ([] : List (Concept))).n), .slice A6 (((Concept.mk 0 i ([] : List (Concept))).args).length) d7]) e12) hr_z3_0)⟩

def ltr (n : Nat) : ByteArray := ⟨#[n.toUInt8]⟩
def lettersB : Base := ⟨⟨[⟨#[65]⟩, ⟨#[66]⟩, ⟨#[67]⟩, ⟨#[68]⟩, ⟨#[69]⟩], [⟨#[114]⟩], []⟩, [⟨.mk 0 0 [], .mk 6 0 [.mk 0 1 []]⟩, ⟨.mk 0 1 [], .mk 0 2 []⟩, ⟨.mk 0 3 [], .mk 0 4 []⟩], [], [], []⟩

theorem yB {R : RO} {G : List Res} {w : World}  (hw : Own w R (G)) :
    Calls Tryz.prog 33 [].toArray w (gZ R G (fun v_ R' L_ => ∃ (cs_0 : List Value), v_ = (.agg cs_0.toArray : Value) ∧ L_ = ([] : List Res) ∧ kBase.rep R' lettersB cs_0)) := by
 refine xH (vs := []) Tryz.func33 rfl rfl rfl ?_ hw
 refine qE <| qA ?_
 refine qS qJ5 rfl fun b1 => ?_
 refine qB <| qC <| qE <| qA ?_
 refine jB [.string (⟨#[65]⟩), .string (⟨#[66]⟩), .string (⟨#[67]⟩), .string (⟨#[68]⟩), .string (⟨#[69]⟩)] ap22 rfl rfl rfl rfl rfl rfl rfl fun b2 => ?_
 refine jB [.string (⟨#[114]⟩)] ap22 rfl rfl rfl rfl rfl rfl rfl fun b3 => ?_
 refine tl (xP [.slice (some ⟨b2, 0, none⟩) 5 5, .slice (some ⟨b3, 0, none⟩) 1 1, .slice none 0 0] zc24 pl24 rfl rfl) ?_
 refine qS zc24 rfl fun b4 => ?_
 refine xN 0 [.slice (some ⟨b2, 0, none⟩) 5 5, .slice (some ⟨b3, 0, none⟩) 1 1, .slice none 0 0] rfl rfl bT rfl rfl rfl rfl rfl rfl ?_
 refine qB <| qC <| qE <| qA ?_
 refine xD ca65 rfl (fun w hw => vO 1 (by unfold i64; omega) hw) rfl ?_
 rintro _ R6 _ hle7 ⟨cs_z5_0, rfl, rfl, hr_z5_0⟩
 obtain ⟨A8, d9, rfl, i10, i11, hs12⟩ := qM hr_z5_0
 unfold i64 at i10 i11
 have z13 := hs12.size
 unfold big at z13
 refine jB [.int .i64 ((Concept.mk 0 1 []).op), .int .i64 ((Concept.mk 0 1 []).n), .slice A8 (((Concept.mk 0 1 []).args).length) d9] ap35 rfl rfl rfl rfl rfl rfl rfl fun b14 => ?_
 refine zI (k := kConcept) (l := ([(Concept.mk 0 1 [])] : List (Concept))) 0 rfl (⟨_, _, rfl, hr_z5_0, rfl⟩) (by show 1 ≤ big; unfold big; omega) fun R16 hle17 hs15 => ?_
 have hle18 := hle7.trans hle17
 have z19 := hs15.size
 unfold big at z19
 refine xD ca64 rfl (fun w hw => sQ 6 0 ([(Concept.mk 0 1 [])] : List (Concept)) (by unfold i64; omega) (by unfold i64; omega) hs15 hw) rfl ?_
 rintro _ R21 _ hle22 ⟨cs_z20_0, rfl, rfl, hr_z20_0⟩
 have hle23 := hle18.trans hle22
 have hle24 := hle17.trans hle22
 obtain ⟨A25, d26, rfl, i27, i28, hs29⟩ := qM hr_z20_0
 unfold i64 at i27 i28
 have z30 := hs29.size
 unfold big at z30
 refine qS eZ rfl fun b31 => ?_
 refine xN 0 [.int .i64 ((Concept.mk 6 0 ([(Concept.mk 0 1 [])] : List (Concept))).op), .int .i64 ((Concept.mk 6 0 ([(Concept.mk 0 1 [])] : List (Concept))).n), .slice A25 (((Concept.mk 6 0 ([(Concept.mk 0 1 [])] : List (Concept))).args).length) d26] rfl rfl vU rfl rfl rfl rfl rfl rfl ?_
 refine qB <| qC <| qE ?_
 refine vS R21 (.blk b31 [.int .i64 ((Concept.mk 6 0 ([(Concept.mk 0 1 [])] : List (Concept))).op), .int .i64 ((Concept.mk 6 0 ([(Concept.mk 0 1 [])] : List (Concept))).n), .slice A25 (((Concept.mk 6 0 ([(Concept.mk 0 1 [])] : List (Concept))).args).length) d26] 37 :: .blk b4 [.slice (some ⟨b2, 0, none⟩) 5 5, .slice (some ⟨b3, 0, none⟩) 1 1, .slice none 0 0] 24 :: .blk b3 [.string (⟨#[114]⟩)] 9 :: .blk b2 [.string (⟨#[65]⟩), .string (⟨#[66]⟩), .string (⟨#[67]⟩), .string (⟨#[68]⟩), .string (⟨#[69]⟩)] 9 :: .blk b1 [.slice none 0 0, .slice none 0 0, .slice none 0 0, .slice none 0 0, .slice none 0 0, .slice none 0 0, .slice none 0 0] 30 :: G) 12 mixed ?_
 refine td 0 rfl (by kernel_rfl) (qQ 1 [.slice (some ⟨b2, 0, none⟩) 5 5, .slice (some ⟨b3, 0, none⟩) 1 1, .slice none 0 0] rfl bT rfl rfl) (fun w hw => hw) ?_
 refine td 2 rfl (by kernel_rfl) (qQ 0 [.int .i64 ((Concept.mk 6 0 ([(Concept.mk 0 1 [])] : List (Concept))).op), .int .i64 ((Concept.mk 6 0 ([(Concept.mk 0 1 [])] : List (Concept))).n), .slice A25 (((Concept.mk 6 0 ([(Concept.mk 0 1 [])] : List (Concept))).args).length) d26] rfl vU rfl rfl) (fun w hw => hw) ?_
 refine td1 1 (by kernel_rfl) rfl ?_
 refine xD ca65 rfl (fun w hw => vO 0 (by unfold i64; omega) hw) rfl ?_
 rintro _ R33 _ hle34 ⟨cs_z32_0, rfl, rfl, hr_z32_0⟩
 try replace hr_z20_0 := kConcept.mono _ _ _ _ hle34 hr_z20_0
 have hle35 := hle23.trans hle34
 have hle36 := hle24.trans hle34
 have hle37 := hle22.trans hle34
 obtain ⟨A38, d39, rfl, i40, i41, hs42⟩ := qM hr_z32_0
 unfold i64 at i40 i41
 have z43 := hs42.size
 unfold big at z43
 refine qB ?_
 refine qY (fun w hw => (hw).weaken hle34) ?_
 refine td 3 rfl (by kernel_rfl) (xP [.int .i64 ((Concept.mk 0 0 []).op), .int .i64 ((Concept.mk 0 0 []).n), .slice A38 (((Concept.mk 0 0 []).args).length) d39, .int .i64 ((Concept.mk 6 0 ([(Concept.mk 0 1 [])] : List (Concept))).op), .int .i64 ((Concept.mk 6 0 ([(Concept.mk 0 1 [])] : List (Concept))).n), .slice A25 (((Concept.mk 6 0 ([(Concept.mk 0 1 [])] : List (Concept))).args).length) d26] zc92 pl92 rfl rfl) (fun w hw => (hw).weaken hle34) ?_
 refine td1 4 (by kernel_rfl) rfl ?_
 refine xD ca65 rfl (fun w hw => vO 1 (by unfold i64; omega) hw) rfl ?_
 rintro _ R45 _ hle46 ⟨cs_z44_0, rfl, rfl, hr_z44_0⟩
 try replace hr_z20_0 := kConcept.mono _ _ _ _ hle46 hr_z20_0
 try replace hr_z32_0 := kConcept.mono _ _ _ _ hle46 hr_z32_0
 have hle47 := hle35.trans hle46
 have hle48 := hle36.trans hle46
 have hle49 := hle37.trans hle46
 have hle50 := hle34.trans hle46
 obtain ⟨A51, d52, rfl, i53, i54, hs55⟩ := qM hr_z44_0
 unfold i64 at i53 i54
 have z56 := hs55.size
 unfold big at z56
 refine qB ?_
 refine qY (fun w hw => (hw).weaken hle50) ?_
 refine td1 5 (by kernel_rfl) rfl ?_
 refine xD ca65 rfl (fun w hw => vO 2 (by unfold i64; omega) hw) rfl ?_
 rintro _ R58 _ hle59 ⟨cs_z57_0, rfl, rfl, hr_z57_0⟩
 try replace hr_z20_0 := kConcept.mono _ _ _ _ hle59 hr_z20_0
 try replace hr_z32_0 := kConcept.mono _ _ _ _ hle59 hr_z32_0
 try replace hr_z44_0 := kConcept.mono _ _ _ _ hle59 hr_z44_0
 have hle60 := hle47.trans hle59
 have hle61 := hle48.trans hle59
 have hle62 := hle49.trans hle59
 have hle63 := hle50.trans hle59
 have hle64 := hle46.trans hle59
 obtain ⟨A65, d66, rfl, i67, i68, hs69⟩ := qM hr_z57_0
 unfold i64 at i67 i68
 have z70 := hs69.size
 unfold big at z70
 refine qB ?_
 refine qY (fun w hw => (hw).weaken hle63) ?_
 refine td 6 rfl (by kernel_rfl) (xP [.int .i64 ((Concept.mk 0 1 []).op), .int .i64 ((Concept.mk 0 1 []).n), .slice A51 (((Concept.mk 0 1 []).args).length) d52, .int .i64 ((Concept.mk 0 2 []).op), .int .i64 ((Concept.mk 0 2 []).n), .slice A65 (((Concept.mk 0 2 []).args).length) d66] zc92 pl92 rfl rfl) (fun w hw => (hw).weaken hle63) ?_
 refine td1 7 (by kernel_rfl) rfl ?_
 refine xD ca65 rfl (fun w hw => vO 3 (by unfold i64; omega) hw) rfl ?_
 rintro _ R72 _ hle73 ⟨cs_z71_0, rfl, rfl, hr_z71_0⟩
 try replace hr_z20_0 := kConcept.mono _ _ _ _ hle73 hr_z20_0
 try replace hr_z32_0 := kConcept.mono _ _ _ _ hle73 hr_z32_0
 try replace hr_z44_0 := kConcept.mono _ _ _ _ hle73 hr_z44_0
 try replace hr_z57_0 := kConcept.mono _ _ _ _ hle73 hr_z57_0
 have hle74 := hle60.trans hle73
 have hle75 := hle61.trans hle73
 have hle76 := hle62.trans hle73
 have hle77 := hle63.trans hle73
 have hle78 := hle64.trans hle73
 have hle79 := hle59.trans hle73
 obtain ⟨A80, d81, rfl, i82, i83, hs84⟩ := qM hr_z71_0
 unfold i64 at i82 i83
 have z85 := hs84.size
 unfold big at z85
 refine qB ?_
 refine qY (fun w hw => (hw).weaken hle77) ?_
 refine td1 8 (by kernel_rfl) rfl ?_
 refine xD ca65 rfl (fun w hw => vO 4 (by unfold i64; omega) hw) rfl ?_
 rintro _ R87 _ hle88 ⟨cs_z86_0, rfl, rfl, hr_z86_0⟩
 try replace hr_z20_0 := kConcept.mono _ _ _ _ hle88 hr_z20_0
 try replace hr_z32_0 := kConcept.mono _ _ _ _ hle88 hr_z32_0
 try replace hr_z44_0 := kConcept.mono _ _ _ _ hle88 hr_z44_0
 try replace hr_z57_0 := kConcept.mono _ _ _ _ hle88 hr_z57_0
 try replace hr_z71_0 := kConcept.mono _ _ _ _ hle88 hr_z71_0
 have hle89 := hle74.trans hle88
 have hle90 := hle75.trans hle88
 have hle91 := hle76.trans hle88
 have hle92 := hle77.trans hle88
 have hle93 := hle78.trans hle88
 have hle94 := hle79.trans hle88
 have hle95 := hle73.trans hle88
 obtain ⟨A96, d97, rfl, i98, i99, hs100⟩ := qM hr_z86_0
 unfold i64 at i98 i99
 have z101 := hs100.size
 unfold big at z101
 refine qB ?_
 refine qY (fun w hw => (hw).weaken hle92) ?_
 refine td 9 rfl (by kernel_rfl) (xP [.int .i64 ((Concept.mk 0 3 []).op), .int .i64 ((Concept.mk 0 3 []).n), .slice A80 (((Concept.mk 0 3 []).args).length) d81, .int .i64 ((Concept.mk 0 4 []).op), .int .i64 ((Concept.mk 0 4 []).n), .slice A96 (((Concept.mk 0 4 []).args).length) d97] zc92 pl92 rfl rfl) (fun w hw => (hw).weaken hle92) ?_
 refine td1 10 (by kernel_rfl) rfl ?_
 refine jB [.int .i64 ((Concept.mk 0 0 []).op), .int .i64 ((Concept.mk 0 0 []).n), .slice A38 (((Concept.mk 0 0 []).args).length) d39, .int .i64 ((Concept.mk 6 0 ([(Concept.mk 0 1 [])] : List (Concept))).op), .int .i64 ((Concept.mk 6 0 ([(Concept.mk 0 1 [])] : List (Concept))).n), .slice A25 (((Concept.mk 6 0 ([(Concept.mk 0 1 [])] : List (Concept))).args).length) d26, .int .i64 ((Concept.mk 0 1 []).op), .int .i64 ((Concept.mk 0 1 []).n), .slice A51 (((Concept.mk 0 1 []).args).length) d52, .int .i64 ((Concept.mk 0 2 []).op), .int .i64 ((Concept.mk 0 2 []).n), .slice A65 (((Concept.mk 0 2 []).args).length) d66, .int .i64 ((Concept.mk 0 3 []).op), .int .i64 ((Concept.mk 0 3 []).n), .slice A80 (((Concept.mk 0 3 []).args).length) d81, .int .i64 ((Concept.mk 0 4 []).op), .int .i64 ((Concept.mk 0 4 []).n), .slice A96 (((Concept.mk 0 4 []).args).length) d97] ap25 rfl rfl rfl rfl rfl rfl rfl fun b102 => ?_
 refine qB ?_
 refine qY (fun w hw => (hw.drop 1).weaken hle92) ?_
 refine td 11 rfl (by kernel_rfl) (xP [.slice (some ⟨b2, 0, none⟩) 5 5, .slice (some ⟨b3, 0, none⟩) 1 1, .slice none 0 0, .slice (some ⟨b102, 0, none⟩) 3 3, .slice none 0 0, .slice none 0 0, .slice none 0 0] qJ5 pl30 rfl rfl) (fun w hw => (hw.drop 1).weaken hle92) ?_
 refine td1 12 (by kernel_rfl) rfl ?_
 refine xN 5 [.slice (some ⟨b2, 0, none⟩) 5 5, .slice (some ⟨b3, 0, none⟩) 1 1, .slice none 0 0, .slice (some ⟨b102, 0, none⟩) 3 3, .slice none 0 0, .slice none 0 0, .slice none 0 0] rfl rfl pN rfl rfl rfl rfl rfl rfl ?_
 refine qB ?_
 refine xZ ?_
 refine xK (by kernel_rfl) ?_
 refine qC <| qV ?_
 refine dT (k := kStr) (l := ([⟨#[65]⟩, ⟨#[66]⟩, ⟨#[67]⟩, ⟨#[68]⟩, ⟨#[69]⟩] : List (ByteArray))) 4 rfl (⟨_, _, rfl, ⟨rfl, by unfold big; decide⟩, ⟨_, _, rfl, ⟨rfl, by unfold big; decide⟩, ⟨_, _, rfl, ⟨rfl, by unfold big; decide⟩, ⟨_, _, rfl, ⟨rfl, by unfold big; decide⟩, ⟨_, _, rfl, ⟨rfl, by unfold big; decide⟩, rfl⟩⟩⟩⟩⟩) (by show 5 ≤ big; unfold big; omega) fun R104 hle105 hs103 => ?_
 try replace hr_z20_0 := kConcept.mono _ _ _ _ hle105 hr_z20_0
 try replace hr_z32_0 := kConcept.mono _ _ _ _ hle105 hr_z32_0
 try replace hr_z44_0 := kConcept.mono _ _ _ _ hle105 hr_z44_0
 try replace hr_z57_0 := kConcept.mono _ _ _ _ hle105 hr_z57_0
 try replace hr_z71_0 := kConcept.mono _ _ _ _ hle105 hr_z71_0
 try replace hr_z86_0 := kConcept.mono _ _ _ _ hle105 hr_z86_0
 have hle106 := hle89.trans hle105
 have hle107 := hle90.trans hle105
 have hle108 := hle91.trans hle105
 have hle109 := hle92.trans hle105
 have hle110 := hle93.trans hle105
 have hle111 := hle94.trans hle105
 have hle112 := hle95.trans hle105
 have hle113 := hle88.trans hle105
 have z114 := hs103.size
 unfold big at z114
 refine dT (k := kStr) (l := ([⟨#[114]⟩] : List (ByteArray))) 3 rfl (⟨_, _, rfl, ⟨rfl, by unfold big; decide⟩, rfl⟩) (by show 1 ≤ big; unfold big; omega) fun R116 hle117 hs115 => ?_
 try replace hr_z20_0 := kConcept.mono _ _ _ _ hle117 hr_z20_0
 try replace hr_z32_0 := kConcept.mono _ _ _ _ hle117 hr_z32_0
 try replace hr_z44_0 := kConcept.mono _ _ _ _ hle117 hr_z44_0
 try replace hr_z57_0 := kConcept.mono _ _ _ _ hle117 hr_z57_0
 try replace hr_z71_0 := kConcept.mono _ _ _ _ hle117 hr_z71_0
 try replace hr_z86_0 := kConcept.mono _ _ _ _ hle117 hr_z86_0
 try replace hs103 := hs103.mono hle117
 have hle118 := hle106.trans hle117
 have hle119 := hle107.trans hle117
 have hle120 := hle108.trans hle117
 have hle121 := hle109.trans hle117
 have hle122 := hle110.trans hle117
 have hle123 := hle111.trans hle117
 have hle124 := hle112.trans hle117
 have hle125 := hle113.trans hle117
 have hle126 := hle105.trans hle117
 have z127 := hs115.size
 unfold big at z127
 refine dT (k := kIncl) (l := ([(Incl.mk (Concept.mk 0 0 []) (Concept.mk 6 0 ([(Concept.mk 0 1 [])] : List (Concept)))), (Incl.mk (Concept.mk 0 1 []) (Concept.mk 0 2 [])), (Incl.mk (Concept.mk 0 3 []) (Concept.mk 0 4 []))] : List (Incl))) 0 rfl (⟨_, _, rfl, ⟨[.int .i64 ((Concept.mk 0 0 []).op), .int .i64 ((Concept.mk 0 0 []).n), .slice A38 (((Concept.mk 0 0 []).args).length) d39], [.int .i64 ((Concept.mk 6 0 ([(Concept.mk 0 1 [])] : List (Concept))).op), .int .i64 ((Concept.mk 6 0 ([(Concept.mk 0 1 [])] : List (Concept))).n), .slice A25 (((Concept.mk 6 0 ([(Concept.mk 0 1 [])] : List (Concept))).args).length) d26], rfl, hr_z32_0, hr_z20_0⟩, ⟨_, _, rfl, ⟨[.int .i64 ((Concept.mk 0 1 []).op), .int .i64 ((Concept.mk 0 1 []).n), .slice A51 (((Concept.mk 0 1 []).args).length) d52], [.int .i64 ((Concept.mk 0 2 []).op), .int .i64 ((Concept.mk 0 2 []).n), .slice A65 (((Concept.mk 0 2 []).args).length) d66], rfl, hr_z44_0, hr_z57_0⟩, ⟨_, _, rfl, ⟨[.int .i64 ((Concept.mk 0 3 []).op), .int .i64 ((Concept.mk 0 3 []).n), .slice A80 (((Concept.mk 0 3 []).args).length) d81], [.int .i64 ((Concept.mk 0 4 []).op), .int .i64 ((Concept.mk 0 4 []).n), .slice A96 (((Concept.mk 0 4 []).args).length) d97], rfl, hr_z71_0, hr_z86_0⟩, rfl⟩⟩⟩) (by show 3 ≤ big; unfold big; omega) fun R129 hle130 hs128 => ?_
 try replace hs103 := hs103.mono hle130
 try replace hs115 := hs115.mono hle130
 have hle131 := hle118.trans hle130
 have hle132 := hle119.trans hle130
 have hle133 := hle120.trans hle130
 have hle134 := hle121.trans hle130
 have hle135 := hle122.trans hle130
 have hle136 := hle123.trans hle130
 have hle137 := hle124.trans hle130
 have hle138 := hle125.trans hle130
 have hle139 := hle126.trans hle130
 have hle140 := hle117.trans hle130
 have z141 := hs128.size
 unfold big at z141
 refine kO (cells := [.slice (some ⟨b2, 0, none⟩) 5 5, .slice (some ⟨b3, 0, none⟩) 1 1, .slice none 0 0, .slice (some ⟨b102, 0, none⟩) 3 3, .slice none 0 0, .slice none 0 0, .slice none 0 0]) 2 (.inl rfl) rfl rfl pN rfl ?_
 have e142 : ((Base.mk (Names.mk ([⟨#[65]⟩, ⟨#[66]⟩, ⟨#[67]⟩, ⟨#[68]⟩, ⟨#[69]⟩] : List (ByteArray)) ([⟨#[114]⟩] : List (ByteArray)) ([] : List (ByteArray))) ([(Incl.mk (Concept.mk 0 0 []) (Concept.mk 6 0 ([(Concept.mk 0 1 [])] : List (Concept)))), (Incl.mk (Concept.mk 0 1 []) (Concept.mk 0 2 [])), (Incl.mk (Concept.mk 0 3 []) (Concept.mk 0 4 []))] : List (Incl)) ([] : List (RoleIncl)) ([] : List (Fact)) ([] : List (Link))) : Base) = lettersB := by rfl
 intro w hw
 exact ⟨_, _, [], rfl, hle131, hw.drop 3, ([.slice (some ⟨b2, 0, none⟩) 5 5, .slice (some ⟨b3, 0, none⟩) 1 1, .slice none 0 0, .slice (some ⟨b102, 0, none⟩) 3 3, .slice none 0 0, .slice none 0 0, .slice none 0 0]), rfl, rfl, (Eq.mp (congrArg (fun z => kBase.rep R129 z [.slice (some ⟨b2, 0, none⟩) 5 5, .slice (some ⟨b3, 0, none⟩) 1 1, .slice none 0 0, .slice (some ⟨b102, 0, none⟩) 3 3, .slice none 0 0, .slice none 0 0, .slice none 0 0]) e142) ⟨[.slice (some ⟨b2, 0, none⟩) 5 5, .slice (some ⟨b3, 0, none⟩) 1 1, .slice none 0 0], _, _, _, _, _, _, _, _, rfl, ⟨_, _, _, _, _, _, rfl, hs103, hs115, (SlAt.nil _ _ _)⟩, hs128, (SlAt.nil _ _ _), (SlAt.nil _ _ _), (SlAt.nil _ _ _)⟩)⟩

def cI (b : Base) (c : Concept) (l : List Sig) : Bool := decide ((∀ s ∈ l, s.concepts.length ≤ 100 ∧ s.roles.length ≤ 100) ∧ qE6 b 400 = true ∧ jW c ≤ 400)

theorem uW {R : RO} {G : List Res} {w : World} {c_b : List Value} (b : Base) {c_c : List Value} (c : Concept) {A_l : Option Addr} {d_l : Nat} (l : List (Sig)) (hr_b : kBase.rep R b c_b) (hr_c : kConcept.rep R c c_c) (hs_l : SlAt kSig R A_l l) (hw : Own w R (G)) :
    Calls Tryz.prog 7 [.agg c_b.toArray, .agg c_c.toArray, .slice A_l l.length d_l].toArray w (kK R G (.bool (cI b c l))) := by
 obtain ⟨c1, A3, d4, A6, d7, A9, d10, A12, d13, rfl, hr2, hs5, hs8, hs11, hs14⟩ := id hr_b
 have z27 := hs5.size
 unfold big at z27
 have z28 := hs8.size
 unfold big at z28
 have z29 := hs11.size
 unfold big at z29
 have z30 := hs14.size
 unfold big at z30
 obtain ⟨A15, d16, A19, d20, A23, d24, rfl, hs17, hs21, hs25⟩ := id hr2
 have z18 := hs17.size
 unfold big at z18
 have z22 := hs21.size
 unfold big at z22
 have z26 := hs25.size
 unfold big at z26
 obtain ⟨A31, d32, rfl, i33, i34, hs35⟩ := qM hr_c
 unfold i64 at i33 i34
 have z36 := hs35.size
 unfold big at z36
 have hz_l := hs_l.size
 unfold big at hz_l
 refine xH (vs := [.agg #[.slice A15 b.names.concepts.length d16, .slice A19 b.names.roles.length d20, .slice A23 b.names.inds.length d24, .slice A3 b.incls.length d4, .slice A6 b.roles.length d7, .slice A9 b.facts.length d10, .slice A12 b.links.length d13], .agg #[.int .i64 c.op, .int .i64 c.n, .slice A31 c.args.length d32], .slice A_l l.length d_l]) Tryz.func7 rfl rfl rfl ?_ hw
 refine qE <| qA ?_
 refine qW (l := [.slice A15 b.names.concepts.length d16, .slice A19 b.names.roles.length d20, .slice A23 b.names.inds.length d24, .slice A3 b.incls.length d4, .slice A6 b.roles.length d7, .slice A9 b.facts.length d10, .slice A12 b.links.length d13]) rfl rfl fun b37 => ?_
 refine qW (l := [.int .i64 c.op, .int .i64 c.n, .slice A31 c.args.length d32]) rfl rfl fun b38 => ?_
 refine tl (qD rfl) ?_
 refine qB <| qC <| qE <| qE <| qA ?_
 refine tl (qG rfl) ?_
 refine tl (jJ rfl sl74) ?_
 refine tl (qG rfl) ?_
 refine qB <| qC <| qX ?_
 refine jF ?_
 refine jN (fun i : Nat => l.length - i) (fun i : Nat => [(3, .pointer (some ⟨b37, 0, none⟩)), (4, .pointer (some ⟨b38, 0, none⟩)), (9, .slice A_l l.length d_l), (10, .int .i64 (l.length : Int)), (11, .int .i64 (i : Int))]) (fun i : Nat => (.blk b38 [.int .i64 c.op, .int .i64 c.n, .slice A31 c.args.length d32] 37 :: .blk b37 [.slice A15 b.names.concepts.length d16, .slice A19 b.names.roles.length d20, .slice A23 b.names.inds.length d24, .slice A3 b.incls.length d4, .slice A6 b.roles.length d7, .slice A9 b.facts.length d10, .slice A12 b.links.length d13] 30 :: G)) (fun (i : Nat) => i ≤ l.length ∧ ∀ s ∈ l.take i, s.concepts.length ≤ 100 ∧ s.roles.length ≤ 100) (0) (by repeat' constructor) (by exact ⟨by omega, by simp⟩) (fun w hw => hw) ?_
 rintro i hI39 ih40
 show TC Tryz.prog _ _ _ [] [(3, .pointer (some ⟨b37, 0, none⟩)), (4, .pointer (some ⟨b38, 0, none⟩)), (9, .slice A_l l.length d_l), (10, .int .i64 (l.length : Int)), (11, .int .i64 (i : Int))] R (.blk b38 [.int .i64 c.op, .int .i64 c.n, .slice A31 c.args.length d32] 37 :: .blk b37 [.slice A15 b.names.concepts.length d16, .slice A19 b.names.roles.length d20, .slice A23 b.names.inds.length d24, .slice A3 b.incls.length d4, .slice A6 b.roles.length d7, .slice A9 b.facts.length d10, .slice A12 b.links.length d13] 30 :: G)
 obtain ⟨hi1, hi2⟩ := hI39
 refine qE <| qA ?_
 refine tl (jR rfl rfl rfl) ?_
 refine qB <| qC <| qE ?_
 refine qP 12 rfl (fun h43 => ?_) (fun h43 => ?_)
 refine xE rfl ?_
 refine qZ <| qC <| qE <| qX <| qE <| qA ?_
 have hb49 : i < l.length := by omega
 obtain ⟨x44, hx45⟩ : ∃ x, l[i]? = some x := ⟨_, List.getElem?_eq_getElem hb49⟩
 obtain ⟨c46, hr47, ha48⟩ := hs_l.get _ x44 hx45
 obtain ⟨A50, d51, A54, d55, rfl, hs52, hs56⟩ := id hr47
 have z53 := hs52.size
 unfold big at z53
 have z57 := hs56.size
 unfold big at z57
 refine tl (jV (i := i) hs_l rfl rfl rfl sl74 hb49) ?_
 refine tl (jA 0 [.slice A50 x44.concepts.length d51, .slice A54 x44.roles.length d55] ha48 rfl yM rfl rfl) ?_
 refine qS tS rfl fun b58 => ?_
 refine xN 0 [.slice A50 x44.concepts.length d51, .slice A54 x44.roles.length d55] rfl rfl yM rfl rfl rfl rfl rfl rfl ?_
 refine qB <| qC ?_
 refine vH [(3, .pointer (some ⟨b37, 0, none⟩)), (4, .pointer (some ⟨b38, 0, none⟩)), (9, .slice A_l l.length d_l), (10, .int .i64 (l.length : Int)), (11, .int .i64 (i : Int)), (12, .bool true), (8, .pointer (some ⟨b58, 0, none⟩)), (24, .bool (decide ((100 < (x44.concepts.length : Int)) ∨ (100 < (x44.roles.length : Int)))))] (.blk b58 [.slice A50 x44.concepts.length d51, .slice A54 x44.roles.length d55] 33 :: .blk b38 [.int .i64 c.op, .int .i64 c.n, .slice A31 c.args.length d32] 37 :: .blk b37 [.slice A15 b.names.concepts.length d16, .slice A19 b.names.roles.length d20, .slice A23 b.names.inds.length d24, .slice A3 b.incls.length d4, .slice A6 b.roles.length d7, .slice A9 b.facts.length d10, .slice A12 b.links.length d13] 30 :: G) (fun _ => True) (fun K hK59 hE60 => ?_) ?_
 refine qA ?_
 refine tl (qH 0 rfl eK rfl) ?_
 refine tl (jM 0 rfl iA rfl rfl) ?_
 refine tl (jJ rfl pL) ?_
 refine tl (jR rfl rfl rfl) ?_
 refine tl (qG rfl) ?_
 refine xX 19 rfl (fun h61 => ?_) (fun h61 => ?_)
 refine qF 19 rfl rfl rfl ?_
 refine qF 19 rfl rfl rfl ?_
 refine qF 19 rfl rfl rfl ?_
 refine qF 19 rfl rfl rfl ?_
 refine tl (qR rfl rfl) ?_
 refine qB ?_
 exact xW hK59 (.refl _) (trivial) ⟨rfl, rfl, rfl, rfl, rfl, rfl, rfl, show some (Value.bool true) = some (Value.bool (decide ((100 < (x44.concepts.length : Int)) ∨ (100 < (x44.roles.length : Int))))) by first | (simp [h61]; done) | grind | (simp [h61] <;> omega), trivial⟩ (fun w hw => hw)
 refine qJ 19 rfl rfl ?_
 refine tl (qH 1 rfl pW rfl) ?_
 refine qJ 19 rfl rfl ?_
 refine tl (jM 0 rfl iA rfl rfl) ?_
 refine qJ 19 rfl rfl ?_
 refine tl (jJ rfl pL) ?_
 refine qJ 19 rfl rfl ?_
 refine tl (jR rfl rfl rfl) ?_
 refine tl (qO rfl rfl) ?_
 refine qB ?_
 exact xW hK59 (.refl _) (trivial) ⟨rfl, rfl, rfl, rfl, rfl, rfl, rfl, show some (Value.bool (decide (100 < (x44.roles.length : Int)))) = some (Value.bool (decide ((100 < (x44.concepts.length : Int)) ∨ (100 < (x44.roles.length : Int))))) by first | (simp [h61]; done) | grind | (simp [h61] <;> omega), trivial⟩ (fun w hw => hw)
 refine fun R63 hle64 hj62 => jH hle64 ?_
 refine qP 24 rfl (fun h65 => ?_) (fun h65 => ?_)
 refine xE rfl ?_
 refine qE <| qA ?_
 refine tl (qD rfl) ?_
 refine qB <| qC <| qV <| qN <| qI <| qI <| qN <| qI ?_
 refine xB (.inl rfl) rfl rfl ?_
 have e66 : (false : Bool) = cI b c l := by (rw [eq_comm]; unfold cI; rw [decide_eq_false_iff_not]; rintro ⟨h_, -⟩; have h2_ := h_ _ (List.mem_of_getElem? hx45); omega)
 exact fun w hw => ⟨congrArg Ending.returned (congrArg (fun x0 => Value.bool x0) e66), hw.drop 3⟩
 refine xV rfl ?_
 refine qZ <| jC <| qC <| qA ?_
 refine tl (jT rfl rfl (by omega) (by omega)) ?_
 refine tl (qG rfl) ?_
 refine qB ?_
 refine xQ ?_
 exact fun a w ha hw => ih40.out (i + 1) (by exact ⟨by omega, vQ hi2 hx45 (by omega)⟩) (by (try dsimp only); omega) a w (ha.sub (xL (by repeat' constructor))) (hw.drop 1)
 refine xV rfl ?_
 refine jE <| qK <| qK <| xG <| qC ?_
 refine vH [(9, .slice A_l l.length d_l), (10, .int .i64 (l.length : Int)), (11, .int .i64 (i : Int)), (12, .bool false), (6, .bool (decide (((qE6 b 400) = true) ∧ ((jW c : Int) ≤ 400))))] (.blk b38 [.int .i64 c.op, .int .i64 c.n, .slice A31 c.args.length d32] 37 :: .blk b37 [.slice A15 b.names.concepts.length d16, .slice A19 b.names.roles.length d20, .slice A23 b.names.inds.length d24, .slice A3 b.incls.length d4, .slice A6 b.roles.length d7, .slice A9 b.facts.length d10, .slice A12 b.links.length d13] 30 :: G) (fun _ => True) (fun K hK67 hE68 => ?_) ?_
 refine qA ?_
 refine tl (qQ 1 [.slice A15 b.names.concepts.length d16, .slice A19 b.names.roles.length d20, .slice A23 b.names.inds.length d24, .slice A3 b.incls.length d4, .slice A6 b.roles.length d7, .slice A9 b.facts.length d10, .slice A12 b.links.length d13] rfl pN rfl rfl) ?_
 refine xC ca31 rfl (fun w hw => bX b 400 hr_b (by unfold i64; omega) (by first | assumption | omega) hw) rfl ?_
 refine tl (qG rfl) ?_
 refine kQ 28 rfl (fun h69 => ?_) (fun h69 => ?_)
 refine qJ 28 rfl rfl ?_
 refine tl (qQ 0 [.int .i64 c.op, .int .i64 c.n, .slice A31 c.args.length d32] rfl vU rfl rfl) ?_
 refine qJ 28 rfl rfl ?_
 refine xC ca32 rfl (fun w hw => zD c 400 hr_c (by unfold i64; omega) (by first | assumption | omega) hw) rfl ?_
 refine tl (qR rfl rfl) ?_
 refine tl (qD rfl) ?_
 refine qB ?_
 exact xW hK67 (.refl _) (trivial) ⟨rfl, rfl, rfl, rfl, show some (Value.bool (decide ((jW c : Int) ≤ 400))) = some (Value.bool (decide (((qE6 b 400) = true) ∧ ((jW c : Int) ≤ 400)))) by first | (simp [h69]; done) | grind | (simp [h69] <;> omega), trivial⟩ (fun w hw => hw)
 refine qF 28 rfl rfl rfl ?_
 refine qF 28 rfl rfl rfl ?_
 refine tl (qO rfl rfl) ?_
 refine tl (qD rfl) ?_
 refine qB ?_
 exact xW hK67 (.refl _) (trivial) ⟨rfl, rfl, rfl, rfl, show some (Value.bool false) = some (Value.bool (decide (((qE6 b 400) = true) ∧ ((jW c : Int) ≤ 400)))) by first | (simp [h69]; done) | grind | (simp [h69] <;> omega), trivial⟩ (fun w hw => hw)
 refine fun R71 hle72 hj70 => jH hle72 ?_
 refine qV ?_
 refine xB (.inl rfl) rfl rfl ?_
 have e73 : (decide (((qE6 b 400) = true) ∧ ((jW c : Int) ≤ 400)) : Bool) = cI b c l := by (rw [xF (l := l) (by assumption) (by assumption)] at hi2; rw [Bool.eq_iff_iff]; unfold cI; rw [decide_eq_true_eq]; grind)
 exact fun w hw => ⟨congrArg Ending.returned (congrArg (fun x0 => Value.bool x0) e73), hw.drop 2⟩

theorem ca19 : Callable Tryz.prog 19 := ⟨by kernel_rfl⟩
theorem ca22 : Callable Tryz.prog 22 := ⟨by kernel_rfl⟩
theorem ca33 : Callable Tryz.prog 33 := ⟨by kernel_rfl⟩
theorem ca9 : Callable Tryz.prog 9 := ⟨by kernel_rfl⟩

def sA : Sig := ⟨[0], []⟩
def topB : Base := ⟨⟨[⟨#[116, 111, 112]⟩], [], []⟩, [], [], [], []⟩
theorem eB : vM lettersB = true := by decide +kernel
theorem topB_no : ¬ vM topB = true := by decide +kernel
theorem aw4 : gI (Base.mk (Names.mk [⟨#[116, 111, 112]⟩] [] []) [] [] [] []) [] = (⟨[], []⟩, 20) := cH topB_no
theorem aw3 : sJ lettersB 2 (Sig.mk [0] []) 0 = (true, 0) := by
  rw [iV eB (by decide +kernel)]
  exact Prod.ext (by decide +kernel) rfl
theorem lt_up : mY lettersB = [0, 1, 2] := by decide +kernel
theorem qN0 : modL lettersB [0, 1, 2] sA false = [0, 1] := by
  have h0 : modP lettersB [0, 1, 2] sA false 0 := cX (o := []) (t := sA) (by simp) (by simp) (uB _) (by decide +kernel)
  have h1 : modP lettersB [0, 1, 2] sA false 1 := cX (o := [0]) (t := jP lettersB [0] sA) (by simpa using h0) (by simp) (uB _) (by decide +kernel)
  refine (rM (by decide +kernel) (by decide +kernel) ?_ (by unfold aP; decide +kernel)).symm
  intro x hx
  simp only [List.mem_cons, List.not_mem_nil, or_false] at hx
  rcases hx with rfl | rfl
  · exact ⟨by simp, h0⟩
  · exact ⟨by simp, h1⟩
theorem aw_top : modL lettersB [0, 1] sA true = [] := (rM (by decide +kernel) List.Pairwise.nil (by simp) (by unfold aP; decide +kernel)).symm
theorem qD5 (s : Sig) (top : Bool) : modL lettersB [] s top = [] := by classical rfl
theorem aw1 : xI lettersB (Sig.mk [0] []) 0 = ([0, 1], 0) := by
  show xI lettersB sA 0 = _
  rw [yZ eB (by decide +kernel)]
  unfold kF
  rw [if_pos (by omega), lt_up, ← qN0]; rfl
theorem aw2 : xI lettersB (Sig.mk [0] []) 2 = ([], 0) := by
  show xI lettersB sA 2 = _
  rw [yZ eB (by decide +kernel)]
  unfold kF
  rw [if_neg (by omega), lt_up, ← yF (by omega) (by rw [qN0]; decide), qN0, ← yF (by omega) (by rw [show (!false) = true from rfl, aw_top]; decide), show (!false) = true from rfl, aw_top, ← yR (by omega) (qD5 _ _), qD5, ← yR (by omega) (qD5 _ _), qD5, wL (by omega)]

theorem vT {R : RO} {G : List Res} {w : World} (hG : Glob R) (hw : Own w R (G)) :
    Calls Tryz.prog 8 [].toArray w (kK R G (.bool true)) := by
 have aw1_ := aw1
 have aw2_ := aw2
 have aw3_ := aw3
 have aw4_ := aw4
 refine xH (vs := []) Tryz.func8 rfl rfl rfl ?_ hw
 refine qE <| qA ?_
 refine tl (qD rfl) ?_
 refine qB <| qC <| qE <| qA ?_
 refine jB [.int .i64 0] zR rfl rfl rfl rfl rfl rfl rfl fun b1 => ?_
 refine zI (k := kInt) (l := [0]) 0 rfl (⟨_, _, rfl, ⟨rfl, by unfold i64; omega⟩, rfl⟩) (by show 1 ≤ big; unfold big; omega) fun R2 hle3 hs4 => ?_
 try replace hG := hG.mono hle3
 have z5 := hs4.size
 unfold big at z5
 refine tl (xP [.slice (some ⟨b1, 0, none⟩) 1 1, .slice none 0 0] tS mT rfl rfl) ?_
 refine qS tS rfl fun b6 => ?_
 refine xN 0 [.slice (some ⟨b1, 0, none⟩) 1 1, .slice none 0 0] rfl rfl yM rfl rfl rfl rfl rfl rfl ?_
 refine qB <| qC <| qE ?_
 refine vS R2 (.blk b6 [.slice (some ⟨b1, 0, none⟩) 1 1, .slice none 0 0] 33 :: G) 8 mixed ?_
 refine td 1 rfl (by kernel_rfl) (qQ 0 [.slice (some ⟨b1, 0, none⟩) 1 1, .slice none 0 0] rfl yM rfl rfl) (fun w hw => hw) ?_
 refine td1 0 (by kernel_rfl) rfl ?_
 refine xD ca33 rfl (fun w hw => yB  hw) rfl ?_
 rintro _ R8 _ hle9 ⟨cs_z7_0, rfl, rfl, hr_z7_0⟩
 try replace hG := hG.mono hle9
 try replace hs4 := hs4.mono hle9
 have hle10 := hle3.trans hle9
 obtain ⟨c11, A13, d14, A16, d17, A19, d20, A22, d23, rfl, hr12, hs15, hs18, hs21, hs24⟩ := id hr_z7_0
 have z37 := hs15.size
 unfold big at z37
 have z38 := hs18.size
 unfold big at z38
 have z39 := hs21.size
 unfold big at z39
 have z40 := hs24.size
 unfold big at z40
 obtain ⟨A25, d26, A29, d30, A33, d34, rfl, hs27, hs31, hs35⟩ := id hr12
 have z28 := hs27.size
 unfold big at z28
 have z32 := hs31.size
 unfold big at z32
 have z36 := hs35.size
 unfold big at z36
 refine qB ?_
 refine qY (fun w hw => (hw).weaken hle9) ?_
 refine td1 2 (by kernel_rfl) rfl ?_
 refine xD ca9 rfl (fun w hw => yD lettersB (Sig.mk ([0]) ([] : List (Int))) 0 hr_z7_0 ⟨_, _, _, _, rfl, hs4, (SlAt.nil _ _ _)⟩ (by unfold i64; omega) (by first | assumption | decide) (by first | assumption | decide) hw) rfl ?_
 rintro _ R42 _ hle43 ⟨A_z41_0, d_z41_0, rfl, rfl, hs_z41_0⟩
 try replace hG := hG.mono hle43
 try replace hs4 := hs4.mono hle43
 have hle44 := hle10.trans hle43
 have hle45 := hle9.trans hle43
 have z46 := hs_z41_0.size
 unfold big at z46
 refine qB ?_
 refine qY (fun w hw => (hw).weaken hle45) ?_
 refine td 3 rfl (by kernel_rfl) (qG rfl) (fun w hw => (hw).weaken hle45) ?_
 refine td 4 rfl (by kernel_rfl) (jG rfl rfl) (fun w hw => (hw).weaken hle45) ?_
 refine td 5 rfl (by kernel_rfl) (jG rfl rfl) (fun w hw => (hw).weaken hle45) ?_
 refine td 6 rfl (by kernel_rfl) (qD rfl) (fun w hw => (hw).weaken hle45) ?_
 refine td 7 rfl (by kernel_rfl) (qD rfl) (fun w hw => (hw).weaken hle45) ?_
 refine xK (by kernel_rfl) ?_
 refine qC <| qE ?_
 refine vS R42 (.blk b6 [.slice (some ⟨b1, 0, none⟩) 1 1, .slice none 0 0] 33 :: G) 8 mixed ?_
 refine td 1 rfl (by kernel_rfl) (qQ 0 [.slice (some ⟨b1, 0, none⟩) 1 1, .slice none 0 0] rfl yM rfl rfl) (fun w hw => hw) ?_
 refine td1 0 (by kernel_rfl) rfl ?_
 refine xD ca33 rfl (fun w hw => yB  hw) rfl ?_
 rintro _ R48 _ hle49 ⟨cs_z47_0, rfl, rfl, hr_z47_0⟩
 try replace hG := hG.mono hle49
 try replace hs4 := hs4.mono hle49
 try replace hs_z41_0 := hs_z41_0.mono hle49
 have hle50 := hle44.trans hle49
 have hle51 := hle45.trans hle49
 have hle52 := hle43.trans hle49
 obtain ⟨c53, A55, d56, A58, d59, A61, d62, A64, d65, rfl, hr54, hs57, hs60, hs63, hs66⟩ := id hr_z47_0
 have z79 := hs57.size
 unfold big at z79
 have z80 := hs60.size
 unfold big at z80
 have z81 := hs63.size
 unfold big at z81
 have z82 := hs66.size
 unfold big at z82
 obtain ⟨A67, d68, A71, d72, A75, d76, rfl, hs69, hs73, hs77⟩ := id hr54
 have z70 := hs69.size
 unfold big at z70
 have z74 := hs73.size
 unfold big at z74
 have z78 := hs77.size
 unfold big at z78
 refine qB ?_
 refine qY (fun w hw => (hw).weaken hle49) ?_
 refine td1 2 (by kernel_rfl) rfl ?_
 refine xD ca9 rfl (fun w hw => yD lettersB (Sig.mk ([0]) ([] : List (Int))) 2 hr_z47_0 ⟨_, _, _, _, rfl, hs4, (SlAt.nil _ _ _)⟩ (by unfold i64; omega) (by first | assumption | decide) (by first | assumption | decide) hw) rfl ?_
 rintro _ R84 _ hle85 ⟨A_z83_0, d_z83_0, rfl, rfl, hs_z83_0⟩
 try replace hG := hG.mono hle85
 try replace hs4 := hs4.mono hle85
 try replace hs_z41_0 := hs_z41_0.mono hle85
 have hle86 := hle50.trans hle85
 have hle87 := hle51.trans hle85
 have hle88 := hle52.trans hle85
 have hle89 := hle49.trans hle85
 have z90 := hs_z83_0.size
 unfold big at z90
 refine qB ?_
 refine qY (fun w hw => (hw).weaken hle89) ?_
 refine td 3 rfl (by kernel_rfl) (qG rfl) (fun w hw => (hw).weaken hle89) ?_
 refine td 4 rfl (by kernel_rfl) (jG rfl rfl) (fun w hw => (hw).weaken hle89) ?_
 refine td 5 rfl (by kernel_rfl) (jG rfl rfl) (fun w hw => (hw).weaken hle89) ?_
 refine td 6 rfl (by kernel_rfl) (qD rfl) (fun w hw => (hw).weaken hle89) ?_
 refine td 7 rfl (by kernel_rfl) (qD rfl) (fun w hw => (hw).weaken hle89) ?_
 refine xK (by kernel_rfl) ?_
 refine qC <| qE ?_
 refine vS R84 (.blk b6 [.slice (some ⟨b1, 0, none⟩) 1 1, .slice none 0 0] 33 :: G) 8 mixed ?_
 refine td 1 rfl (by kernel_rfl) (qQ 0 [.slice (some ⟨b1, 0, none⟩) 1 1, .slice none 0 0] rfl yM rfl rfl) (fun w hw => hw) ?_
 refine td1 0 (by kernel_rfl) rfl ?_
 refine xD ca33 rfl (fun w hw => yB  hw) rfl ?_
 rintro _ R92 _ hle93 ⟨cs_z91_0, rfl, rfl, hr_z91_0⟩
 try replace hG := hG.mono hle93
 try replace hs4 := hs4.mono hle93
 try replace hs_z41_0 := hs_z41_0.mono hle93
 have hle94 := hle86.trans hle93
 have hle95 := hle87.trans hle93
 have hle96 := hle88.trans hle93
 have hle97 := hle89.trans hle93
 have hle98 := hle85.trans hle93
 obtain ⟨c99, A101, d102, A104, d105, A107, d108, A110, d111, rfl, hr100, hs103, hs106, hs109, hs112⟩ := id hr_z91_0
 have z125 := hs103.size
 unfold big at z125
 have z126 := hs106.size
 unfold big at z126
 have z127 := hs109.size
 unfold big at z127
 have z128 := hs112.size
 unfold big at z128
 obtain ⟨A113, d114, A117, d118, A121, d122, rfl, hs115, hs119, hs123⟩ := id hr100
 have z116 := hs115.size
 unfold big at z116
 have z120 := hs119.size
 unfold big at z120
 have z124 := hs123.size
 unfold big at z124
 refine qB ?_
 refine qY (fun w hw => (hw).weaken hle93) ?_
 refine td1 2 (by kernel_rfl) rfl ?_
 refine xC ca19 rfl (fun w hw => iX lettersB 2 (Sig.mk ([0]) ([] : List (Int))) 0 hr_z91_0 (by unfold i64; omega) ⟨_, _, _, _, rfl, hs4, (SlAt.nil _ _ _)⟩ (by unfold i64; omega) (by first | assumption | decide) (by first | assumption | decide) hw) rfl ?_
 refine qB ?_
 refine qY (fun w hw => (hw).weaken hle93) ?_
 refine td 3 rfl (by kernel_rfl) (qG rfl) (fun w hw => (hw).weaken hle93) ?_
 refine td 4 rfl (by kernel_rfl) (jG rfl rfl) (fun w hw => (hw).weaken hle93) ?_
 refine td 5 rfl (by kernel_rfl) (jG rfl rfl) (fun w hw => (hw).weaken hle93) ?_
 refine td 6 rfl (by kernel_rfl) (qD rfl) (fun w hw => (hw).weaken hle93) ?_
 refine td 7 rfl (by kernel_rfl) (qD rfl) (fun w hw => (hw).weaken hle93) ?_
 refine xK (by kernel_rfl) ?_
 refine qC <| qE <| qA ?_
 refine jB [.string (⟨#[116, 111, 112]⟩)] ap22 rfl rfl rfl rfl rfl rfl rfl fun b129 => ?_
 refine tl (xP [.slice (some ⟨b129, 0, none⟩) 1 1, .slice none 0 0, .slice none 0 0] zc24 pl24 rfl rfl) ?_
 refine tl (xP [.slice (some ⟨b129, 0, none⟩) 1 1, .slice none 0 0, .slice none 0 0, .slice none 0 0, .slice none 0 0, .slice none 0 0, .slice none 0 0] qJ5 pl30 rfl rfl) ?_
 refine zI (k := kStr) (l := ([⟨#[116, 111, 112]⟩] : List (ByteArray))) 0 rfl (⟨_, _, rfl, ⟨rfl, by unfold big; decide⟩, rfl⟩) (by show 1 ≤ big; unfold big; omega) fun R131 hle132 hs130 => ?_
 try replace hG := hG.mono hle132
 try replace hs_z41_0 := hs_z41_0.mono hle132
 have hle133 := hle94.trans hle132
 have hle134 := hle95.trans hle132
 have hle135 := hle96.trans hle132
 have hle136 := hle97.trans hle132
 have hle137 := hle98.trans hle132
 have hle138 := hle93.trans hle132
 have z139 := hs130.size
 unfold big at z139
 have hs140 : SlAt kInt R131 none ([] : List (Int)) := SlAt.nil _ _ _
 refine xD ca22 rfl (fun w hw => iY (Base.mk (Names.mk ([⟨#[116, 111, 112]⟩] : List (ByteArray)) ([] : List (ByteArray)) ([] : List (ByteArray))) ([] : List (Incl)) ([] : List (RoleIncl)) ([] : List (Fact)) ([] : List (Link))) ([] : List (Int)) ⟨[.slice (some ⟨b129, 0, none⟩) 1 1, .slice none 0 0, .slice none 0 0], _, _, _, _, _, _, _, _, rfl, ⟨_, _, _, _, _, _, rfl, hs130, (SlAt.nil _ _ _), (SlAt.nil _ _ _)⟩, (SlAt.nil _ _ _), (SlAt.nil _ _ _), (SlAt.nil _ _ _), (SlAt.nil _ _ _)⟩ hs140 (by first | assumption | omega) hw) rfl ?_
 rintro _ R142 _ hle143 ⟨cs_z141_0, rfl, rfl, hr_z141_0⟩
 try replace hG := hG.mono hle143
 try replace hs_z41_0 := hs_z41_0.mono hle143
 have hle144 := hle133.trans hle143
 have hle145 := hle134.trans hle143
 have hle146 := hle135.trans hle143
 have hle147 := hle136.trans hle143
 have hle148 := hle137.trans hle143
 have hle149 := hle138.trans hle143
 have hle150 := hle132.trans hle143
 obtain ⟨A151, d152, A155, d156, rfl, hs153, hs157⟩ := id hr_z141_0
 have z154 := hs153.size
 unfold big at z154
 have z158 := hs157.size
 unfold big at z158
 refine tl (qG rfl) ?_
 refine tl (jG rfl rfl) ?_
 refine tl (jG rfl rfl) ?_
 refine qS tS rfl fun b159 => ?_
 refine xN 0 [.slice A151 ((((gI (Base.mk (Names.mk ([⟨#[116, 111, 112]⟩] : List (ByteArray)) ([] : List (ByteArray)) ([] : List (ByteArray))) ([] : List (Incl)) ([] : List (RoleIncl)) ([] : List (Fact)) ([] : List (Link))) ([] : List (Int))).1).concepts).length) d152, .slice A155 ((((gI (Base.mk (Names.mk ([⟨#[116, 111, 112]⟩] : List (ByteArray)) ([] : List (ByteArray)) ([] : List (ByteArray))) ([] : List (Incl)) ([] : List (RoleIncl)) ([] : List (Fact)) ([] : List (Link))) ([] : List (Int))).1).roles).length) d156] rfl rfl yM rfl rfl rfl rfl rfl rfl ?_
 refine tl (qD rfl) ?_
 refine qB <| qC <| qE <| qA ?_
 refine tl (qG rfl) ?_
 refine tl (jR rfl rfl rfl) ?_
 refine tl (qG rfl) ?_
 refine xX 39 rfl (fun h160 => ?_) (fun h160 => ?_)
 refine qJ 39 rfl rfl ?_
 refine tl (qG rfl) ?_
 refine qJ 39 rfl rfl ?_
 refine jB [.int .i64 0, .int .i64 1] zR rfl rfl rfl rfl rfl rfl rfl fun b161 => ?_
 refine qJ 39 rfl rfl ?_
 refine zI (k := kInt) (l := ([0, 1] : List (Int))) 0 rfl (⟨_, _, rfl, ⟨rfl, by unfold i64; omega⟩, ⟨_, _, rfl, ⟨rfl, by unfold i64; omega⟩, rfl⟩⟩) (by show 2 ≤ big; unfold big; omega) fun R163 hle164 hs162 => ?_
 try replace hG := hG.mono hle164
 try replace hs_z41_0 := hs_z41_0.mono hle164
 have hle165 := hle144.trans hle164
 have hle166 := hle145.trans hle164
 have hle167 := hle146.trans hle164
 have hle168 := hle147.trans hle164
 have hle169 := hle148.trans hle164
 have hle170 := hle149.trans hle164
 have hle171 := hle150.trans hle164
 have hle172 := hle143.trans hle164
 have z173 := hs162.size
 unfold big at z173
 refine xC ca12 rfl (fun w hw => wT ((xI lettersB (Sig.mk ([0]) ([] : List (Int))) 0).1) ([0, 1] : List (Int)) hs_z41_0 hs162 hw) rfl ?_
 refine tl (qR rfl rfl) ?_
 refine tl (qG rfl) ?_
 refine xX 44 rfl (fun h174 => ?_) (fun h174 => ?_)
 refine qJ 44 rfl rfl ?_
 refine tl (qG rfl) ?_
 refine qJ 44 rfl rfl ?_
 refine tl (jR rfl rfl rfl) ?_
 refine tl (qR rfl rfl) ?_
 refine tl (qG rfl) ?_
 refine xX 48 rfl (fun h175 => ?_) (fun h175 => ?_)
 refine qJ 48 rfl rfl ?_
 refine tl (qG rfl) ?_
 refine qJ 48 rfl rfl ?_
 refine tl (jJ rfl pL) ?_
 refine qJ 48 rfl rfl ?_
 refine tl (jR rfl rfl rfl) ?_
 refine tl (qR rfl rfl) ?_
 refine tl (qG rfl) ?_
 refine xX 53 rfl (fun h176 => ?_) (fun h176 => ?_)
 refine qJ 53 rfl rfl ?_
 refine tl (qG rfl) ?_
 refine qJ 53 rfl rfl ?_
 refine tl (jR rfl rfl rfl) ?_
 refine tl (qR rfl rfl) ?_
 refine tl (qG rfl) ?_
 refine xX 57 rfl (fun h177 => ?_) (fun h177 => ?_)
 refine qJ 57 rfl rfl ?_
 refine tl (qG rfl) ?_
 refine tl (qR rfl rfl) ?_
 refine tl (qG rfl) ?_
 refine kQ 60 rfl (fun h178 => ?_) (fun h178 => ?_)
 refine qJ 60 rfl rfl ?_
 refine tl (qG rfl) ?_
 refine qJ 60 rfl rfl ?_
 refine tl (jR rfl rfl rfl) ?_
 refine tl (qR rfl rfl) ?_
 refine tl (qD rfl) ?_
 refine qB <| qC <| qV ?_
 refine xB (.inl rfl) rfl rfl ?_
 have e179 : (decide (((gI (Base.mk (Names.mk ([⟨#[116, 111, 112]⟩] : List (ByteArray)) ([] : List (ByteArray)) ([] : List (ByteArray))) ([] : List (Incl)) ([] : List (RoleIncl)) ([] : List (Fact)) ([] : List (Link))) ([] : List (Int))).2) = 20) : Bool) = true := by (first | rfl | grind)
 exact fun w hw => ⟨congrArg Ending.returned (congrArg (fun x0 => Value.bool x0) e179), (hw.drop 2).weaken hle165⟩
 refine qF 60 rfl rfl rfl ?_
 refine qF 60 rfl rfl rfl ?_
 refine tl (qO rfl rfl) ?_
 refine tl (qD rfl) ?_
 refine qB <| qC <| qV ?_
 refine xB (.inl rfl) rfl rfl ?_
 have e180 : (false : Bool) = true := by (first | rfl | grind)
 exact fun w hw => ⟨congrArg Ending.returned (congrArg (fun x0 => Value.bool x0) e180), (hw.drop 2).weaken hle165⟩
 refine qF 57 rfl rfl rfl ?_
 refine tl (qO rfl rfl) ?_
 refine tl (qG rfl) ?_
 refine qF 60 rfl rfl rfl ?_
 refine qF 60 rfl rfl rfl ?_
 refine tl (qO rfl rfl) ?_
 refine tl (qD rfl) ?_
 refine qB <| qC <| qV ?_
 refine xB (.inl rfl) rfl rfl ?_
 have e181 : (false : Bool) = true := by (first | rfl | grind)
 exact fun w hw => ⟨congrArg Ending.returned (congrArg (fun x0 => Value.bool x0) e181), (hw.drop 2).weaken hle165⟩
 refine qF 53 rfl rfl rfl ?_
 refine qF 53 rfl rfl rfl ?_
 refine tl (qO rfl rfl) ?_
 refine tl (qG rfl) ?_
 refine qF 57 rfl rfl rfl ?_
 refine tl (qO rfl rfl) ?_
 refine tl (qG rfl) ?_
 refine qF 60 rfl rfl rfl ?_
 refine qF 60 rfl rfl rfl ?_
 refine tl (qO rfl rfl) ?_
 refine tl (qD rfl) ?_
 refine qB <| qC <| qV ?_
 refine xB (.inl rfl) rfl rfl ?_
 have e182 : (false : Bool) = true := by (first | rfl | grind)
 exact fun w hw => ⟨congrArg Ending.returned (congrArg (fun x0 => Value.bool x0) e182), (hw.drop 2).weaken hle165⟩
 refine qF 48 rfl rfl rfl ?_
 refine qF 48 rfl rfl rfl ?_
 refine qF 48 rfl rfl rfl ?_
 refine tl (qO rfl rfl) ?_
 refine tl (qG rfl) ?_
 refine qF 53 rfl rfl rfl ?_
 refine qF 53 rfl rfl rfl ?_
 refine tl (qO rfl rfl) ?_
 refine tl (qG rfl) ?_
 refine qF 57 rfl rfl rfl ?_
 refine tl (qO rfl rfl) ?_
 refine tl (qG rfl) ?_
 refine qF 60 rfl rfl rfl ?_
 refine qF 60 rfl rfl rfl ?_
 refine tl (qO rfl rfl) ?_
 refine tl (qD rfl) ?_
 refine qB <| qC <| qV ?_
 refine xB (.inl rfl) rfl rfl ?_
 have e183 : (false : Bool) = true := by (first | rfl | grind)
 exact fun w hw => ⟨congrArg Ending.returned (congrArg (fun x0 => Value.bool x0) e183), (hw.drop 2).weaken hle165⟩
 refine qF 44 rfl rfl rfl ?_
 refine qF 44 rfl rfl rfl ?_
 refine tl (qO rfl rfl) ?_
 refine tl (qG rfl) ?_
 refine qF 48 rfl rfl rfl ?_
 refine qF 48 rfl rfl rfl ?_
 refine qF 48 rfl rfl rfl ?_
 refine tl (qO rfl rfl) ?_
 refine tl (qG rfl) ?_
 refine qF 53 rfl rfl rfl ?_
 refine qF 53 rfl rfl rfl ?_
 refine tl (qO rfl rfl) ?_
 refine tl (qG rfl) ?_
 refine qF 57 rfl rfl rfl ?_
 refine tl (qO rfl rfl) ?_
 refine tl (qG rfl) ?_
 refine qF 60 rfl rfl rfl ?_
 refine qF 60 rfl rfl rfl ?_
 refine tl (qO rfl rfl) ?_
 refine tl (qD rfl) ?_
 refine qB <| qC <| qV ?_
 refine xB (.inl rfl) rfl rfl ?_
 have e184 : (false : Bool) = true := by (first | rfl | grind)
 exact fun w hw => ⟨congrArg Ending.returned (congrArg (fun x0 => Value.bool x0) e184), (hw.drop 2).weaken hle165⟩
 refine qF 39 rfl rfl rfl ?_
 refine qF 39 rfl rfl rfl ?_
 refine qF 39 rfl rfl rfl ?_
 refine tl (qO rfl rfl) ?_
 refine tl (qG rfl) ?_
 refine qF 44 rfl rfl rfl ?_
 refine qF 44 rfl rfl rfl ?_
 refine tl (qO rfl rfl) ?_
 refine tl (qG rfl) ?_
 refine qF 48 rfl rfl rfl ?_
 refine qF 48 rfl rfl rfl ?_
 refine qF 48 rfl rfl rfl ?_
 refine tl (qO rfl rfl) ?_
 refine tl (qG rfl) ?_
 refine qF 53 rfl rfl rfl ?_
 refine qF 53 rfl rfl rfl ?_
 refine tl (qO rfl rfl) ?_
 refine tl (qG rfl) ?_
 refine qF 57 rfl rfl rfl ?_
 refine tl (qO rfl rfl) ?_
 refine tl (qG rfl) ?_
 refine qF 60 rfl rfl rfl ?_
 refine qF 60 rfl rfl rfl ?_
 refine tl (qO rfl rfl) ?_
 refine tl (qD rfl) ?_
 refine qB <| qC <| qV ?_
 refine xB (.inl rfl) rfl rfl ?_
 have e185 : (false : Bool) = true := by (first | rfl | grind)
 exact fun w hw => ⟨congrArg Ending.returned (congrArg (fun x0 => Value.bool x0) e185), (hw.drop 2).weaken hle144⟩



def AxC : Ax → Int → Prop
  | .incl y, x => inC y.sub x ∨ inC y.sup x
  | .fact y, x => inC y.con x
  | _, _ => False
def AxR : Ax → Int → Prop
  | .incl y, x => inR y.sub x ∨ inR y.sup x
  | .role y, x => x = y.sub / 2 ∨ x = y.sup / 2
  | .fact y, x => inR y.con x
  | .link y, x => x = y.role
theorem nC {n : Names} {x : Int} : ∀ (l : List Incl) (s : List Int × List Int), (∀ i ∈ l, jZ n i.sub = true ∧ jZ n i.sup = true) →
    (x ∈ (qC3 l s).1 ↔ x ∈ s.1 ∨ ∃ i ∈ l, inC i.sub x ∨ inC i.sup x) ∧ (x ∈ (qC3 l s).2 ↔ x ∈ s.2 ∨ ∃ i ∈ l, inR i.sub x ∨ inR i.sup x)
  | [], s, _ => by simp [qC3]
  | y :: ys, s, h => by
    have e : qC3 (y :: ys) s = qC3 ys (wN kY y.sup (wN kY y.sub s)) := rfl
    have h1 := nC (x := x) ys (wN kY y.sup (wN kY y.sub s)) fun i hi => h i (by simp [hi])
    have h2 := h y (by simp)
    rw [e, h1.1, h1.2, (wY y.sup h2.2 _ x).1, (wY y.sup h2.2 _ x).2, (wY y.sub h2.1 _ x).1, (wY y.sub h2.1 _ x).2]
    simp only [List.mem_cons, exists_eq_or_imp, or_assoc]
    exact ⟨trivial, trivial⟩
theorem nD {n : Names} {x : Int} : ∀ (l : List Fact) (s : List Int × List Int), (∀ i ∈ l, jZ n i.con = true) →
    (x ∈ (qG1 l s).1 ↔ x ∈ s.1 ∨ ∃ i ∈ l, inC i.con x) ∧ (x ∈ (qG1 l s).2 ↔ x ∈ s.2 ∨ ∃ i ∈ l, inR i.con x)
  | [], s, _ => by simp [qG1]
  | y :: ys, s, h => by
    have e : qG1 (y :: ys) s = qG1 ys (wN kY y.con s) := rfl
    have h1 := nD (x := x) ys (wN kY y.con s) fun i hi => h i (by simp [hi])
    have h2 := h y (by simp)
    rw [e, h1.1, h1.2, (wY y.con h2 _ x).1, (wY y.con h2 _ x).2]
    simp only [List.mem_cons, exists_eq_or_imp, or_assoc]
    exact ⟨trivial, trivial⟩
theorem qC6 {x : Int} : ∀ (l : List RoleIncl) (r : List Int), x ∈ qH2 l r ↔ x ∈ r ∨ ∃ i ∈ l, x = i.sub / 2 ∨ x = i.sup / 2
  | [], r => by simp [qH2]
  | y :: ys, r => by
    have e : qH2 (y :: ys) r = qH2 ys (zE (zE r (y.sub / 2)) (y.sup / 2)) := rfl
    rw [e, qC6 ys, insK_mm, insK_mm]
    simp only [List.mem_cons, exists_eq_or_imp, or_assoc]
theorem qC7 {x : Int} : ∀ (l : List Link) (r : List Int), x ∈ qH3 l r ↔ x ∈ r ∨ ∃ i ∈ l, x = i.role
  | [], r => by simp [qH3]
  | y :: ys, r => by
    have e : qH3 (y :: ys) r = qH3 ys (zE r y.role) := rfl
    rw [e, qC7 ys, insK_mm]
    simp only [List.mem_cons, exists_eq_or_imp, or_assoc]
theorem cF {b : Base} (hB : BaseOk b) (x : Int) : (x ∈ (vZ b).1.1 ↔ ∃ y ∈ gH b, AxC y x) ∧ (x ∈ (vZ b).1.2 ↔ ∃ y ∈ gH b, AxR y x) := by
  have hI : ∀ i ∈ b.incls, jZ b.names i.sub = true ∧ jZ b.names i.sup = true := fun i hi => by obtain ⟨j, hj⟩ := List.mem_iff_getElem?.1 hi; exact hB.sh_incl hj
  have hF : ∀ i ∈ b.facts, jZ b.names i.con = true := fun i hi => by obtain ⟨j, hj⟩ := List.mem_iff_getElem?.1 hi; exact hB.sh_fact hj
  unfold vZ
  dsimp only
  rw [(nD b.facts _ hF).1, qC7, (nD b.facts _ hF).2]
  dsimp only
  rw [(nC b.incls _ hI).1, qC6, (nC b.incls _ hI).2]
  have h : ∀ p : Ax → Prop, (∃ y ∈ gH b, p y) ↔ (∃ i ∈ b.incls, p (.incl i)) ∨ (∃ i ∈ b.roles, p (.role i)) ∨ (∃ i ∈ b.facts, p (.fact i)) ∨ (∃ i ∈ b.links, p (.link i)) := fun p => by
    constructor
    · rintro ⟨y, hy, hp⟩
      simp only [gH, List.mem_append, List.mem_map] at hy
      rcases hy with ((⟨z, hz, rfl⟩ | ⟨z, hz, rfl⟩) | ⟨z, hz, rfl⟩) | ⟨z, hz, rfl⟩
      · exact .inl ⟨z, hz, hp⟩
      · exact .inr (.inl ⟨z, hz, hp⟩)
      · exact .inr (.inr (.inl ⟨z, hz, hp⟩))
      · exact .inr (.inr (.inr ⟨z, hz, hp⟩))
    · rintro (⟨z, hz, hp⟩ | ⟨z, hz, hp⟩ | ⟨z, hz, hp⟩ | ⟨z, hz, hp⟩)
      · exact ⟨_, by simp only [gH, List.mem_append, List.mem_map]; exact .inl (.inl (.inl ⟨z, hz, rfl⟩)), hp⟩
      · exact ⟨_, by simp only [gH, List.mem_append, List.mem_map]; exact .inl (.inl (.inr ⟨z, hz, rfl⟩)), hp⟩
      · exact ⟨_, by simp only [gH, List.mem_append, List.mem_map]; exact .inl (.inr ⟨z, hz, rfl⟩), hp⟩
      · exact ⟨_, by simp only [gH, List.mem_append, List.mem_map]; exact .inr ⟨z, hz, rfl⟩, hp⟩
  rw [h, h]
  constructor <;> simp only [AxC, AxR, List.not_mem_nil, false_or, or_false, and_false, exists_false, or_assoc]
theorem qC8 {α : Type} (A : List α) : ∀ (l : List Int) (m : Nat), Up l → (∀ x ∈ l, (m : Int) ≤ x) → (l.filterMap fun k => A[k.toNat]?).Sublist (A.drop m)
  | [], m, _, _ => by simp
  | x :: xs, m, h, hm => by
    have hx := hm x (by simp)
    have hu := List.pairwise_cons.1 h
    have ih := qC8 A xs (x.toNat + 1) hu.2 fun y hy => by have := hu.1 y hy; omega
    have hd : (A.drop x.toNat).Sublist (A.drop m) := by
      have : A.drop x.toNat = (A.drop m).drop (x.toNat - m) := by rw [List.drop_drop]; congr 1; omega
      rw [this]; exact List.drop_sublist _ _
    rw [List.filterMap_cons]
    cases hA : A[x.toNat]? with
    | none => exact (ih.trans (by rw [← List.drop_drop]; exact List.drop_sublist _ _)).trans hd
    | some y =>
      obtain ⟨hl, rfl⟩ := List.getElem?_eq_some_iff.1 hA
      refine List.Sublist.trans ?_ hd
      rw [List.drop_eq_getElem_cons hl]
      exact ih.cons_cons _
theorem ofB_all (b : Base) : ofB b.names (gH b) = b := by
  cases b with
  | mk n i r f l =>
    have e {α β : Type} : ∀ q : List α, q.filterMap (fun _ => (none : Option β)) = [] := fun q => by induction q with
      | nil => rfl
      | cons x xs ih => rw [List.filterMap_cons]; exact ih
    simp only [ofB, gH, exI, exR, exF, exL, List.filterMap_append, List.filterMap_map]
    simp [Function.comp_def, e]
theorem qC9 {n : Names} {A : List Ax} {y : Ax} : y ∈ gH (ofB n A) ↔ y ∈ A := by
  simp only [gH, ofB, exI, exR, exF, exL, List.mem_append, List.mem_map, List.mem_filterMap]
  constructor
  · rintro (((⟨z, ⟨w, hw, e⟩, rfl⟩ | ⟨z, ⟨w, hw, e⟩, rfl⟩) | ⟨z, ⟨w, hw, e⟩, rfl⟩) | ⟨z, ⟨w, hw, e⟩, rfl⟩) <;> cases w <;> simp at e <;> subst e <;> exact hw
  · intro h
    cases y with
    | incl z => exact .inl (.inl (.inl ⟨z, ⟨_, h, rfl⟩, rfl⟩))
    | role z => exact .inl (.inl (.inr ⟨z, ⟨_, h, rfl⟩, rfl⟩))
    | fact z => exact .inl (.inr ⟨z, ⟨_, h, rfl⟩, rfl⟩)
    | link z => exact .inr ⟨z, ⟨_, h, rfl⟩, rfl⟩
theorem aX {α β : Type} (f : α → List β) {l m : List α} (h : l.Sublist m) : (l.flatMap f).Sublist (m.flatMap f) := by
  induction h with
  | slnil => exact .slnil
  | cons x _ ih => rw [List.flatMap_cons]; exact ih.trans (List.sublist_append_right _ _)
  | cons_cons x _ ih => rw [List.flatMap_cons, List.flatMap_cons]; exact (List.Sublist.refl _).append ih
theorem pick_ok {b : Base} (hB : BaseOk b) {l : List Int} (hl : Up l) (h0 : ∀ x ∈ l, 0 ≤ x) : BaseOk (zY b l) := by
  have hs : (aS b l).Sublist (gH b) := by
    have := qC8 (gH b) l 0 hl (fun x hx => by have := h0 x hx; omega)
    rwa [List.drop_zero] at this
  have e := ofB_all b
  have i1 : (exI (aS b l)).Sublist b.incls := by have := hs.filterMap (fun | .incl x => some x | _ => none : Ax → Option Incl); rw [show b.incls = exI (gH b) from (congrArg Base.incls e).symm]; exact this
  have i2 : (exR (aS b l)).Sublist b.roles := by have := hs.filterMap (fun | .role x => some x | _ => none : Ax → Option RoleIncl); rw [show b.roles = exR (gH b) from (congrArg Base.roles e).symm]; exact this
  have i3 : (exF (aS b l)).Sublist b.facts := by have := hs.filterMap (fun | .fact x => some x | _ => none : Ax → Option Fact); rw [show b.facts = exF (gH b) from (congrArg Base.facts e).symm]; exact this
  have i4 : (exL (aS b l)).Sublist b.links := by have := hs.filterMap (fun | .link x => some x | _ => none : Ax → Option Link); rw [show b.links = exL (gH b) from (congrArg Base.links e).symm]; exact this
  have ic : (xM (zY b l)).Sublist (xM b) := by
    unfold xM wH wF
    exact (aX _ i1).append (i3.map _)
  refine ⟨hB.names, ?_, fun c hc => hB.concepts c (ic.subset hc), fun x hx => hB.roles x (i2.subset hx), fun x hx => hB.facts x (i3.subset hx), fun x hx => hB.links x (i4.subset hx), Nat.le_trans (bD ic) hB.nodes⟩
  have h1 := i1.length_le; have h2 := i2.length_le; have h3 := i3.length_le; have h4 := i4.length_le; have hc := hB.count
  unfold xT at *
  show (exI _).length + (exR _).length + (exF _).length + (exL _).length ≤ 60
  omega
theorem qD0 {l : List Int} (h : l.Nodup) : Up (vJ l) := by
  have hs : (vJ l).Pairwise fun x y => decide (x ≤ y) = true := List.pairwise_mergeSort (fun a b c h1 h2 => by simp at *; omega) (fun a b => by simp; omega) l
  have hn : (vJ l).Nodup := (List.mergeSort_perm l _).nodup_iff.2 h
  exact List.Pairwise.imp (fun {a b} hab => by have := of_decide_eq_true hab.1; have := hab.2; omega) (hs.and hn)
mutual
theorem qD1 : ∀ (c : Concept) (s : List Int × List Int), Up s.1 → Up s.2 → Up (kS c s).1 ∧ Up (kS c s).2
  | .mk op n args, s, h1, h2 => by
    rw [kS]
    exact qD2 args _ (by dsimp only; split; exact bU h1; exact h1) (by dsimp only; split; exact bU h2; exact h2)
theorem qD2 : ∀ (l : List Concept) (s : List Int × List Int), Up s.1 → Up s.2 → Up (zS l s).1 ∧ Up (zS l s).2
  | [], s, h1, h2 => by rw [zS]; exact ⟨h1, h2⟩
  | c :: cs, s, h1, h2 => by
    rw [zS]
    have h := qD1 c s h1 h2
    exact qD2 cs _ h.1 h.2
end
theorem rY {s : Sig} {c : Concept} (h : Up s.concepts ∧ Up s.roles) : Up (zO s c).concepts ∧ Up (zO s c).roles := qD1 c (s.concepts, s.roles) h.1 h.2
theorem usesA_up {b : Base} {k : Nat} {s : Sig} (h : Up s.concepts ∧ Up s.roles) : Up (wQ b k s).concepts ∧ Up (wQ b k s).roles := by
  unfold wQ
  split
  · exact rY (rY h)
  · split
    · exact ⟨h.1, bU (bU h.2)⟩
    · split
      · exact rY h
      · split
        · exact ⟨h.1, bU h.2⟩
        · exact h
theorem oT {b : Base} : ∀ {l : List Int} {s : Sig}, Up s.concepts ∧ Up s.roles → Up (jP b l s).concepts ∧ Up (jP b l s).roles
  | [], s, h => h
  | k :: l, s, h => oT (l := l) (usesA_up h)
theorem axC_at {b : Base} (hB : BaseOk b) {k : Int} {y : Ax} (hk : 0 ≤ k ∧ k < xT b) (hy : (gH b)[k.toNat]? = some y) (x : Int) : (axC b k.toNat x ↔ AxC y x) ∧ (axR b k.toNat x ↔ AxR y x) := by
  have h1 := iT hB hk x
  have hB1 := one_ok hB (List.mem_of_getElem? hy)
  have ep : zY b [k] = ofB b.names [y] := by simp [zY, aS, hy]
  have h2 := dG hB1 x
  have h3 := cF hB1 x
  unfold vW at h1
  rw [ep] at h1
  rw [← h1.1, ← h1.2, h2.1, h2.2, h3.1, h3.2]
  simp only [qC9, List.mem_singleton, exists_eq_left]
  exact ⟨trivial, trivial⟩
theorem namesP_eq {b : Base} (hB : BaseOk b) {l : List Int} (hl : kC l (xT b) = true) : vW b l = jP b l ⟨[], []⟩ := by
  unfold kC at hl
  rw [decide_eq_true_eq] at hl
  have hP := pick_ok hB hl.1 fun x hx => (hl.2 x hx).1
  have hb : vM (zY b l) = true := decide_eq_true hP
  have hg := eN hP
  have hu := oT (b := b) (l := l) (s := ⟨[], []⟩) ⟨List.Pairwise.nil, List.Pairwise.nil⟩
  have each (p : Ax → Prop) (q : Nat → Prop) (hpq : ∀ k ∈ l, ∀ y, (gH b)[k.toNat]? = some y → (q k.toNat ↔ p y)) : (∃ y ∈ gH (zY b l), p y) ↔ ∃ k ∈ l, q k.toNat := by
    unfold zY
    simp only [qC9, aS, List.mem_filterMap]
    constructor
    · rintro ⟨y, ⟨k, hk, hy⟩, hp⟩; exact ⟨k, hk, (hpq k hk y hy).2 hp⟩
    · rintro ⟨k, hk, hq⟩
      have hr := hl.2 k hk
      obtain ⟨y, hy⟩ : ∃ y, (gH b)[k.toNat]? = some y := ⟨_, List.getElem?_eq_getElem (by rw [dE]; omega)⟩
      exact ⟨y, ⟨k, hk, hy⟩, (hpq k hk y hy).1 hq⟩
  have h1 : (vW b l).concepts = (jP b l ⟨[], []⟩).concepts := by
    refine nK ?_ hu.1 fun x => ?_
    · unfold vW vA; rw [if_pos hb]; exact qD0 hg.1.nd
    · unfold vW
      dsimp only
      rw [(dG hP x).1, (cF hP x).1, (gK b x l ⟨[], []⟩).1, each (fun y => AxC y x) (fun k => axC b k x) fun k hk y hy => (axC_at hB (hl.2 k hk) hy x).1]
      simp
  have h2 : (vW b l).roles = (jP b l ⟨[], []⟩).roles := by
    refine nK ?_ hu.2 fun x => ?_
    · unfold vW vA; rw [if_pos hb]; exact qD0 hg.2.nd
    · unfold vW
      dsimp only
      rw [(dG hP x).2, (cF hP x).2, (gK b x l ⟨[], []⟩).2, each (fun y => AxR y x) (fun k => axR b k x) fun k hk y hy => (axC_at hB (hl.2 k hk) hy x).2]
      simp
  calc vW b l = ⟨(vW b l).concepts, (vW b l).roles⟩ := rfl
    _ = _ := by rw [h1, h2]



def usesO : Option Ax → Sig → Sig
  | some (.incl x), s => zO (zO s x.sub) x.sup
  | some (.role x), s => ⟨s.concepts, wS (wS s.roles (x.sub / 2)) (x.sup / 2)⟩
  | some (.fact x), s => zO s x.con
  | some (.link x), s => ⟨s.concepts, wS s.roles x.role⟩
  | none, s => s
def localO : Option Ax → Sig → Bool → Bool
  | some (.incl x), s, top => (qL s top x.sub).1 || (qL s top x.sup).2
  | some (.role x), s, top => if top then !decide (x.sup / 2 ∈ s.roles) else !decide (x.sub / 2 ∈ s.roles)
  | some (.fact x), s, top => (qL s top x.con).2
  | some (.link x), s, top => top && !decide (x.role ∈ s.roles)
  | none, _, _ => false
theorem qD3 (b : Base) (k : Nat) (s : Sig) : wQ b k s = usesO (gH b)[k]? s := by
  rw [qA2]
  unfold wQ
  cases b.incls[k]? with
  | some x => rfl
  | none =>
    cases b.roles[k - b.incls.length]? with
    | some x => rfl
    | none =>
      cases b.facts[k - b.incls.length - b.roles.length]? with
      | some x => rfl
      | none => cases b.links[k - b.incls.length - b.roles.length - b.facts.length]? <;> rfl
theorem oU (b : Base) (k : Nat) (s : Sig) (top : Bool) : kD b k s top = localO (gH b)[k]? s top := by
  rw [qA2]
  unfold kD
  cases b.incls[k]? with
  | some x => rfl
  | none =>
    cases b.roles[k - b.incls.length]? with
    | some x => rfl
    | none =>
      cases b.facts[k - b.incls.length - b.roles.length]? with
      | some x => rfl
      | none => cases b.links[k - b.incls.length - b.roles.length - b.facts.length]? <;> rfl
theorem mC {α β : Type} (f : α → β) (l : List Int) : ∀ (i : Nat) (xs : List α), wI l i (xs.map f) = (wI l i xs).map f
  | _, [] => rfl
  | i, x :: xs => by
    simp only [List.map_cons, wI, mC f l (i + 1) xs]
    split <;> rfl
theorem pO {α : Type} (l : List Int) : ∀ (i : Nat) (xs : List α), (wI l i xs).Sublist xs
  | _, [] => .slnil
  | i, x :: xs => by
    unfold wI
    split
    · exact (pO l (i + 1) xs).cons_cons _
    · exact (pO l (i + 1) xs).cons _
theorem qM3 (b : Base) (l : List Int) : gH (wP b l) = wI l 0 (gH b) := by
  unfold gH wP
  simp only [pG, mC, List.length_map, List.length_append, Nat.zero_add]
theorem up_split {l : List Int} (hl : Up l) (i : Nat) (hi : (i : Int) ∈ l) : l.filter (fun k => decide ((i : Int) ≤ k)) = (i : Int) :: l.filter (fun k => decide (((i + 1 : Nat) : Int) ≤ k)) := by
  induction l with
  | nil => cases hi
  | cons x xs ih =>
    have hu := List.pairwise_cons.1 hl
    rcases List.mem_cons.1 hi with e | hi
    · subst e
      rw [List.filter_cons, if_pos (by simp), List.filter_cons, if_neg (by simp; omega)]
      congr 1
      refine List.filter_congr fun y hy => ?_
      have := hu.1 y hy
      rw [Bool.eq_iff_iff, decide_eq_true_eq, decide_eq_true_eq]; omega
    · have := hu.1 _ hi
      rw [List.filter_cons, if_neg (by simp; omega), List.filter_cons, if_neg (by simp; omega)]
      exact ih hu.2 hi
theorem uL {α β : Type} {f g : α → Option β} : ∀ {l : List α}, (∀ x ∈ l, f x = g x) → l.filterMap f = l.filterMap g
  | [], _ => rfl
  | x :: xs, h => by rw [List.filterMap_cons, List.filterMap_cons, h x (by simp), uL fun y hy => h y (by simp [hy])]
theorem iS {α : Type} {l : List Int} (hl : Up l) : ∀ (A : List α) (i : Nat), wI l i A = (l.filter fun k => decide ((i : Int) ≤ k)).filterMap fun k => A[k.toNat - i]?
  | [], i => by
    rw [wI]; symm; rw [List.filterMap_eq_nil_iff]; intro k _; simp
  | x :: xs, i => by
    have ih := iS hl xs (i + 1)
    have hrest : (l.filter fun k => decide (((i + 1 : Nat) : Int) ≤ k)).filterMap (fun k => (x :: xs)[k.toNat - i]?) = (l.filter fun k => decide (((i + 1 : Nat) : Int) ≤ k)).filterMap (fun k => xs[k.toNat - (i + 1)]?) := by
      refine uL fun k hk => ?_
      have := (List.mem_filter.1 hk).2
      rw [decide_eq_true_eq] at this
      rw [show k.toNat - i = (k.toNat - (i + 1)) + 1 by omega, List.getElem?_cons_succ]
    unfold wI
    split
    · rename_i h
      rw [up_split hl i h, List.filterMap_cons, hrest, ih]
      simp
    · rename_i h
      have e : (l.filter fun k => decide ((i : Int) ≤ k)) = l.filter fun k => decide (((i + 1 : Nat) : Int) ≤ k) := by
        refine List.filter_congr fun y hy => ?_
        have : y ≠ (i : Int) := fun q => h (q ▸ hy)
        rw [Bool.eq_iff_iff, decide_eq_true_eq, decide_eq_true_eq]; omega
      rw [ih, e, hrest]
structure Kept (b : Base) (M : List Int) (b' : Base) : Prop where
  len : (gH b').length = M.length
  at_ : ∀ (j : Nat) (k : Int), M[j]? = some k → (gH b')[j]? = (gH b)[k.toNat]?
  up : Up M
theorem qM4 {b : Base} {M : List Int} (hM : Up M) (hr : ∀ x ∈ M, 0 ≤ x ∧ x < xT b) : Kept b M (wP b M) := by
  have e : gH (wP b M) = M.filterMap fun k => (gH b)[k.toNat]? := by
    rw [qM3, iS hM]
    have : (M.filter fun k => decide (((0 : Nat) : Int) ≤ k)) = M := List.filter_eq_self.2 fun x hx => by have := hr x hx; simp; omega
    rw [this]; rfl
  have hsome : ∀ k ∈ M, ∃ y, (gH b)[k.toNat]? = some y := fun k hk => ⟨_, List.getElem?_eq_getElem (by have := hr k hk; rw [dE]; omega)⟩
  have e2 : (M.filterMap fun k => (gH b)[k.toNat]?).map some = M.map fun k => (gH b)[k.toNat]? := by
    clear e hM hr
    induction M with
    | nil => rfl
    | cons k ks ih =>
      obtain ⟨y, hy⟩ := hsome k (by simp)
      rw [List.filterMap_cons, hy]
      simp only [List.map_cons, hy]
      rw [ih fun q hq => hsome q (by simp [hq])]
  refine ⟨?_, fun j k hk => ?_, hM⟩
  · rw [e]; have := congrArg List.length e2; simpa using this
  · rw [e]
    have := congrArg (fun l => l[j]?) e2
    simp only [List.getElem?_map, hk, Option.map_some] at this
    obtain ⟨y, hy⟩ := hsome k (List.mem_of_getElem? hk)
    rw [hy] at this ⊢
    cases h : (M.filterMap fun k => (gH b)[k.toNat]?)[j]? with
    | none => rw [h] at this; cases this
    | some z => rw [h] at this; simpa using this
def phi (M : List Int) (k : Int) : Int := M.getD k.toNat 0
theorem oV {M : List Int} {k : Int} (hk : 0 ≤ k ∧ k < M.length) : M[k.toNat]? = some (phi M k) := by
  unfold phi
  rw [List.getD_eq_getElem?_getD, List.getElem?_eq_getElem (by omega)]; rfl
theorem phi_inj {M : List Int} (hM : Up M) {i j : Int} (hi : 0 ≤ i ∧ i < M.length) (hj : 0 ≤ j ∧ j < M.length) (h : phi M i = phi M j) : i = j := by
  have h1 := oV hi; have h2 := oV hj
  rcases Int.lt_trichotomy i j with hlt | he | hgt
  · have := nY hM h2 h1 (by omega); omega
  · exact he
  · have := nY hM h1 h2 (by omega); omega
section
variable {b b' : Base} {M : List Int}
theorem Kept.loc (h : Kept b M b') {k : Int} (hk : 0 ≤ k ∧ k < M.length) (s : Sig) (top : Bool) : kD b' k.toNat s top = kD b (phi M k).toNat s top := by
  rw [oU, oU, h.at_ _ _ (oV hk)]
theorem Kept.names (h : Kept b M b') : ∀ (W : List Int) (s : Sig), (∀ k ∈ W, 0 ≤ k ∧ k < M.length) → jP b' W s = jP b (W.map (phi M)) s
  | [], s, _ => rfl
  | k :: W, s, hW => by
    show jP b' W (wQ b' k.toNat s) = jP b (W.map (phi M)) (wQ b (phi M k).toNat s)
    rw [Kept.names h W _ fun q hq => hW q (by simp [hq]), qD3, qD3, h.at_ _ _ (oV (hW k (by simp)))]
theorem sH {b : Base} {X Y : List Int} {s : Sig} (h : ∀ x ∈ X, x ∈ Y) : (jP b X s).le (jP b Y s) := oC h (uB s)
theorem Kept.modP (h : Kept b M b') {W : List Int} (hW : ∀ k ∈ W, 0 ≤ k ∧ k < M.length) {s : Sig} {top : Bool} {i : Int} (hi : i ∈ W) : modP b' W s top i ↔ modP b (W.map (phi M)) s top (phi M i) := by
  constructor
  · intro hp X hX
    have := hp (W.filter fun k => decide (phi M k ∈ X)) fun k hk hn => by
      have hn' : ¬ phi M k ∈ X := fun q => hn (List.mem_filter.2 ⟨hk, by simpa using q⟩)
      have h1 := hX _ (List.mem_map.2 ⟨k, hk, rfl⟩) hn'
      rw [h.loc (hW k hk), h.names _ _ fun q hq => hW q (List.mem_filter.1 hq).1]
      exact zK (sH fun x hx => by
        obtain ⟨q, hq, rfl⟩ := List.mem_map.1 hx
        simpa using (List.mem_filter.1 hq).2) b _ top h1
    simpa using (List.mem_filter.1 this).2
  · intro hp X hX
    have := hp ((X.filter fun k => decide (k ∈ W)).map (phi M)) fun y hy hn => by
      obtain ⟨k, hk, rfl⟩ := List.mem_map.1 hy
      have hn' : ¬ k ∈ X := fun q => hn (List.mem_map.2 ⟨k, List.mem_filter.2 ⟨q, by simpa using hk⟩, rfl⟩)
      have h1 := hX k hk hn'
      rw [← h.names _ _ fun q hq => hW q (by simpa using (List.mem_filter.1 hq).2), ← h.loc (hW k hk)]
      exact zK (sH fun x hx => (List.mem_filter.1 hx).1) b' _ top h1
    obtain ⟨j, hj, e⟩ := List.mem_map.1 this
    have hjf := List.mem_filter.1 hj
    have hjW : j ∈ W := by simpa using hjf.2
    exact phi_inj h.up (hW j hjW) (hW i hi) e ▸ hjf.1
theorem Kept.modL (h : Kept b M b') {W : List Int} (hW : ∀ k ∈ W, 0 ≤ k ∧ k < M.length) (s : Sig) (top : Bool) : (modL b' W s top).map (phi M) = modL b (W.map (phi M)) s top := by
  classical
  unfold Go.Proofs.YtcbcdlajnmkioaaGreatDoor.modL
  rw [List.filter_map]
  congr 1
  refine List.filter_congr fun k hk => ?_
  rw [Bool.eq_iff_iff, decide_eq_true_eq, Function.comp, decide_eq_true_eq]
  exact h.modP hW hk
theorem modL_iff {b : Base} {l : List Int} {s : Sig} {top : Bool} : modL b l s top = l ↔ (modL b l s top).length = l.length :=
  ⟨fun h => congrArg _ h, fun h => Classical.byContradiction fun hn => by have := pY hn; omega⟩
theorem Kept.star (h : Kept b M b') (s : Sig) : ∀ (n : Nat) (q : Nat) (top : Bool) (W : List Int), 3 * W.length + (2 - q) ≤ n → (∀ k ∈ W, 0 ≤ k ∧ k < M.length) → (star b' s q top W).map (phi M) = star b s q top (W.map (phi M)) := by
  intro n
  induction n with
  | zero =>
    intro q top W hn hW
    rw [wL (by omega), wL (by omega)]
  | succ n ih =>
    intro q top W hn hW
    by_cases hq : 2 ≤ q
    · rw [wL hq, wL hq]
    · have hm := h.modL hW s top
      have hl : (Go.Proofs.YtcbcdlajnmkioaaGreatDoor.modL b' W s top).length = (Go.Proofs.YtcbcdlajnmkioaaGreatDoor.modL b (W.map (phi M)) s top).length := by rw [← hm, List.length_map]
      have hsub : ∀ k ∈ Go.Proofs.YtcbcdlajnmkioaaGreatDoor.modL b' W s top, 0 ≤ k ∧ k < M.length := fun k hk => hW k (sU k hk)
      by_cases he : Go.Proofs.YtcbcdlajnmkioaaGreatDoor.modL b' W s top = W
      · have he2 : Go.Proofs.YtcbcdlajnmkioaaGreatDoor.modL b (W.map (phi M)) s top = W.map (phi M) := by rw [← hm, he]
        rw [← yR hq he, ← yR hq he2, ← hm]
        exact ih _ _ _ (by rw [he]; omega) hsub
      · have he2 : ¬ Go.Proofs.YtcbcdlajnmkioaaGreatDoor.modL b (W.map (phi M)) s top = W.map (phi M) := fun e => he (modL_iff.2 (by rw [hl, e, List.length_map]))
        have := pY he
        rw [← yF hq he, ← yF hq he2, ← hm]
        exact ih _ _ _ (by omega) hsub
end
theorem rZ (b : Base) (l : List Int) (s : Sig) (top : Bool) : aP b l s top (modL b l s top) := by
  classical
  intro i hi hn
  have hp : ¬ modP b l s top i := fun h => hn (List.mem_filter.2 ⟨hi, by simpa using h⟩)
  unfold modP at hp
  simp only [Classical.not_forall] at hp
  obtain ⟨X, hX, hiX⟩ := hp
  refine zK (sH fun x hx => ?_) b _ top (hX i hi hiX)
  have : modP b l s top x := by simpa using (List.mem_filter.1 hx).2
  exact this X hX
theorem qM5 (b : Base) (l : List Int) (s : Sig) (top : Bool) : modL b (modL b l s top) s top = modL b l s top := by
  classical
  have hc := rZ b l s top
  show (modL b l s top).filter (fun i => decide (modP b (modL b l s top) s top i)) = modL b l s top
  refine List.filter_eq_self.2 fun i hi => ?_
  rw [decide_eq_true_eq]
  intro X hX
  have hp : modP b l s top i := by simpa using (List.mem_filter.1 hi).2
  have := hp (X.filter fun k => decide (k ∈ modL b l s top)) fun k hk hn => by
    by_cases hm : k ∈ modL b l s top
    · have hn' : ¬ k ∈ X := fun q => hn (List.mem_filter.2 ⟨q, by simpa using hm⟩)
      exact zK (sH fun x hx => (List.mem_filter.1 hx).1) b _ top (hX k hm hn')
    · exact zK (sH fun x hx => by simpa using (List.mem_filter.1 hx).2) b _ top (hc k hk hm)
  exact (List.mem_filter.1 this).1
theorem star_fix (b : Base) (s : Sig) : ∀ (n q : Nat) (top : Bool) (l : List Int), 3 * l.length + (2 - q) ≤ n → (1 ≤ q → modL b l s (!top) = l) → (2 ≤ q → modL b l s top = l) →
    modL b (star b s q top l) s false = star b s q top l ∧ modL b (star b s q top l) s true = star b s q top l := by
  intro n
  induction n with
  | zero =>
    intro q top l hn h1 h2
    rw [wL (by omega)]
    have a1 := h1 (by omega); have a2 := h2 (by omega)
    cases top <;> simp_all
  | succ n ih =>
    intro q top l hn h1 h2
    by_cases hq : 2 ≤ q
    · rw [wL hq]
      have a1 := h1 (by omega); have a2 := h2 hq
      cases top <;> simp_all
    · by_cases he : modL b l s top = l
      · rw [← yR hq he]
        refine ih _ _ _ (by rw [he]; omega) (fun _ => ?_) fun h => ?_
        · rw [Bool.not_not, he]; exact he
        · rw [he]; exact h1 (by omega)
      · have := pY he
        rw [← yF hq he]
        exact ih _ _ _ (by omega) (fun h => by omega) fun h => by omega
theorem nE (b : Base) (s : Sig) : ∀ (n q : Nat) (top : Bool) (l : List Int), 3 * l.length + (2 - q) ≤ n → ∀ x ∈ star b s q top l, x ∈ l := by
  intro n
  induction n with
  | zero => intro q top l hn x hx; rwa [wL (by omega)] at hx
  | succ n ih =>
    intro q top l hn x hx
    by_cases hq : 2 ≤ q
    · rwa [wL hq] at hx
    · by_cases he : modL b l s top = l
      · rw [← yR hq he] at hx
        exact sU x (ih _ _ _ (by rw [he]; omega) x hx)
      · have := pY he
        rw [← yF hq he] at hx
        exact sU x (ih _ _ _ (by omega) x hx)
theorem star_bot (b : Base) (s : Sig) (l : List Int) : ∀ x ∈ star b s 0 false l, x ∈ modL b l s false := by
  intro x hx
  by_cases he : modL b l s false = l
  · rw [he]; exact nE b s _ 0 false l (Nat.le_refl _) x hx
  · rw [← yF (by omega) he] at hx
    exact nE b s _ _ _ _ (Nat.le_refl _) x hx
theorem qG4 {b : Base} {s : Sig} {l : List Int} (h1 : modL b l s false = l) (h2 : modL b l s true = l) : star b s 0 false l = l := by
  rw [← yR (by omega) h1, h1, ← yR (by omega) (show modL b l s (!false) = l from h2)]
  rw [show modL b l s (!false) = l from h2, wL (by omega)]
theorem star_up {b : Base} {s : Sig} : ∀ (n q : Nat) (top : Bool) (l : List Int), 3 * l.length + (2 - q) ≤ n → Up l → Up (star b s q top l) := by
  intro n
  induction n with
  | zero => intro q top l hn h; rwa [wL (by omega)]
  | succ n ih =>
    intro q top l hn h
    by_cases hq : 2 ≤ q
    · rwa [wL hq]
    · by_cases he : modL b l s top = l
      · rw [← yR hq he]; exact ih _ _ _ (by rw [he]; omega) (iF h)
      · have := pY he
        rw [← yF hq he]; exact ih _ _ _ (by omega) (iF h)
theorem eP (b : Base) (s : Sig) (kind : Int) : Up (kF b s kind) ∧ ∀ x ∈ kF b s kind, 0 ≤ x ∧ x < xT b := by
  unfold kF
  split
  · exact ⟨iF (uC b), fun x hx => allL_mem.1 (sU x hx)⟩
  · exact ⟨star_up _ _ _ _ (Nat.le_refl _) (uC b), fun x hx => allL_mem.1 (nE b s _ _ _ _ (Nat.le_refl _) x hx)⟩
theorem map_phi (M : List Int) : (qB5 M.length).map (phi M) = M := by
  refine List.ext_getElem? fun i => ?_
  simp only [qB5, List.map_map, List.getElem?_map, List.getElem?_range', Function.comp_def]
  by_cases h : i < M.length
  · rw [List.getElem?_range h]
    simp only [Option.map_some]
    exact (oV (M := M) (k := (i : Int)) ⟨by omega, by omega⟩).symm
  · rw [List.getElem?_eq_none (by simpa using h), List.getElem?_eq_none (by omega)]; rfl
theorem qM6 (b : Base) (s : Sig) (kind : Int) : (kF (wP b (kF b s kind)) s kind).length = (kF b s kind).length := by
  obtain ⟨hu, hr⟩ := eP b s kind
  have hK := qM4 hu hr
  have hn : xT (wP b (kF b s kind)) = (kF b s kind).length := by rw [← dE, hK.len]
  have hW : ∀ k ∈ mY (wP b (kF b s kind)), 0 ≤ k ∧ k < (kF b s kind).length := fun k hk => by have := allL_mem.1 hk; rw [hn] at this; exact this
  have hm : (mY (wP b (kF b s kind))).map (phi (kF b s kind)) = kF b s kind := by unfold mY; rw [hn]; exact map_phi _
  by_cases hk : kind < 2
  · have e1 : kF b s kind = modL b (mY b) s (decide (kind = 1)) := by unfold kF; rw [if_pos hk]
    have e2 : kF (wP b (kF b s kind)) s kind = modL (wP b (kF b s kind)) (mY (wP b (kF b s kind))) s (decide (kind = 1)) := by unfold kF; rw [if_pos hk]
    have h1 := congrArg List.length (hK.modL hW s (decide (kind = 1)))
    rw [List.length_map, hm] at h1
    rw [e2, h1]
    congr 1
    rw [e1, qM5]
  · have e1 : kF b s kind = star b s 0 false (mY b) := by unfold kF; rw [if_neg hk]
    have e2 : kF (wP b (kF b s kind)) s kind = star (wP b (kF b s kind)) s 0 false (mY (wP b (kF b s kind))) := by unfold kF; rw [if_neg hk]
    have h1 := congrArg List.length (hK.star s _ 0 false _ (Nat.le_refl _) hW)
    rw [List.length_map, hm] at h1
    rw [e2, h1]
    congr 1
    have hf := star_fix b s _ 0 false (mY b) (Nat.le_refl _) (fun h => by omega) fun h => by omega
    rw [e1]; exact qG4 hf.1 hf.2
theorem only_ok {b : Base} (hB : BaseOk b) (l : List Int) : BaseOk (wP b l) := by
  have i1 : (wP b l).incls.Sublist b.incls := pO _ _ _
  have i2 : (wP b l).roles.Sublist b.roles := pO _ _ _
  have i3 : (wP b l).facts.Sublist b.facts := pO _ _ _
  have i4 : (wP b l).links.Sublist b.links := pO _ _ _
  have ic : (xM (wP b l)).Sublist (xM b) := by
    unfold xM wH wF
    exact (aX _ i1).append (i3.map _)
  refine ⟨hB.names, ?_, fun c hc => hB.concepts c (ic.subset hc), fun x hx => hB.roles x (i2.subset hx), fun x hx => hB.facts x (i3.subset hx), fun x hx => hB.links x (i4.subset hx), Nat.le_trans (bD ic) hB.nodes⟩
  have h1 := i1.length_le; have h2 := i2.length_le; have h3 := i3.length_le; have h4 := i4.length_le; have hc := hB.count
  unfold xT at *
  omega

theorem ap74 : yO Tryz.prog 74 = some (33, 2, 48, [.slice none 0 0, .slice none 0 0]) := by kernel_rfl
theorem ca10 : Callable Tryz.prog 10 := ⟨by kernel_rfl⟩
theorem ca11 : Callable Tryz.prog 11 := ⟨by kernel_rfl⟩
theorem ca13 : Callable Tryz.prog 13 := ⟨by kernel_rfl⟩
theorem ca14 : Callable Tryz.prog 14 := ⟨by kernel_rfl⟩
theorem ca15 : Callable Tryz.prog 15 := ⟨by kernel_rfl⟩
theorem ca7 : Callable Tryz.prog 7 := ⟨by kernel_rfl⟩
theorem ca8 : Callable Tryz.prog 8 := ⟨by kernel_rfl⟩

theorem moduleP_len {b : Base} {s : Sig} {kind : Int} : (xI b s kind).1.length ≤ xT b := by
  unfold xI
  split
  · split
    · have h := eP b s kind
      exact gW (fJ h.1) h.2
    · simp
  · simp
theorem qA0 {b : Base} {s : Sig} {kind : Int} (hb : vM b = true) (hs : dI b.names s = true) (hk : 0 ≤ kind ∧ kind ≤ 2) :
    (xI b s kind).2 = 0 ∧ (xI b s kind).1 = kF b s kind ∧ (xI (wP b (xI b s kind).1) s kind).2 = 0 ∧ (xI (wP b (xI b s kind).1) s kind).1.length = (xI b s kind).1.length ∧ (xI b s 0).2 = 0 ∧ (kind = 2 → rL (xI b s kind).1 (xI b s 0).1 = true) := by
  have hB := vG hb
  have e1 := yZ hb ⟨hs, hk.1, hk.2⟩
  have hb2 : vM (wP b (kF b s kind)) = true := decide_eq_true (only_ok hB _)
  have e2 := yZ (b := wP b (kF b s kind)) (s := s) (kind := kind) hb2 ⟨hs, hk.1, hk.2⟩
  have e3 := yZ (b := b) (s := s) (kind := 0) hb ⟨hs, by omega, by omega⟩
  rw [e1, e3]
  dsimp only
  rw [e2]
  refine ⟨rfl, rfl, rfl, qM6 b s kind, rfl, fun h => ?_⟩
  subst h
  unfold rL kF
  rw [decide_eq_true_eq, if_neg (by omega), if_pos (by omega)]
  exact star_bot b s (mY b)
theorem yY {b : Base} {s : Sig} (h : cI b (Concept.mk 0 0 []) [s] = true) : s.concepts.length ≤ 1000 ∧ s.roles.length ≤ 1000 ∧ xT b ≤ 800 := by
  unfold cI qE6 at h
  rw [decide_eq_true_eq, decide_eq_true_eq] at h
  have := h.1 s (by simp)
  have := h.2.1
  unfold xT
  omega

theorem hN {R : RO} {G : List Res} {w : World} {c_b : List Value} (b : Base) {c_s : List Value} (s : Sig) (kind : Int) (hr_b : kBase.rep R b c_b) (hr_s : kSig.rep R s c_s) (hi_kind : i64 kind) (hG : Glob R) (hw : Own w R (G)) :
    Calls Tryz.prog 3 [.agg c_b.toArray, .agg c_s.toArray, .int .i64 kind].toArray w (kK R G (.bool true)) := by
 obtain ⟨c1, A3, d4, A6, d7, A9, d10, A12, d13, rfl, hr2, hs5, hs8, hs11, hs14⟩ := id hr_b
 have z27 := hs5.size
 unfold big at z27
 have z28 := hs8.size
 unfold big at z28
 have z29 := hs11.size
 unfold big at z29
 have z30 := hs14.size
 unfold big at z30
 obtain ⟨A15, d16, A19, d20, A23, d24, rfl, hs17, hs21, hs25⟩ := id hr2
 have z18 := hs17.size
 unfold big at z18
 have z22 := hs21.size
 unfold big at z22
 have z26 := hs25.size
 unfold big at z26
 obtain ⟨A31, d32, A35, d36, rfl, hs33, hs37⟩ := id hr_s
 have z34 := hs33.size
 unfold big at z34
 have z38 := hs37.size
 unfold big at z38
 unfold i64 at hi_kind
 refine xH (vs := [.agg #[.slice A15 b.names.concepts.length d16, .slice A19 b.names.roles.length d20, .slice A23 b.names.inds.length d24, .slice A3 b.incls.length d4, .slice A6 b.roles.length d7, .slice A9 b.facts.length d10, .slice A12 b.links.length d13], .agg #[.slice A31 s.concepts.length d32, .slice A35 s.roles.length d36], .int .i64 kind]) Tryz.func3 rfl rfl rfl ?_ hw
 refine qE <| qA ?_
 refine qW (l := [.slice A15 b.names.concepts.length d16, .slice A19 b.names.roles.length d20, .slice A23 b.names.inds.length d24, .slice A3 b.incls.length d4, .slice A6 b.roles.length d7, .slice A9 b.facts.length d10, .slice A12 b.links.length d13]) rfl rfl fun b39 => ?_
 refine qW (l := [.slice A31 s.concepts.length d32, .slice A35 s.roles.length d36]) rfl rfl fun b40 => ?_
 refine tl (qD rfl) ?_
 refine qB <| qC <| qE <| qE <| qA ?_
 refine tl (qQ 1 [.slice A15 b.names.concepts.length d16, .slice A19 b.names.roles.length d20, .slice A23 b.names.inds.length d24, .slice A3 b.incls.length d4, .slice A6 b.roles.length d7, .slice A9 b.facts.length d10, .slice A12 b.links.length d13] rfl pN rfl rfl) ?_
 refine tl (xP [.int .i64 0, .int .i64 0, .slice none 0 0] eZ pl37 rfl rfl) ?_
 refine tl (qQ 0 [.slice A31 s.concepts.length d32, .slice A35 s.roles.length d36] rfl yM rfl rfl) ?_
 refine jB [.slice A31 s.concepts.length d32, .slice A35 s.roles.length d36] ap74 rfl rfl rfl rfl rfl rfl rfl fun b41 => ?_
 refine zI (k := kSig) (l := ([s] : List (Sig))) 0 rfl (⟨_, _, rfl, hr_s, rfl⟩) (by show 1 ≤ big; unfold big; omega) fun R43 hle44 hs42 => ?_
 try replace hr2 := kNames.mono _ _ _ _ hle44 hr2
 try replace hr_b := kBase.mono _ _ _ _ hle44 hr_b
 try replace hr_s := kSig.mono _ _ _ _ hle44 hr_s
 try replace hG := hG.mono hle44
 have z45 := hs42.size
 unfold big at z45
 refine xC ca7 rfl (fun w hw => uW b (Concept.mk 0 0 ([] : List (Concept))) ([s] : List (Sig)) hr_b (tW (x := Concept.mk 0 0 ([] : List (Concept))) (show i64 (0) from (by unfold i64; omega)) (show i64 (0) from (by unfold i64; omega)) (SlAt.nil _ _ _)) hs42 hw) rfl ?_
 refine tl (wJ rfl) ?_
 refine qB <| qC ?_
 refine vI 18 rfl (fun h46 => ?_) (fun h46 => ?_)
 refine xE rfl ?_
 refine qE <| qA ?_
 refine xC ca8 rfl (fun w hw => vT (by first | assumption | omega) hw) rfl ?_
 refine tl (qD rfl) ?_
 refine qB <| qC <| qV <| qI ?_
 refine xB (.inl rfl) rfl rfl ?_
 have e47 : (true : Bool) = true := by rfl
 exact fun w hw => ⟨congrArg Ending.returned (congrArg (fun x0 => Value.bool x0) e47), (hw.drop 2).weaken hle44⟩
 refine xV rfl ?_
 refine qZ <| qC <| qE <| qA ?_
 refine tl (qQ 1 [.slice A15 b.names.concepts.length d16, .slice A19 b.names.roles.length d20, .slice A23 b.names.inds.length d24, .slice A3 b.incls.length d4, .slice A6 b.roles.length d7, .slice A9 b.facts.length d10, .slice A12 b.links.length d13] rfl pN rfl rfl) ?_
 refine tl (qQ 0 [.slice A31 s.concepts.length d32, .slice A35 s.roles.length d36] rfl yM rfl rfl) ?_
 refine tl (qG rfl) ?_
 refine xD ca9 rfl (fun w hw => yD b s kind hr_b hr_s (by unfold i64; omega) (by first | assumption | (have q_ := yY (b := b) (s := s) (by grind); exact ⟨q_.1, q_.2.1⟩)) (by first | assumption | (have q_ := yY (b := b) (s := s) (by grind); exact ⟨q_.1, q_.2.1⟩)) hw) rfl ?_
 rintro _ R49 _ hle50 ⟨A_z48_0, d_z48_0, rfl, rfl, hs_z48_0⟩
 try replace hr2 := kNames.mono _ _ _ _ hle50 hr2
 try replace hr_b := kBase.mono _ _ _ _ hle50 hr_b
 try replace hr_s := kSig.mono _ _ _ _ hle50 hr_s
 try replace hG := hG.mono hle50
 have hle51 := hle44.trans hle50
 have z52 := hs_z48_0.size
 unfold big at z52
 refine tl (qG rfl) ?_
 refine tl (jG rfl rfl) ?_
 refine tl (jG rfl rfl) ?_
 refine tl (qD rfl) ?_
 refine tl (qD rfl) ?_
 refine qB <| qC <| qE <| qX <| qE <| qA ?_
 refine tl (qQ 1 [.slice A15 b.names.concepts.length d16, .slice A19 b.names.roles.length d20, .slice A23 b.names.inds.length d24, .slice A3 b.incls.length d4, .slice A6 b.roles.length d7, .slice A9 b.facts.length d10, .slice A12 b.links.length d13] rfl pN rfl rfl) ?_
 refine xC ca10 rfl (fun w hw => cT b hr_b hw) rfl ?_
 refine tl (wJ rfl) ?_
 refine tl (qD rfl) ?_
 refine qB <| qC ?_
 refine vI 27 rfl (fun h53 => ?_) (fun h53 => ?_)
 refine xE rfl ?_
 refine vH [(0, .agg #[.slice A15 b.names.concepts.length d16, .slice A19 b.names.roles.length d20, .slice A23 b.names.inds.length d24, .slice A3 b.incls.length d4, .slice A6 b.roles.length d7, .slice A9 b.facts.length d10, .slice A12 b.links.length d13]), (1, .agg #[.slice A31 s.concepts.length d32, .slice A35 s.roles.length d36]), (2, .int .i64 kind), (3, .pointer (some ⟨b39, 0, none⟩)), (4, .pointer (some ⟨b40, 0, none⟩)), (18, .bool false), (7, .slice A_z48_0 (((xI b s kind).1).length) d_z48_0), (8, .int .i64 ((xI b s kind).2)), (27, .bool true), (6, .bool (decide (((((xI b s kind).2) = 20) ∧ ((((xI b s kind).1).length : Int) = 0)) ∨ False)))] (.blk b40 [.slice A31 s.concepts.length d32, .slice A35 s.roles.length d36] 33 :: .blk b39 [.slice A15 b.names.concepts.length d16, .slice A19 b.names.roles.length d20, .slice A23 b.names.inds.length d24, .slice A3 b.incls.length d4, .slice A6 b.roles.length d7, .slice A9 b.facts.length d10, .slice A12 b.links.length d13] 30 :: G) (fun _ => True) (fun K hK54 hE55 => ?_) ?_
 refine qA ?_
 refine tl (qG rfl) ?_
 refine tl (jR rfl rfl rfl) ?_
 refine tl (qG rfl) ?_
 refine xX 33 rfl (fun h56 => ?_) (fun h56 => ?_)
 refine qJ 33 rfl rfl ?_
 refine tl (qG rfl) ?_
 refine qJ 33 rfl rfl ?_
 refine tl (jJ rfl pL) ?_
 refine qJ 33 rfl rfl ?_
 refine tl (jR rfl rfl rfl) ?_
 refine tl (qR rfl rfl) ?_
 refine tl (qG rfl) ?_
 refine xX 38 rfl (fun h57 => ?_) (fun h57 => ?_)
 refine qJ 38 rfl rfl ?_
 refine xC ca8 rfl (fun w hw => vT (by first | assumption | omega) hw) rfl ?_
 refine tl (qR rfl rfl) ?_
 refine tl (qD rfl) ?_
 refine qB ?_
 exact xW hK54 (.refl _) (trivial) ⟨rfl, rfl, rfl, rfl, rfl, rfl, rfl, rfl, rfl, show some (Value.bool true) = some (Value.bool (decide (((((xI b s kind).2) = 20) ∧ ((((xI b s kind).1).length : Int) = 0)) ∨ False))) by first | (simp [h56, h57]; done) | grind | (simp [h56, h57] <;> omega), trivial⟩ (fun w hw => hw)
 refine qF 38 rfl rfl rfl ?_
 refine tl (qO rfl rfl) ?_
 refine tl (qD rfl) ?_
 refine qB ?_
 exact xW hK54 (.refl _) (trivial) ⟨rfl, rfl, rfl, rfl, rfl, rfl, rfl, rfl, rfl, show some (Value.bool false) = some (Value.bool (decide (((((xI b s kind).2) = 20) ∧ ((((xI b s kind).1).length : Int) = 0)) ∨ False))) by first | (simp [h56, h57]; done) | grind | (simp [h56, h57] <;> omega), trivial⟩ (fun w hw => hw)
 refine qF 33 rfl rfl rfl ?_
 refine qF 33 rfl rfl rfl ?_
 refine qF 33 rfl rfl rfl ?_
 refine tl (qO rfl rfl) ?_
 refine tl (qG rfl) ?_
 refine qF 38 rfl rfl rfl ?_
 refine tl (qO rfl rfl) ?_
 refine tl (qD rfl) ?_
 refine qB ?_
 exact xW hK54 (.refl _) (trivial) ⟨rfl, rfl, rfl, rfl, rfl, rfl, rfl, rfl, rfl, show some (Value.bool false) = some (Value.bool (decide (((((xI b s kind).2) = 20) ∧ ((((xI b s kind).1).length : Int) = 0)) ∨ False))) by first | (simp [h56]; done) | grind | (simp [h56] <;> omega), trivial⟩ (fun w hw => hw)
 refine fun R59 hle60 hj58 => jH hle60 ?_
 refine qV <| qN <| qI ?_
 refine xB (.inl rfl) rfl rfl ?_
 have e61 : (decide (((((xI b s kind).2) = 20) ∧ ((((xI b s kind).1).length : Int) = 0)) ∨ False) : Bool) = true := by (have e1_ := aY (b := b) (s := s) (kind := kind) (by grind); rw [e1_]; first | rfl | grind | simp_all)
 exact fun w hw => ⟨congrArg Ending.returned (congrArg (fun x0 => Value.bool x0) e61), (hw.drop 2).weaken hle51⟩
 refine xV rfl ?_
 refine vH [(0, .agg #[.slice A15 b.names.concepts.length d16, .slice A19 b.names.roles.length d20, .slice A23 b.names.inds.length d24, .slice A3 b.incls.length d4, .slice A6 b.roles.length d7, .slice A9 b.facts.length d10, .slice A12 b.links.length d13]), (1, .agg #[.slice A31 s.concepts.length d32, .slice A35 s.roles.length d36]), (2, .int .i64 kind), (3, .pointer (some ⟨b39, 0, none⟩)), (4, .pointer (some ⟨b40, 0, none⟩)), (6, .bool false), (18, .bool false), (7, .slice A_z48_0 (((xI b s kind).1).length) d_z48_0), (8, .int .i64 ((xI b s kind).2)), (27, .bool false), (41, .bool (decide ((((!(dI b.names s)) = true) ∨ (kind < 0)) ∨ (2 < kind))))] (.blk b40 [.slice A31 s.concepts.length d32, .slice A35 s.roles.length d36] 33 :: .blk b39 [.slice A15 b.names.concepts.length d16, .slice A19 b.names.roles.length d20, .slice A23 b.names.inds.length d24, .slice A3 b.incls.length d4, .slice A6 b.roles.length d7, .slice A9 b.facts.length d10, .slice A12 b.links.length d13] 30 :: G) (fun _ => True) (fun K hK62 hE63 => ?_) ?_
 refine qA ?_
 refine tl (qH 0 rfl zJ rfl) ?_
 refine tl (qQ 1 [.slice A15 b.names.concepts.length d16, .slice A19 b.names.roles.length d20, .slice A23 b.names.inds.length d24] rfl bT rfl rfl) ?_
 refine tl (qQ 0 [.slice A31 s.concepts.length d32, .slice A35 s.roles.length d36] rfl yM rfl rfl) ?_
 refine xC ca11 rfl (fun w hw => bY b.names s hr2 hr_s hw) rfl ?_
 refine tl (wJ rfl) ?_
 refine tl (qG rfl) ?_
 refine kQ 47 rfl (fun h64 => ?_) (fun h64 => ?_)
 refine qF 47 rfl rfl rfl ?_
 refine qF 47 rfl rfl rfl ?_
 refine tl (qR rfl rfl) ?_
 refine tl (qG rfl) ?_
 refine qF 51 rfl rfl rfl ?_
 refine qF 51 rfl rfl rfl ?_
 refine tl (qR rfl rfl) ?_
 refine tl (qD rfl) ?_
 refine qB ?_
 exact xW hK62 (.refl _) (trivial) ⟨rfl, rfl, rfl, rfl, rfl, rfl, rfl, rfl, rfl, rfl, show some (Value.bool true) = some (Value.bool (decide ((((!(dI b.names s)) = true) ∨ (kind < 0)) ∨ (2 < kind)))) by first | (simp [h64]; done) | grind | (simp [h64] <;> omega), trivial⟩ (fun w hw => hw)
 refine qJ 47 rfl rfl ?_
 refine tl (qG rfl) ?_
 refine qJ 47 rfl rfl ?_
 refine tl (jR rfl rfl rfl) ?_
 refine tl (qO rfl rfl) ?_
 refine tl (qG rfl) ?_
 refine xX 51 rfl (fun h65 => ?_) (fun h65 => ?_)
 refine qF 51 rfl rfl rfl ?_
 refine qF 51 rfl rfl rfl ?_
 refine tl (qR rfl rfl) ?_
 refine tl (qD rfl) ?_
 refine qB ?_
 exact xW hK62 (.refl _) (trivial) ⟨rfl, rfl, rfl, rfl, rfl, rfl, rfl, rfl, rfl, rfl, show some (Value.bool true) = some (Value.bool (decide ((((!(dI b.names s)) = true) ∨ (kind < 0)) ∨ (2 < kind)))) by first | (simp [h64, h65]; done) | grind | (simp [h64, h65] <;> omega), trivial⟩ (fun w hw => hw)
 refine qJ 51 rfl rfl ?_
 refine tl (qG rfl) ?_
 refine qJ 51 rfl rfl ?_
 refine tl (jR rfl rfl rfl) ?_
 refine tl (qO rfl rfl) ?_
 refine tl (qD rfl) ?_
 refine qB ?_
 exact xW hK62 (.refl _) (trivial) ⟨rfl, rfl, rfl, rfl, rfl, rfl, rfl, rfl, rfl, rfl, show some (Value.bool (decide (2 < kind))) = some (Value.bool (decide ((((!(dI b.names s)) = true) ∨ (kind < 0)) ∨ (2 < kind)))) by first | (simp [h64, h65]; done) | grind | (simp [h64, h65] <;> omega), trivial⟩ (fun w hw => hw)
 refine fun R67 hle68 hj66 => jH hle68 ?_
 refine qP 41 rfl (fun h69 => ?_) (fun h69 => ?_)
 refine xE rfl ?_
 refine vH [(0, .agg #[.slice A15 b.names.concepts.length d16, .slice A19 b.names.roles.length d20, .slice A23 b.names.inds.length d24, .slice A3 b.incls.length d4, .slice A6 b.roles.length d7, .slice A9 b.facts.length d10, .slice A12 b.links.length d13]), (1, .agg #[.slice A31 s.concepts.length d32, .slice A35 s.roles.length d36]), (2, .int .i64 kind), (3, .pointer (some ⟨b39, 0, none⟩)), (4, .pointer (some ⟨b40, 0, none⟩)), (18, .bool false), (7, .slice A_z48_0 (((xI b s kind).1).length) d_z48_0), (8, .int .i64 ((xI b s kind).2)), (27, .bool false), (41, .bool true), (6, .bool (decide (((((xI b s kind).2) = 1) ∧ ((((xI b s kind).1).length : Int) = 0)) ∨ False)))] (.blk b40 [.slice A31 s.concepts.length d32, .slice A35 s.roles.length d36] 33 :: .blk b39 [.slice A15 b.names.concepts.length d16, .slice A19 b.names.roles.length d20, .slice A23 b.names.inds.length d24, .slice A3 b.incls.length d4, .slice A6 b.roles.length d7, .slice A9 b.facts.length d10, .slice A12 b.links.length d13] 30 :: G) (fun _ => True) (fun K hK70 hE71 => ?_) ?_
 refine qA ?_
 refine tl (qG rfl) ?_
 refine tl (jR rfl rfl rfl) ?_
 refine tl (qG rfl) ?_
 refine xX 57 rfl (fun h72 => ?_) (fun h72 => ?_)
 refine qJ 57 rfl rfl ?_
 refine tl (qG rfl) ?_
 refine qJ 57 rfl rfl ?_
 refine tl (jJ rfl pL) ?_
 refine qJ 57 rfl rfl ?_
 refine tl (jR rfl rfl rfl) ?_
 refine tl (qR rfl rfl) ?_
 refine tl (qG rfl) ?_
 refine xX 62 rfl (fun h73 => ?_) (fun h73 => ?_)
 refine qJ 62 rfl rfl ?_
 refine xC ca8 rfl (fun w hw => vT (by first | assumption | omega) hw) rfl ?_
 refine tl (qR rfl rfl) ?_
 refine tl (qD rfl) ?_
 refine qB ?_
 exact xW hK70 (.refl _) (trivial) ⟨rfl, rfl, rfl, rfl, rfl, rfl, rfl, rfl, rfl, rfl, show some (Value.bool true) = some (Value.bool (decide (((((xI b s kind).2) = 1) ∧ ((((xI b s kind).1).length : Int) = 0)) ∨ False))) by first | (simp [h72, h73]; done) | grind | (simp [h72, h73] <;> omega), trivial⟩ (fun w hw => hw)
 refine qF 62 rfl rfl rfl ?_
 refine tl (qO rfl rfl) ?_
 refine tl (qD rfl) ?_
 refine qB ?_
 exact xW hK70 (.refl _) (trivial) ⟨rfl, rfl, rfl, rfl, rfl, rfl, rfl, rfl, rfl, rfl, show some (Value.bool false) = some (Value.bool (decide (((((xI b s kind).2) = 1) ∧ ((((xI b s kind).1).length : Int) = 0)) ∨ False))) by first | (simp [h72, h73]; done) | grind | (simp [h72, h73] <;> omega), trivial⟩ (fun w hw => hw)
 refine qF 57 rfl rfl rfl ?_
 refine qF 57 rfl rfl rfl ?_
 refine qF 57 rfl rfl rfl ?_
 refine tl (qO rfl rfl) ?_
 refine tl (qG rfl) ?_
 refine qF 62 rfl rfl rfl ?_
 refine tl (qO rfl rfl) ?_
 refine tl (qD rfl) ?_
 refine qB ?_
 exact xW hK70 (.refl _) (trivial) ⟨rfl, rfl, rfl, rfl, rfl, rfl, rfl, rfl, rfl, rfl, show some (Value.bool false) = some (Value.bool (decide (((((xI b s kind).2) = 1) ∧ ((((xI b s kind).1).length : Int) = 0)) ∨ False))) by first | (simp [h72]; done) | grind | (simp [h72] <;> omega), trivial⟩ (fun w hw => hw)
 refine fun R75 hle76 hj74 => jH hle76 ?_
 refine qV <| qN <| qI ?_
 refine xB (.inl rfl) rfl rfl ?_
 have e77 : (decide (((((xI b s kind).2) = 1) ∧ ((((xI b s kind).1).length : Int) = 0)) ∨ False) : Bool) = true := by (have e1_ := cG (b := b) (s := s) (kind := kind) (by grind) (by grind); rw [e1_]; first | rfl | grind | simp_all)
 exact fun w hw => ⟨congrArg Ending.returned (congrArg (fun x0 => Value.bool x0) e77), (hw.drop 2).weaken hle51⟩
 refine xV rfl ?_
 refine qZ <| jC <| qC <| qE <| qE <| qA ?_
 refine tl (qG rfl) ?_
 refine tl (jR rfl rfl rfl) ?_
 refine tl (qG rfl) ?_
 refine xX 67 rfl (fun h78 => ?_) (fun h78 => ?_)
 refine qF 67 rfl rfl rfl ?_
 refine qF 67 rfl rfl rfl ?_
 refine qF 67 rfl rfl rfl ?_
 refine qF 67 rfl rfl rfl ?_
 refine qF 67 rfl rfl rfl ?_
 refine qF 67 rfl rfl rfl ?_
 refine qF 67 rfl rfl rfl ?_
 refine tl (qR rfl rfl) ?_
 refine qB <| qC ?_
 refine xE rfl ?_
 refine qE <| qA ?_
 refine tl (qD rfl) ?_
 refine qB <| qC <| qV <| qI ?_
 refine xB (.inl rfl) rfl rfl ?_
 have e79 : (false : Bool) = true := by (exfalso; have m_ := qA0 (b := b) (s := s) (kind := kind) (by grind) (by grind) ⟨by grind, by grind⟩; grind)
 exact fun w hw => ⟨congrArg Ending.returned (congrArg (fun x0 => Value.bool x0) e79), (hw.drop 2).weaken hle51⟩
 refine qJ 67 rfl rfl ?_
 refine tl (qG rfl) ?_
 refine qJ 67 rfl rfl ?_
 refine tl (qQ 1 [.slice A15 b.names.concepts.length d16, .slice A19 b.names.roles.length d20, .slice A23 b.names.inds.length d24, .slice A3 b.incls.length d4, .slice A6 b.roles.length d7, .slice A9 b.facts.length d10, .slice A12 b.links.length d13] rfl pN rfl rfl) ?_
 refine qJ 67 rfl rfl ?_
 refine tl (qQ 0 [.slice A31 s.concepts.length d32, .slice A35 s.roles.length d36] rfl yM rfl rfl) ?_
 refine qJ 67 rfl rfl ?_
 refine tl (qG rfl) ?_
 refine qJ 67 rfl rfl ?_
 refine xD ca13 rfl (fun w hw => uS b s kind hr_b hr_s (by unfold i64; omega) (by first | exact vG (by grind) | (have q_ := yY (b := b) (s := s) (by grind); exact ⟨q_.1, q_.2.1⟩)) (by first | exact vG (by grind) | (have q_ := yY (b := b) (s := s) (by grind); exact ⟨q_.1, q_.2.1⟩)) hw) rfl ?_
 rintro _ R81 _ hle82 ⟨A_z80_0, d_z80_0, rfl, rfl, hs_z80_0⟩
 try replace hr_b := kBase.mono _ _ _ _ hle82 hr_b
 try replace hr_s := kSig.mono _ _ _ _ hle82 hr_s
 try replace hG := hG.mono hle82
 try replace hs_z48_0 := hs_z48_0.mono hle82
 have hle83 := hle51.trans hle82
 have hle84 := hle50.trans hle82
 have z85 := hs_z80_0.size
 unfold big at z85
 refine qJ 67 rfl rfl ?_
 refine xC ca12 rfl (fun w hw => wT ((xI b s kind).1) (kF b s kind) hs_z48_0 hs_z80_0 hw) rfl ?_
 refine qJ 67 rfl rfl ?_
 refine tl (wZ rfl) ?_
 refine tl (qO rfl rfl) ?_
 refine qB <| qC ?_
 refine qP 75 rfl (fun h86 => ?_) (fun h86 => ?_)
 refine xE rfl ?_
 refine qE <| qA ?_
 refine tl (qD rfl) ?_
 refine qB <| qC <| qV <| qI ?_
 refine xB (.inl rfl) rfl rfl ?_
 have e87 : (false : Bool) = true := by (exfalso; have m_ := qA0 (b := b) (s := s) (kind := kind) (by grind) (by grind) ⟨by grind, by grind⟩; grind)
 exact fun w hw => ⟨congrArg Ending.returned (congrArg (fun x0 => Value.bool x0) e87), (hw.drop 2).weaken hle83⟩
 refine xV rfl ?_
 refine qZ <| qC <| qE ?_
 refine vS R81 (.blk b40 [.slice A31 s.concepts.length d32, .slice A35 s.roles.length d36] 33 :: .blk b39 [.slice A15 b.names.concepts.length d16, .slice A19 b.names.roles.length d20, .slice A23 b.names.inds.length d24, .slice A3 b.incls.length d4, .slice A6 b.roles.length d7, .slice A9 b.facts.length d10, .slice A12 b.links.length d13] 30 :: G) 11 mixed ?_
 refine td 0 rfl (by kernel_rfl) (qQ 1 [.slice A15 b.names.concepts.length d16, .slice A19 b.names.roles.length d20, .slice A23 b.names.inds.length d24, .slice A3 b.incls.length d4, .slice A6 b.roles.length d7, .slice A9 b.facts.length d10, .slice A12 b.links.length d13] rfl pN rfl rfl) (fun w hw => hw) ?_
 refine td 1 rfl (by kernel_rfl) (qG rfl) (fun w hw => hw) ?_
 refine td 3 rfl (by kernel_rfl) (qQ 0 [.slice A31 s.concepts.length d32, .slice A35 s.roles.length d36] rfl yM rfl rfl) (fun w hw => hw) ?_
 refine td 4 rfl (by kernel_rfl) (qG rfl) (fun w hw => hw) ?_
 refine td1 2 (by kernel_rfl) rfl ?_
 refine xD ca14 rfl (fun w hw => bJ b ((xI b s kind).1) hr_b hs_z48_0 (by (have q_ := yY (b := b) (s := s) (by grind); omega)) hw) rfl ?_
 rintro _ R89 _ hle90 ⟨cs_z88_0, rfl, rfl, hr_z88_0⟩
 try replace hr_b := kBase.mono _ _ _ _ hle90 hr_b
 try replace hr_s := kSig.mono _ _ _ _ hle90 hr_s
 try replace hG := hG.mono hle90
 try replace hs_z48_0 := hs_z48_0.mono hle90
 have hle91 := hle83.trans hle90
 have hle92 := hle84.trans hle90
 have hle93 := hle82.trans hle90
 obtain ⟨c94, A96, d97, A99, d100, A102, d103, A105, d106, rfl, hr95, hs98, hs101, hs104, hs107⟩ := id hr_z88_0
 have z120 := hs98.size
 unfold big at z120
 have z121 := hs101.size
 unfold big at z121
 have z122 := hs104.size
 unfold big at z122
 have z123 := hs107.size
 unfold big at z123
 obtain ⟨A108, d109, A112, d113, A116, d117, rfl, hs110, hs114, hs118⟩ := id hr95
 have z111 := hs110.size
 unfold big at z111
 have z115 := hs114.size
 unfold big at z115
 have z119 := hs118.size
 unfold big at z119
 refine qB ?_
 refine qY (fun w hw => (hw).weaken hle90) ?_
 refine td1 5 (by kernel_rfl) rfl ?_
 refine xD ca9 rfl (fun w hw => yD (wP b ((xI b s kind).1)) s kind hr_z88_0 hr_s (by unfold i64; omega) (by first | assumption | (have q_ := yY (b := b) (s := s) (by grind); exact ⟨q_.1, q_.2.1⟩)) (by first | assumption | (have q_ := yY (b := b) (s := s) (by grind); exact ⟨q_.1, q_.2.1⟩)) hw) rfl ?_
 rintro _ R125 _ hle126 ⟨A_z124_0, d_z124_0, rfl, rfl, hs_z124_0⟩
 try replace hr_b := kBase.mono _ _ _ _ hle126 hr_b
 try replace hr_s := kSig.mono _ _ _ _ hle126 hr_s
 try replace hG := hG.mono hle126
 try replace hs_z48_0 := hs_z48_0.mono hle126
 have hle127 := hle91.trans hle126
 have hle128 := hle92.trans hle126
 have hle129 := hle93.trans hle126
 have hle130 := hle90.trans hle126
 have z131 := hs_z124_0.size
 unfold big at z131
 refine qB ?_
 refine qY (fun w hw => (hw).weaken hle130) ?_
 refine td 6 rfl (by kernel_rfl) (qG rfl) (fun w hw => (hw).weaken hle130) ?_
 refine td 7 rfl (by kernel_rfl) (jG rfl rfl) (fun w hw => (hw).weaken hle130) ?_
 refine td 8 rfl (by kernel_rfl) (jG rfl rfl) (fun w hw => (hw).weaken hle130) ?_
 refine td 9 rfl (by kernel_rfl) (qD rfl) (fun w hw => (hw).weaken hle130) ?_
 refine td 10 rfl (by kernel_rfl) (qD rfl) (fun w hw => (hw).weaken hle130) ?_
 refine xK (by kernel_rfl) ?_
 refine qC <| qE <| qA ?_
 refine tl (qQ 1 [.slice A15 b.names.concepts.length d16, .slice A19 b.names.roles.length d20, .slice A23 b.names.inds.length d24, .slice A3 b.incls.length d4, .slice A6 b.roles.length d7, .slice A9 b.facts.length d10, .slice A12 b.links.length d13] rfl pN rfl rfl) ?_
 refine tl (qQ 0 [.slice A31 s.concepts.length d32, .slice A35 s.roles.length d36] rfl yM rfl rfl) ?_
 refine xD ca9 rfl (fun w hw => yD b s 0 hr_b hr_s (by unfold i64; omega) (by first | assumption | (have q_ := yY (b := b) (s := s) (by grind); exact ⟨q_.1, q_.2.1⟩)) (by first | assumption | (have q_ := yY (b := b) (s := s) (by grind); exact ⟨q_.1, q_.2.1⟩)) hw) rfl ?_
 rintro _ R133 _ hle134 ⟨A_z132_0, d_z132_0, rfl, rfl, hs_z132_0⟩
 try replace hG := hG.mono hle134
 try replace hs_z48_0 := hs_z48_0.mono hle134
 have hle135 := hle127.trans hle134
 have hle136 := hle128.trans hle134
 have hle137 := hle129.trans hle134
 have hle138 := hle130.trans hle134
 have hle139 := hle126.trans hle134
 have z140 := hs_z132_0.size
 unfold big at z140
 refine tl (qG rfl) ?_
 refine tl (jG rfl rfl) ?_
 refine tl (jG rfl rfl) ?_
 refine tl (qD rfl) ?_
 refine tl (qD rfl) ?_
 refine qB <| qC ?_
 refine vH [(0, .agg #[.slice A15 b.names.concepts.length d16, .slice A19 b.names.roles.length d20, .slice A23 b.names.inds.length d24, .slice A3 b.incls.length d4, .slice A6 b.roles.length d7, .slice A9 b.facts.length d10, .slice A12 b.links.length d13]), (1, .agg #[.slice A31 s.concepts.length d32, .slice A35 s.roles.length d36]), (2, .int .i64 kind), (3, .pointer (some ⟨b39, 0, none⟩)), (4, .pointer (some ⟨b40, 0, none⟩)), (18, .bool false), (7, .slice A_z48_0 (((xI b s kind).1).length) d_z48_0), (8, .int .i64 ((xI b s kind).2)), (27, .bool false), (41, .bool false), (75, .bool false), (6, .bool (decide (((((((xI (wP b ((xI b s kind).1)) s kind).2) = 0) ∧ ((((xI (wP b ((xI b s kind).1)) s kind).1).length : Int) = (((xI b s kind).1).length : Int))) ∧ (((xI b s 0).2) = 0)) ∧ ((¬ kind = 2) ∨ ((rL ((xI b s kind).1) ((xI b s 0).1)) = true))) ∨ False)))] (.blk b40 [.slice A31 s.concepts.length d32, .slice A35 s.roles.length d36] 33 :: .blk b39 [.slice A15 b.names.concepts.length d16, .slice A19 b.names.roles.length d20, .slice A23 b.names.inds.length d24, .slice A3 b.incls.length d4, .slice A6 b.roles.length d7, .slice A9 b.facts.length d10, .slice A12 b.links.length d13] 30 :: G) (fun _ => True) (fun K hK141 hE142 => ?_) ?_
 refine qA ?_
 refine tl (qG rfl) ?_
 refine tl (jR rfl rfl rfl) ?_
 refine tl (qG rfl) ?_
 refine xX 93 rfl (fun h143 => ?_) (fun h143 => ?_)
 refine qJ 93 rfl rfl ?_
 refine tl (qG rfl) ?_
 refine qJ 93 rfl rfl ?_
 refine tl (jJ rfl pL) ?_
 refine qJ 93 rfl rfl ?_
 refine tl (qG rfl) ?_
 refine qJ 93 rfl rfl ?_
 refine tl (jJ rfl pL) ?_
 refine qJ 93 rfl rfl ?_
 refine tl (jR rfl rfl rfl) ?_
 refine tl (qR rfl rfl) ?_
 refine tl (qG rfl) ?_
 refine xX 100 rfl (fun h144 => ?_) (fun h144 => ?_)
 refine qJ 100 rfl rfl ?_
 refine tl (qG rfl) ?_
 refine qJ 100 rfl rfl ?_
 refine tl (jR rfl rfl rfl) ?_
 refine tl (qR rfl rfl) ?_
 refine tl (qG rfl) ?_
 refine xX 104 rfl (fun h145 => ?_) (fun h145 => ?_)
 refine qJ 104 rfl rfl ?_
 refine tl (qG rfl) ?_
 refine qJ 104 rfl rfl ?_
 refine tl (jR rfl rfl rfl) ?_
 refine qJ 104 rfl rfl ?_
 refine tl (qG rfl) ?_
 refine xX 107 rfl (fun h146 => ?_) (fun h146 => ?_)
 refine qF 107 rfl rfl rfl ?_
 refine qF 107 rfl rfl rfl ?_
 refine qF 107 rfl rfl rfl ?_
 refine qJ 104 rfl rfl ?_
 refine tl (qR rfl rfl) ?_
 refine tl (qR rfl rfl) ?_
 refine tl (qG rfl) ?_
 refine qJ 113 rfl rfl ?_
 refine xC ca8 rfl (fun w hw => vT (by first | assumption | omega) hw) rfl ?_
 refine tl (qR rfl rfl) ?_
 refine tl (qD rfl) ?_
 refine qB ?_
 exact xW hK141 (.refl _) (trivial) ⟨rfl, rfl, rfl, rfl, rfl, rfl, rfl, rfl, rfl, rfl, rfl, show some (Value.bool true) = some (Value.bool (decide (((((((xI (wP b ((xI b s kind).1)) s kind).2) = 0) ∧ ((((xI (wP b ((xI b s kind).1)) s kind).1).length : Int) = (((xI b s kind).1).length : Int))) ∧ (((xI b s 0).2) = 0)) ∧ ((¬ kind = 2) ∨ ((rL ((xI b s kind).1) ((xI b s 0).1)) = true))) ∨ False))) by first | (simp [h143, h144, h145, h146]; done) | grind | (simp [h143, h144, h145, h146] <;> omega), trivial⟩ (fun w hw => hw)
 refine qJ 107 rfl rfl ?_
 refine tl (qG rfl) ?_
 refine qJ 107 rfl rfl ?_
 refine tl (qG rfl) ?_
 refine qJ 107 rfl rfl ?_
 refine xC ca15 rfl (fun w hw => uQ ((xI b s kind).1) ((xI b s 0).1) hs_z48_0 hs_z132_0 hw) rfl ?_
 refine qJ 104 rfl rfl ?_
 refine tl (qO rfl rfl) ?_
 refine tl (qR rfl rfl) ?_
 refine tl (qG rfl) ?_
 refine kQ 113 rfl (fun h147 => ?_) (fun h147 => ?_)
 refine qJ 113 rfl rfl ?_
 refine xC ca8 rfl (fun w hw => vT (by first | assumption | omega) hw) rfl ?_
 refine tl (qR rfl rfl) ?_
 refine tl (qD rfl) ?_
 refine qB ?_
 exact xW hK141 (.refl _) (trivial) ⟨rfl, rfl, rfl, rfl, rfl, rfl, rfl, rfl, rfl, rfl, rfl, show some (Value.bool true) = some (Value.bool (decide (((((((xI (wP b ((xI b s kind).1)) s kind).2) = 0) ∧ ((((xI (wP b ((xI b s kind).1)) s kind).1).length : Int) = (((xI b s kind).1).length : Int))) ∧ (((xI b s 0).2) = 0)) ∧ ((¬ kind = 2) ∨ ((rL ((xI b s kind).1) ((xI b s 0).1)) = true))) ∨ False))) by first | (simp [h143, h144, h145, h146, h147]; done) | grind | (simp [h143, h144, h145, h146, h147] <;> omega), trivial⟩ (fun w hw => hw)
 refine qF 113 rfl rfl rfl ?_
 refine tl (qO rfl rfl) ?_
 refine tl (qD rfl) ?_
 refine qB ?_
 exact xW hK141 (.refl _) (trivial) ⟨rfl, rfl, rfl, rfl, rfl, rfl, rfl, rfl, rfl, rfl, rfl, show some (Value.bool false) = some (Value.bool (decide (((((((xI (wP b ((xI b s kind).1)) s kind).2) = 0) ∧ ((((xI (wP b ((xI b s kind).1)) s kind).1).length : Int) = (((xI b s kind).1).length : Int))) ∧ (((xI b s 0).2) = 0)) ∧ ((¬ kind = 2) ∨ ((rL ((xI b s kind).1) ((xI b s 0).1)) = true))) ∨ False))) by first | (simp [h143, h144, h145, h146, h147]; done) | grind | (simp [h143, h144, h145, h146, h147] <;> omega), trivial⟩ (fun w hw => hw)
 refine qF 104 rfl rfl rfl ?_
 refine qF 104 rfl rfl rfl ?_
 refine qF 104 rfl rfl rfl ?_
 refine xY 107 rfl rfl rfl ?_
 refine xY 107 rfl rfl rfl ?_
 refine xY 107 rfl rfl rfl ?_
 refine qF 104 rfl rfl rfl ?_
 refine tl (qO rfl rfl) ?_
 refine tl (qG rfl) ?_
 refine qF 113 rfl rfl rfl ?_
 refine tl (qO rfl rfl) ?_
 refine tl (qD rfl) ?_
 refine qB ?_
 exact xW hK141 (.refl _) (trivial) ⟨rfl, rfl, rfl, rfl, rfl, rfl, rfl, rfl, rfl, rfl, rfl, show some (Value.bool false) = some (Value.bool (decide (((((((xI (wP b ((xI b s kind).1)) s kind).2) = 0) ∧ ((((xI (wP b ((xI b s kind).1)) s kind).1).length : Int) = (((xI b s kind).1).length : Int))) ∧ (((xI b s 0).2) = 0)) ∧ ((¬ kind = 2) ∨ ((rL ((xI b s kind).1) ((xI b s 0).1)) = true))) ∨ False))) by first | (simp [h143, h144, h145]; done) | grind | (simp [h143, h144, h145] <;> omega), trivial⟩ (fun w hw => hw)
 refine qF 100 rfl rfl rfl ?_
 refine qF 100 rfl rfl rfl ?_
 refine tl (qO rfl rfl) ?_
 refine tl (qG rfl) ?_
 refine qF 104 rfl rfl rfl ?_
 refine qF 104 rfl rfl rfl ?_
 refine qF 104 rfl rfl rfl ?_
 refine xY 107 rfl rfl rfl ?_
 refine xY 107 rfl rfl rfl ?_
 refine xY 107 rfl rfl rfl ?_
 refine qF 104 rfl rfl rfl ?_
 refine tl (qO rfl rfl) ?_
 refine tl (qG rfl) ?_
 refine qF 113 rfl rfl rfl ?_
 refine tl (qO rfl rfl) ?_
 refine tl (qD rfl) ?_
 refine qB ?_
 exact xW hK141 (.refl _) (trivial) ⟨rfl, rfl, rfl, rfl, rfl, rfl, rfl, rfl, rfl, rfl, rfl, show some (Value.bool false) = some (Value.bool (decide (((((((xI (wP b ((xI b s kind).1)) s kind).2) = 0) ∧ ((((xI (wP b ((xI b s kind).1)) s kind).1).length : Int) = (((xI b s kind).1).length : Int))) ∧ (((xI b s 0).2) = 0)) ∧ ((¬ kind = 2) ∨ ((rL ((xI b s kind).1) ((xI b s 0).1)) = true))) ∨ False))) by first | (simp [h143, h144]; done) | grind | (simp [h143, h144] <;> omega), trivial⟩ (fun w hw => hw)
 refine qF 93 rfl rfl rfl ?_
 refine qF 93 rfl rfl rfl ?_
 refine qF 93 rfl rfl rfl ?_
 refine qF 93 rfl rfl rfl ?_
 refine qF 93 rfl rfl rfl ?_
 refine tl (qO rfl rfl) ?_
 refine tl (qG rfl) ?_
 refine qF 100 rfl rfl rfl ?_
 refine qF 100 rfl rfl rfl ?_
 refine tl (qO rfl rfl) ?_
 refine tl (qG rfl) ?_
 refine qF 104 rfl rfl rfl ?_
 refine qF 104 rfl rfl rfl ?_
 refine qF 104 rfl rfl rfl ?_
 refine xY 107 rfl rfl rfl ?_
 refine xY 107 rfl rfl rfl ?_
 refine xY 107 rfl rfl rfl ?_
 refine qF 104 rfl rfl rfl ?_
 refine tl (qO rfl rfl) ?_
 refine tl (qG rfl) ?_
 refine qF 113 rfl rfl rfl ?_
 refine tl (qO rfl rfl) ?_
 refine tl (qD rfl) ?_
 refine qB ?_
 exact xW hK141 (.refl _) (trivial) ⟨rfl, rfl, rfl, rfl, rfl, rfl, rfl, rfl, rfl, rfl, rfl, show some (Value.bool false) = some (Value.bool (decide (((((((xI (wP b ((xI b s kind).1)) s kind).2) = 0) ∧ ((((xI (wP b ((xI b s kind).1)) s kind).1).length : Int) = (((xI b s kind).1).length : Int))) ∧ (((xI b s 0).2) = 0)) ∧ ((¬ kind = 2) ∨ ((rL ((xI b s kind).1) ((xI b s 0).1)) = true))) ∨ False))) by first | (simp [h143]; done) | grind | (simp [h143] <;> omega), trivial⟩ (fun w hw => hw)
 refine fun R149 hle150 hj148 => jH hle150 ?_
 refine qV ?_
 refine xB (.inl rfl) rfl rfl ?_
 have e151 : (decide (((((((xI (wP b ((xI b s kind).1)) s kind).2) = 0) ∧ ((((xI (wP b ((xI b s kind).1)) s kind).1).length : Int) = (((xI b s kind).1).length : Int))) ∧ (((xI b s 0).2) = 0)) ∧ ((¬ kind = 2) ∨ ((rL ((xI b s kind).1) ((xI b s 0).1)) = true))) ∨ False) : Bool) = true := by (have m_ := qA0 (b := b) (s := s) (kind := kind) (by grind) (by grind) ⟨by grind, by grind⟩; first | rfl | grind | simp_all)
 exact fun w hw => ⟨congrArg Ending.returned (congrArg (fun x0 => Value.bool x0) e151), (hw.drop 2).weaken hle135⟩

end Go.Proofs.YtcbcdlajnmkioaaGreatDoor
