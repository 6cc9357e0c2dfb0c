/- A part of the proof of the statement ModuleModules of isagogelaw19: what the library answers. -/
import Derived.Test.YtcbcdlajnmkioaaGreatDoorE0
import Derived.Shelf.Slices.In.SortNone
import Derived.Shelf.Sort.Plain
import Derived.Shelf.Strings.Search3
import Derived.Test.YtcbcdlajnmkioaaGreatDoorProg
import Derived.Test.YtcbcdlajnmkioaaGreatDoorE7
namespace Go.Proofs.YtcbcdlajnmkioaaGreatDoor
open Go
def vN (c : Int) : Bool := (decide (97 ≤ c) && decide (c ≤ 122)) || (decide (65 ≤ c) && decide (c ≤ 90))
def tN (c : Int) : Bool := decide (48 ≤ c) && decide (c ≤ 57)
def hD (c : Int) : Bool := vN c || tN c || decide (c = 95)
def okB (i : Nat) (c : Int) : Bool := vN c || (decide (0 < i) && (tN c || decide (c = 95)))
def reserved : List ByteArray := [⟨#[116, 111, 112]⟩, ⟨#[98, 111, 116]⟩, ⟨#[110, 111, 116]⟩, ⟨#[97, 110, 100]⟩, ⟨#[111, 114]⟩, ⟨#[115, 111, 109, 101]⟩, ⟨#[97, 108, 108]⟩, ⟨#[99, 111, 110, 99, 101, 112, 116]⟩, ⟨#[114, 111, 108, 101]⟩, ⟨#[105, 110, 100]⟩]
def bS (s : ByteArray) : Bool := reserved.any fun t => decide (s = t)
def bZ (l : List ByteArray) (s : ByteArray) : Int := match l.findIdx? (fun x => decide (s = x)) with | some i => i | none => -1
def dW (s : ByteArray) : Bool := decide (¬ s = ⟨#[]⟩ ∧ ∀ i, i < s.size → okB i (bt s i) = true)
def sD (s : ByteArray) : Bool := decide (s.size ≤ 12) && dW s && !bS s
end Go.Proofs.YtcbcdlajnmkioaaGreatDoor

namespace Go.Proofs
open Go.Shelf
set_option linter.unusedVariables false
def Tryz.lays144_ren : Go.Shelf.Ren := ⟨fun | 144 => 108 | 143 => 115 | 219 => 127 | 217 => 134 | 225 => 135 | 224 => 136 | 267 => 137 | 266 => 139 | 314 => 140 | n => n, fun | 9 => 9 | 4 => 4 | 3 => 3 | 5 => 5 | 46 => 175 | 146 => 199 | 51 => 188 | n => n, fun | 1 => 1 | n => n⟩
theorem Tryz.lays144 : Go.Proofs.Lays.n144 Tryz.prog Tryz.lays144_ren := {
  mixed := by kernel_rfl
  f143 := Tryz.func115.trans (congrArg some (by kernel_rfl))
  f144 := Tryz.func108.trans (congrArg some (by kernel_rfl))
  f217 := Tryz.func134.trans (congrArg some (by kernel_rfl))
  f219 := Tryz.func127.trans (congrArg some (by kernel_rfl))
  f224 := Tryz.func136.trans (congrArg some (by kernel_rfl))
  f225 := Tryz.func135.trans (congrArg some (by kernel_rfl))
  f266 := Tryz.func139.trans (congrArg some (by kernel_rfl))
  f267 := Tryz.func137.trans (congrArg some (by kernel_rfl))
  f314 := Tryz.func140.trans (congrArg some (by kernel_rfl))
  t3 := Tryz.underlying3
  a3 := Tryz.isAgg3
  z3 := Tryz.sizeOf3
  v3 := Tryz.zeroValue3
  t4 := Tryz.underlying4
  a4 := Tryz.isAgg4
  z4 := Tryz.sizeOf4
  v4 := Tryz.zeroValue4
  t5 := Tryz.underlying5
  a5 := Tryz.isAgg5
  z5 := Tryz.sizeOf5
  v5 := Tryz.zeroValue5
  t9 := Tryz.underlying9
  a9 := Tryz.isAgg9
  z9 := Tryz.sizeOf9
  v9 := Tryz.zeroValue9
  t46 := Tryz.underlying175
  a46 := Tryz.isAgg175
  z46 := Tryz.sizeOf175
  v46 := Tryz.zeroValue175
  t51 := Tryz.underlying188
  a51 := Tryz.isAgg188
  z51 := Tryz.sizeOf188
  v51 := Tryz.zeroValue188
  t146 := Tryz.underlying199
  a146 := Tryz.isAgg199
  z146 := Tryz.sizeOf199
  v146 := Tryz.zeroValue199
  g1 := by kernel_rfl }
open Go.RowKit Go.Lib in
theorem Tryz.strings_Contains (s sub : ByteArray) (m : Int) (w : World) (hs : s.size < 4294967281) (hm : w.cell? ⟨1, 0, none⟩ = some (.int .i64 m)) :
    Calls Tryz.prog 108 #[.string s, .string sub] w fun e w' => e = .returned (.bool (Lib.contains s.data.toList sub.data.toList)) ∧ w' = w := Any.strings_Contains Tryz.lays144 s sub m w hs hm
def Tryz.lays189_ren : Go.Shelf.Ren := ⟨fun | 189 => 104 | 125 => 113 | 257 => 112 | 128 => 125 | 129 => 126 | 294 => 116 | 295 => 117 | 296 => 118 | 297 => 119 | 298 => 120 | 299 => 121 | 216 => 122 | 300 => 123 | 301 => 124 | 328 => 128 | 329 => 129 | 330 => 130 | 331 => 131 | 332 => 132 | 215 => 133 | 343 => 138 | n => n, fun | 28 => 31 | 3 => 3 | 46 => 175 | 0 => 0 | 51 => 188 | 53 => 190 | 4 => 4 | 183 => 180 | 182 => 179 | 131 => 185 | 5 => 5 | 9 => 9 | 218 => 191 | 222 => 138 | 228 => 197 | 229 => 81 | n => n, fun | n => n⟩
theorem Tryz.lays189 : Go.Proofs.Lays.n189 Tryz.prog Tryz.lays189_ren := {
  mixed := by kernel_rfl
  f125 := Tryz.func113.trans (congrArg some (by kernel_rfl))
  f128 := Tryz.func125.trans (congrArg some (by kernel_rfl))
  f129 := Tryz.func126.trans (congrArg some (by kernel_rfl))
  f189 := Tryz.func104.trans (congrArg some (by kernel_rfl))
  f215 := Tryz.func133.trans (congrArg some (by kernel_rfl))
  f216 := Tryz.func122.trans (congrArg some (by kernel_rfl))
  f257 := Tryz.func112.trans (congrArg some (by kernel_rfl))
  f294 := Tryz.func116.trans (congrArg some (by kernel_rfl))
  f295 := Tryz.func117.trans (congrArg some (by kernel_rfl))
  f296 := Tryz.func118.trans (congrArg some (by kernel_rfl))
  f297 := Tryz.func119.trans (congrArg some (by kernel_rfl))
  f298 := Tryz.func120.trans (congrArg some (by kernel_rfl))
  f299 := Tryz.func121.trans (congrArg some (by kernel_rfl))
  f300 := Tryz.func123.trans (congrArg some (by kernel_rfl))
  f301 := Tryz.func124.trans (congrArg some (by kernel_rfl))
  f328 := Tryz.func128.trans (congrArg some (by kernel_rfl))
  f329 := Tryz.func129.trans (congrArg some (by kernel_rfl))
  f330 := Tryz.func130.trans (congrArg some (by kernel_rfl))
  f331 := Tryz.func131.trans (congrArg some (by kernel_rfl))
  f332 := Tryz.func132.trans (congrArg some (by kernel_rfl))
  f343 := Tryz.func138.trans (congrArg some (by kernel_rfl))
  t0 := Tryz.underlying0
  a0 := Tryz.isAgg0
  z0 := Tryz.sizeOf0
  v0 := Tryz.zeroValue0
  t3 := Tryz.underlying3
  a3 := Tryz.isAgg3
  z3 := Tryz.sizeOf3
  v3 := Tryz.zeroValue3
  t4 := Tryz.underlying4
  a4 := Tryz.isAgg4
  z4 := Tryz.sizeOf4
  v4 := Tryz.zeroValue4
  t5 := Tryz.underlying5
  a5 := Tryz.isAgg5
  z5 := Tryz.sizeOf5
  v5 := Tryz.zeroValue5
  t9 := Tryz.underlying9
  a9 := Tryz.isAgg9
  z9 := Tryz.sizeOf9
  v9 := Tryz.zeroValue9
  t28 := Tryz.underlying31
  a28 := Tryz.isAgg31
  z28 := Tryz.sizeOf31
  v28 := Tryz.zeroValue31
  t46 := Tryz.underlying175
  a46 := Tryz.isAgg175
  z46 := Tryz.sizeOf175
  v46 := Tryz.zeroValue175
  t51 := Tryz.underlying188
  a51 := Tryz.isAgg188
  z51 := Tryz.sizeOf188
  v51 := Tryz.zeroValue188
  t53 := Tryz.underlying190
  a53 := Tryz.isAgg190
  z53 := Tryz.sizeOf190
  v53 := Tryz.zeroValue190
  t131 := Tryz.underlying185
  a131 := Tryz.isAgg185
  z131 := Tryz.sizeOf185
  v131 := Tryz.zeroValue185
  t182 := Tryz.underlying179
  a182 := Tryz.isAgg179
  z182 := Tryz.sizeOf179
  v182 := Tryz.zeroValue179
  t183 := Tryz.underlying180
  a183 := Tryz.isAgg180
  z183 := Tryz.sizeOf180
  v183 := Tryz.zeroValue180
  t218 := Tryz.underlying191
  a218 := Tryz.isAgg191
  z218 := Tryz.sizeOf191
  v218 := Tryz.zeroValue191
  t222 := Tryz.underlying138
  a222 := Tryz.isAgg138
  z222 := Tryz.sizeOf138
  v222 := Tryz.zeroValue138
  t228 := Tryz.underlying197
  a228 := Tryz.isAgg197
  z228 := Tryz.sizeOf197
  v228 := Tryz.zeroValue197
  t229 := Tryz.underlying81
  a229 := Tryz.isAgg81
  z229 := Tryz.sizeOf81
  v229 := Tryz.zeroValue81 }
open Go.Sort Go.RowKit in
theorem Tryz.slices_Sort_int (blk off cap : Nat) (zs : List Int) (w : World) (hH : Holds (Value.int .i64) w blk off zs.toArray) (hblk : blk < w.heap.size) (hsz : zs.length < 4611686018427387904) :
    Calls Tryz.prog 104 #[.slice (some ⟨blk, off, none⟩) zs.length cap] w fun e w' =>
      e = .returned (.tuple #[]) ∧ ∃ n os, w' = grow (putRow (Value.int .i64) (Sort.ahead w n) blk off (zs.mergeSort fun x y => decide (x ≤ y)).toArray) os := Any.slices_Sort_int Tryz.lays189 blk off cap zs w hH hblk hsz
open Go.RowKit Go.Sort in
theorem Tryz.slices_Sort_int_none (p : Option Addr) (cap : Nat) (w : World) :
    Calls Tryz.prog 104 #[.slice p 0 cap] w fun e w' => e = .returned (.tuple #[]) ∧ w' = w := Any.slices_Sort_int_none Tryz.lays189 p cap w
end Go.Proofs

namespace Go.Proofs.YtcbcdlajnmkioaaGreatDoor
open Go Go.Proofs
set_option linter.unusedSimpArgs false
set_option linter.unusedVariables false
set_option maxRecDepth 20000
set_option maxHeartbeats 8000000
theorem ca107 : Callable Tryz.prog 107 := ⟨by kernel_rfl⟩

theorem uN {R : RO} {G : List Res} {w : World} (c : Int) (hb_c : 0 ≤ c ∧ c ≤ 255) (hw : Own w R (G)) :
    Calls Tryz.prog 98 [.int .u8 c].toArray w (kK R G (.bool (vN c))) := by
 refine xH (vs := [.int .u8 c]) Tryz.func98 rfl rfl rfl ?_ hw
 refine qE <| qA ?_
 refine tl (qD rfl) ?_
 refine qB <| qC ?_
 refine vH [(2, .bool (decide (((97 ≤ c) ∧ (c ≤ 122)) ∨ ((65 ≤ c) ∧ (c ≤ 90)))))] (G) (fun _ => True) (fun K hK1 hE2 => ?_) ?_
 refine qA ?_
 refine tl (qG rfl) ?_
 refine tl (jR rfl rfl rfl) ?_
 refine tl (qG rfl) ?_
 refine xX 5 rfl (fun h3 => ?_) (fun h3 => ?_)
 refine qJ 5 rfl rfl ?_
 refine tl (qG rfl) ?_
 refine qJ 5 rfl rfl ?_
 refine tl (jR rfl rfl rfl) ?_
 refine tl (qR rfl rfl) ?_
 refine tl (qG rfl) ?_
 refine xX 9 rfl (fun h4 => ?_) (fun h4 => ?_)
 refine qF 9 rfl rfl rfl ?_
 refine qF 9 rfl rfl rfl ?_
 refine qF 9 rfl rfl rfl ?_
 refine xY 12 rfl rfl rfl ?_
 refine xY 12 rfl rfl rfl ?_
 refine qF 9 rfl rfl rfl ?_
 refine tl (qR rfl rfl) ?_
 refine tl (qD rfl) ?_
 refine qB ?_
 exact xW hK1 (.refl _) (trivial) ⟨show some (Value.bool true) = some (Value.bool (decide (((97 ≤ c) ∧ (c ≤ 122)) ∨ ((65 ≤ c) ∧ (c ≤ 90))))) by first | (simp [h3, h4]; done) | grind | (simp [h3, h4] <;> omega), trivial⟩ (fun w hw => hw)
 refine qJ 9 rfl rfl ?_
 refine tl (qG rfl) ?_
 refine qJ 9 rfl rfl ?_
 refine tl (jR rfl rfl rfl) ?_
 refine qJ 9 rfl rfl ?_
 refine tl (qG rfl) ?_
 refine xX 12 rfl (fun h5 => ?_) (fun h5 => ?_)
 refine qJ 12 rfl rfl ?_
 refine tl (qG rfl) ?_
 refine qJ 12 rfl rfl ?_
 refine tl (jR rfl rfl rfl) ?_
 refine qJ 9 rfl rfl ?_
 refine tl (qR rfl rfl) ?_
 refine tl (qO rfl rfl) ?_
 refine tl (qD rfl) ?_
 refine qB ?_
 exact xW hK1 (.refl _) (trivial) ⟨show some (Value.bool (decide (c ≤ 90))) = some (Value.bool (decide (((97 ≤ c) ∧ (c ≤ 122)) ∨ ((65 ≤ c) ∧ (c ≤ 90))))) by first | (simp [h3, h4, h5]; done) | grind | (simp [h3, h4, h5] <;> omega), trivial⟩ (fun w hw => hw)
 refine qF 12 rfl rfl rfl ?_
 refine qF 12 rfl rfl rfl ?_
 refine qJ 9 rfl rfl ?_
 refine tl (qO rfl rfl) ?_
 refine tl (qO rfl rfl) ?_
 refine tl (qD rfl) ?_
 refine qB ?_
 exact xW hK1 (.refl _) (trivial) ⟨show some (Value.bool false) = some (Value.bool (decide (((97 ≤ c) ∧ (c ≤ 122)) ∨ ((65 ≤ c) ∧ (c ≤ 90))))) by first | (simp [h3, h4, h5]; done) | grind | (simp [h3, h4, h5] <;> omega), trivial⟩ (fun w hw => hw)
 refine qF 5 rfl rfl rfl ?_
 refine qF 5 rfl rfl rfl ?_
 refine tl (qO rfl rfl) ?_
 refine tl (qG rfl) ?_
 refine qJ 9 rfl rfl ?_
 refine tl (qG rfl) ?_
 refine qJ 9 rfl rfl ?_
 refine tl (jR rfl rfl rfl) ?_
 refine qJ 9 rfl rfl ?_
 refine tl (qG rfl) ?_
 refine xX 12 rfl (fun h6 => ?_) (fun h6 => ?_)
 refine qJ 12 rfl rfl ?_
 refine tl (qG rfl) ?_
 refine qJ 12 rfl rfl ?_
 refine tl (jR rfl rfl rfl) ?_
 refine qJ 9 rfl rfl ?_
 refine tl (qR rfl rfl) ?_
 refine tl (qO rfl rfl) ?_
 refine tl (qD rfl) ?_
 refine qB ?_
 exact xW hK1 (.refl _) (trivial) ⟨show some (Value.bool (decide (c ≤ 90))) = some (Value.bool (decide (((97 ≤ c) ∧ (c ≤ 122)) ∨ ((65 ≤ c) ∧ (c ≤ 90))))) by first | (simp [h3, h6]; done) | grind | (simp [h3, h6] <;> omega), trivial⟩ (fun w hw => hw)
 refine qF 12 rfl rfl rfl ?_
 refine qF 12 rfl rfl rfl ?_
 refine qJ 9 rfl rfl ?_
 refine tl (qO rfl rfl) ?_
 refine tl (qO rfl rfl) ?_
 refine tl (qD rfl) ?_
 refine qB ?_
 exact xW hK1 (.refl _) (trivial) ⟨show some (Value.bool false) = some (Value.bool (decide (((97 ≤ c) ∧ (c ≤ 122)) ∨ ((65 ≤ c) ∧ (c ≤ 90))))) by first | (simp [h3, h6]; done) | grind | (simp [h3, h6] <;> omega), trivial⟩ (fun w hw => hw)
 refine fun R8 hle9 hj7 => jH hle9 ?_
 refine qV ?_
 refine xB (.inl rfl) rfl rfl ?_
 have e10 : (decide (((97 ≤ c) ∧ (c ≤ 122)) ∨ ((65 ≤ c) ∧ (c ≤ 90))) : Bool) = vN c := by first | rfl | (rw [Bool.eq_iff_iff]; simp only [vN, decide_eq_true_eq, Bool.or_eq_true, Bool.and_eq_true, Bool.false_eq_true, Bool.not_eq_true', Bool.not_eq_eq_eq_not, Bool.not_true, decide_eq_false_iff_not, Bool.not_false] <;> omega) | (rw [Bool.eq_iff_iff]; simp [vN] <;> omega)
 exact fun w hw => ⟨congrArg Ending.returned (congrArg (fun x0 => Value.bool x0) e10), hw⟩

theorem uX {R : RO} {G : List Res} {w : World} (c : Int) (hb_c : 0 ≤ c ∧ c ≤ 255) (hw : Own w R (G)) :
    Calls Tryz.prog 99 [.int .u8 c].toArray w (kK R G (.bool (tN c))) := by
 refine xH (vs := [.int .u8 c]) Tryz.func99 rfl rfl rfl ?_ hw
 refine qE <| qA ?_
 refine tl (qD rfl) ?_
 refine qB <| qC ?_
 refine vH [(2, .bool (decide ((48 ≤ c) ∧ (c ≤ 57))))] (G) (fun _ => True) (fun K hK1 hE2 => ?_) ?_
 refine qA ?_
 refine tl (qG rfl) ?_
 refine tl (jR rfl rfl rfl) ?_
 refine tl (qG rfl) ?_
 refine xX 5 rfl (fun h3 => ?_) (fun h3 => ?_)
 refine qJ 5 rfl rfl ?_
 refine tl (qG rfl) ?_
 refine qJ 5 rfl rfl ?_
 refine tl (jR rfl rfl rfl) ?_
 refine tl (qR rfl rfl) ?_
 refine tl (qD rfl) ?_
 refine qB ?_
 exact xW hK1 (.refl _) (trivial) ⟨show some (Value.bool (decide (c ≤ 57))) = some (Value.bool (decide ((48 ≤ c) ∧ (c ≤ 57)))) by first | (simp [h3]; done) | grind | (simp [h3] <;> omega), trivial⟩ (fun w hw => hw)
 refine qF 5 rfl rfl rfl ?_
 refine qF 5 rfl rfl rfl ?_
 refine tl (qO rfl rfl) ?_
 refine tl (qD rfl) ?_
 refine qB ?_
 exact xW hK1 (.refl _) (trivial) ⟨show some (Value.bool false) = some (Value.bool (decide ((48 ≤ c) ∧ (c ≤ 57)))) by first | (simp [h3]; done) | grind | (simp [h3] <;> omega), trivial⟩ (fun w hw => hw)
 refine fun R5 hle6 hj4 => jH hle6 ?_
 refine qV ?_
 refine xB (.inl rfl) rfl rfl ?_
 have e7 : (decide ((48 ≤ c) ∧ (c ≤ 57)) : Bool) = tN c := by first | rfl | (rw [Bool.eq_iff_iff]; simp only [tN, decide_eq_true_eq, Bool.or_eq_true, Bool.and_eq_true, Bool.false_eq_true, Bool.not_eq_true', Bool.not_eq_eq_eq_not, Bool.not_true, decide_eq_false_iff_not, Bool.not_false] <;> omega) | (rw [Bool.eq_iff_iff]; simp [tN] <;> omega)
 exact fun w hw => ⟨congrArg Ending.returned (congrArg (fun x0 => Value.bool x0) e7), hw⟩

theorem tI {R : RO} {G : List Res} {w : World} (c : Int) (hb_c : 0 ≤ c ∧ c ≤ 255) (hw : Own w R (G)) :
    Calls Tryz.prog 107 [.int .u8 c].toArray w (kK R G (.bool (vN c))) := by
 refine xH (vs := [.int .u8 c]) Tryz.func107 rfl rfl rfl ?_ hw
 refine qE <| qA ?_
 refine tl (qD rfl) ?_
 refine qB <| qC ?_
 refine vH [(2, .bool (decide (((97 ≤ c) ∧ (c ≤ 122)) ∨ ((65 ≤ c) ∧ (c ≤ 90)))))] (G) (fun _ => True) (fun K hK1 hE2 => ?_) ?_
 refine qA ?_
 refine tl (qG rfl) ?_
 refine tl (jR rfl rfl rfl) ?_
 refine tl (qG rfl) ?_
 refine xX 5 rfl (fun h3 => ?_) (fun h3 => ?_)
 refine qJ 5 rfl rfl ?_
 refine tl (qG rfl) ?_
 refine qJ 5 rfl rfl ?_
 refine tl (jR rfl rfl rfl) ?_
 refine tl (qR rfl rfl) ?_
 refine tl (qG rfl) ?_
 refine xX 9 rfl (fun h4 => ?_) (fun h4 => ?_)
 refine qF 9 rfl rfl rfl ?_
 refine qF 9 rfl rfl rfl ?_
 refine qF 9 rfl rfl rfl ?_
 refine xY 12 rfl rfl rfl ?_
 refine xY 12 rfl rfl rfl ?_
 refine qF 9 rfl rfl rfl ?_
 refine tl (qR rfl rfl) ?_
 refine tl (qD rfl) ?_
 refine qB ?_
 exact xW hK1 (.refl _) (trivial) ⟨show some (Value.bool true) = some (Value.bool (decide (((97 ≤ c) ∧ (c ≤ 122)) ∨ ((65 ≤ c) ∧ (c ≤ 90))))) by first | (simp [h3, h4]; done) | grind | (simp [h3, h4] <;> omega), trivial⟩ (fun w hw => hw)
 refine qJ 9 rfl rfl ?_
 refine tl (qG rfl) ?_
 refine qJ 9 rfl rfl ?_
 refine tl (jR rfl rfl rfl) ?_
 refine qJ 9 rfl rfl ?_
 refine tl (qG rfl) ?_
 refine xX 12 rfl (fun h5 => ?_) (fun h5 => ?_)
 refine qJ 12 rfl rfl ?_
 refine tl (qG rfl) ?_
 refine qJ 12 rfl rfl ?_
 refine tl (jR rfl rfl rfl) ?_
 refine qJ 9 rfl rfl ?_
 refine tl (qR rfl rfl) ?_
 refine tl (qO rfl rfl) ?_
 refine tl (qD rfl) ?_
 refine qB ?_
 exact xW hK1 (.refl _) (trivial) ⟨show some (Value.bool (decide (c ≤ 90))) = some (Value.bool (decide (((97 ≤ c) ∧ (c ≤ 122)) ∨ ((65 ≤ c) ∧ (c ≤ 90))))) by first | (simp [h3, h4, h5]; done) | grind | (simp [h3, h4, h5] <;> omega), trivial⟩ (fun w hw => hw)
 refine qF 12 rfl rfl rfl ?_
 refine qF 12 rfl rfl rfl ?_
 refine qJ 9 rfl rfl ?_
 refine tl (qO rfl rfl) ?_
 refine tl (qO rfl rfl) ?_
 refine tl (qD rfl) ?_
 refine qB ?_
 exact xW hK1 (.refl _) (trivial) ⟨show some (Value.bool false) = some (Value.bool (decide (((97 ≤ c) ∧ (c ≤ 122)) ∨ ((65 ≤ c) ∧ (c ≤ 90))))) by first | (simp [h3, h4, h5]; done) | grind | (simp [h3, h4, h5] <;> omega), trivial⟩ (fun w hw => hw)
 refine qF 5 rfl rfl rfl ?_
 refine qF 5 rfl rfl rfl ?_
 refine tl (qO rfl rfl) ?_
 refine tl (qG rfl) ?_
 refine qJ 9 rfl rfl ?_
 refine tl (qG rfl) ?_
 refine qJ 9 rfl rfl ?_
 refine tl (jR rfl rfl rfl) ?_
 refine qJ 9 rfl rfl ?_
 refine tl (qG rfl) ?_
 refine xX 12 rfl (fun h6 => ?_) (fun h6 => ?_)
 refine qJ 12 rfl rfl ?_
 refine tl (qG rfl) ?_
 refine qJ 12 rfl rfl ?_
 refine tl (jR rfl rfl rfl) ?_
 refine qJ 9 rfl rfl ?_
 refine tl (qR rfl rfl) ?_
 refine tl (qO rfl rfl) ?_
 refine tl (qD rfl) ?_
 refine qB ?_
 exact xW hK1 (.refl _) (trivial) ⟨show some (Value.bool (decide (c ≤ 90))) = some (Value.bool (decide (((97 ≤ c) ∧ (c ≤ 122)) ∨ ((65 ≤ c) ∧ (c ≤ 90))))) by first | (simp [h3, h6]; done) | grind | (simp [h3, h6] <;> omega), trivial⟩ (fun w hw => hw)
 refine qF 12 rfl rfl rfl ?_
 refine qF 12 rfl rfl rfl ?_
 refine qJ 9 rfl rfl ?_
 refine tl (qO rfl rfl) ?_
 refine tl (qO rfl rfl) ?_
 refine tl (qD rfl) ?_
 refine qB ?_
 exact xW hK1 (.refl _) (trivial) ⟨show some (Value.bool false) = some (Value.bool (decide (((97 ≤ c) ∧ (c ≤ 122)) ∨ ((65 ≤ c) ∧ (c ≤ 90))))) by first | (simp [h3, h6]; done) | grind | (simp [h3, h6] <;> omega), trivial⟩ (fun w hw => hw)
 refine fun R8 hle9 hj7 => jH hle9 ?_
 refine qV ?_
 refine xB (.inl rfl) rfl rfl ?_
 have e10 : (decide (((97 ≤ c) ∧ (c ≤ 122)) ∨ ((65 ≤ c) ∧ (c ≤ 90))) : Bool) = vN c := by first | rfl | (rw [Bool.eq_iff_iff]; simp only [vN, decide_eq_true_eq, Bool.or_eq_true, Bool.and_eq_true, Bool.false_eq_true, Bool.not_eq_true', Bool.not_eq_eq_eq_not, Bool.not_true, decide_eq_false_iff_not, Bool.not_false] <;> omega) | (rw [Bool.eq_iff_iff]; simp [vN] <;> omega)
 exact fun w hw => ⟨congrArg Ending.returned (congrArg (fun x0 => Value.bool x0) e10), hw⟩

theorem dJ {R : RO} {G : List Res} {w : World} (c : Int) (hb_c : 0 ≤ c ∧ c ≤ 255) (hw : Own w R (G)) :
    Calls Tryz.prog 109 [.int .u8 c].toArray w (kK R G (.bool (hD c))) := by
 refine xH (vs := [.int .u8 c]) Tryz.func109 rfl rfl rfl ?_ hw
 refine qE <| qA ?_
 refine tl (qD rfl) ?_
 refine qB <| qC ?_
 refine vH [(2, .bool (decide ((((vN c) = true) ∨ ((48 ≤ c) ∧ (c ≤ 57))) ∨ (c = 95))))] (G) (fun _ => True) (fun K hK1 hE2 => ?_) ?_
 refine qA ?_
 refine tl (qG rfl) ?_
 refine xC ca107 rfl (fun w hw => tI c (by omega) hw) rfl ?_
 refine tl (qG rfl) ?_
 refine kQ 5 rfl (fun h3 => ?_) (fun h3 => ?_)
 refine qF 5 rfl rfl rfl ?_
 refine qF 5 rfl rfl rfl ?_
 refine qF 5 rfl rfl rfl ?_
 refine xY 8 rfl rfl rfl ?_
 refine xY 8 rfl rfl rfl ?_
 refine qF 5 rfl rfl rfl ?_
 refine tl (qR rfl rfl) ?_
 refine tl (qG rfl) ?_
 refine qF 13 rfl rfl rfl ?_
 refine qF 13 rfl rfl rfl ?_
 refine tl (qR rfl rfl) ?_
 refine tl (qD rfl) ?_
 refine qB ?_
 exact xW hK1 (.refl _) (trivial) ⟨show some (Value.bool true) = some (Value.bool (decide ((((vN c) = true) ∨ ((48 ≤ c) ∧ (c ≤ 57))) ∨ (c = 95)))) by first | (simp [h3]; done) | grind | (simp [h3] <;> omega), trivial⟩ (fun w hw => hw)
 refine qJ 5 rfl rfl ?_
 refine tl (qG rfl) ?_
 refine qJ 5 rfl rfl ?_
 refine tl (jR rfl rfl rfl) ?_
 refine qJ 5 rfl rfl ?_
 refine tl (qG rfl) ?_
 refine xX 8 rfl (fun h4 => ?_) (fun h4 => ?_)
 refine qJ 8 rfl rfl ?_
 refine tl (qG rfl) ?_
 refine qJ 8 rfl rfl ?_
 refine tl (jR rfl rfl rfl) ?_
 refine qJ 5 rfl rfl ?_
 refine tl (qR rfl rfl) ?_
 refine tl (qO rfl rfl) ?_
 refine tl (qG rfl) ?_
 refine xX 13 rfl (fun h5 => ?_) (fun h5 => ?_)
 refine qF 13 rfl rfl rfl ?_
 refine qF 13 rfl rfl rfl ?_
 refine tl (qR rfl rfl) ?_
 refine tl (qD rfl) ?_
 refine qB ?_
 exact xW hK1 (.refl _) (trivial) ⟨show some (Value.bool true) = some (Value.bool (decide ((((vN c) = true) ∨ ((48 ≤ c) ∧ (c ≤ 57))) ∨ (c = 95)))) by first | (simp [h3, h4, h5]; done) | grind | (simp [h3, h4, h5] <;> omega), trivial⟩ (fun w hw => hw)
 refine qJ 13 rfl rfl ?_
 refine tl (qG rfl) ?_
 refine qJ 13 rfl rfl ?_
 refine tl (jR rfl rfl rfl) ?_
 refine tl (qO rfl rfl) ?_
 refine tl (qD rfl) ?_
 refine qB ?_
 exact xW hK1 (.refl _) (trivial) ⟨show some (Value.bool (decide (c = 95))) = some (Value.bool (decide ((((vN c) = true) ∨ ((48 ≤ c) ∧ (c ≤ 57))) ∨ (c = 95)))) by first | (simp [h3, h4, h5]; done) | grind | (simp [h3, h4, h5] <;> omega), trivial⟩ (fun w hw => hw)
 refine qF 8 rfl rfl rfl ?_
 refine qF 8 rfl rfl rfl ?_
 refine qJ 5 rfl rfl ?_
 refine tl (qO rfl rfl) ?_
 refine tl (qO rfl rfl) ?_
 refine tl (qG rfl) ?_
 refine qJ 13 rfl rfl ?_
 refine tl (qG rfl) ?_
 refine qJ 13 rfl rfl ?_
 refine tl (jR rfl rfl rfl) ?_
 refine tl (qO rfl rfl) ?_
 refine tl (qD rfl) ?_
 refine qB ?_
 exact xW hK1 (.refl _) (trivial) ⟨show some (Value.bool (decide (c = 95))) = some (Value.bool (decide ((((vN c) = true) ∨ ((48 ≤ c) ∧ (c ≤ 57))) ∨ (c = 95)))) by first | (simp [h3, h4]; done) | grind | (simp [h3, h4] <;> omega), trivial⟩ (fun w hw => hw)
 refine fun R7 hle8 hj6 => jH hle8 ?_
 refine qV ?_
 refine xB (.inl rfl) rfl rfl ?_
 have e9 : (decide ((((vN c) = true) ∨ ((48 ≤ c) ∧ (c ≤ 57))) ∨ (c = 95)) : Bool) = hD c := by first | rfl | simp [hD, vN, tN, *] | (simp [hD, tN, *] <;> omega)
 exact fun w hw => ⟨congrArg Ending.returned (congrArg (fun x0 => Value.bool x0) e9), hw⟩

theorem ca77 : Callable Tryz.prog 77 := ⟨by kernel_rfl⟩
theorem ca78 : Callable Tryz.prog 78 := ⟨by kernel_rfl⟩
theorem ca98 : Callable Tryz.prog 98 := ⟨by kernel_rfl⟩
theorem ca99 : Callable Tryz.prog 99 := ⟨by kernel_rfl⟩
theorem st9 : qI5 Tryz.prog 9 = true := by kernel_rfl

theorem bE {R : RO} {G : List Res} {w : World} (s : ByteArray) (hz_s : s.size ≤ big) (hw : Own w R (G)) :
    Calls Tryz.prog 77 [.string s].toArray w (kK R G (.bool (dW s))) := by
 unfold big at hz_s
 refine xH (vs := [.string s]) Tryz.func77 rfl rfl rfl ?_ hw
 refine qE <| qA ?_
 refine tl (qD rfl) ?_
 refine qB <| qC <| qE <| qE <| qA ?_
 refine tl (qD rfl) ?_
 refine qB <| qC <| qX ?_
 refine jF ?_
 refine jN (fun i : Nat => s.size - i) (fun i : Nat => [(0, .string s), (3, .int .i64 (i : Int))]) (fun i : Nat => (G)) (fun (i : Nat) => i ≤ s.size ∧ ∀ j : Nat, j < i → okB j (bt s j) = true) (0) ⟨rfl, rfl, trivial⟩ (by exact ⟨by omega, fun j h => by omega⟩) (fun w hw => hw) ?_
 rintro i hI1 ih2
 show TC Tryz.prog _ _ _ [] [(0, .string s), (3, .int .i64 (i : Int))] R (G)
 obtain ⟨hi1, hi2⟩ := hI1
 refine qE <| qE <| qA ?_
 refine tl (qG rfl) ?_
 refine tl (qG rfl) ?_
 refine tl (aG rfl st9) ?_
 refine tl (jR rfl rfl rfl) ?_
 refine qB <| qC ?_
 refine qP 7 rfl (fun h5 => ?_) (fun h5 => ?_)
 refine xE rfl ?_
 refine qZ <| qC <| qE <| qX ?_
 refine vH [(0, .string s), (3, .int .i64 (i : Int)), (7, .bool true), (31, .bool (decide (((!(vN (bt s i))) = true) ∧ (((i : Int) = 0) ∨ (((!(tN (bt s i))) = true) ∧ (¬ (bt s i) = 95))))))] (G) (fun _ => True) (fun K hK6 hE7 => ?_) ?_
 refine qA ?_
 refine tl (qG rfl) ?_
 refine tl (qG rfl) ?_
 have hb8 : i < s.size := by omega
 have hr9 := cQ s i
 refine tl (nT (i := i) rfl rfl st9 hb8) ?_
 refine xC ca98 rfl (fun w hw => uN (bt s i) (by omega) hw) rfl ?_
 refine tl (wJ rfl) ?_
 refine tl (qG rfl) ?_
 refine kQ 15 rfl (fun h10 => ?_) (fun h10 => ?_)
 refine qJ 15 rfl rfl ?_
 refine tl (qG rfl) ?_
 refine qJ 15 rfl rfl ?_
 refine tl (jR rfl rfl rfl) ?_
 refine qJ 15 rfl rfl ?_
 refine tl (qG rfl) ?_
 refine xX 18 rfl (fun h11 => ?_) (fun h11 => ?_)
 refine qF 18 rfl rfl rfl ?_
 refine qF 18 rfl rfl rfl ?_
 refine qF 18 rfl rfl rfl ?_
 refine qF 18 rfl rfl rfl ?_
 refine qF 18 rfl rfl rfl ?_
 refine qF 18 rfl rfl rfl ?_
 refine xY 24 rfl rfl rfl ?_
 refine xY 24 rfl rfl rfl ?_
 refine xY 24 rfl rfl rfl ?_
 refine xY 24 rfl rfl rfl ?_
 refine qF 18 rfl rfl rfl ?_
 refine qJ 15 rfl rfl ?_
 refine tl (qR rfl rfl) ?_
 refine tl (qR rfl rfl) ?_
 refine qB ?_
 exact xW hK6 (.refl _) (trivial) ⟨rfl, rfl, rfl, show some (Value.bool true) = some (Value.bool (decide (((!(vN (bt s i))) = true) ∧ (((i : Int) = 0) ∨ (((!(tN (bt s i))) = true) ∧ (¬ (bt s i) = 95)))))) by first | (simp [h10, h11]; done) | grind | (simp [h10, h11] <;> omega), trivial⟩ (fun w hw => hw)
 refine qJ 18 rfl rfl ?_
 refine tl (qG rfl) ?_
 refine qJ 18 rfl rfl ?_
 refine tl (qG rfl) ?_
 refine qJ 18 rfl rfl ?_
 have hb12 : i < s.size := by omega
 have hr13 := cQ s i
 refine tl (nT (i := i) rfl rfl st9 hb12) ?_
 refine qJ 18 rfl rfl ?_
 refine xC ca99 rfl (fun w hw => uX (bt s i) (by omega) hw) rfl ?_
 refine qJ 18 rfl rfl ?_
 refine tl (wJ rfl) ?_
 refine qJ 18 rfl rfl ?_
 refine tl (qG rfl) ?_
 refine kQ 24 rfl (fun h14 => ?_) (fun h14 => ?_)
 refine qJ 24 rfl rfl ?_
 refine tl (qG rfl) ?_
 refine qJ 24 rfl rfl ?_
 refine tl (qG rfl) ?_
 refine qJ 24 rfl rfl ?_
 have hb15 : i < s.size := by omega
 have hr16 := cQ s i
 refine tl (nT (i := i) rfl rfl st9 hb15) ?_
 refine qJ 24 rfl rfl ?_
 refine tl (jR rfl rfl rfl) ?_
 refine qJ 18 rfl rfl ?_
 refine tl (qR rfl rfl) ?_
 refine qJ 15 rfl rfl ?_
 refine tl (qO rfl rfl) ?_
 refine tl (qR rfl rfl) ?_
 refine qB ?_
 exact xW hK6 (.refl _) (trivial) ⟨rfl, rfl, rfl, show some (Value.bool (decide (¬ (bt s i) = 95))) = some (Value.bool (decide (((!(vN (bt s i))) = true) ∧ (((i : Int) = 0) ∨ (((!(tN (bt s i))) = true) ∧ (¬ (bt s i) = 95)))))) by first | (simp [h10, h11, h14]; done) | grind | (simp [h10, h11, h14] <;> omega), trivial⟩ (fun w hw => hw)
 refine qF 24 rfl rfl rfl ?_
 refine qF 24 rfl rfl rfl ?_
 refine qF 24 rfl rfl rfl ?_
 refine qF 24 rfl rfl rfl ?_
 refine qJ 18 rfl rfl ?_
 refine tl (qO rfl rfl) ?_
 refine qJ 15 rfl rfl ?_
 refine tl (qO rfl rfl) ?_
 refine tl (qR rfl rfl) ?_
 refine qB ?_
 exact xW hK6 (.refl _) (trivial) ⟨rfl, rfl, rfl, show some (Value.bool false) = some (Value.bool (decide (((!(vN (bt s i))) = true) ∧ (((i : Int) = 0) ∨ (((!(tN (bt s i))) = true) ∧ (¬ (bt s i) = 95)))))) by first | (simp [h10, h11, h14]; done) | grind | (simp [h10, h11, h14] <;> omega), trivial⟩ (fun w hw => hw)
 refine qF 15 rfl rfl rfl ?_
 refine qF 15 rfl rfl rfl ?_
 refine qF 15 rfl rfl rfl ?_
 refine xY 18 rfl rfl rfl ?_
 refine xY 18 rfl rfl rfl ?_
 refine xY 18 rfl rfl rfl ?_
 refine xY 18 rfl rfl rfl ?_
 refine xY 18 rfl rfl rfl ?_
 refine xY 18 rfl rfl rfl ?_
 refine xY 24 rfl rfl rfl ?_
 refine xY 24 rfl rfl rfl ?_
 refine xY 24 rfl rfl rfl ?_
 refine xY 24 rfl rfl rfl ?_
 refine xY 18 rfl rfl rfl ?_
 refine qF 15 rfl rfl rfl ?_
 refine tl (qO rfl rfl) ?_
 refine qB ?_
 exact xW hK6 (.refl _) (trivial) ⟨rfl, rfl, rfl, show some (Value.bool false) = some (Value.bool (decide (((!(vN (bt s i))) = true) ∧ (((i : Int) = 0) ∨ (((!(tN (bt s i))) = true) ∧ (¬ (bt s i) = 95)))))) by first | (simp [h10]; done) | grind | (simp [h10] <;> omega), trivial⟩ (fun w hw => hw)
 refine fun R18 hle19 hj17 => jH hle19 ?_
 refine qP 31 rfl (fun h20 => ?_) (fun h20 => ?_)
 refine xE rfl ?_
 refine qE <| qA ?_
 refine tl (qD rfl) ?_
 refine qB <| qC <| qV <| qN <| qI <| qI <| qN <| qI ?_
 refine xB (.inl rfl) rfl rfl ?_
 have e21 : (false : Bool) = dW s := by (simp only [dW]; rw [eq_comm, decide_eq_false_iff_not]; rintro ⟨_, hall⟩; have hk := hall i (by omega); grind [okB])
 exact fun w hw => ⟨congrArg Ending.returned (congrArg (fun x0 => Value.bool x0) e21), hw⟩
 refine xV rfl ?_
 refine qZ <| jC <| qC <| qA ?_
 refine tl (qG rfl) ?_
 refine tl (jT rfl rfl (by omega) (by omega)) ?_
 refine tl (qD rfl) ?_
 refine qB ?_
 refine xQ ?_
 exact fun a w ha hw => ih2.out (i + 1) (by refine ⟨by omega, fun j h => ?_⟩; by_cases e : j = i; (subst e; grind [okB]); exact hi2 j (by omega)) (by (try dsimp only); omega) a w (ha.sub (xL ⟨rfl, rfl, trivial⟩)) (hw)
 refine xV rfl ?_
 refine jE <| qK <| qK <| xG <| qC <| qE <| qA ?_
 refine tl (qG rfl) ?_
 refine tl (v_sne rfl rfl) ?_
 refine tl (qD rfl) ?_
 refine qB <| qC <| qV ?_
 refine xB (.inl rfl) rfl rfl ?_
 have e22 : (decide (¬ s = (⟨#[]⟩)) : Bool) = dW s := by (have e : i = s.size := by omega); subst e; simp only [dW]; simp only [decide_eq_decide]; exact ⟨fun h => ⟨h, hi2⟩, fun h => h.1⟩
 exact fun w hw => ⟨congrArg Ending.returned (congrArg (fun x0 => Value.bool x0) e22), hw⟩

theorem tJ {R : RO} {G : List Res} {w : World} (s : ByteArray) (hz_s : s.size ≤ big) (hw : Own w R (G)) :
    Calls Tryz.prog 78 [.string s].toArray w (kK R G (.bool (bS s))) := by
 unfold big at hz_s
 refine xH (vs := [.string s]) Tryz.func78 rfl rfl rfl ?_ hw
 refine qE <| qA ?_
 refine tl (qD rfl) ?_
 refine qB <| qC <| qE <| qE <| qA ?_
 refine tl (qG rfl) ?_
 refine qB <| qC <| qX <| qE <| qE <| qA ?_
 refine tl (eR rfl rfl) ?_
 refine tl (qD rfl) ?_
 refine qB <| qC ?_
 refine qP 4 rfl (fun h1 => ?_) (fun h1 => ?_)
 refine xE rfl ?_
 refine qZ <| qC ?_
 refine xE rfl ?_
 refine qE <| qA ?_
 refine tl (qD rfl) ?_
 refine qB <| qC <| qV <| qN <| qI ?_
 refine xB (.inl rfl) rfl rfl ?_
 have e2 : (true : Bool) = bS s := by (simp only [bS, reserved, List.any_cons, List.any_nil]; grind)
 exact fun w hw => ⟨congrArg Ending.returned (congrArg (fun x0 => Value.bool x0) e2), hw⟩
 refine xV rfl ?_
 refine qE <| qA ?_
 refine tl (eR rfl rfl) ?_
 refine tl (qD rfl) ?_
 refine qB <| qC ?_
 refine qP 4 rfl (fun h3 => ?_) (fun h3 => ?_)
 refine xE rfl ?_
 refine qZ <| qC ?_
 refine xE rfl ?_
 refine qE <| qA ?_
 refine tl (qD rfl) ?_
 refine qB <| qC <| qV <| qN <| qI ?_
 refine xB (.inl rfl) rfl rfl ?_
 have e4 : (true : Bool) = bS s := by (simp only [bS, reserved, List.any_cons, List.any_nil]; grind)
 exact fun w hw => ⟨congrArg Ending.returned (congrArg (fun x0 => Value.bool x0) e4), hw⟩
 refine xV rfl ?_
 refine qE <| qA ?_
 refine tl (eR rfl rfl) ?_
 refine tl (qD rfl) ?_
 refine qB <| qC ?_
 refine qP 4 rfl (fun h5 => ?_) (fun h5 => ?_)
 refine xE rfl ?_
 refine qZ <| qC ?_
 refine xE rfl ?_
 refine qE <| qA ?_
 refine tl (qD rfl) ?_
 refine qB <| qC <| qV <| qN <| qI ?_
 refine xB (.inl rfl) rfl rfl ?_
 have e6 : (true : Bool) = bS s := by (simp only [bS, reserved, List.any_cons, List.any_nil]; grind)
 exact fun w hw => ⟨congrArg Ending.returned (congrArg (fun x0 => Value.bool x0) e6), hw⟩
 refine xV rfl ?_
 refine qE <| qA ?_
 refine tl (eR rfl rfl) ?_
 refine tl (qD rfl) ?_
 refine qB <| qC ?_
 refine qP 4 rfl (fun h7 => ?_) (fun h7 => ?_)
 refine xE rfl ?_
 refine qZ <| qC ?_
 refine xE rfl ?_
 refine qE <| qA ?_
 refine tl (qD rfl) ?_
 refine qB <| qC <| qV <| qN <| qI ?_
 refine xB (.inl rfl) rfl rfl ?_
 have e8 : (true : Bool) = bS s := by (simp only [bS, reserved, List.any_cons, List.any_nil]; grind)
 exact fun w hw => ⟨congrArg Ending.returned (congrArg (fun x0 => Value.bool x0) e8), hw⟩
 refine xV rfl ?_
 refine qE <| qA ?_
 refine tl (eR rfl rfl) ?_
 refine tl (qD rfl) ?_
 refine qB <| qC ?_
 refine qP 4 rfl (fun h9 => ?_) (fun h9 => ?_)
 refine xE rfl ?_
 refine qZ <| qC ?_
 refine xE rfl ?_
 refine qE <| qA ?_
 refine tl (qD rfl) ?_
 refine qB <| qC <| qV <| qN <| qI ?_
 refine xB (.inl rfl) rfl rfl ?_
 have e10 : (true : Bool) = bS s := by (simp only [bS, reserved, List.any_cons, List.any_nil]; grind)
 exact fun w hw => ⟨congrArg Ending.returned (congrArg (fun x0 => Value.bool x0) e10), hw⟩
 refine xV rfl ?_
 refine qE <| qA ?_
 refine tl (eR rfl rfl) ?_
 refine tl (qD rfl) ?_
 refine qB <| qC ?_
 refine qP 4 rfl (fun h11 => ?_) (fun h11 => ?_)
 refine xE rfl ?_
 refine qZ <| qC ?_
 refine xE rfl ?_
 refine qE <| qA ?_
 refine tl (qD rfl) ?_
 refine qB <| qC <| qV <| qN <| qI ?_
 refine xB (.inl rfl) rfl rfl ?_
 have e12 : (true : Bool) = bS s := by (simp only [bS, reserved, List.any_cons, List.any_nil]; grind)
 exact fun w hw => ⟨congrArg Ending.returned (congrArg (fun x0 => Value.bool x0) e12), hw⟩
 refine xV rfl ?_
 refine qE <| qA ?_
 refine tl (eR rfl rfl) ?_
 refine tl (qD rfl) ?_
 refine qB <| qC ?_
 refine qP 4 rfl (fun h13 => ?_) (fun h13 => ?_)
 refine xE rfl ?_
 refine qZ <| qC ?_
 refine xE rfl ?_
 refine qE <| qA ?_
 refine tl (qD rfl) ?_
 refine qB <| qC <| qV <| qN <| qI ?_
 refine xB (.inl rfl) rfl rfl ?_
 have e14 : (true : Bool) = bS s := by (simp only [bS, reserved, List.any_cons, List.any_nil]; grind)
 exact fun w hw => ⟨congrArg Ending.returned (congrArg (fun x0 => Value.bool x0) e14), hw⟩
 refine xV rfl ?_
 refine qE <| qA ?_
 refine tl (eR rfl rfl) ?_
 refine tl (qD rfl) ?_
 refine qB <| qC ?_
 refine qP 4 rfl (fun h15 => ?_) (fun h15 => ?_)
 refine xE rfl ?_
 refine qZ <| qC ?_
 refine xE rfl ?_
 refine qE <| qA ?_
 refine tl (qD rfl) ?_
 refine qB <| qC <| qV <| qN <| qI ?_
 refine xB (.inl rfl) rfl rfl ?_
 have e16 : (true : Bool) = bS s := by (simp only [bS, reserved, List.any_cons, List.any_nil]; grind)
 exact fun w hw => ⟨congrArg Ending.returned (congrArg (fun x0 => Value.bool x0) e16), hw⟩
 refine xV rfl ?_
 refine qE <| qA ?_
 refine tl (eR rfl rfl) ?_
 refine tl (qD rfl) ?_
 refine qB <| qC ?_
 refine qP 4 rfl (fun h17 => ?_) (fun h17 => ?_)
 refine xE rfl ?_
 refine qZ <| qC ?_
 refine xE rfl ?_
 refine qE <| qA ?_
 refine tl (qD rfl) ?_
 refine qB <| qC <| qV <| qN <| qI ?_
 refine xB (.inl rfl) rfl rfl ?_
 have e18 : (true : Bool) = bS s := by (simp only [bS, reserved, List.any_cons, List.any_nil]; grind)
 exact fun w hw => ⟨congrArg Ending.returned (congrArg (fun x0 => Value.bool x0) e18), hw⟩
 refine xV rfl ?_
 refine qA ?_
 refine tl (eR rfl rfl) ?_
 refine tl (qD rfl) ?_
 refine qB <| qC ?_
 refine qP 4 rfl (fun h19 => ?_) (fun h19 => ?_)
 refine xE rfl ?_
 refine qE <| qA ?_
 refine tl (qD rfl) ?_
 refine qB <| qC <| qV <| qN <| qI ?_
 refine xB (.inl rfl) rfl rfl ?_
 have e20 : (true : Bool) = bS s := by (simp only [bS, reserved, List.any_cons, List.any_nil]; grind)
 exact fun w hw => ⟨congrArg Ending.returned (congrArg (fun x0 => Value.bool x0) e20), hw⟩
 refine xV rfl ?_
 refine qZ <| jC <| qC <| qE <| qA ?_
 refine tl (qD rfl) ?_
 refine qB <| qC <| qV ?_
 refine xB (.inl rfl) rfl rfl ?_
 have e21 : (false : Bool) = bS s := by (simp only [bS, reserved, List.any_cons, List.any_nil]; grind)
 exact fun w hw => ⟨congrArg Ending.returned (congrArg (fun x0 => Value.bool x0) e21), hw⟩

theorem bF {R : RO} {G : List Res} {w : World} (s : ByteArray) (hz_s : s.size ≤ big) (hw : Own w R (G)) :
    Calls Tryz.prog 57 [.string s].toArray w (kK R G (.bool (sD s))) := by
 unfold big at hz_s
 refine xH (vs := [.string s]) Tryz.func57 rfl rfl rfl ?_ hw
 refine qE <| qA ?_
 refine tl (qD rfl) ?_
 refine qB <| qC ?_
 refine vH [(2, .bool (decide ((((s.size : Int) ≤ 12) ∧ ((dW s) = true)) ∧ ((!(bS s)) = true))))] (G) (fun _ => True) (fun K hK1 hE2 => ?_) ?_
 refine qA ?_
 refine tl (qG rfl) ?_
 refine tl (aG rfl st9) ?_
 refine tl (jR rfl rfl rfl) ?_
 refine tl (qG rfl) ?_
 refine xX 6 rfl (fun h3 => ?_) (fun h3 => ?_)
 refine qJ 6 rfl rfl ?_
 refine tl (qG rfl) ?_
 refine qJ 6 rfl rfl ?_
 refine xC ca77 rfl (fun w hw => bE s (by unfold big; omega) hw) rfl ?_
 refine tl (qR rfl rfl) ?_
 refine tl (qG rfl) ?_
 refine kQ 10 rfl (fun h4 => ?_) (fun h4 => ?_)
 refine qJ 10 rfl rfl ?_
 refine tl (qG rfl) ?_
 refine qJ 10 rfl rfl ?_
 refine xC ca78 rfl (fun w hw => tJ s (by unfold big; omega) hw) rfl ?_
 refine qJ 10 rfl rfl ?_
 refine tl (wJ rfl) ?_
 refine tl (qR rfl rfl) ?_
 refine tl (qD rfl) ?_
 refine qB ?_
 exact xW hK1 (.refl _) (trivial) ⟨show some (Value.bool (!(bS s))) = some (Value.bool (decide ((((s.size : Int) ≤ 12) ∧ ((dW s) = true)) ∧ ((!(bS s)) = true)))) by first | (simp [h3, h4]; done) | grind | (simp [h3, h4] <;> omega), trivial⟩ (fun w hw => hw)
 refine qF 10 rfl rfl rfl ?_
 refine qF 10 rfl rfl rfl ?_
 refine qF 10 rfl rfl rfl ?_
 refine tl (qO rfl rfl) ?_
 refine tl (qD rfl) ?_
 refine qB ?_
 exact xW hK1 (.refl _) (trivial) ⟨show some (Value.bool false) = some (Value.bool (decide ((((s.size : Int) ≤ 12) ∧ ((dW s) = true)) ∧ ((!(bS s)) = true)))) by first | (simp [h3, h4]; done) | grind | (simp [h3, h4] <;> omega), trivial⟩ (fun w hw => hw)
 refine qF 6 rfl rfl rfl ?_
 refine qF 6 rfl rfl rfl ?_
 refine tl (qO rfl rfl) ?_
 refine tl (qG rfl) ?_
 refine qF 10 rfl rfl rfl ?_
 refine qF 10 rfl rfl rfl ?_
 refine qF 10 rfl rfl rfl ?_
 refine tl (qO rfl rfl) ?_
 refine tl (qD rfl) ?_
 refine qB ?_
 exact xW hK1 (.refl _) (trivial) ⟨show some (Value.bool false) = some (Value.bool (decide ((((s.size : Int) ≤ 12) ∧ ((dW s) = true)) ∧ ((!(bS s)) = true)))) by first | (simp [h3]; done) | grind | (simp [h3] <;> omega), trivial⟩ (fun w hw => hw)
 refine fun R6 hle7 hj5 => jH hle7 ?_
 refine qV ?_
 refine xB (.inl rfl) rfl rfl ?_
 have e8 : (decide ((((s.size : Int) ≤ 12) ∧ ((dW s) = true)) ∧ ((!(bS s)) = true)) : Bool) = sD s := by (simp only [sD]; grind)
 exact fun w hw => ⟨congrArg Ending.returned (congrArg (fun x0 => Value.bool x0) e8), hw⟩

theorem ap115 : yO Tryz.prog 115 = some (22, 1, 24, [.slice none 0 0]) := by kernel_rfl
theorem ap22 : yO Tryz.prog 22 = some (9, 1, 16, [.string (⟨#[]⟩)]) := by kernel_rfl
theorem ca57 : Callable Tryz.prog 57 := ⟨by kernel_rfl⟩
theorem ca58 : Callable Tryz.prog 58 := ⟨by kernel_rfl⟩
theorem bN : kG Tryz.prog 24 0 = some 0 := by kernel_rfl
theorem pP : kG Tryz.prog 24 1 = some 1 := by kernel_rfl
theorem eC : kG Tryz.prog 24 2 = some 2 := by kernel_rfl
theorem uO : kR Tryz.prog 22 = some (false, 1) := by kernel_rfl
theorem ld9 : kR Tryz.prog 9 = some (false, 1) := by kernel_rfl
theorem nG : wE Tryz.prog 115 = some (22, 1) := by kernel_rfl
theorem uK : wE Tryz.prog 22 = some (9, 1) := by kernel_rfl

theorem findI_at {l : List ByteArray} {s : ByteArray} : ∀ {i : Nat}, l[i]? = some s → (∀ (j : Nat) (x : ByteArray), j < i → l[j]? = some x → ¬ x = s) → bZ l s = i := by
  intro i h hp
  have : l.findIdx? (fun x => decide (s = x)) = some i := by
    rw [List.findIdx?_eq_some_iff_getElem]
    obtain ⟨hl, hx⟩ := List.getElem?_eq_some_iff.1 h
    refine ⟨hl, by simp [hx], fun j hj => ?_⟩
    have := hp j _ hj (List.getElem?_eq_getElem (by omega))
    simp; exact fun e => this e.symm
  simp [bZ, this]
theorem qD6 {l : List ByteArray} {s : ByteArray} (hp : ∀ (j : Nat) (x : ByteArray), l[j]? = some x → ¬ x = s) : bZ l s = -1 := by
  have : l.findIdx? (fun x => decide (s = x)) = none := by
    rw [List.findIdx?_eq_none_iff]
    intro x hx
    obtain ⟨j, hj⟩ := List.mem_iff_getElem?.1 hx
    have := hp j x hj
    simp; exact fun e => this e.symm
  simp [bZ, this]
theorem fM (l : List ByteArray) (s : ByteArray) : 0 ≤ bZ l s ↔ s ∈ l := by
  unfold bZ
  cases h : l.findIdx? (fun x => decide (s = x)) with
  | none =>
    rw [List.findIdx?_eq_none_iff] at h
    simp only [show ¬ (0 : Int) ≤ -1 by omega, false_iff]
    intro hm
    have := h s hm
    simp at this
  | some i =>
    rw [List.findIdx?_eq_some_iff_getElem] at h
    obtain ⟨hl, hx, -⟩ := h
    have e : s = l[i] := by simpa using hx
    simp only [Int.natCast_nonneg, true_iff]
    rw [e]; exact List.getElem_mem hl
theorem findI_lo (l : List ByteArray) (s : ByteArray) : -1 ≤ bZ l s := by unfold bZ; split <;> omega

theorem bG {R : RO} {G : List Res} {w : World} {A_l : Option Addr} {d_l : Nat} (l : List (ByteArray)) (s : ByteArray) (hs_l : SlAt kStr R A_l l) (hz_s : s.size ≤ big) (hw : Own w R (G)) :
    Calls Tryz.prog 58 [.slice A_l l.length d_l, .string s].toArray w (kK R G (.int .i64 (bZ l s))) := by
 have hz_l := hs_l.size
 unfold big at hz_l
 unfold big at hz_s
 refine xH (vs := [.slice A_l l.length d_l, .string s]) Tryz.func58 rfl rfl rfl ?_ hw
 refine qE <| qA ?_
 refine tl (qD rfl) ?_
 refine qB <| qC <| qE <| qE <| qA ?_
 refine tl (qG rfl) ?_
 refine tl (jJ rfl uK) ?_
 refine tl (qG rfl) ?_
 refine qB <| qC <| qX ?_
 refine jF ?_
 refine jN (fun i : Nat => l.length - i) (fun i : Nat => [(1, .string s), (7, .slice A_l l.length d_l), (8, .int .i64 (l.length : Int)), (9, .int .i64 (i : Int))]) (fun i : Nat => (G)) (fun (i : Nat) => i ≤ l.length ∧ ∀ (j : Nat) (x : ByteArray), j < i → l[j]? = some x → ¬ x = s) (0) ⟨rfl, rfl, rfl, rfl, trivial⟩ (by exact ⟨by omega, fun j x h => by omega⟩) (fun w hw => hw) ?_
 rintro i hI1 ih2
 show TC Tryz.prog _ _ _ [] [(1, .string s), (7, .slice A_l l.length d_l), (8, .int .i64 (l.length : Int)), (9, .int .i64 (i : Int))] R (G)
 obtain ⟨hi1, hi2⟩ := hI1
 refine qE <| qA ?_
 refine tl (jR rfl rfl rfl) ?_
 refine qB <| qC <| qE ?_
 refine qP 10 rfl (fun h5 => ?_) (fun h5 => ?_)
 refine xE rfl ?_
 refine qZ <| qC <| qE <| qX <| qE <| qA ?_
 refine tl (qG rfl) ?_
 have hb11 : i < l.length := by omega
 obtain ⟨x6, hx7⟩ : ∃ x, l[i]? = some x := ⟨_, List.getElem?_eq_getElem hb11⟩
 obtain ⟨c8, hr9, ha10⟩ := hs_l.get _ x6 hx7
 obtain ⟨rfl, z12⟩ := hr9
 unfold big at z12
 refine tl (jV (i := i) hs_l rfl rfl rfl uK hb11) ?_
 refine tl (yN 0 ha10 rfl ld9 rfl rfl) ?_
 refine tl (qD rfl) ?_
 refine tl (qD rfl) ?_
 refine qB <| qC <| qE <| qA ?_
 refine tl (qG rfl) ?_
 refine tl (qG rfl) ?_
 refine tl (eR rfl rfl) ?_
 refine qB <| qC ?_
 refine qP 16 rfl (fun h13 => ?_) (fun h13 => ?_)
 refine xE rfl ?_
 refine qE <| qA ?_
 refine tl (qG rfl) ?_
 refine tl (qD rfl) ?_
 refine qB <| qC <| qV <| qN <| qI <| qI <| qN <| qI ?_
 refine xB (.inl rfl) rfl rfl ?_
 have e14 : ((i : Int) : Int) = bZ l s := by exact (findI_at (by rw [hx7, ← h13]) hi2).symm
 exact fun w hw => ⟨congrArg Ending.returned (congrArg (fun x0 => Value.int .i64 x0) e14), hw⟩
 refine xV rfl ?_
 refine qZ <| jC <| qC <| qA ?_
 refine tl (jT rfl rfl (by omega) (by omega)) ?_
 refine tl (qG rfl) ?_
 refine qB ?_
 refine xQ ?_
 exact fun a w ha hw => ih2.out (i + 1) (by refine ⟨by omega, fun j x h hx => ?_⟩; by_cases e : j = i; (subst e; grind); exact hi2 j x (by omega) hx) (by (try dsimp only); omega) a w (ha.sub (xL ⟨rfl, rfl, rfl, rfl, trivial⟩)) (hw)
 refine xV rfl ?_
 refine jE <| qK <| qK <| xG <| qC <| qE <| qA ?_
 refine tl (qD rfl) ?_
 refine qB <| qC <| qV ?_
 refine xB (.inl rfl) rfl rfl ?_
 have e15 : ((-1) : Int) = bZ l s := by (symm; apply qD6; intro j x hx; exact hi2 j x (by have := (List.getElem?_eq_some_iff.1 hx).1; omega) hx)
 exact fun w hw => ⟨congrArg Ending.returned (congrArg (fun x0 => Value.int .i64 x0) e15), hw⟩

def zF (n : Names) : List ByteArray := n.concepts ++ n.roles ++ n.inds
def yG (n : Names) : Bool := decide (n.concepts.length ≤ 16 ∧ n.roles.length ≤ 6 ∧ n.inds.length ≤ 10 ∧ (∀ s ∈ zF n, sD s = true) ∧ (zF n).Nodup)
theorem lL {l : List ByteArray} {x : ByteArray} (h : l.Nodup) (hx : ¬ x ∈ l) : (l ++ [x]).Nodup := by
  rw [List.nodup_append]; refine ⟨h, by simp, fun a ha b hb => ?_⟩
  simp at hb; subst hb; exact fun e => hx (e ▸ ha)

theorem flat_pos {α : Type} {L : List (List α)} {i j : Nat} {x : List α} {e : α} (hx : L[i]? = some x) (he : x[j]? = some e) : ∃ rest, L.flatten = (L.take i).flatten ++ x.take j ++ e :: rest := by
  obtain ⟨hi, rfl⟩ := List.getElem?_eq_some_iff.1 hx
  obtain ⟨hj, rfl⟩ := List.getElem?_eq_some_iff.1 he
  refine ⟨(L[i]).drop (j + 1) ++ (L.drop (i + 1)).flatten, ?_⟩
  have h1 : L.flatten = (L.take i).flatten ++ (L.drop i).flatten := by rw [← List.flatten_append, List.take_append_drop]
  rw [h1, List.drop_eq_getElem_cons hi, List.flatten_cons]
  have h2 : L[i].take j ++ L[i][j] :: L[i].drop (j + 1) = L[i] := by rw [← List.drop_eq_getElem_cons hj, List.take_append_drop]
  have h3 : L[i] ++ (L.drop (i + 1)).flatten = L[i].take j ++ (L[i][j] :: (L[i].drop (j + 1) ++ (L.drop (i + 1)).flatten)) := by
    rw [← List.cons_append, ← List.append_assoc, h2]
  rw [h3]; simp
theorem fN {α : Type} {L : List (List α)} {i : Nat} {x : List α} (hx : L[i]? = some x) : (L.take (i + 1)).flatten = (L.take i).flatten ++ x := by
  rw [List.take_add_one, hx]; simp
theorem eD {n : Names} {seen rest : List ByteArray} {e : ByteArray} (h : zF n = seen ++ e :: rest) (hc : ¬ sD e = true ∨ e ∈ seen) : yG n = false := by
  unfold yG
  rw [decide_eq_false_iff_not]
  rintro ⟨-, -, -, h1, h2⟩
  rcases hc with hc | hc
  · exact hc (h1 e (by rw [h]; simp))
  · rw [h, List.nodup_append] at h2
    exact h2.2.2 e hc e (by simp) rfl
def hR (n : Names) : List (List ByteArray) := [n.concepts, n.roles, n.inds]
theorem dK (n : Names) : (hR n).flatten = zF n := by simp [hR, zF]

theorem uY {R : RO} {G : List Res} {w : World} {c_n : List Value} (n : Names) (hr_n : kNames.rep R n c_n) (hw : Own w R (G)) :
    Calls Tryz.prog 28 [.agg c_n.toArray].toArray w (kK R G (.bool (yG n))) := by
 obtain ⟨A1, d2, A5, d6, A9, d10, rfl, hs3, hs7, hs11⟩ := id hr_n
 have z4 := hs3.size
 unfold big at z4
 have z8 := hs7.size
 unfold big at z8
 have z12 := hs11.size
 unfold big at z12
 refine xH (vs := [.agg #[.slice A1 n.concepts.length d2, .slice A5 n.roles.length d6, .slice A9 n.inds.length d10]]) Tryz.func28 rfl rfl rfl ?_ hw
 refine qE <| qA ?_
 refine qW (l := [.slice A1 n.concepts.length d2, .slice A5 n.roles.length d6, .slice A9 n.inds.length d10]) rfl rfl fun b13 => ?_
 refine tl (qD rfl) ?_
 refine qB <| qC <| qE ?_
 refine vH [(0, .agg #[.slice A1 n.concepts.length d2, .slice A5 n.roles.length d6, .slice A9 n.inds.length d10]), (1, .pointer (some ⟨b13, 0, none⟩)), (2, .bool false), (23, .bool (decide (((16 < (n.concepts.length : Int)) ∨ (6 < (n.roles.length : Int))) ∨ (10 < (n.inds.length : Int)))))] (.blk b13 [.slice A1 n.concepts.length d2, .slice A5 n.roles.length d6, .slice A9 n.inds.length d10] 24 :: G) (fun _ => True) (fun K hK14 hE15 => ?_) ?_
 refine qA ?_
 refine tl (qH 0 rfl bN rfl) ?_
 refine tl (jM 0 rfl uO rfl rfl) ?_
 refine tl (jJ rfl uK) ?_
 refine tl (jR rfl rfl rfl) ?_
 refine tl (qG rfl) ?_
 refine xX 12 rfl (fun h16 => ?_) (fun h16 => ?_)
 refine qF 12 rfl rfl rfl ?_
 refine qF 12 rfl rfl rfl ?_
 refine qF 12 rfl rfl rfl ?_
 refine qF 12 rfl rfl rfl ?_
 refine tl (qR rfl rfl) ?_
 refine tl (qG rfl) ?_
 refine qF 18 rfl rfl rfl ?_
 refine qF 18 rfl rfl rfl ?_
 refine qF 18 rfl rfl rfl ?_
 refine qF 18 rfl rfl rfl ?_
 refine tl (qR rfl rfl) ?_
 refine qB ?_
 exact xW hK14 (.refl _) (trivial) ⟨rfl, rfl, rfl, show some (Value.bool true) = some (Value.bool (decide (((16 < (n.concepts.length : Int)) ∨ (6 < (n.roles.length : Int))) ∨ (10 < (n.inds.length : Int))))) by first | (simp [h16]; done) | grind | (simp [h16] <;> omega), trivial⟩ (fun w hw => hw)
 refine qJ 12 rfl rfl ?_
 refine tl (qH 1 rfl pP rfl) ?_
 refine qJ 12 rfl rfl ?_
 refine tl (jM 0 rfl uO rfl rfl) ?_
 refine qJ 12 rfl rfl ?_
 refine tl (jJ rfl uK) ?_
 refine qJ 12 rfl rfl ?_
 refine tl (jR rfl rfl rfl) ?_
 refine tl (qO rfl rfl) ?_
 refine tl (qG rfl) ?_
 refine xX 18 rfl (fun h17 => ?_) (fun h17 => ?_)
 refine qF 18 rfl rfl rfl ?_
 refine qF 18 rfl rfl rfl ?_
 refine qF 18 rfl rfl rfl ?_
 refine qF 18 rfl rfl rfl ?_
 refine tl (qR rfl rfl) ?_
 refine qB ?_
 exact xW hK14 (.refl _) (trivial) ⟨rfl, rfl, rfl, show some (Value.bool true) = some (Value.bool (decide (((16 < (n.concepts.length : Int)) ∨ (6 < (n.roles.length : Int))) ∨ (10 < (n.inds.length : Int))))) by first | (simp [h16, h17]; done) | grind | (simp [h16, h17] <;> omega), trivial⟩ (fun w hw => hw)
 refine qJ 18 rfl rfl ?_
 refine tl (qH 2 rfl eC rfl) ?_
 refine qJ 18 rfl rfl ?_
 refine tl (jM 0 rfl uO rfl rfl) ?_
 refine qJ 18 rfl rfl ?_
 refine tl (jJ rfl uK) ?_
 refine qJ 18 rfl rfl ?_
 refine tl (jR rfl rfl rfl) ?_
 refine tl (qO rfl rfl) ?_
 refine qB ?_
 exact xW hK14 (.refl _) (trivial) ⟨rfl, rfl, rfl, show some (Value.bool (decide (10 < (n.inds.length : Int)))) = some (Value.bool (decide (((16 < (n.concepts.length : Int)) ∨ (6 < (n.roles.length : Int))) ∨ (10 < (n.inds.length : Int))))) by first | (simp [h16, h17]; done) | grind | (simp [h16, h17] <;> omega), trivial⟩ (fun w hw => hw)
 refine fun R19 hle20 hj18 => jH hle20 ?_
 refine qP 23 rfl (fun h21 => ?_) (fun h21 => ?_)
 refine xE rfl ?_
 refine qE <| qA ?_
 refine tl (qD rfl) ?_
 refine qB <| qC <| qV <| qI ?_
 refine xB (.inl rfl) rfl rfl ?_
 have e22 : (false : Bool) = yG n := by (unfold yG; rw [eq_comm, decide_eq_false_iff_not]; rintro ⟨h_, h2_, h3_, -⟩; omega)
 exact fun w hw => ⟨congrArg Ending.returned (congrArg (fun x0 => Value.bool x0) e22), hw.drop 1⟩
 refine xV rfl ?_
 refine qZ <| qC <| qE <| qA ?_
 refine cR 9 1 ?_
 have hv23 : (kStr).reps R [] [] := rfl
 refine tl (qD rfl) ?_
 refine qB <| qC <| qE <| qE <| qA ?_
 refine tl (qH 0 rfl bN rfl) ?_
 refine tl (jM 1 rfl uO rfl rfl) ?_
 refine tl (qH 1 rfl pP rfl) ?_
 refine tl (jM 1 rfl uO rfl rfl) ?_
 refine tl (qH 2 rfl eC rfl) ?_
 refine tl (jM 1 rfl uO rfl rfl) ?_
 refine jB [.slice A1 n.concepts.length d2, .slice A5 n.roles.length d6, .slice A9 n.inds.length d10] ap115 rfl rfl rfl rfl rfl rfl rfl fun b25 => ?_
 refine zI (k := kStr.sl) (l := hR n) 0 rfl (⟨_, _, rfl, ⟨_, _, rfl, hs3⟩, _, _, rfl, ⟨_, _, rfl, hs7⟩, _, _, rfl, ⟨_, _, rfl, hs11⟩, rfl⟩) (by show 3 ≤ big; unfold big; omega) fun R26 hle27 hs28 => ?_
 try replace hv23 := Kd.reps_mono hle27 hv23
 have z29 := hs28.size
 unfold big at z29
 refine tl (jJ rfl nG) ?_
 refine tl (qG rfl) ?_
 refine qB <| qC <| qX ?_
 refine jF ?_
 refine jN (fun b_ : Nat × List (ByteArray) × Option Addr × Nat × List Value => match b_ with | (i, seen, A_seen, c_seen, l_seen) => 3 - i) (fun b_ : Nat × List (ByteArray) × Option Addr × Nat × List Value => match b_ with | (i, seen, A_seen, c_seen, l_seen) => [(30, .slice (some ⟨b25, 0, none⟩) 3 3), (31, .int .i64 3), (32, .int .i64 (i : Int)), (3, .slice A_seen seen.length c_seen)]) (fun b_ : Nat × List (ByteArray) × Option Addr × Nat × List Value => match b_ with | (i, seen, A_seen, c_seen, l_seen) => (.vec (.slice A_seen seen.length c_seen) seen.length 9 1 l_seen :: .blk b13 [.slice A1 n.concepts.length d2, .slice A5 n.roles.length d6, .slice A9 n.inds.length d10] 24 :: G)) (fun (b_ : Nat × List (ByteArray) × Option Addr × Nat × List Value) => match b_ with | (i, seen, A_seen, c_seen, l_seen) => (kStr).reps R26 seen l_seen ∧ (i ≤ 3 ∧ seen = ((hR n).take i).flatten ∧ (∀ s ∈ seen, sD s = true) ∧ seen.Nodup ∧ seen.length ≤ i * 16)) (0, ([] : List (ByteArray)), none, 0, []) ⟨rfl, rfl, rfl, rfl, trivial⟩ (by refine ⟨hv23, ?_⟩; exact ⟨by omega, rfl, by simp, by simp, by simp⟩) (fun w hw => hw) ?_
 rintro ⟨i, seen, A_seen, c_seen, l_seen⟩ hI32 ih33
 show TC Tryz.prog _ _ _ [] [(30, .slice (some ⟨b25, 0, none⟩) 3 3), (31, .int .i64 3), (32, .int .i64 (i : Int)), (3, .slice A_seen seen.length c_seen)] R26 (.vec (.slice A_seen seen.length c_seen) seen.length 9 1 l_seen :: .blk b13 [.slice A1 n.concepts.length d2, .slice A5 n.roles.length d6, .slice A9 n.inds.length d10] 24 :: G)
 obtain ⟨hv31, hI36⟩ := hI32
 obtain ⟨hi1, hi2, hi3, hi4, hi5⟩ := hI36
 have hl3 : (hR n).length = 3 := rfl
 refine qE <| qA ?_
 refine tl (jR rfl rfl rfl) ?_
 refine qB <| qC <| qE ?_
 refine qP 33 rfl (fun h37 => ?_) (fun h37 => ?_)
 refine xE rfl ?_
 refine qZ <| qC <| qE <| qX <| qE <| qA ?_
 have hb43 : i < (hR n).length := by omega
 obtain ⟨x38, hx39⟩ : ∃ x, (hR n)[i]? = some x := ⟨_, List.getElem?_eq_getElem hb43⟩
 obtain ⟨c40, hr41, ha42⟩ := hs28.get _ x38 hx39
 obtain ⟨A44, d45, rfl, hs46⟩ := hr41
 have z47 := hs46.size
 unfold big at z47
 refine tl (jV (i := i) hs28 rfl rfl rfl nG hb43) ?_
 refine tl (yN 0 ha42 rfl uO rfl rfl) ?_
 refine tl (qD rfl) ?_
 refine qB <| qC <| qE <| qA ?_
 refine tl (qG rfl) ?_
 refine tl (jJ rfl uK) ?_
 refine tl (qG rfl) ?_
 refine qB <| qC <| qX ?_
 refine jF ?_
 refine jN (fun b_ : Nat × List (ByteArray) × Option Addr × Nat × List Value => match b_ with | (j, seen2, A_seen2, c_seen2, l_seen2) => x38.length - j) (fun b_ : Nat × List (ByteArray) × Option Addr × Nat × List Value => match b_ with | (j, seen2, A_seen2, c_seen2, l_seen2) => [(30, .slice (some ⟨b25, 0, none⟩) 3 3), (31, .int .i64 3), (32, .int .i64 (i : Int)), (36, .slice A44 x38.length d45), (37, .int .i64 (x38.length : Int)), (38, .int .i64 (j : Int)), (3, .slice A_seen2 seen2.length c_seen2)]) (fun b_ : Nat × List (ByteArray) × Option Addr × Nat × List Value => match b_ with | (j, seen2, A_seen2, c_seen2, l_seen2) => (.vec (.slice A_seen2 seen2.length c_seen2) seen2.length 9 1 l_seen2 :: .blk b13 [.slice A1 n.concepts.length d2, .slice A5 n.roles.length d6, .slice A9 n.inds.length d10] 24 :: G)) (fun (b_ : Nat × List (ByteArray) × Option Addr × Nat × List Value) => match b_ with | (j, seen2, A_seen2, c_seen2, l_seen2) => (kStr).reps R26 seen2 l_seen2 ∧ (j ≤ x38.length ∧ seen2 = seen ++ x38.take j ∧ (∀ s ∈ seen2, sD s = true) ∧ seen2.Nodup ∧ seen2.length ≤ i * 16 + j)) (0, seen, A_seen, c_seen, l_seen) (by repeat' constructor) (by refine ⟨hv31, ?_⟩; exact ⟨by omega, by simp, hi3, hi4, by omega⟩) (fun w hw => hw) ?_
 rintro ⟨j, seen2, A_seen2, c_seen2, l_seen2⟩ hI50 ih51
 show TC Tryz.prog _ _ _ [] [(30, .slice (some ⟨b25, 0, none⟩) 3 3), (31, .int .i64 3), (32, .int .i64 (i : Int)), (36, .slice A44 x38.length d45), (37, .int .i64 (x38.length : Int)), (38, .int .i64 (j : Int)), (3, .slice A_seen2 seen2.length c_seen2)] R26 (.vec (.slice A_seen2 seen2.length c_seen2) seen2.length 9 1 l_seen2 :: .blk b13 [.slice A1 n.concepts.length d2, .slice A5 n.roles.length d6, .slice A9 n.inds.length d10] 24 :: G)
 obtain ⟨hv49, hI54⟩ := hI50
 obtain ⟨hj1, hj2, hj3, hj4, hj5⟩ := hI54
 have hx16 : x38.length ≤ 16 := by (have hm := List.mem_of_getElem? hx39); simp only [hR, List.mem_cons, List.not_mem_nil, or_false] at hm; rcases hm with rfl | rfl | rfl <;> grind
 refine qE <| qA ?_
 refine tl (jR rfl rfl rfl) ?_
 refine qB <| qC <| qE ?_
 refine qP 39 rfl (fun h55 => ?_) (fun h55 => ?_)
 refine xE rfl ?_
 refine qZ <| qC <| qE <| qX <| qE <| qA ?_
 have hb61 : j < x38.length := by omega
 obtain ⟨x56, hx57⟩ : ∃ x, x38[j]? = some x := ⟨_, List.getElem?_eq_getElem hb61⟩
 obtain ⟨c58, hr59, ha60⟩ := hs46.get _ x56 hx57
 obtain ⟨rfl, z62⟩ := hr59
 unfold big at z62
 refine tl (jV (i := j) hs46 rfl rfl rfl uK hb61) ?_
 refine tl (yN 0 ha60 rfl ld9 rfl rfl) ?_
 refine tl (qD rfl) ?_
 refine qB <| qC <| qE ?_
 refine vH [(30, .slice (some ⟨b25, 0, none⟩) 3 3), (31, .int .i64 3), (32, .int .i64 (i : Int)), (36, .slice A44 x38.length d45), (37, .int .i64 (x38.length : Int)), (38, .int .i64 (j : Int)), (3, .slice A_seen2 seen2.length c_seen2), (39, .bool true), (7, .string x56), (50, .bool (decide (((!(sD x56)) = true) ∨ (0 ≤ (bZ seen2 x56)))))] (.vec (.slice A_seen2 seen2.length c_seen2) seen2.length 9 1 l_seen2 :: .blk b13 [.slice A1 n.concepts.length d2, .slice A5 n.roles.length d6, .slice A9 n.inds.length d10] 24 :: G) (fun _ => True) (fun K hK63 hE64 => ?_) ?_
 refine qA ?_
 refine tl (qG rfl) ?_
 refine xC ca57 rfl (fun w hw => bF x56 (by first | assumption | (unfold big; omega)) hw) rfl ?_
 refine tl (wJ rfl) ?_
 refine tl (qG rfl) ?_
 refine kQ 45 rfl (fun h65 => ?_) (fun h65 => ?_)
 refine qF 45 rfl rfl rfl ?_
 refine qF 45 rfl rfl rfl ?_
 refine qF 45 rfl rfl rfl ?_
 refine qF 45 rfl rfl rfl ?_
 refine tl (qR rfl rfl) ?_
 refine qB ?_
 exact xW hK63 (.refl _) (trivial) ⟨rfl, rfl, rfl, rfl, rfl, rfl, rfl, rfl, rfl, show some (Value.bool true) = some (Value.bool (decide (((!(sD x56)) = true) ∨ (0 ≤ (bZ seen2 x56))))) by first | (simp [h65]; done) | grind | (simp [h65] <;> omega), trivial⟩ (fun w hw => hw)
 refine qJ 45 rfl rfl ?_
 refine tl (qG rfl) ?_
 refine qJ 45 rfl rfl ?_
 refine tl (qG rfl) ?_
 refine qJ 45 rfl rfl ?_
 refine tX (k := kStr) (l := seen2) 0 rfl hv49 rfl (by omega) ca58 rfl (fun R_ w hle_ hlent hw => by exact bG seen2 x56 hlent (by first | assumption | (unfold big; omega)) hw) rfl ?_
 have hf66 := fM seen2 x56
 refine qJ 45 rfl rfl ?_
 refine tl (jR rfl rfl rfl) ?_
 refine tl (qO rfl rfl) ?_
 refine qB ?_
 exact xW hK63 (.refl _) (trivial) ⟨rfl, rfl, rfl, rfl, rfl, rfl, rfl, rfl, rfl, show some (Value.bool (decide (0 ≤ (bZ seen2 x56)))) = some (Value.bool (decide (((!(sD x56)) = true) ∨ (0 ≤ (bZ seen2 x56))))) by first | (simp [h65]; done) | grind | (simp [h65] <;> omega), trivial⟩ (fun w hw => hw)
 refine fun R68 hle69 hj67 => jH hle69 ?_
 refine qP 50 rfl (fun h70 => ?_) (fun h70 => ?_)
 refine xE rfl ?_
 refine qE <| qA ?_
 refine tl (qD rfl) ?_
 refine qB <| qC <| qV <| qI <| qN <| qI <| qI <| qN <| qN <| qI <| qI <| qN <| qI ?_
 refine xB (.inl rfl) rfl rfl ?_
 have e71 : (false : Bool) = yG n := by (obtain ⟨rest_, hr_⟩ := flat_pos hx39 hx57; rw [dK, ← hi2, ← hj2] at hr_; symm; refine eD hr_ ?_; have := fM seen2 x56; grind)
 exact fun w hw => ⟨congrArg Ending.returned (congrArg (fun x0 => Value.bool x0) e71), (hw.drop 2).weaken hle27⟩
 refine xV rfl ?_
 refine qZ <| qC <| qA ?_
 refine tl (qG rfl) ?_
 refine tl (qG rfl) ?_
 refine jB [.string x56] ap22 rfl rfl rfl rfl rfl rfl rfl fun b72 => ?_
 refine yJ (k := kStr) (e := x56) 1 0 hv49 (⟨rfl, by unfold big; omega⟩) ap22 rfl rfl rfl rfl rfl (by omega) rfl rfl fun A73 c74 l75 hv76 => ?_
 refine tl (qD rfl) ?_
 refine qB <| jC <| qC <| qA ?_
 refine tl (jT rfl rfl (by omega) (by omega)) ?_
 refine tl (qG rfl) ?_
 refine qB ?_
 refine xQ ?_
 exact fun a w ha hw => ih51.out (j + 1, (seen2 ++ [x56]), A73, c74, l75) (by refine ⟨hv76, ?_⟩; refine ⟨by omega, by rw [hj2, List.take_add_one, hx57]; simp, fun s_ hs_ => ?_, lL hj4 ?_, by simp; omega⟩; (rw [List.mem_append] at hs_; rcases hs_ with hs_ | hs_; exact hj3 s_ hs_; simp at hs_; subst hs_; grind); (have := fM seen2 x56; grind)) (by (try dsimp only); omega) a w (ha.sub (xL ⟨rfl, rfl, rfl, rfl, rfl, congrArg (fun z => some (Value.int .i64 z)) (show ((j : Int) + 1 : Int) = ((j + 1) : Int) by first | rfl | omega), rfl, trivial⟩)) (hw.drop 1)
 refine xV rfl ?_
 refine jE <| qK <| qK <| xG <| jC <| qC <| qA ?_
 refine tl (jT rfl rfl (by omega) (by omega)) ?_
 refine tl (qG rfl) ?_
 refine qB ?_
 refine xQ ?_
 exact fun a w ha hw => ih33.out (i + 1, seen2, A_seen2, c_seen2, l_seen2) (by refine ⟨hv49, ?_⟩; (have e_ : j = x38.length := by omega); subst e_; rw [List.take_length] at hj2; exact ⟨by omega, by rw [hj2, hi2, fN hx39], hj3, hj4, by omega⟩) (by (try dsimp only); omega) a w (ha.sub (xL ⟨rfl, rfl, rfl, rfl, trivial⟩)) (hw)
 refine xV rfl ?_
 refine jE <| qK <| qK <| xG <| qC <| qE <| qA ?_
 refine tl (qD rfl) ?_
 refine qB <| qC <| qV ?_
 refine xB (.inl rfl) rfl rfl ?_
 have e78 : (true : Bool) = yG n := by (have e_ : i = 3 := by omega); subst e_; (have e2_ : seen = zF n := by rw [hi2, ← dK]; rfl); subst e2_; symm; unfold yG; rw [decide_eq_true_eq]; exact ⟨by omega, by omega, by omega, hi3, hi4⟩
 exact fun w hw => ⟨congrArg Ending.returned (congrArg (fun x0 => Value.bool x0) e78), (hw.drop 2).weaken hle27⟩

end Go.Proofs.YtcbcdlajnmkioaaGreatDoor
