/- A part of the proof of the statement ModuleModules of isagogelaw19: functions walked, and plain laws on what they answer. -/
import Derived.Test.YtcbcdlajnmkioaaGreatDoorJ
namespace Go.Proofs.YtcbcdlajnmkioaaGreatDoor
open Go Go.Proofs
set_option linter.unusedSimpArgs false
set_option linter.unusedVariables false
set_option maxRecDepth 20000
set_option maxHeartbeats 8000000
theorem ap106 : yO Tryz.prog 106 = some (4, 1, 1, [.bool false]) := by kernel_rfl
theorem ca30 : Callable Tryz.prog 30 := ⟨by kernel_rfl⟩
theorem ld4 : kR Tryz.prog 4 = some (false, 1) := by kernel_rfl
theorem sL : wE Tryz.prog 106 = some (4, 1) := by kernel_rfl

mutual
def wfC : Concept → Bool
  | .mk op n args => decide (kI op = args.length ∧ 0 ≤ n) && wfCs args
def wfCs : List Concept → Bool
  | [] => true
  | x :: xs => wfC x && wfCs xs
end
theorem qB1 : ∀ l : List Concept, wfCs l = true ↔ ∀ x ∈ l, wfC x = true
  | [] => by simp [wfCs]
  | x :: xs => by simp [wfCs, qB1 xs]
theorem gA (c : Concept) : wfC c = true ↔ (kI c.op = c.args.length ∧ 0 ≤ c.n) ∧ ∀ x ∈ c.args, wfC x = true := by
  cases c with
  | mk op a args =>
    show wfC (.mk op a args) = true ↔ (kI op = args.length ∧ 0 ≤ a) ∧ ∀ x ∈ args, wfC x = true
    rw [wfC, Bool.and_eq_true, decide_eq_true_eq, qB1]
theorem iC (n : Names) (m : Nat) : ∀ c : Concept, SizeOf.sizeOf c = m → jZ n c = true → wfC c = true := by
  induction m using Nat.strongRecOn with
  | _ m ih =>
    intro c hm h
    rw [gA]
    rw [vK] at h
    refine ⟨⟨h.1.1, h.1.2.1⟩, fun x hx => ?_⟩
    obtain ⟨i, hi⟩ := List.mem_iff_getElem?.1 hx
    exact ih _ (hm ▸ Concept.sizeOf_arg hi) x rfl (h.2 x hx)
def shE (l : List (Bool × Bool)) (i : Nat) : Bool := (l[i]?.getD (false, false)).1
def shF (l : List (Bool × Bool)) (i : Nat) : Bool := (l[i]?.getD (false, false)).2
def yE (s : Sig) (op n : Int) : Bool := decide ((op = 6 ∨ op = 7) ∧ ¬ n / 2 ∈ s.roles)
def jK (s : Sig) (top : Bool) (op n : Int) (l : List (Bool × Bool)) : Bool × Bool :=
  if op = 0 then (!decide (n ∈ s.concepts) && !top, !decide (n ∈ s.concepts) && top) else if op = 1 then (false, true) else if op = 2 then (true, false)
  else if op = 3 then (shF l 0, shE l 0) else if op = 4 then (shE l 0 || shE l 1, shF l 0 && shF l 1) else if op = 5 then (shE l 0 && shE l 1, shF l 0 || shF l 1)
  else if op = 6 then (shE l 0 || (yE s op n && !top), yE s op n && top && shF l 0) else (yE s op n && top && shE l 0, shF l 0 || (yE s op n && !top))
mutual
def qL (s : Sig) (top : Bool) : Concept → Bool × Bool
  | .mk op n args => jK s top op n (jL s top args)
def jL (s : Sig) (top : Bool) : List Concept → List (Bool × Bool)
  | [] => []
  | x :: xs => qL s top x :: jL s top xs
end
theorem xO (s : Sig) (top : Bool) (c : Concept) : qL s top c = jK s top c.op c.n (jL s top c.args) := by cases c; rw [qL]; rfl
theorem bP (s : Sig) (top : Bool) : ∀ (l m : List Concept), jL s top (l ++ m) = jL s top l ++ jL s top m
  | [], m => by simp [jL]
  | x :: xs, m => by simp [jL, bP s top xs m]
theorem xS (s : Sig) (top : Bool) : ∀ (l : List Concept), (jL s top l).length = l.length
  | [] => rfl
  | x :: xs => by simp [jL, xS s top xs]
theorem aN {s : Sig} {top : Bool} {l : List Concept} {i : Nat} {x : Concept} (h : l[i]? = some x) : jL s top (l.take (i + 1)) = jL s top (l.take i) ++ [qL s top x] := by rw [jQ h, bP]; rfl
theorem kU {l : List (Bool × Bool)} {e : List Bool} {i : Nat} {x : Bool} (h : e = l.map Prod.fst) (hx : e[i]? = some x) : shE l i = x := by
  subst h; rw [List.getElem?_map] at hx; unfold shE
  cases hl : l[i]? with
  | none => rw [hl] at hx; cases hx
  | some p => rw [hl] at hx; simpa using hx
theorem kV {l : List (Bool × Bool)} {e : List Bool} {i : Nat} {x : Bool} (h : e = l.map Prod.snd) (hx : e[i]? = some x) : shF l i = x := by
  subst h; rw [List.getElem?_map] at hx; unfold shF
  cases hl : l[i]? with
  | none => rw [hl] at hx; cases hx
  | some p => rw [hl] at hx; simpa using hx

theorem uR (m : Nat) : ∀ {R : RO} {G : List Res} {w : World} {c_c : List Value} (c : Concept) {c_s : List Value} (s : Sig) (top : Bool) (hr_c : kConcept.rep R c c_c) (hr_s : kSig.rep R s c_s) (hwc : wfC c = true), SizeOf.sizeOf c = m → Own w R (G) →
    Calls Tryz.prog 30 [.agg c_c.toArray, .agg c_s.toArray, .bool top].toArray w (kK R G (.tuple #[.bool ((qL s top c).1), .bool ((qL s top c).2)])) := by
 induction m using Nat.strongRecOn with
 | _ m ih =>
  intro R G w c_c c c_s s top hr_c hr_s hwc hm hw
  subst hm
  replace ih := Aside.mk ih
  obtain ⟨A1, d2, rfl, i3, i4, hs5⟩ := qM hr_c
  unfold i64 at i3 i4
  have z6 := hs5.size
  unfold big at z6
  obtain ⟨A7, d8, A11, d12, rfl, hs9, hs13⟩ := id hr_s
  have z10 := hs9.size
  unfold big at z10
  have z14 := hs13.size
  unfold big at z14
  have hwf := (gA c).1 hwc
  have har := hwf.1.1
  unfold kI at har
  refine xH (vs := [.agg #[.int .i64 c.op, .int .i64 c.n, .slice A1 c.args.length d2], .agg #[.slice A7 s.concepts.length d8, .slice A11 s.roles.length d12], .bool top]) Tryz.func30 rfl rfl rfl ?_ hw
  refine qE <| qA ?_
  refine qW (l := [.int .i64 c.op, .int .i64 c.n, .slice A1 c.args.length d2]) rfl rfl fun b15 => ?_
  refine qW (l := [.slice A7 s.concepts.length d8, .slice A11 s.roles.length d12]) rfl rfl fun b16 => ?_
  refine tl (qD rfl) ?_
  refine tl (qD rfl) ?_
  refine qB <| qC <| qE <| qA ?_
  refine tl (qD rfl) ?_
  refine tl (qD rfl) ?_
  refine qB <| qC <| qE <| qE <| qA ?_
  refine tl (qH 2 rfl wR rfl) ?_
  refine tl (jM 1 rfl dH rfl rfl) ?_
  refine tl (jJ rfl sK) ?_
  refine tl (qG rfl) ?_
  refine qB <| qC <| qX ?_
  refine rH _ (fun w hw => hw.vecnil 4 1) ?_
  have hv17 : (kBool).reps R [] [] := rfl
  refine rH _ (fun w hw => hw.vecnil 4 1) ?_
  have hv21 : (kBool).reps R [] [] := rfl
  refine jF ?_
  refine jN (fun b_ : Nat × List (Bool) × Option Addr × Nat × List Value × List (Bool) × Option Addr × Nat × List Value => match b_ with | (i, e, A_e, c_e, l_e, f, A_f, c_f, l_f) => c.args.length - i) (fun b_ : Nat × List (Bool) × Option Addr × Nat × List Value × List (Bool) × Option Addr × Nat × List Value => match b_ with | (i, e, A_e, c_e, l_e, f, A_f, c_f, l_f) => [(2, .bool top), (3, .pointer (some ⟨b15, 0, none⟩)), (4, .pointer (some ⟨b16, 0, none⟩)), (6, .bool false), (7, .bool false), (17, .slice A1 c.args.length d2), (18, .int .i64 (c.args.length : Int)), (19, .int .i64 (i : Int)), (8, .slice A_e e.length c_e), (9, .slice A_f f.length c_f)]) (fun b_ : Nat × List (Bool) × Option Addr × Nat × List Value × List (Bool) × Option Addr × Nat × List Value => match b_ with | (i, e, A_e, c_e, l_e, f, A_f, c_f, l_f) => (.vec (.slice A_f f.length c_f) f.length 4 1 l_f :: .vec (.slice A_e e.length c_e) e.length 4 1 l_e :: .blk b16 [.slice A7 s.concepts.length d8, .slice A11 s.roles.length d12] 33 :: .blk b15 [.int .i64 c.op, .int .i64 c.n, .slice A1 c.args.length d2] 37 :: G)) (fun (b_ : Nat × List (Bool) × Option Addr × Nat × List Value × List (Bool) × Option Addr × Nat × List Value) => match b_ with | (i, e, A_e, c_e, l_e, f, A_f, c_f, l_f) => (kBool).reps R e l_e ∧ (kBool).reps R f l_f ∧ (i ≤ c.args.length ∧ e = (jL s top (c.args.take i)).map Prod.fst ∧ f = (jL s top (c.args.take i)).map Prod.snd)) (0, ([] : List (Bool)), none, 0, [], ([] : List (Bool)), none, 0, []) (by repeat' constructor) (by refine ⟨hv17, hv21, ?_⟩; exact ⟨by omega, rfl, rfl⟩) (fun w hw => hw) ?_
  rintro ⟨i, e, A_e, c_e, l_e, f, A_f, c_f, l_f⟩ hI25 ih26
  show TC Tryz.prog _ _ _ [] [(2, .bool top), (3, .pointer (some ⟨b15, 0, none⟩)), (4, .pointer (some ⟨b16, 0, none⟩)), (6, .bool false), (7, .bool false), (17, .slice A1 c.args.length d2), (18, .int .i64 (c.args.length : Int)), (19, .int .i64 (i : Int)), (8, .slice A_e e.length c_e), (9, .slice A_f f.length c_f)] R (.vec (.slice A_f f.length c_f) f.length 4 1 l_f :: .vec (.slice A_e e.length c_e) e.length 4 1 l_e :: .blk b16 [.slice A7 s.concepts.length d8, .slice A11 s.roles.length d12] 33 :: .blk b15 [.int .i64 c.op, .int .i64 c.n, .slice A1 c.args.length d2] 37 :: G)
  obtain ⟨hv20, hv24, hI29⟩ := hI25
  obtain ⟨hi1, hi2, hi3⟩ := hI29
  refine qE <| qA ?_
  refine tl (jR rfl rfl rfl) ?_
  refine qB <| qC <| qE ?_
  refine qP 20 rfl (fun h30 => ?_) (fun h30 => ?_)
  refine xE rfl ?_
  refine qZ <| qC <| qE <| qX <| qE <| qA ?_
  have hb36 : i < c.args.length := by first | omega | (rw [hi2, List.length_map, xS, List.length_take]; grind) | (rw [hi3, List.length_map, xS, List.length_take]; grind)
  obtain ⟨x31, hx32⟩ : ∃ x, c.args[i]? = some x := ⟨_, List.getElem?_eq_getElem hb36⟩
  obtain ⟨c33, hr34, ha35⟩ := hs5.get _ x31 hx32
  obtain ⟨A37, d38, rfl, i39, i40, hs41⟩ := qM hr34
  unfold i64 at i39 i40
  have z42 := hs41.size
  unfold big at z42
  have hf43 := hwf.2 _ (List.mem_of_getElem? hx32)
  have hf44 := aN (s := s) (top := top) hx32
  refine tl (jV (i := i) hs5 rfl rfl rfl sK hb36) ?_
  refine tl (jA 0 [.int .i64 x31.op, .int .i64 x31.n, .slice A37 x31.args.length d38] ha35 rfl vU rfl rfl) ?_
  refine qS eZ rfl fun b45 => ?_
  refine xN 0 [.int .i64 x31.op, .int .i64 x31.n, .slice A37 x31.args.length d38] rfl rfl vU rfl rfl rfl rfl rfl rfl ?_
  refine qB <| qC <| qE <| qA ?_
  refine tl (qQ 0 [.int .i64 x31.op, .int .i64 x31.n, .slice A37 x31.args.length d38] rfl vU rfl rfl) ?_
  refine tl (qQ 3 [.slice A7 s.concepts.length d8, .slice A11 s.roles.length d12] rfl yM rfl rfl) ?_
  refine tl (qG rfl) ?_
  refine xC ca30 rfl (fun w hw => ih.out (SizeOf.sizeOf x31) (by exact Concept.sizeOf_arg hx32) x31 s top hr34 hr_s (by first | assumption | omega) rfl hw) rfl ?_
  refine tl (qG rfl) ?_
  refine tl (jG rfl rfl) ?_
  refine tl (jG rfl rfl) ?_
  refine tl (qD rfl) ?_
  refine tl (qD rfl) ?_
  refine qB <| qC <| qA ?_
  refine tl (qG rfl) ?_
  refine tl (qG rfl) ?_
  refine jB [.bool ((qL s top x31).1)] ap106 rfl rfl rfl rfl rfl rfl rfl fun b46 => ?_
  refine yJ (k := kBool) (e := (qL s top x31).1) 3 0 hv20 (rfl) ap106 rfl rfl rfl rfl rfl (by first | omega | (rw [hi2, List.length_map, xS, List.length_take]; grind) | (rw [hi3, List.length_map, xS, List.length_take]; grind)) rfl rfl fun A47 c48 l49 hv50 => ?_
  refine tl (qG rfl) ?_
  refine tl (qG rfl) ?_
  refine jB [.bool ((qL s top x31).2)] ap106 rfl rfl rfl rfl rfl rfl rfl fun b52 => ?_
  refine yJ (k := kBool) (e := (qL s top x31).2) 3 0 hv24 (rfl) ap106 rfl rfl rfl rfl rfl (by first | omega | (rw [hi2, List.length_map, xS, List.length_take]; grind) | (rw [hi3, List.length_map, xS, List.length_take]; grind)) rfl rfl fun A53 c54 l55 hv56 => ?_
  refine tl (qD rfl) ?_
  refine tl (qD rfl) ?_
  refine qB <| jC <| qC <| qA ?_
  refine tl (jT rfl rfl (by omega) (by omega)) ?_
  refine tl (qG rfl) ?_
  refine qB ?_
  refine xQ ?_
  exact fun a w ha hw => ih26.out (i + 1, (e ++ [(qL s top x31).1]), A47, c48, l49, (f ++ [(qL s top x31).2]), A53, c54, l55) (by refine ⟨hv50, hv56, ?_⟩; exact ⟨by omega, by rw [aN hx32, hi2]; simp, by rw [aN hx32, hi3]; simp⟩) (by (try dsimp only); omega) a w (ha.sub (xL (by repeat' constructor))) (hw.drop 3)
  refine xV rfl ?_
  refine jE <| qK <| qK <| xG <| qC ?_
  refine vH [(2, .bool top), (3, .pointer (some ⟨b15, 0, none⟩)), (4, .pointer (some ⟨b16, 0, none⟩)), (6, .bool false), (7, .bool false), (17, .slice A1 c.args.length d2), (18, .int .i64 (c.args.length : Int)), (19, .int .i64 (i : Int)), (8, .slice A_e e.length c_e), (9, .slice A_f f.length c_f), (20, .bool false), (14, .bool (decide ((c.op = 6 ∨ c.op = 7) ∧ (¬ ((c.n / 2) ∈ s.roles)))))] (.vec (.slice A_f f.length c_f) f.length 4 1 l_f :: .vec (.slice A_e e.length c_e) e.length 4 1 l_e :: .blk b16 [.slice A7 s.concepts.length d8, .slice A11 s.roles.length d12] 33 :: .blk b15 [.int .i64 c.op, .int .i64 c.n, .slice A1 c.args.length d2] 37 :: G) (fun _ => True) (fun K hK58 hE59 => ?_) ?_
  refine qA ?_
  refine tl (qH 0 rfl sP rfl) ?_
  refine tl (jM 3 rfl ld3 rfl rfl) ?_
  refine xC ca61 rfl (fun w hw => vP c.op (by unfold i64; omega) hw) rfl ?_
  refine tl (qG rfl) ?_
  refine xX 42 rfl (fun h60 => ?_) (fun h60 => ?_)
  refine qJ 42 rfl rfl ?_
  refine tl (qH 1 rfl pW rfl) ?_
  refine qJ 42 rfl rfl ?_
  refine tl (jM 2 rfl iA rfl rfl) ?_
  refine qJ 42 rfl rfl ?_
  refine tl (qH 1 rfl zA rfl) ?_
  refine qJ 42 rfl rfl ?_
  refine tl (jM 3 rfl ld3 rfl rfl) ?_
  refine qJ 42 rfl rfl ?_
  refine tl (dR rfl rfl (by omega) (by omega)) ?_
  refine qJ 42 rfl rfl ?_
  refine xC qJ4 rfl (fun w hw => kB s.roles (c.n / 2) hs13 (by unfold i64; omega) hw) rfl ?_
  refine qJ 42 rfl rfl ?_
  refine tl (wZ rfl) ?_
  refine tl (qR rfl rfl) ?_
  refine tl (qD rfl) ?_
  refine qB ?_
  exact xW hK58 (.refl _) (trivial) ⟨rfl, rfl, rfl, rfl, rfl, rfl, rfl, rfl, rfl, rfl, rfl, show some (Value.bool (decide (¬ ((c.n / 2) ∈ s.roles)))) = some (Value.bool (decide ((c.op = 6 ∨ c.op = 7) ∧ (¬ ((c.n / 2) ∈ s.roles))))) by first | (simp [h60]; done) | grind | (simp [h60] <;> omega), trivial⟩ (fun w hw => hw)
  refine qF 42 rfl rfl rfl ?_
  refine qF 42 rfl rfl rfl ?_
  refine qF 42 rfl rfl rfl ?_
  refine qF 42 rfl rfl rfl ?_
  refine qF 42 rfl rfl rfl ?_
  refine qF 42 rfl rfl rfl ?_
  refine qF 42 rfl rfl rfl ?_
  refine tl (qO rfl rfl) ?_
  refine tl (qD rfl) ?_
  refine qB ?_
  exact xW hK58 (.refl _) (trivial) ⟨rfl, rfl, rfl, rfl, rfl, rfl, rfl, rfl, rfl, rfl, rfl, show some (Value.bool false) = some (Value.bool (decide ((c.op = 6 ∨ c.op = 7) ∧ (¬ ((c.n / 2) ∈ s.roles))))) by first | (simp [h60]; done) | grind | (simp [h60] <;> omega), trivial⟩ (fun w hw => hw)
  refine fun R62 hle63 hj61 => jH hle63 ?_
  refine qE <| qE <| qA ?_
  refine tl (qH 0 rfl sP rfl) ?_
  refine tl (jM 3 rfl ld3 rfl rfl) ?_
  refine qB <| qC <| qX <| qE <| qA ?_
  refine tl (jR rfl rfl rfl) ?_
  refine tl (qD rfl) ?_
  refine qB <| qC ?_
  refine qP 53 rfl (fun h64 => ?_) (fun h64 => ?_)
  refine xE rfl ?_
  refine qE <| qA ?_
  refine tl (qH 0 rfl eK rfl) ?_
  refine tl (jM 2 rfl iA rfl rfl) ?_
  refine tl (qH 1 rfl zA rfl) ?_
  refine tl (jM 3 rfl ld3 rfl rfl) ?_
  refine xC qJ4 rfl (fun w hw => kB s.concepts c.n hs9 (by unfold i64; omega) hw) rfl ?_
  refine tl (wZ rfl) ?_
  refine tl (qD rfl) ?_
  refine qB <| qC ?_
  refine vH [(2, .bool top), (3, .pointer (some ⟨b15, 0, none⟩)), (4, .pointer (some ⟨b16, 0, none⟩)), (17, .slice A1 c.args.length d2), (18, .int .i64 (c.args.length : Int)), (19, .int .i64 (i : Int)), (8, .slice A_e e.length c_e), (9, .slice A_f f.length c_f), (20, .bool false), (14, .bool (decide ((c.op = 6 ∨ c.op = 7) ∧ (¬ ((c.n / 2) ∈ s.roles))))), (52, .int .i64 c.op), (53, .bool true), (6, .bool (decide ((¬ (c.n ∈ s.concepts)) ∧ ((!top) = true)))), (7, .bool (decide ((¬ (c.n ∈ s.concepts)) ∧ (top = true))))] (.vec (.slice A_f f.length c_f) f.length 4 1 l_f :: .vec (.slice A_e e.length c_e) e.length 4 1 l_e :: .blk b16 [.slice A7 s.concepts.length d8, .slice A11 s.roles.length d12] 33 :: .blk b15 [.int .i64 c.op, .int .i64 c.n, .slice A1 c.args.length d2] 37 :: G) (fun _ => True) (fun K hK65 hE66 => ?_) ?_
  refine qA ?_
  refine tl (qG rfl) ?_
  refine tl (qG rfl) ?_
  refine xX 62 rfl (fun h67 => ?_) (fun h67 => ?_)
  refine qJ 62 rfl rfl ?_
  refine tl (qG rfl) ?_
  refine qJ 62 rfl rfl ?_
  refine tl (wJ rfl) ?_
  refine tl (qR rfl rfl) ?_
  refine tl (qG rfl) ?_
  refine tl (qG rfl) ?_
  refine xX 67 rfl (fun h68 => ?_) (fun h68 => ?_)
  refine qJ 67 rfl rfl ?_
  refine tl (qG rfl) ?_
  refine tl (qR rfl rfl) ?_
  refine tl (qD rfl) ?_
  refine tl (qD rfl) ?_
  refine qB ?_
  exact xW hK65 (.refl _) (trivial) ⟨rfl, rfl, rfl, rfl, rfl, rfl, rfl, rfl, rfl, rfl, rfl, rfl, show some (Value.bool (!top)) = some (Value.bool (decide ((¬ (c.n ∈ s.concepts)) ∧ ((!top) = true)))) by first | (simp [h67, h68]; done) | grind | (simp [h67, h68] <;> omega), show some (Value.bool top) = some (Value.bool (decide ((¬ (c.n ∈ s.concepts)) ∧ (top = true)))) by first | (simp [h67, h68]; done) | grind | (simp [h67, h68] <;> omega), trivial⟩ (fun w hw => hw)
  refine qF 67 rfl rfl rfl ?_
  refine tl (qO rfl rfl) ?_
  refine tl (qD rfl) ?_
  refine tl (qD rfl) ?_
  refine qB ?_
  exact xW hK65 (.refl _) (trivial) ⟨rfl, rfl, rfl, rfl, rfl, rfl, rfl, rfl, rfl, rfl, rfl, rfl, show some (Value.bool (!top)) = some (Value.bool (decide ((¬ (c.n ∈ s.concepts)) ∧ ((!top) = true)))) by first | (simp [h67, h68]; done) | grind | (simp [h67, h68] <;> omega), show some (Value.bool false) = some (Value.bool (decide ((¬ (c.n ∈ s.concepts)) ∧ (top = true)))) by first | (simp [h67, h68]; done) | grind | (simp [h67, h68] <;> omega), trivial⟩ (fun w hw => hw)
  refine qF 62 rfl rfl rfl ?_
  refine qF 62 rfl rfl rfl ?_
  refine tl (qO rfl rfl) ?_
  refine tl (qG rfl) ?_
  refine tl (qG rfl) ?_
  refine xX 67 rfl (fun h69 => ?_) (fun h69 => ?_)
  refine qJ 67 rfl rfl ?_
  refine tl (qG rfl) ?_
  refine tl (qR rfl rfl) ?_
  refine tl (qD rfl) ?_
  refine tl (qD rfl) ?_
  refine qB ?_
  exact xW hK65 (.refl _) (trivial) ⟨rfl, rfl, rfl, rfl, rfl, rfl, rfl, rfl, rfl, rfl, rfl, rfl, show some (Value.bool false) = some (Value.bool (decide ((¬ (c.n ∈ s.concepts)) ∧ ((!top) = true)))) by first | (simp [h67, h69]; done) | grind | (simp [h67, h69] <;> omega), show some (Value.bool top) = some (Value.bool (decide ((¬ (c.n ∈ s.concepts)) ∧ (top = true)))) by first | (simp [h67, h69]; done) | grind | (simp [h67, h69] <;> omega), trivial⟩ (fun w hw => hw)
  refine qF 67 rfl rfl rfl ?_
  refine tl (qO rfl rfl) ?_
  refine tl (qD rfl) ?_
  refine tl (qD rfl) ?_
  refine qB ?_
  exact xW hK65 (.refl _) (trivial) ⟨rfl, rfl, rfl, rfl, rfl, rfl, rfl, rfl, rfl, rfl, rfl, rfl, show some (Value.bool false) = some (Value.bool (decide ((¬ (c.n ∈ s.concepts)) ∧ ((!top) = true)))) by first | (simp [h67, h69]; done) | grind | (simp [h67, h69] <;> omega), show some (Value.bool false) = some (Value.bool (decide ((¬ (c.n ∈ s.concepts)) ∧ (top = true)))) by first | (simp [h67, h69]; done) | grind | (simp [h67, h69] <;> omega), trivial⟩ (fun w hw => hw)
  refine fun R71 hle72 hj70 => jH hle72 ?_
  refine qV <| qN <| qI ?_
  refine kL (.inl rfl) rfl rfl rfl ?_
  have e73 : (decide ((¬ (c.n ∈ s.concepts)) ∧ ((!top) = true)) : Bool) = (qL s top c).1 := by (have t_ := xF (l := c.args) (by assumption) (by assumption); rw [t_] at hi2 hi3; rw [xO]; unfold jK; grind [yE])
  have e74 : (decide ((¬ (c.n ∈ s.concepts)) ∧ (top = true)) : Bool) = (qL s top c).2 := by (have t_ := xF (l := c.args) (by assumption) (by assumption); rw [t_] at hi2 hi3; rw [xO]; unfold jK; grind [yE])
  exact fun w hw => ⟨congrArg Ending.returned (yW (fun x0 x1 => Value.tuple #[.bool x0, .bool x1]) e73 e74), hw.drop 4⟩
  refine xV rfl ?_
  refine qE <| qA ?_
  refine tl (jR rfl rfl rfl) ?_
  refine tl (qD rfl) ?_
  refine qB <| qC ?_
  refine qP 70 rfl (fun h75 => ?_) (fun h75 => ?_)
  refine xE rfl ?_
  refine qE <| qA ?_
  refine tl (qD rfl) ?_
  refine tl (qD rfl) ?_
  refine qB <| qC <| qV <| qN <| qI ?_
  refine kL (.inl rfl) rfl rfl rfl ?_
  have e76 : (false : Bool) = (qL s top c).1 := by (have t_ := xF (l := c.args) (by assumption) (by assumption); rw [t_] at hi2 hi3; rw [xO]; unfold jK; grind [yE])
  have e77 : (true : Bool) = (qL s top c).2 := by (have t_ := xF (l := c.args) (by assumption) (by assumption); rw [t_] at hi2 hi3; rw [xO]; unfold jK; grind [yE])
  exact fun w hw => ⟨congrArg Ending.returned (yW (fun x0 x1 => Value.tuple #[.bool x0, .bool x1]) e76 e77), hw.drop 4⟩
  refine xV rfl ?_
  refine qE <| qA ?_
  refine tl (jR rfl rfl rfl) ?_
  refine tl (qD rfl) ?_
  refine qB <| qC ?_
  refine qP 72 rfl (fun h78 => ?_) (fun h78 => ?_)
  refine xE rfl ?_
  refine qE <| qA ?_
  refine tl (qD rfl) ?_
  refine tl (qD rfl) ?_
  refine qB <| qC <| qV <| qN <| qI ?_
  refine kL (.inl rfl) rfl rfl rfl ?_
  have e79 : (true : Bool) = (qL s top c).1 := by (have t_ := xF (l := c.args) (by assumption) (by assumption); rw [t_] at hi2 hi3; rw [xO]; unfold jK; grind [yE])
  have e80 : (false : Bool) = (qL s top c).2 := by (have t_ := xF (l := c.args) (by assumption) (by assumption); rw [t_] at hi2 hi3; rw [xO]; unfold jK; grind [yE])
  exact fun w hw => ⟨congrArg Ending.returned (yW (fun x0 x1 => Value.tuple #[.bool x0, .bool x1]) e79 e80), hw.drop 4⟩
  refine xV rfl ?_
  refine qE <| qA ?_
  refine tl (jR rfl rfl rfl) ?_
  refine tl (qD rfl) ?_
  refine qB <| qC ?_
  refine qP 74 rfl (fun h81 => ?_) (fun h81 => ?_)
  refine xE rfl ?_
  refine qE ?_
  refine wG mixed (by kernel_rfl) ?_
  refine tq (qG rfl) ?_
  have hb84 : 0 < f.length := by first | omega | (rw [hi2, List.length_map, xS, List.length_take]; grind) | (rw [hi3, List.length_map, xS, List.length_take]; grind)
  obtain ⟨x82, hx83⟩ : ∃ x, f[0]? = some x := ⟨_, List.getElem?_eq_getElem hb84⟩
  obtain ⟨c85, hr86, hc87⟩ := Kd.reps_get1 rfl hv24 hx83
  cases (show _ = _ from id hr86)
  refine tq (vR (i := 0) 0 rfl rfl rfl sL hb84) ?_
  refine tq (hC 0 rfl rfl ld4 hc87) ?_
  refine tq (qG rfl) ?_
  have hb91 : 0 < e.length := by first | omega | (rw [hi2, List.length_map, xS, List.length_take]; grind) | (rw [hi3, List.length_map, xS, List.length_take]; grind)
  obtain ⟨x89, hx90⟩ : ∃ x, e[0]? = some x := ⟨_, List.getElem?_eq_getElem hb91⟩
  obtain ⟨c92, hr93, hc94⟩ := Kd.reps_get1 rfl hv20 hx90
  cases (show _ = _ from id hr93)
  refine tq (vR (i := 0) 1 rfl rfl rfl sL hb91) ?_
  refine tq (hC 1 rfl rfl ld4 hc94) ?_
  refine tq (qD rfl) ?_
  refine tq (qD rfl) ?_
  refine vD <| qC <| qV <| qN <| qI ?_
  refine kL (.inl rfl) rfl rfl rfl ?_
  have e96 : (x82 : Bool) = (qL s top c).1 := by (have t_ := xF (l := c.args) (by assumption) (by assumption); rw [t_] at hi2 hi3; have p0_ := kV hi3 hx83; have p1_ := kU hi2 hx90; rw [xO]; unfold jK; grind [yE])
  have e97 : (x89 : Bool) = (qL s top c).2 := by (have t_ := xF (l := c.args) (by assumption) (by assumption); rw [t_] at hi2 hi3; have p0_ := kV hi3 hx83; have p1_ := kU hi2 hx90; rw [xO]; unfold jK; grind [yE])
  exact fun w hw => ⟨congrArg Ending.returned (yW (fun x0 x1 => Value.tuple #[.bool x0, .bool x1]) e96 e97), hw.drop 4⟩
  refine xV rfl ?_
  refine qE <| qA ?_
  refine tl (jR rfl rfl rfl) ?_
  refine tl (qD rfl) ?_
  refine qB <| qC ?_
  refine qP 82 rfl (fun h98 => ?_) (fun h98 => ?_)
  refine xE rfl ?_
  refine qE ?_
  refine wG mixed (by kernel_rfl) ?_
  refine tq (qG rfl) ?_
  have hb101 : 0 < e.length := by first | omega | (rw [hi2, List.length_map, xS, List.length_take]; grind) | (rw [hi3, List.length_map, xS, List.length_take]; grind)
  obtain ⟨x99, hx100⟩ : ∃ x, e[0]? = some x := ⟨_, List.getElem?_eq_getElem hb101⟩
  obtain ⟨c102, hr103, hc104⟩ := Kd.reps_get1 rfl hv20 hx100
  cases (show _ = _ from id hr103)
  refine tq (vR (i := 0) 1 rfl rfl rfl sL hb101) ?_
  refine tq (hC 1 rfl rfl ld4 hc104) ?_
  refine tq (qG rfl) ?_
  refine vY 87 rfl (fun h106 => ?_) (fun h106 => ?_)
  refine xA 87 rfl rfl rfl ?_
  refine xA 87 rfl rfl rfl ?_
  refine xA 87 rfl rfl rfl ?_
  refine tq (qR rfl rfl) ?_
  refine tq (qG rfl) ?_
  have hb109 : 0 < f.length := by first | omega | (rw [hi2, List.length_map, xS, List.length_take]; grind) | (rw [hi3, List.length_map, xS, List.length_take]; grind)
  obtain ⟨x107, hx108⟩ : ∃ x, f[0]? = some x := ⟨_, List.getElem?_eq_getElem hb109⟩
  obtain ⟨c110, hr111, hc112⟩ := Kd.reps_get1 rfl hv24 hx108
  cases (show _ = _ from id hr111)
  refine tq (vR (i := 0) 0 rfl rfl rfl sL hb109) ?_
  refine tq (hC 0 rfl rfl ld4 hc112) ?_
  refine tq (qG rfl) ?_
  refine vY 95 rfl (fun h114 => ?_) (fun h114 => ?_)
  refine xU 95 rfl rfl ?_
  refine tq (qG rfl) ?_
  refine xU 95 rfl rfl ?_
  have hb117 : 1 < f.length := by first | omega | (rw [hi2, List.length_map, xS, List.length_take]; grind) | (rw [hi3, List.length_map, xS, List.length_take]; grind)
  obtain ⟨x115, hx116⟩ : ∃ x, f[1]? = some x := ⟨_, List.getElem?_eq_getElem hb117⟩
  obtain ⟨c118, hr119, hc120⟩ := Kd.reps_get1 rfl hv24 hx116
  cases (show _ = _ from id hr119)
  refine tq (vR (i := 1) 0 rfl rfl rfl sL hb117) ?_
  refine xU 95 rfl rfl ?_
  refine tq (hC 0 rfl rfl ld4 hc120) ?_
  refine tq (qR rfl rfl) ?_
  refine tq (qD rfl) ?_
  refine tq (qD rfl) ?_
  refine vD <| qC <| qV <| qN <| qI ?_
  refine kL (.inl rfl) rfl rfl rfl ?_
  have e122 : (true : Bool) = (qL s top c).1 := by (have t_ := xF (l := c.args) (by assumption) (by assumption); rw [t_] at hi2 hi3; have p0_ := kU hi2 hx100; have p1_ := kV hi3 hx108; have p2_ := kV hi3 hx116; rw [xO]; unfold jK; grind [yE])
  have e123 : (x115 : Bool) = (qL s top c).2 := by (have t_ := xF (l := c.args) (by assumption) (by assumption); rw [t_] at hi2 hi3; have p0_ := kU hi2 hx100; have p1_ := kV hi3 hx108; have p2_ := kV hi3 hx116; rw [xO]; unfold jK; grind [yE])
  exact fun w hw => ⟨congrArg Ending.returned (yW (fun x0 x1 => Value.tuple #[.bool x0, .bool x1]) e122 e123), hw.drop 4⟩
  refine xA 95 rfl rfl rfl ?_
  refine xA 95 rfl rfl rfl ?_
  refine xA 95 rfl rfl rfl ?_
  refine tq (qO rfl rfl) ?_
  refine tq (qD rfl) ?_
  refine tq (qD rfl) ?_
  refine vD <| qC <| qV <| qN <| qI ?_
  refine kL (.inl rfl) rfl rfl rfl ?_
  have e124 : (true : Bool) = (qL s top c).1 := by (have t_ := xF (l := c.args) (by assumption) (by assumption); rw [t_] at hi2 hi3; have p0_ := kU hi2 hx100; have p1_ := kV hi3 hx108; rw [xO]; unfold jK; grind [yE])
  have e125 : (false : Bool) = (qL s top c).2 := by (have t_ := xF (l := c.args) (by assumption) (by assumption); rw [t_] at hi2 hi3; have p0_ := kU hi2 hx100; have p1_ := kV hi3 hx108; rw [xO]; unfold jK; grind [yE])
  exact fun w hw => ⟨congrArg Ending.returned (yW (fun x0 x1 => Value.tuple #[.bool x0, .bool x1]) e124 e125), hw.drop 4⟩
  refine xU 87 rfl rfl ?_
  refine tq (qG rfl) ?_
  refine xU 87 rfl rfl ?_
  have hb128 : 1 < e.length := by first | omega | (rw [hi2, List.length_map, xS, List.length_take]; grind) | (rw [hi3, List.length_map, xS, List.length_take]; grind)
  obtain ⟨x126, hx127⟩ : ∃ x, e[1]? = some x := ⟨_, List.getElem?_eq_getElem hb128⟩
  obtain ⟨c129, hr130, hc131⟩ := Kd.reps_get1 rfl hv20 hx127
  cases (show _ = _ from id hr130)
  refine tq (vR (i := 1) 1 rfl rfl rfl sL hb128) ?_
  refine xU 87 rfl rfl ?_
  refine tq (hC 1 rfl rfl ld4 hc131) ?_
  refine tq (qO rfl rfl) ?_
  refine tq (qG rfl) ?_
  have hb135 : 0 < f.length := by first | omega | (rw [hi2, List.length_map, xS, List.length_take]; grind) | (rw [hi3, List.length_map, xS, List.length_take]; grind)
  obtain ⟨x133, hx134⟩ : ∃ x, f[0]? = some x := ⟨_, List.getElem?_eq_getElem hb135⟩
  obtain ⟨c136, hr137, hc138⟩ := Kd.reps_get1 rfl hv24 hx134
  cases (show _ = _ from id hr137)
  refine tq (vR (i := 0) 0 rfl rfl rfl sL hb135) ?_
  refine tq (hC 0 rfl rfl ld4 hc138) ?_
  refine tq (qG rfl) ?_
  refine vY 95 rfl (fun h140 => ?_) (fun h140 => ?_)
  refine xU 95 rfl rfl ?_
  refine tq (qG rfl) ?_
  refine xU 95 rfl rfl ?_
  have hb143 : 1 < f.length := by first | omega | (rw [hi2, List.length_map, xS, List.length_take]; grind) | (rw [hi3, List.length_map, xS, List.length_take]; grind)
  obtain ⟨x141, hx142⟩ : ∃ x, f[1]? = some x := ⟨_, List.getElem?_eq_getElem hb143⟩
  obtain ⟨c144, hr145, hc146⟩ := Kd.reps_get1 rfl hv24 hx142
  cases (show _ = _ from id hr145)
  refine tq (vR (i := 1) 0 rfl rfl rfl sL hb143) ?_
  refine xU 95 rfl rfl ?_
  refine tq (hC 0 rfl rfl ld4 hc146) ?_
  refine tq (qR rfl rfl) ?_
  refine tq (qD rfl) ?_
  refine tq (qD rfl) ?_
  refine vD <| qC <| qV <| qN <| qI ?_
  refine kL (.inl rfl) rfl rfl rfl ?_
  have e148 : (x126 : Bool) = (qL s top c).1 := by (have t_ := xF (l := c.args) (by assumption) (by assumption); rw [t_] at hi2 hi3; have p0_ := kU hi2 hx100; have p1_ := kU hi2 hx127; have p2_ := kV hi3 hx134; have p3_ := kV hi3 hx142; rw [xO]; unfold jK; grind [yE])
  have e149 : (x141 : Bool) = (qL s top c).2 := by (have t_ := xF (l := c.args) (by assumption) (by assumption); rw [t_] at hi2 hi3; have p0_ := kU hi2 hx100; have p1_ := kU hi2 hx127; have p2_ := kV hi3 hx134; have p3_ := kV hi3 hx142; rw [xO]; unfold jK; grind [yE])
  exact fun w hw => ⟨congrArg Ending.returned (yW (fun x0 x1 => Value.tuple #[.bool x0, .bool x1]) e148 e149), hw.drop 4⟩
  refine xA 95 rfl rfl rfl ?_
  refine xA 95 rfl rfl rfl ?_
  refine xA 95 rfl rfl rfl ?_
  refine tq (qO rfl rfl) ?_
  refine tq (qD rfl) ?_
  refine tq (qD rfl) ?_
  refine vD <| qC <| qV <| qN <| qI ?_
  refine kL (.inl rfl) rfl rfl rfl ?_
  have e150 : (x126 : Bool) = (qL s top c).1 := by (have t_ := xF (l := c.args) (by assumption) (by assumption); rw [t_] at hi2 hi3; have p0_ := kU hi2 hx100; have p1_ := kU hi2 hx127; have p2_ := kV hi3 hx134; rw [xO]; unfold jK; grind [yE])
  have e151 : (false : Bool) = (qL s top c).2 := by (have t_ := xF (l := c.args) (by assumption) (by assumption); rw [t_] at hi2 hi3; have p0_ := kU hi2 hx100; have p1_ := kU hi2 hx127; have p2_ := kV hi3 hx134; rw [xO]; unfold jK; grind [yE])
  exact fun w hw => ⟨congrArg Ending.returned (yW (fun x0 x1 => Value.tuple #[.bool x0, .bool x1]) e150 e151), hw.drop 4⟩
  refine xV rfl ?_
  refine qE <| qA ?_
  refine tl (jR rfl rfl rfl) ?_
  refine tl (qD rfl) ?_
  refine qB <| qC ?_
  refine qP 100 rfl (fun h152 => ?_) (fun h152 => ?_)
  refine xE rfl ?_
  refine qE ?_
  refine wG mixed (by kernel_rfl) ?_
  refine tq (qG rfl) ?_
  have hb155 : 0 < e.length := by first | omega | (rw [hi2, List.length_map, xS, List.length_take]; grind) | (rw [hi3, List.length_map, xS, List.length_take]; grind)
  obtain ⟨x153, hx154⟩ : ∃ x, e[0]? = some x := ⟨_, List.getElem?_eq_getElem hb155⟩
  obtain ⟨c156, hr157, hc158⟩ := Kd.reps_get1 rfl hv20 hx154
  cases (show _ = _ from id hr157)
  refine tq (vR (i := 0) 1 rfl rfl rfl sL hb155) ?_
  refine tq (hC 1 rfl rfl ld4 hc158) ?_
  refine tq (qG rfl) ?_
  refine vY 105 rfl (fun h160 => ?_) (fun h160 => ?_)
  refine xU 105 rfl rfl ?_
  refine tq (qG rfl) ?_
  refine xU 105 rfl rfl ?_
  have hb163 : 1 < e.length := by first | omega | (rw [hi2, List.length_map, xS, List.length_take]; grind) | (rw [hi3, List.length_map, xS, List.length_take]; grind)
  obtain ⟨x161, hx162⟩ : ∃ x, e[1]? = some x := ⟨_, List.getElem?_eq_getElem hb163⟩
  obtain ⟨c164, hr165, hc166⟩ := Kd.reps_get1 rfl hv20 hx162
  cases (show _ = _ from id hr165)
  refine tq (vR (i := 1) 1 rfl rfl rfl sL hb163) ?_
  refine xU 105 rfl rfl ?_
  refine tq (hC 1 rfl rfl ld4 hc166) ?_
  refine tq (qR rfl rfl) ?_
  refine tq (qG rfl) ?_
  have hb170 : 0 < f.length := by first | omega | (rw [hi2, List.length_map, xS, List.length_take]; grind) | (rw [hi3, List.length_map, xS, List.length_take]; grind)
  obtain ⟨x168, hx169⟩ : ∃ x, f[0]? = some x := ⟨_, List.getElem?_eq_getElem hb170⟩
  obtain ⟨c171, hr172, hc173⟩ := Kd.reps_get1 rfl hv24 hx169
  cases (show _ = _ from id hr172)
  refine tq (vR (i := 0) 0 rfl rfl rfl sL hb170) ?_
  refine tq (hC 0 rfl rfl ld4 hc173) ?_
  refine tq (qG rfl) ?_
  refine vY 113 rfl (fun h175 => ?_) (fun h175 => ?_)
  refine xA 113 rfl rfl rfl ?_
  refine xA 113 rfl rfl rfl ?_
  refine xA 113 rfl rfl rfl ?_
  refine tq (qR rfl rfl) ?_
  refine tq (qD rfl) ?_
  refine tq (qD rfl) ?_
  refine vD <| qC <| qV <| qN <| qI ?_
  refine kL (.inl rfl) rfl rfl rfl ?_
  have e176 : (x161 : Bool) = (qL s top c).1 := by (have t_ := xF (l := c.args) (by assumption) (by assumption); rw [t_] at hi2 hi3; have p0_ := kU hi2 hx154; have p1_ := kU hi2 hx162; have p2_ := kV hi3 hx169; rw [xO]; unfold jK; grind [yE])
  have e177 : (true : Bool) = (qL s top c).2 := by (have t_ := xF (l := c.args) (by assumption) (by assumption); rw [t_] at hi2 hi3; have p0_ := kU hi2 hx154; have p1_ := kU hi2 hx162; have p2_ := kV hi3 hx169; rw [xO]; unfold jK; grind [yE])
  exact fun w hw => ⟨congrArg Ending.returned (yW (fun x0 x1 => Value.tuple #[.bool x0, .bool x1]) e176 e177), hw.drop 4⟩
  refine xU 113 rfl rfl ?_
  refine tq (qG rfl) ?_
  refine xU 113 rfl rfl ?_
  have hb180 : 1 < f.length := by first | omega | (rw [hi2, List.length_map, xS, List.length_take]; grind) | (rw [hi3, List.length_map, xS, List.length_take]; grind)
  obtain ⟨x178, hx179⟩ : ∃ x, f[1]? = some x := ⟨_, List.getElem?_eq_getElem hb180⟩
  obtain ⟨c181, hr182, hc183⟩ := Kd.reps_get1 rfl hv24 hx179
  cases (show _ = _ from id hr182)
  refine tq (vR (i := 1) 0 rfl rfl rfl sL hb180) ?_
  refine xU 113 rfl rfl ?_
  refine tq (hC 0 rfl rfl ld4 hc183) ?_
  refine tq (qO rfl rfl) ?_
  refine tq (qD rfl) ?_
  refine tq (qD rfl) ?_
  refine vD <| qC <| qV <| qN <| qI ?_
  refine kL (.inl rfl) rfl rfl rfl ?_
  have e185 : (x161 : Bool) = (qL s top c).1 := by (have t_ := xF (l := c.args) (by assumption) (by assumption); rw [t_] at hi2 hi3; have p0_ := kU hi2 hx154; have p1_ := kU hi2 hx162; have p2_ := kV hi3 hx169; have p3_ := kV hi3 hx179; rw [xO]; unfold jK; grind [yE])
  have e186 : (x178 : Bool) = (qL s top c).2 := by (have t_ := xF (l := c.args) (by assumption) (by assumption); rw [t_] at hi2 hi3; have p0_ := kU hi2 hx154; have p1_ := kU hi2 hx162; have p2_ := kV hi3 hx169; have p3_ := kV hi3 hx179; rw [xO]; unfold jK; grind [yE])
  exact fun w hw => ⟨congrArg Ending.returned (yW (fun x0 x1 => Value.tuple #[.bool x0, .bool x1]) e185 e186), hw.drop 4⟩
  refine xA 105 rfl rfl rfl ?_
  refine xA 105 rfl rfl rfl ?_
  refine xA 105 rfl rfl rfl ?_
  refine tq (qO rfl rfl) ?_
  refine tq (qG rfl) ?_
  have hb189 : 0 < f.length := by first | omega | (rw [hi2, List.length_map, xS, List.length_take]; grind) | (rw [hi3, List.length_map, xS, List.length_take]; grind)
  obtain ⟨x187, hx188⟩ : ∃ x, f[0]? = some x := ⟨_, List.getElem?_eq_getElem hb189⟩
  obtain ⟨c190, hr191, hc192⟩ := Kd.reps_get1 rfl hv24 hx188
  cases (show _ = _ from id hr191)
  refine tq (vR (i := 0) 0 rfl rfl rfl sL hb189) ?_
  refine tq (hC 0 rfl rfl ld4 hc192) ?_
  refine tq (qG rfl) ?_
  refine vY 113 rfl (fun h194 => ?_) (fun h194 => ?_)
  refine xA 113 rfl rfl rfl ?_
  refine xA 113 rfl rfl rfl ?_
  refine xA 113 rfl rfl rfl ?_
  refine tq (qR rfl rfl) ?_
  refine tq (qD rfl) ?_
  refine tq (qD rfl) ?_
  refine vD <| qC <| qV <| qN <| qI ?_
  refine kL (.inl rfl) rfl rfl rfl ?_
  have e195 : (false : Bool) = (qL s top c).1 := by (have t_ := xF (l := c.args) (by assumption) (by assumption); rw [t_] at hi2 hi3; have p0_ := kU hi2 hx154; have p1_ := kV hi3 hx188; rw [xO]; unfold jK; grind [yE])
  have e196 : (true : Bool) = (qL s top c).2 := by (have t_ := xF (l := c.args) (by assumption) (by assumption); rw [t_] at hi2 hi3; have p0_ := kU hi2 hx154; have p1_ := kV hi3 hx188; rw [xO]; unfold jK; grind [yE])
  exact fun w hw => ⟨congrArg Ending.returned (yW (fun x0 x1 => Value.tuple #[.bool x0, .bool x1]) e195 e196), hw.drop 4⟩
  refine xU 113 rfl rfl ?_
  refine tq (qG rfl) ?_
  refine xU 113 rfl rfl ?_
  have hb199 : 1 < f.length := by first | omega | (rw [hi2, List.length_map, xS, List.length_take]; grind) | (rw [hi3, List.length_map, xS, List.length_take]; grind)
  obtain ⟨x197, hx198⟩ : ∃ x, f[1]? = some x := ⟨_, List.getElem?_eq_getElem hb199⟩
  obtain ⟨c200, hr201, hc202⟩ := Kd.reps_get1 rfl hv24 hx198
  cases (show _ = _ from id hr201)
  refine tq (vR (i := 1) 0 rfl rfl rfl sL hb199) ?_
  refine xU 113 rfl rfl ?_
  refine tq (hC 0 rfl rfl ld4 hc202) ?_
  refine tq (qO rfl rfl) ?_
  refine tq (qD rfl) ?_
  refine tq (qD rfl) ?_
  refine vD <| qC <| qV <| qN <| qI ?_
  refine kL (.inl rfl) rfl rfl rfl ?_
  have e204 : (false : Bool) = (qL s top c).1 := by (have t_ := xF (l := c.args) (by assumption) (by assumption); rw [t_] at hi2 hi3; have p0_ := kU hi2 hx154; have p1_ := kV hi3 hx188; have p2_ := kV hi3 hx198; rw [xO]; unfold jK; grind [yE])
  have e205 : (x197 : Bool) = (qL s top c).2 := by (have t_ := xF (l := c.args) (by assumption) (by assumption); rw [t_] at hi2 hi3; have p0_ := kU hi2 hx154; have p1_ := kV hi3 hx188; have p2_ := kV hi3 hx198; rw [xO]; unfold jK; grind [yE])
  exact fun w hw => ⟨congrArg Ending.returned (yW (fun x0 x1 => Value.tuple #[.bool x0, .bool x1]) e204 e205), hw.drop 4⟩
  refine xV rfl ?_
  refine qE <| qA ?_
  refine tl (jR rfl rfl rfl) ?_
  refine tl (qD rfl) ?_
  refine qB <| qC ?_
  refine qP 118 rfl (fun h206 => ?_) (fun h206 => ?_)
  refine xE rfl ?_
  refine qE ?_
  refine wG mixed (by kernel_rfl) ?_
  refine tq (qG rfl) ?_
  have hb209 : 0 < e.length := by first | omega | (rw [hi2, List.length_map, xS, List.length_take]; grind) | (rw [hi3, List.length_map, xS, List.length_take]; grind)
  obtain ⟨x207, hx208⟩ : ∃ x, e[0]? = some x := ⟨_, List.getElem?_eq_getElem hb209⟩
  obtain ⟨c210, hr211, hc212⟩ := Kd.reps_get1 rfl hv20 hx208
  cases (show _ = _ from id hr211)
  refine tq (vR (i := 0) 1 rfl rfl rfl sL hb209) ?_
  refine tq (hC 1 rfl rfl ld4 hc212) ?_
  refine tq (qG rfl) ?_
  refine vY 123 rfl (fun h214 => ?_) (fun h214 => ?_)
  refine xA 123 rfl rfl rfl ?_
  refine xA 123 rfl rfl rfl ?_
  refine gT 125 rfl rfl rfl ?_
  refine gT 125 rfl rfl rfl ?_
  refine xA 123 rfl rfl rfl ?_
  refine tq (qR rfl rfl) ?_
  refine tq (qG rfl) ?_
  refine tq (qG rfl) ?_
  refine yI 131 rfl (fun h215 => ?_) (fun h215 => ?_)
  refine xU 131 rfl rfl ?_
  refine tq (qG rfl) ?_
  refine tq (qR rfl rfl) ?_
  refine tq (qG rfl) ?_
  refine vY 134 rfl (fun h216 => ?_) (fun h216 => ?_)
  refine xU 134 rfl rfl ?_
  refine tq (qG rfl) ?_
  refine xU 134 rfl rfl ?_
  have hb219 : 0 < f.length := by first | omega | (rw [hi2, List.length_map, xS, List.length_take]; grind) | (rw [hi3, List.length_map, xS, List.length_take]; grind)
  obtain ⟨x217, hx218⟩ : ∃ x, f[0]? = some x := ⟨_, List.getElem?_eq_getElem hb219⟩
  obtain ⟨c220, hr221, hc222⟩ := Kd.reps_get1 rfl hv24 hx218
  cases (show _ = _ from id hr221)
  refine tq (vR (i := 0) 0 rfl rfl rfl sL hb219) ?_
  refine xU 134 rfl rfl ?_
  refine tq (hC 0 rfl rfl ld4 hc222) ?_
  refine tq (qR rfl rfl) ?_
  refine tq (qD rfl) ?_
  refine tq (qD rfl) ?_
  refine vD <| qC <| qV <| qN <| qI ?_
  refine kL (.inl rfl) rfl rfl rfl ?_
  have e224 : (true : Bool) = (qL s top c).1 := by (have t_ := xF (l := c.args) (by assumption) (by assumption); rw [t_] at hi2 hi3; have p0_ := kU hi2 hx208; have p1_ := kV hi3 hx218; rw [xO]; unfold jK; grind [yE])
  have e225 : (x217 : Bool) = (qL s top c).2 := by (have t_ := xF (l := c.args) (by assumption) (by assumption); rw [t_] at hi2 hi3; have p0_ := kU hi2 hx208; have p1_ := kV hi3 hx218; rw [xO]; unfold jK; grind [yE])
  exact fun w hw => ⟨congrArg Ending.returned (yW (fun x0 x1 => Value.tuple #[.bool x0, .bool x1]) e224 e225), hw.drop 4⟩
  refine xA 134 rfl rfl rfl ?_
  refine xA 134 rfl rfl rfl ?_
  refine xA 134 rfl rfl rfl ?_
  refine tq (qO rfl rfl) ?_
  refine tq (qD rfl) ?_
  refine tq (qD rfl) ?_
  refine vD <| qC <| qV <| qN <| qI ?_
  refine kL (.inl rfl) rfl rfl rfl ?_
  have e226 : (true : Bool) = (qL s top c).1 := by (have t_ := xF (l := c.args) (by assumption) (by assumption); rw [t_] at hi2 hi3; have p0_ := kU hi2 hx208; rw [xO]; unfold jK; grind [yE])
  have e227 : (false : Bool) = (qL s top c).2 := by (have t_ := xF (l := c.args) (by assumption) (by assumption); rw [t_] at hi2 hi3; have p0_ := kU hi2 hx208; rw [xO]; unfold jK; grind [yE])
  exact fun w hw => ⟨congrArg Ending.returned (yW (fun x0 x1 => Value.tuple #[.bool x0, .bool x1]) e226 e227), hw.drop 4⟩
  refine xA 131 rfl rfl rfl ?_
  refine tq (qO rfl rfl) ?_
  refine tq (qG rfl) ?_
  refine xA 134 rfl rfl rfl ?_
  refine xA 134 rfl rfl rfl ?_
  refine xA 134 rfl rfl rfl ?_
  refine tq (qO rfl rfl) ?_
  refine tq (qD rfl) ?_
  refine tq (qD rfl) ?_
  refine vD <| qC <| qV <| qN <| qI ?_
  refine kL (.inl rfl) rfl rfl rfl ?_
  have e228 : (true : Bool) = (qL s top c).1 := by (have t_ := xF (l := c.args) (by assumption) (by assumption); rw [t_] at hi2 hi3; have p0_ := kU hi2 hx208; rw [xO]; unfold jK; grind [yE])
  have e229 : (false : Bool) = (qL s top c).2 := by (have t_ := xF (l := c.args) (by assumption) (by assumption); rw [t_] at hi2 hi3; have p0_ := kU hi2 hx208; rw [xO]; unfold jK; grind [yE])
  exact fun w hw => ⟨congrArg Ending.returned (yW (fun x0 x1 => Value.tuple #[.bool x0, .bool x1]) e228 e229), hw.drop 4⟩
  refine xU 123 rfl rfl ?_
  refine tq (qG rfl) ?_
  refine xU 123 rfl rfl ?_
  refine tq (qG rfl) ?_
  refine yI 125 rfl (fun h230 => ?_) (fun h230 => ?_)
  refine xU 125 rfl rfl ?_
  refine tq (qG rfl) ?_
  refine xU 125 rfl rfl ?_
  refine tq (wJ rfl) ?_
  refine xU 123 rfl rfl ?_
  refine tq (qR rfl rfl) ?_
  refine tq (qO rfl rfl) ?_
  refine tq (qG rfl) ?_
  refine tq (qG rfl) ?_
  refine yI 131 rfl (fun h231 => ?_) (fun h231 => ?_)
  refine xU 131 rfl rfl ?_
  refine tq (qG rfl) ?_
  refine tq (qR rfl rfl) ?_
  refine tq (qG rfl) ?_
  refine vY 134 rfl (fun h232 => ?_) (fun h232 => ?_)
  refine xU 134 rfl rfl ?_
  refine tq (qG rfl) ?_
  refine xU 134 rfl rfl ?_
  have hb235 : 0 < f.length := by first | omega | (rw [hi2, List.length_map, xS, List.length_take]; grind) | (rw [hi3, List.length_map, xS, List.length_take]; grind)
  obtain ⟨x233, hx234⟩ : ∃ x, f[0]? = some x := ⟨_, List.getElem?_eq_getElem hb235⟩
  obtain ⟨c236, hr237, hc238⟩ := Kd.reps_get1 rfl hv24 hx234
  cases (show _ = _ from id hr237)
  refine tq (vR (i := 0) 0 rfl rfl rfl sL hb235) ?_
  refine xU 134 rfl rfl ?_
  refine tq (hC 0 rfl rfl ld4 hc238) ?_
  refine tq (qR rfl rfl) ?_
  refine tq (qD rfl) ?_
  refine tq (qD rfl) ?_
  refine vD <| qC <| qV <| qN <| qI ?_
  refine kL (.inl rfl) rfl rfl rfl ?_
  have e240 : (!top : Bool) = (qL s top c).1 := by (have t_ := xF (l := c.args) (by assumption) (by assumption); rw [t_] at hi2 hi3; have p0_ := kU hi2 hx208; have p1_ := kV hi3 hx234; rw [xO]; unfold jK; grind [yE])
  have e241 : (x233 : Bool) = (qL s top c).2 := by (have t_ := xF (l := c.args) (by assumption) (by assumption); rw [t_] at hi2 hi3; have p0_ := kU hi2 hx208; have p1_ := kV hi3 hx234; rw [xO]; unfold jK; grind [yE])
  exact fun w hw => ⟨congrArg Ending.returned (yW (fun x0 x1 => Value.tuple #[.bool x0, .bool x1]) e240 e241), hw.drop 4⟩
  refine xA 134 rfl rfl rfl ?_
  refine xA 134 rfl rfl rfl ?_
  refine xA 134 rfl rfl rfl ?_
  refine tq (qO rfl rfl) ?_
  refine tq (qD rfl) ?_
  refine tq (qD rfl) ?_
  refine vD <| qC <| qV <| qN <| qI ?_
  refine kL (.inl rfl) rfl rfl rfl ?_
  have e242 : (!top : Bool) = (qL s top c).1 := by (have t_ := xF (l := c.args) (by assumption) (by assumption); rw [t_] at hi2 hi3; have p0_ := kU hi2 hx208; rw [xO]; unfold jK; grind [yE])
  have e243 : (false : Bool) = (qL s top c).2 := by (have t_ := xF (l := c.args) (by assumption) (by assumption); rw [t_] at hi2 hi3; have p0_ := kU hi2 hx208; rw [xO]; unfold jK; grind [yE])
  exact fun w hw => ⟨congrArg Ending.returned (yW (fun x0 x1 => Value.tuple #[.bool x0, .bool x1]) e242 e243), hw.drop 4⟩
  refine xA 131 rfl rfl rfl ?_
  refine tq (qO rfl rfl) ?_
  refine tq (qG rfl) ?_
  refine xA 134 rfl rfl rfl ?_
  refine xA 134 rfl rfl rfl ?_
  refine xA 134 rfl rfl rfl ?_
  refine tq (qO rfl rfl) ?_
  refine tq (qD rfl) ?_
  refine tq (qD rfl) ?_
  refine vD <| qC <| qV <| qN <| qI ?_
  refine kL (.inl rfl) rfl rfl rfl ?_
  have e244 : (!top : Bool) = (qL s top c).1 := by (have t_ := xF (l := c.args) (by assumption) (by assumption); rw [t_] at hi2 hi3; have p0_ := kU hi2 hx208; rw [xO]; unfold jK; grind [yE])
  have e245 : (false : Bool) = (qL s top c).2 := by (have t_ := xF (l := c.args) (by assumption) (by assumption); rw [t_] at hi2 hi3; have p0_ := kU hi2 hx208; rw [xO]; unfold jK; grind [yE])
  exact fun w hw => ⟨congrArg Ending.returned (yW (fun x0 x1 => Value.tuple #[.bool x0, .bool x1]) e244 e245), hw.drop 4⟩
  refine xA 125 rfl rfl rfl ?_
  refine xA 125 rfl rfl rfl ?_
  refine xU 123 rfl rfl ?_
  refine tq (qO rfl rfl) ?_
  refine tq (qO rfl rfl) ?_
  refine tq (qG rfl) ?_
  refine tq (qG rfl) ?_
  refine yI 131 rfl (fun h246 => ?_) (fun h246 => ?_)
  refine xU 131 rfl rfl ?_
  refine tq (qG rfl) ?_
  refine tq (qR rfl rfl) ?_
  refine tq (qG rfl) ?_
  refine vY 134 rfl (fun h247 => ?_) (fun h247 => ?_)
  refine xU 134 rfl rfl ?_
  refine tq (qG rfl) ?_
  refine xU 134 rfl rfl ?_
  have hb250 : 0 < f.length := by first | omega | (rw [hi2, List.length_map, xS, List.length_take]; grind) | (rw [hi3, List.length_map, xS, List.length_take]; grind)
  obtain ⟨x248, hx249⟩ : ∃ x, f[0]? = some x := ⟨_, List.getElem?_eq_getElem hb250⟩
  obtain ⟨c251, hr252, hc253⟩ := Kd.reps_get1 rfl hv24 hx249
  cases (show _ = _ from id hr252)
  refine tq (vR (i := 0) 0 rfl rfl rfl sL hb250) ?_
  refine xU 134 rfl rfl ?_
  refine tq (hC 0 rfl rfl ld4 hc253) ?_
  refine tq (qR rfl rfl) ?_
  refine tq (qD rfl) ?_
  refine tq (qD rfl) ?_
  refine vD <| qC <| qV <| qN <| qI ?_
  refine kL (.inl rfl) rfl rfl rfl ?_
  have e255 : (false : Bool) = (qL s top c).1 := by (have t_ := xF (l := c.args) (by assumption) (by assumption); rw [t_] at hi2 hi3; have p0_ := kU hi2 hx208; have p1_ := kV hi3 hx249; rw [xO]; unfold jK; grind [yE])
  have e256 : (x248 : Bool) = (qL s top c).2 := by (have t_ := xF (l := c.args) (by assumption) (by assumption); rw [t_] at hi2 hi3; have p0_ := kU hi2 hx208; have p1_ := kV hi3 hx249; rw [xO]; unfold jK; grind [yE])
  exact fun w hw => ⟨congrArg Ending.returned (yW (fun x0 x1 => Value.tuple #[.bool x0, .bool x1]) e255 e256), hw.drop 4⟩
  refine xA 134 rfl rfl rfl ?_
  refine xA 134 rfl rfl rfl ?_
  refine xA 134 rfl rfl rfl ?_
  refine tq (qO rfl rfl) ?_
  refine tq (qD rfl) ?_
  refine tq (qD rfl) ?_
  refine vD <| qC <| qV <| qN <| qI ?_
  refine kL (.inl rfl) rfl rfl rfl ?_
  have e257 : (false : Bool) = (qL s top c).1 := by (have t_ := xF (l := c.args) (by assumption) (by assumption); rw [t_] at hi2 hi3; have p0_ := kU hi2 hx208; rw [xO]; unfold jK; grind [yE])
  have e258 : (false : Bool) = (qL s top c).2 := by (have t_ := xF (l := c.args) (by assumption) (by assumption); rw [t_] at hi2 hi3; have p0_ := kU hi2 hx208; rw [xO]; unfold jK; grind [yE])
  exact fun w hw => ⟨congrArg Ending.returned (yW (fun x0 x1 => Value.tuple #[.bool x0, .bool x1]) e257 e258), hw.drop 4⟩
  refine xA 131 rfl rfl rfl ?_
  refine tq (qO rfl rfl) ?_
  refine tq (qG rfl) ?_
  refine xA 134 rfl rfl rfl ?_
  refine xA 134 rfl rfl rfl ?_
  refine xA 134 rfl rfl rfl ?_
  refine tq (qO rfl rfl) ?_
  refine tq (qD rfl) ?_
  refine tq (qD rfl) ?_
  refine vD <| qC <| qV <| qN <| qI ?_
  refine kL (.inl rfl) rfl rfl rfl ?_
  have e259 : (false : Bool) = (qL s top c).1 := by (have t_ := xF (l := c.args) (by assumption) (by assumption); rw [t_] at hi2 hi3; have p0_ := kU hi2 hx208; rw [xO]; unfold jK; grind [yE])
  have e260 : (false : Bool) = (qL s top c).2 := by (have t_ := xF (l := c.args) (by assumption) (by assumption); rw [t_] at hi2 hi3; have p0_ := kU hi2 hx208; rw [xO]; unfold jK; grind [yE])
  exact fun w hw => ⟨congrArg Ending.returned (yW (fun x0 x1 => Value.tuple #[.bool x0, .bool x1]) e259 e260), hw.drop 4⟩
  refine xV rfl ?_
  refine qZ <| jC <| qC <| qE ?_
  refine wG mixed (by kernel_rfl) ?_
  refine tq (qG rfl) ?_
  refine tq (qG rfl) ?_
  refine yI 140 rfl (fun h261 => ?_) (fun h261 => ?_)
  refine xU 140 rfl rfl ?_
  refine tq (qG rfl) ?_
  refine tq (qR rfl rfl) ?_
  refine tq (qG rfl) ?_
  refine vY 143 rfl (fun h262 => ?_) (fun h262 => ?_)
  refine xU 143 rfl rfl ?_
  refine tq (qG rfl) ?_
  refine xU 143 rfl rfl ?_
  have hb265 : 0 < e.length := by first | omega | (rw [hi2, List.length_map, xS, List.length_take]; grind) | (rw [hi3, List.length_map, xS, List.length_take]; grind)
  obtain ⟨x263, hx264⟩ : ∃ x, e[0]? = some x := ⟨_, List.getElem?_eq_getElem hb265⟩
  obtain ⟨c266, hr267, hc268⟩ := Kd.reps_get1 rfl hv20 hx264
  cases (show _ = _ from id hr267)
  refine tq (vR (i := 0) 1 rfl rfl rfl sL hb265) ?_
  refine xU 143 rfl rfl ?_
  refine tq (hC 1 rfl rfl ld4 hc268) ?_
  refine tq (qR rfl rfl) ?_
  refine tq (qG rfl) ?_
  have hb272 : 0 < f.length := by first | omega | (rw [hi2, List.length_map, xS, List.length_take]; grind) | (rw [hi3, List.length_map, xS, List.length_take]; grind)
  obtain ⟨x270, hx271⟩ : ∃ x, f[0]? = some x := ⟨_, List.getElem?_eq_getElem hb272⟩
  obtain ⟨c273, hr274, hc275⟩ := Kd.reps_get1 rfl hv24 hx271
  cases (show _ = _ from id hr274)
  refine tq (vR (i := 0) 0 rfl rfl rfl sL hb272) ?_
  refine tq (hC 0 rfl rfl ld4 hc275) ?_
  refine tq (qG rfl) ?_
  refine vY 151 rfl (fun h277 => ?_) (fun h277 => ?_)
  refine xA 151 rfl rfl rfl ?_
  refine xA 151 rfl rfl rfl ?_
  refine gT 153 rfl rfl rfl ?_
  refine gT 153 rfl rfl rfl ?_
  refine xA 151 rfl rfl rfl ?_
  refine tq (qR rfl rfl) ?_
  refine tq (qD rfl) ?_
  refine tq (qD rfl) ?_
  refine vD <| qC <| qV ?_
  refine kL (.inl rfl) rfl rfl rfl ?_
  have e278 : (x263 : Bool) = (qL s top c).1 := by (have t_ := xF (l := c.args) (by assumption) (by assumption); rw [t_] at hi2 hi3; have p0_ := kU hi2 hx264; have p1_ := kV hi3 hx271; rw [xO]; unfold jK; grind [yE])
  have e279 : (true : Bool) = (qL s top c).2 := by (have t_ := xF (l := c.args) (by assumption) (by assumption); rw [t_] at hi2 hi3; have p0_ := kU hi2 hx264; have p1_ := kV hi3 hx271; rw [xO]; unfold jK; grind [yE])
  exact fun w hw => ⟨congrArg Ending.returned (yW (fun x0 x1 => Value.tuple #[.bool x0, .bool x1]) e278 e279), hw.drop 4⟩
  refine xU 151 rfl rfl ?_
  refine tq (qG rfl) ?_
  refine xU 151 rfl rfl ?_
  refine tq (qG rfl) ?_
  refine yI 153 rfl (fun h280 => ?_) (fun h280 => ?_)
  refine xU 153 rfl rfl ?_
  refine tq (qG rfl) ?_
  refine xU 153 rfl rfl ?_
  refine tq (wJ rfl) ?_
  refine xU 151 rfl rfl ?_
  refine tq (qR rfl rfl) ?_
  refine tq (qO rfl rfl) ?_
  refine tq (qD rfl) ?_
  refine tq (qD rfl) ?_
  refine vD <| qC <| qV ?_
  refine kL (.inl rfl) rfl rfl rfl ?_
  have e281 : (x263 : Bool) = (qL s top c).1 := by (have t_ := xF (l := c.args) (by assumption) (by assumption); rw [t_] at hi2 hi3; have p0_ := kU hi2 hx264; have p1_ := kV hi3 hx271; rw [xO]; unfold jK; grind [yE])
  have e282 : (!top : Bool) = (qL s top c).2 := by (have t_ := xF (l := c.args) (by assumption) (by assumption); rw [t_] at hi2 hi3; have p0_ := kU hi2 hx264; have p1_ := kV hi3 hx271; rw [xO]; unfold jK; grind [yE])
  exact fun w hw => ⟨congrArg Ending.returned (yW (fun x0 x1 => Value.tuple #[.bool x0, .bool x1]) e281 e282), hw.drop 4⟩
  refine xA 153 rfl rfl rfl ?_
  refine xA 153 rfl rfl rfl ?_
  refine xU 151 rfl rfl ?_
  refine tq (qO rfl rfl) ?_
  refine tq (qO rfl rfl) ?_
  refine tq (qD rfl) ?_
  refine tq (qD rfl) ?_
  refine vD <| qC <| qV ?_
  refine kL (.inl rfl) rfl rfl rfl ?_
  have e283 : (x263 : Bool) = (qL s top c).1 := by (have t_ := xF (l := c.args) (by assumption) (by assumption); rw [t_] at hi2 hi3; have p0_ := kU hi2 hx264; have p1_ := kV hi3 hx271; rw [xO]; unfold jK; grind [yE])
  have e284 : (false : Bool) = (qL s top c).2 := by (have t_ := xF (l := c.args) (by assumption) (by assumption); rw [t_] at hi2 hi3; have p0_ := kU hi2 hx264; have p1_ := kV hi3 hx271; rw [xO]; unfold jK; grind [yE])
  exact fun w hw => ⟨congrArg Ending.returned (yW (fun x0 x1 => Value.tuple #[.bool x0, .bool x1]) e283 e284), hw.drop 4⟩
  refine xA 143 rfl rfl rfl ?_
  refine xA 143 rfl rfl rfl ?_
  refine xA 143 rfl rfl rfl ?_
  refine tq (qO rfl rfl) ?_
  refine tq (qG rfl) ?_
  have hb287 : 0 < f.length := by first | omega | (rw [hi2, List.length_map, xS, List.length_take]; grind) | (rw [hi3, List.length_map, xS, List.length_take]; grind)
  obtain ⟨x285, hx286⟩ : ∃ x, f[0]? = some x := ⟨_, List.getElem?_eq_getElem hb287⟩
  obtain ⟨c288, hr289, hc290⟩ := Kd.reps_get1 rfl hv24 hx286
  cases (show _ = _ from id hr289)
  refine tq (vR (i := 0) 0 rfl rfl rfl sL hb287) ?_
  refine tq (hC 0 rfl rfl ld4 hc290) ?_
  refine tq (qG rfl) ?_
  refine vY 151 rfl (fun h292 => ?_) (fun h292 => ?_)
  refine xA 151 rfl rfl rfl ?_
  refine xA 151 rfl rfl rfl ?_
  refine gT 153 rfl rfl rfl ?_
  refine gT 153 rfl rfl rfl ?_
  refine xA 151 rfl rfl rfl ?_
  refine tq (qR rfl rfl) ?_
  refine tq (qD rfl) ?_
  refine tq (qD rfl) ?_
  refine vD <| qC <| qV ?_
  refine kL (.inl rfl) rfl rfl rfl ?_
  have e293 : (false : Bool) = (qL s top c).1 := by (have t_ := xF (l := c.args) (by assumption) (by assumption); rw [t_] at hi2 hi3; have p0_ := kV hi3 hx286; rw [xO]; unfold jK; grind [yE])
  have e294 : (true : Bool) = (qL s top c).2 := by (have t_ := xF (l := c.args) (by assumption) (by assumption); rw [t_] at hi2 hi3; have p0_ := kV hi3 hx286; rw [xO]; unfold jK; grind [yE])
  exact fun w hw => ⟨congrArg Ending.returned (yW (fun x0 x1 => Value.tuple #[.bool x0, .bool x1]) e293 e294), hw.drop 4⟩
  refine xU 151 rfl rfl ?_
  refine tq (qG rfl) ?_
  refine xU 151 rfl rfl ?_
  refine tq (qG rfl) ?_
  refine yI 153 rfl (fun h295 => ?_) (fun h295 => ?_)
  refine xU 153 rfl rfl ?_
  refine tq (qG rfl) ?_
  refine xU 153 rfl rfl ?_
  refine tq (wJ rfl) ?_
  refine xU 151 rfl rfl ?_
  refine tq (qR rfl rfl) ?_
  refine tq (qO rfl rfl) ?_
  refine tq (qD rfl) ?_
  refine tq (qD rfl) ?_
  refine vD <| qC <| qV ?_
  refine kL (.inl rfl) rfl rfl rfl ?_
  have e296 : (false : Bool) = (qL s top c).1 := by (have t_ := xF (l := c.args) (by assumption) (by assumption); rw [t_] at hi2 hi3; have p0_ := kV hi3 hx286; rw [xO]; unfold jK; grind [yE])
  have e297 : (!top : Bool) = (qL s top c).2 := by (have t_ := xF (l := c.args) (by assumption) (by assumption); rw [t_] at hi2 hi3; have p0_ := kV hi3 hx286; rw [xO]; unfold jK; grind [yE])
  exact fun w hw => ⟨congrArg Ending.returned (yW (fun x0 x1 => Value.tuple #[.bool x0, .bool x1]) e296 e297), hw.drop 4⟩
  refine xA 153 rfl rfl rfl ?_
  refine xA 153 rfl rfl rfl ?_
  refine xU 151 rfl rfl ?_
  refine tq (qO rfl rfl) ?_
  refine tq (qO rfl rfl) ?_
  refine tq (qD rfl) ?_
  refine tq (qD rfl) ?_
  refine vD <| qC <| qV ?_
  refine kL (.inl rfl) rfl rfl rfl ?_
  have e298 : (false : Bool) = (qL s top c).1 := by (have t_ := xF (l := c.args) (by assumption) (by assumption); rw [t_] at hi2 hi3; have p0_ := kV hi3 hx286; rw [xO]; unfold jK; grind [yE])
  have e299 : (false : Bool) = (qL s top c).2 := by (have t_ := xF (l := c.args) (by assumption) (by assumption); rw [t_] at hi2 hi3; have p0_ := kV hi3 hx286; rw [xO]; unfold jK; grind [yE])
  exact fun w hw => ⟨congrArg Ending.returned (yW (fun x0 x1 => Value.tuple #[.bool x0, .bool x1]) e298 e299), hw.drop 4⟩
  refine xA 140 rfl rfl rfl ?_
  refine tq (qO rfl rfl) ?_
  refine tq (qG rfl) ?_
  refine xA 143 rfl rfl rfl ?_
  refine xA 143 rfl rfl rfl ?_
  refine xA 143 rfl rfl rfl ?_
  refine tq (qO rfl rfl) ?_
  refine tq (qG rfl) ?_
  have hb302 : 0 < f.length := by first | omega | (rw [hi2, List.length_map, xS, List.length_take]; grind) | (rw [hi3, List.length_map, xS, List.length_take]; grind)
  obtain ⟨x300, hx301⟩ : ∃ x, f[0]? = some x := ⟨_, List.getElem?_eq_getElem hb302⟩
  obtain ⟨c303, hr304, hc305⟩ := Kd.reps_get1 rfl hv24 hx301
  cases (show _ = _ from id hr304)
  refine tq (vR (i := 0) 0 rfl rfl rfl sL hb302) ?_
  refine tq (hC 0 rfl rfl ld4 hc305) ?_
  refine tq (qG rfl) ?_
  refine vY 151 rfl (fun h307 => ?_) (fun h307 => ?_)
  refine xA 151 rfl rfl rfl ?_
  refine xA 151 rfl rfl rfl ?_
  refine gT 153 rfl rfl rfl ?_
  refine gT 153 rfl rfl rfl ?_
  refine xA 151 rfl rfl rfl ?_
  refine tq (qR rfl rfl) ?_
  refine tq (qD rfl) ?_
  refine tq (qD rfl) ?_
  refine vD <| qC <| qV ?_
  refine kL (.inl rfl) rfl rfl rfl ?_
  have e308 : (false : Bool) = (qL s top c).1 := by (have t_ := xF (l := c.args) (by assumption) (by assumption); rw [t_] at hi2 hi3; have p0_ := kV hi3 hx301; rw [xO]; unfold jK; grind [yE])
  have e309 : (true : Bool) = (qL s top c).2 := by (have t_ := xF (l := c.args) (by assumption) (by assumption); rw [t_] at hi2 hi3; have p0_ := kV hi3 hx301; rw [xO]; unfold jK; grind [yE])
  exact fun w hw => ⟨congrArg Ending.returned (yW (fun x0 x1 => Value.tuple #[.bool x0, .bool x1]) e308 e309), hw.drop 4⟩
  refine xU 151 rfl rfl ?_
  refine tq (qG rfl) ?_
  refine xU 151 rfl rfl ?_
  refine tq (qG rfl) ?_
  refine yI 153 rfl (fun h310 => ?_) (fun h310 => ?_)
  refine xU 153 rfl rfl ?_
  refine tq (qG rfl) ?_
  refine xU 153 rfl rfl ?_
  refine tq (wJ rfl) ?_
  refine xU 151 rfl rfl ?_
  refine tq (qR rfl rfl) ?_
  refine tq (qO rfl rfl) ?_
  refine tq (qD rfl) ?_
  refine tq (qD rfl) ?_
  refine vD <| qC <| qV ?_
  refine kL (.inl rfl) rfl rfl rfl ?_
  have e311 : (false : Bool) = (qL s top c).1 := by (have t_ := xF (l := c.args) (by assumption) (by assumption); rw [t_] at hi2 hi3; have p0_ := kV hi3 hx301; rw [xO]; unfold jK; grind [yE])
  have e312 : (!top : Bool) = (qL s top c).2 := by (have t_ := xF (l := c.args) (by assumption) (by assumption); rw [t_] at hi2 hi3; have p0_ := kV hi3 hx301; rw [xO]; unfold jK; grind [yE])
  exact fun w hw => ⟨congrArg Ending.returned (yW (fun x0 x1 => Value.tuple #[.bool x0, .bool x1]) e311 e312), hw.drop 4⟩
  refine xA 153 rfl rfl rfl ?_
  refine xA 153 rfl rfl rfl ?_
  refine xU 151 rfl rfl ?_
  refine tq (qO rfl rfl) ?_
  refine tq (qO rfl rfl) ?_
  refine tq (qD rfl) ?_
  refine tq (qD rfl) ?_
  refine vD <| qC <| qV ?_
  refine kL (.inl rfl) rfl rfl rfl ?_
  have e313 : (false : Bool) = (qL s top c).1 := by (have t_ := xF (l := c.args) (by assumption) (by assumption); rw [t_] at hi2 hi3; have p0_ := kV hi3 hx301; rw [xO]; unfold jK; grind [yE])
  have e314 : (false : Bool) = (qL s top c).2 := by (have t_ := xF (l := c.args) (by assumption) (by assumption); rw [t_] at hi2 hi3; have p0_ := kV hi3 hx301; rw [xO]; unfold jK; grind [yE])
  exact fun w hw => ⟨congrArg Ending.returned (yW (fun x0 x1 => Value.tuple #[.bool x0, .bool x1]) e313 e314), hw.drop 4⟩
theorem yP {R : RO} {G : List Res} {w : World} {c_c : List Value} (c : Concept) {c_s : List Value} (s : Sig) (top : Bool) (hr_c : kConcept.rep R c c_c) (hr_s : kSig.rep R s c_s) (hwc : wfC c = true) (hw : Own w R (G)) :
    Calls Tryz.prog 30 [.agg c_c.toArray, .agg c_s.toArray, .bool top].toArray w (kK R G (.tuple #[.bool ((qL s top c).1), .bool ((qL s top c).2)])) := uR _ c s top hr_c hr_s hwc rfl hw



theorem BaseOk.inclW {b : Base} (h : BaseOk b) {i : Nat} {x : Incl} (hx : b.incls[i]? = some x) : wfC x.sub = true ∧ wfC x.sup = true :=
  ⟨iC _ _ _ rfl (h.concepts _ (kE hx).1).2.2, iC _ _ _ rfl (h.concepts _ (kE hx).2).2.2⟩
theorem BaseOk.factW {b : Base} (h : BaseOk b) {i : Nat} {x : Fact} (hx : b.facts[i]? = some x) : wfC x.con = true :=
  iC _ _ _ rfl (h.concepts _ (wB hx)).2.2
def kD (b : Base) (k : Nat) (s : Sig) (top : Bool) : Bool :=
  match b.incls[k]? with
  | some x => (qL s top x.sub).1 || (qL s top x.sup).2
  | none => match b.roles[k - b.incls.length]? with
    | some x => if top then !decide (x.sup / 2 ∈ s.roles) else !decide (x.sub / 2 ∈ s.roles)
    | none => match b.facts[k - b.incls.length - b.roles.length]? with
      | some x => (qL s top x.con).2
      | none => match b.links[k - b.incls.length - b.roles.length - b.facts.length]? with
        | some x => top && !decide (x.role ∈ s.roles)
        | none => false

theorem aO {R : RO} {G : List Res} {w : World} {c_b : List Value} (b : Base) (k : Int) {c_s : List Value} (s : Sig) (top : Bool) (hr_b : kBase.rep R b c_b) (hi_k : i64 k) (hr_s : kSig.rep R s c_s) (hB : BaseOk b) (hk : 0 ≤ k ∧ k < xT b) (hw : Own w R (G)) :
    Calls Tryz.prog 27 [.agg c_b.toArray, .int .i64 k, .agg c_s.toArray, .bool top].toArray w (kK R G (.bool (kD b k.toNat s top))) := by
 obtain ⟨c1, A3, d4, A6, d7, A9, d10, A12, d13, rfl, hr2, hs5, hs8, hs11, hs14⟩ := id hr_b
 have z27 := hs5.size
 unfold big at z27
 have z28 := hs8.size
 unfold big at z28
 have z29 := hs11.size
 unfold big at z29
 have z30 := hs14.size
 unfold big at z30
 obtain ⟨A15, d16, A19, d20, A23, d24, rfl, hs17, hs21, hs25⟩ := id hr2
 have z18 := hs17.size
 unfold big at z18
 have z22 := hs21.size
 unfold big at z22
 have z26 := hs25.size
 unfold big at z26
 unfold i64 at hi_k
 obtain ⟨A31, d32, A35, d36, rfl, hs33, hs37⟩ := id hr_s
 have z34 := hs33.size
 unfold big at z34
 have z38 := hs37.size
 unfold big at z38
 unfold xT at hk
 refine xH (vs := [.agg #[.slice A15 b.names.concepts.length d16, .slice A19 b.names.roles.length d20, .slice A23 b.names.inds.length d24, .slice A3 b.incls.length d4, .slice A6 b.roles.length d7, .slice A9 b.facts.length d10, .slice A12 b.links.length d13], .int .i64 k, .agg #[.slice A31 s.concepts.length d32, .slice A35 s.roles.length d36], .bool top]) Tryz.func27 rfl rfl rfl ?_ hw
 refine qE <| qA ?_
 refine qW (l := [.slice A15 b.names.concepts.length d16, .slice A19 b.names.roles.length d20, .slice A23 b.names.inds.length d24, .slice A3 b.incls.length d4, .slice A6 b.roles.length d7, .slice A9 b.facts.length d10, .slice A12 b.links.length d13]) rfl rfl fun b39 => ?_
 refine qW (l := [.slice A31 s.concepts.length d32, .slice A35 s.roles.length d36]) rfl rfl fun b40 => ?_
 refine tl (qD rfl) ?_
 refine qB <| qC <| qE <| qA ?_
 refine tl (qG rfl) ?_
 refine tl (qD rfl) ?_
 refine qB <| qC <| qE <| qE <| qA ?_
 refine tl (qG rfl) ?_
 refine tl (qH 3 rfl yK rfl) ?_
 refine tl (jM 1 rfl fG rfl rfl) ?_
 refine tl (jJ rfl eS) ?_
 refine tl (jR rfl rfl rfl) ?_
 refine qB <| qC ?_
 refine qP 21 rfl (fun h41 => ?_) (fun h41 => ?_)
 refine xE rfl ?_
 refine qE ?_
 refine wG mixed (by kernel_rfl) ?_
 refine tq (qH 3 rfl yK rfl) ?_
 refine tq (jM 1 rfl fG rfl rfl) ?_
 refine tq (qG rfl) ?_
 have hb47 : 0 ≤ k ∧ (k).toNat < b.incls.length := by omega
 obtain ⟨x42, hx43⟩ : ∃ x, b.incls[(k).toNat]? = some x := ⟨_, List.getElem?_eq_getElem hb47.2⟩
 obtain ⟨c44, hr45, ha46⟩ := hs5.get _ x42 hx43
 obtain ⟨c48, c49, rfl, hr50, hr51⟩ := id hr45
 obtain ⟨A52, d53, rfl, i54, i55, hs56⟩ := qM hr50
 unfold i64 at i54 i55
 have z57 := hs56.size
 unfold big at z57
 obtain ⟨A58, d59, rfl, i60, i61, hs62⟩ := qM hr51
 unfold i64 at i60 i61
 have z63 := hs62.size
 unfold big at z63
 have hf64 := hB.inclW hx43
 refine tq (zH hs5 rfl rfl rfl eS hb47.1 hb47.2) ?_
 refine tq (qH _ rfl lS rfl) ?_
 refine tq (jA 0 [.int .i64 x42.sub.op, .int .i64 x42.sub.n, .slice A52 x42.sub.args.length d53] ha46 rfl vU rfl rfl) ?_
 refine tq (qQ 0 [.slice A31 s.concepts.length d32, .slice A35 s.roles.length d36] rfl yM rfl rfl) ?_
 refine tq (qG rfl) ?_
 refine gP ca30 rfl (fun w hw => yP x42.sub s top hr50 hr_s (by first | assumption | grind) hw) rfl ?_
 refine tq (qG rfl) ?_
 refine tq (jG rfl rfl) ?_
 refine tq (jG rfl rfl) ?_
 refine tq (qD rfl) ?_
 refine tq (qD rfl) ?_
 refine vD <| qC <| qE ?_
 refine wG mixed (by kernel_rfl) ?_
 refine tq (qH 3 rfl yK rfl) ?_
 refine tq (jM 1 rfl fG rfl rfl) ?_
 refine tq (qG rfl) ?_
 have hb70 : 0 ≤ k ∧ (k).toNat < b.incls.length := by omega
 obtain ⟨x65, hx66⟩ : ∃ x, b.incls[(k).toNat]? = some x := ⟨_, List.getElem?_eq_getElem hb70.2⟩
 obtain ⟨c67, hr68, ha69⟩ := hs5.get _ x65 hx66
 obtain ⟨c71, c72, rfl, hr73, hr74⟩ := id hr68
 obtain ⟨A75, d76, rfl, i77, i78, hs79⟩ := qM hr73
 unfold i64 at i77 i78
 have z80 := hs79.size
 unfold big at z80
 obtain ⟨A81, d82, rfl, i83, i84, hs85⟩ := qM hr74
 unfold i64 at i83 i84
 have z86 := hs85.size
 unfold big at z86
 have hf87 := hB.inclW hx66
 refine tq (zH hs5 rfl rfl rfl eS hb70.1 hb70.2) ?_
 refine tq (qH _ rfl lT rfl) ?_
 refine tq (jA 3 [.int .i64 x65.sup.op, .int .i64 x65.sup.n, .slice A81 x65.sup.args.length d82] ha69 rfl vU rfl rfl) ?_
 refine tq (qQ 0 [.slice A31 s.concepts.length d32, .slice A35 s.roles.length d36] rfl yM rfl rfl) ?_
 refine tq (qG rfl) ?_
 refine gP ca30 rfl (fun w hw => yP x65.sup s top hr74 hr_s (by first | assumption | grind) hw) rfl ?_
 refine tq (qG rfl) ?_
 refine tq (jG rfl rfl) ?_
 refine tq (jG rfl rfl) ?_
 refine tq (qD rfl) ?_
 refine tq (qD rfl) ?_
 refine vD <| qC ?_
 refine vH [(0, .agg #[.slice A15 b.names.concepts.length d16, .slice A19 b.names.roles.length d20, .slice A23 b.names.inds.length d24, .slice A3 b.incls.length d4, .slice A6 b.roles.length d7, .slice A9 b.facts.length d10, .slice A12 b.links.length d13]), (1, .int .i64 k), (2, .agg #[.slice A31 s.concepts.length d32, .slice A35 s.roles.length d36]), (3, .bool top), (4, .pointer (some ⟨b39, 0, none⟩)), (6, .pointer (some ⟨b40, 0, none⟩)), (9, .int .i64 k), (21, .bool true), (8, .bool (decide ((((qL s top x42.sub).1) = true) ∨ (((qL s top x65.sup).2) = true))))] (.blk b40 [.slice A31 s.concepts.length d32, .slice A35 s.roles.length d36] 33 :: .blk b39 [.slice A15 b.names.concepts.length d16, .slice A19 b.names.roles.length d20, .slice A23 b.names.inds.length d24, .slice A3 b.incls.length d4, .slice A6 b.roles.length d7, .slice A9 b.facts.length d10, .slice A12 b.links.length d13] 30 :: G) (fun _ => True) (fun K hK88 hE89 => ?_) ?_
 refine qA ?_
 refine tl (qG rfl) ?_
 refine tl (qG rfl) ?_
 refine kQ 47 rfl (fun h90 => ?_) (fun h90 => ?_)
 refine qF 47 rfl rfl rfl ?_
 refine tl (qR rfl rfl) ?_
 refine tl (qD rfl) ?_
 refine qB ?_
 exact xW hK88 (.refl _) (trivial) ⟨rfl, rfl, rfl, rfl, rfl, rfl, rfl, rfl, show some (Value.bool true) = some (Value.bool (decide ((((qL s top x42.sub).1) = true) ∨ (((qL s top x65.sup).2) = true)))) by first | (simp [h90]; done) | grind | (simp [h90] <;> omega), trivial⟩ (fun w hw => hw)
 refine qJ 47 rfl rfl ?_
 refine tl (qG rfl) ?_
 refine tl (qO rfl rfl) ?_
 refine tl (qD rfl) ?_
 refine qB ?_
 exact xW hK88 (.refl _) (trivial) ⟨rfl, rfl, rfl, rfl, rfl, rfl, rfl, rfl, show some (Value.bool ((qL s top x65.sup).2)) = some (Value.bool (decide ((((qL s top x42.sub).1) = true) ∨ (((qL s top x65.sup).2) = true)))) by first | (simp [h90]; done) | grind | (simp [h90] <;> omega), trivial⟩ (fun w hw => hw)
 refine fun R92 hle93 hj91 => jH hle93 ?_
 refine qV <| qI ?_
 refine xB (.inl rfl) rfl rfl ?_
 have e94 : (decide ((((qL s top x42.sub).1) = true) ∨ (((qL s top x65.sup).2) = true)) : Bool) = kD b k.toNat s top := by (have q_ := hx43; have q2_ := hx66; rw [q_] at q2_; cases q2_; unfold kD; rw [q_]; grind)
 exact fun w hw => ⟨congrArg Ending.returned (congrArg (fun x0 => Value.bool x0) e94), hw.drop 2⟩
 refine xV rfl ?_
 refine qZ <| qC <| qE <| qA ?_
 refine tl (qG rfl) ?_
 refine tl (qH 3 rfl yK rfl) ?_
 refine tl (jM 1 rfl fG rfl rfl) ?_
 refine tl (jJ rfl eS) ?_
 refine tl (bV rfl rfl (by omega) (by omega)) ?_
 refine tl (qD rfl) ?_
 refine qB <| qC <| qE <| qE <| qA ?_
 refine tl (qG rfl) ?_
 refine tl (qH 4 rfl yL rfl) ?_
 refine tl (jM 1 rfl fH rfl rfl) ?_
 refine tl (jJ rfl eU) ?_
 refine tl (jR rfl rfl rfl) ?_
 refine qB <| qC ?_
 refine qP 59 rfl (fun h95 => ?_) (fun h95 => ?_)
 refine xE rfl ?_
 refine qE <| qE <| qA ?_
 refine tl (qG rfl) ?_
 refine qB <| qC ?_
 refine vI 60 rfl (fun h96 => ?_) (fun h96 => ?_)
 refine xE rfl ?_
 refine qE ?_
 refine wG mixed (by kernel_rfl) ?_
 refine tq (qH 1 rfl pW rfl) ?_
 refine tq (jM 0 rfl iA rfl rfl) ?_
 refine tq (qH 4 rfl yL rfl) ?_
 refine tq (jM 1 rfl fH rfl rfl) ?_
 refine tq (qG rfl) ?_
 have hb102 : 0 ≤ k - (b.incls.length : Int) ∧ (k - (b.incls.length : Int)).toNat < b.roles.length := by omega
 obtain ⟨x97, hx98⟩ : ∃ x, b.roles[(k - (b.incls.length : Int)).toNat]? = some x := ⟨_, List.getElem?_eq_getElem hb102.2⟩
 obtain ⟨c99, hr100, ha101⟩ := hs8.get _ x97 hx98
 obtain ⟨rfl, i103, i104⟩ := id hr100
 unfold i64 at i103
 unfold i64 at i104
 have hf105 := hB.role hx98
 refine tq (zH hs8 rfl rfl rfl eU hb102.1 hb102.2) ?_
 refine tq (qH _ rfl lV rfl) ?_
 refine tq (yN 1 ha101 rfl ld3 rfl rfl) ?_
 refine tq (dR rfl rfl (by omega) (by omega)) ?_
 refine gP qJ4 rfl (fun w hw => kB s.roles (x97.sup / 2) hs37 (by unfold i64; omega) hw) rfl ?_
 refine tq (wZ rfl) ?_
 refine tq (qD rfl) ?_
 refine vD <| qC <| qV <| qI <| qI ?_
 refine xB (.inl rfl) rfl rfl ?_
 have e106 : (decide (¬ ((x97.sup / 2) ∈ s.roles)) : Bool) = kD b k.toNat s top := by (have n1_ : b.incls[k.toNat]? = none := List.getElem?_eq_none (by omega); have q_ := hx98; rw [show (k - (b.incls.length : Int)).toNat = k.toNat - b.incls.length by omega] at q_; unfold kD; rw [n1_]; simp only []; rw [q_]; grind)
 exact fun w hw => ⟨congrArg Ending.returned (congrArg (fun x0 => Value.bool x0) e106), hw.drop 2⟩
 refine xV rfl ?_
 refine qZ <| qC <| qE ?_
 refine wG mixed (by kernel_rfl) ?_
 refine tq (qH 1 rfl pW rfl) ?_
 refine tq (jM 0 rfl iA rfl rfl) ?_
 refine tq (qH 4 rfl yL rfl) ?_
 refine tq (jM 1 rfl fH rfl rfl) ?_
 refine tq (qG rfl) ?_
 have hb112 : 0 ≤ k - (b.incls.length : Int) ∧ (k - (b.incls.length : Int)).toNat < b.roles.length := by omega
 obtain ⟨x107, hx108⟩ : ∃ x, b.roles[(k - (b.incls.length : Int)).toNat]? = some x := ⟨_, List.getElem?_eq_getElem hb112.2⟩
 obtain ⟨c109, hr110, ha111⟩ := hs8.get _ x107 hx108
 obtain ⟨rfl, i113, i114⟩ := id hr110
 unfold i64 at i113
 unfold i64 at i114
 have hf115 := hB.role hx108
 refine tq (zH hs8 rfl rfl rfl eU hb112.1 hb112.2) ?_
 refine tq (qH _ rfl lU rfl) ?_
 refine tq (yN 0 ha111 rfl ld3 rfl rfl) ?_
 refine tq (dR rfl rfl (by omega) (by omega)) ?_
 refine gP qJ4 rfl (fun w hw => kB s.roles (x107.sub / 2) hs37 (by unfold i64; omega) hw) rfl ?_
 refine tq (wZ rfl) ?_
 refine tq (qD rfl) ?_
 refine vD <| qC <| qV <| qI ?_
 refine xB (.inl rfl) rfl rfl ?_
 have e116 : (decide (¬ ((x107.sub / 2) ∈ s.roles)) : Bool) = kD b k.toNat s top := by (have n1_ : b.incls[k.toNat]? = none := List.getElem?_eq_none (by omega); have q_ := hx108; rw [show (k - (b.incls.length : Int)).toNat = k.toNat - b.incls.length by omega] at q_; unfold kD; rw [n1_]; simp only []; rw [q_]; grind)
 exact fun w hw => ⟨congrArg Ending.returned (congrArg (fun x0 => Value.bool x0) e116), hw.drop 2⟩
 refine xV rfl ?_
 refine qZ <| qC <| qE <| qA ?_
 refine tl (qG rfl) ?_
 refine tl (qH 4 rfl yL rfl) ?_
 refine tl (jM 1 rfl fH rfl rfl) ?_
 refine tl (jJ rfl eU) ?_
 refine tl (bV rfl rfl (by omega) (by omega)) ?_
 refine tl (qD rfl) ?_
 refine qB <| qC <| qE <| qE <| qA ?_
 refine tl (qG rfl) ?_
 refine tl (qH 5 rfl zB rfl) ?_
 refine tl (jM 1 rfl iZ rfl rfl) ?_
 refine tl (jJ rfl fI) ?_
 refine tl (jR rfl rfl rfl) ?_
 refine qB <| qC ?_
 refine qP 92 rfl (fun h117 => ?_) (fun h117 => ?_)
 refine xE rfl ?_
 refine qE ?_
 refine wG mixed (by kernel_rfl) ?_
 refine tq (qH 5 rfl zB rfl) ?_
 refine tq (jM 1 rfl iZ rfl rfl) ?_
 refine tq (qG rfl) ?_
 have hb123 : 0 ≤ (k - (b.incls.length : Int)) - (b.roles.length : Int) ∧ ((k - (b.incls.length : Int)) - (b.roles.length : Int)).toNat < b.facts.length := by omega
 obtain ⟨x118, hx119⟩ : ∃ x, b.facts[((k - (b.incls.length : Int)) - (b.roles.length : Int)).toNat]? = some x := ⟨_, List.getElem?_eq_getElem hb123.2⟩
 obtain ⟨c120, hr121, ha122⟩ := hs11.get _ x118 hx119
 obtain ⟨c124, rfl, i125, hr126⟩ := id hr121
 unfold i64 at i125
 obtain ⟨A127, d128, rfl, i129, i130, hs131⟩ := qM hr126
 unfold i64 at i129 i130
 have z132 := hs131.size
 unfold big at z132
 have hf133 := hB.factW hx119
 refine tq (zH hs11 rfl rfl rfl fI hb123.1 hb123.2) ?_
 refine tq (qH _ rfl lR rfl) ?_
 refine tq (jA 1 [.int .i64 x118.con.op, .int .i64 x118.con.n, .slice A127 x118.con.args.length d128] ha122 rfl vU rfl rfl) ?_
 refine tq (qQ 0 [.slice A31 s.concepts.length d32, .slice A35 s.roles.length d36] rfl yM rfl rfl) ?_
 refine tq (qG rfl) ?_
 refine gP ca30 rfl (fun w hw => yP x118.con s top hr126 hr_s (by first | assumption | grind) hw) rfl ?_
 refine tq (qG rfl) ?_
 refine tq (jG rfl rfl) ?_
 refine tq (jG rfl rfl) ?_
 refine tq (qD rfl) ?_
 refine tq (qD rfl) ?_
 refine vD <| qC <| qE <| qA ?_
 refine tl (qG rfl) ?_
 refine tl (qD rfl) ?_
 refine qB <| qC <| qV <| qI ?_
 refine xB (.inl rfl) rfl rfl ?_
 have e134 : ((qL s top x118.con).2 : Bool) = kD b k.toNat s top := by (have n1_ : b.incls[k.toNat]? = none := List.getElem?_eq_none (by omega); have n2_ : b.roles[k.toNat - b.incls.length]? = none := List.getElem?_eq_none (by omega); have q_ := hx119; rw [show (k - (b.incls.length : Int) - (b.roles.length : Int)).toNat = k.toNat - b.incls.length - b.roles.length by omega] at q_; unfold kD; rw [n1_]; simp only []; rw [n2_]; simp only []; rw [q_])
 exact fun w hw => ⟨congrArg Ending.returned (congrArg (fun x0 => Value.bool x0) e134), hw.drop 2⟩
 refine xV rfl ?_
 refine qZ <| qC <| qE ?_
 refine wG mixed (by kernel_rfl) ?_
 refine tq (qG rfl) ?_
 refine tq (qG rfl) ?_
 refine vY 107 rfl (fun h135 => ?_) (fun h135 => ?_)
 refine xU 107 rfl rfl ?_
 refine tq (qH 1 rfl pW rfl) ?_
 refine xU 107 rfl rfl ?_
 refine tq (jM 0 rfl iA rfl rfl) ?_
 refine xU 107 rfl rfl ?_
 refine tq (qH 6 rfl pV rfl) ?_
 refine xU 107 rfl rfl ?_
 refine tq (jM 1 rfl rK rfl rfl) ?_
 refine xU 107 rfl rfl ?_
 refine tq (qG rfl) ?_
 refine xU 107 rfl rfl ?_
 refine tq (qH 5 rfl zB rfl) ?_
 refine xU 107 rfl rfl ?_
 refine tq (jM 1 rfl iZ rfl rfl) ?_
 refine xU 107 rfl rfl ?_
 refine tq (jJ rfl fI) ?_
 refine xU 107 rfl rfl ?_
 refine tq (bV rfl rfl (by omega) (by omega)) ?_
 refine xU 107 rfl rfl ?_
 have hb141 : 0 ≤ ((k - (b.incls.length : Int)) - (b.roles.length : Int)) - (b.facts.length : Int) ∧ (((k - (b.incls.length : Int)) - (b.roles.length : Int)) - (b.facts.length : Int)).toNat < b.links.length := by omega
 obtain ⟨x136, hx137⟩ : ∃ x, b.links[(((k - (b.incls.length : Int)) - (b.roles.length : Int)) - (b.facts.length : Int)).toNat]? = some x := ⟨_, List.getElem?_eq_getElem hb141.2⟩
 obtain ⟨c138, hr139, ha140⟩ := hs14.get _ x136 hx137
 obtain ⟨rfl, i142, i143, i144⟩ := id hr139
 unfold i64 at i142
 unfold i64 at i143
 unfold i64 at i144
 have hf145 := hB.link hx137
 refine tq (zH hs14 rfl rfl rfl rA hb141.1 hb141.2) ?_
 refine xU 107 rfl rfl ?_
 refine tq (qH _ rfl cS rfl) ?_
 refine xU 107 rfl rfl ?_
 refine tq (yN 0 ha140 rfl ld3 rfl rfl) ?_
 refine xU 107 rfl rfl ?_
 refine gP qJ4 rfl (fun w hw => kB s.roles x136.role hs37 (by unfold i64; omega) hw) rfl ?_
 refine xU 107 rfl rfl ?_
 refine tq (wZ rfl) ?_
 refine tq (qR rfl rfl) ?_
 refine tq (qD rfl) ?_
 refine vD <| qC <| qV ?_
 refine xB (.inl rfl) rfl rfl ?_
 have e146 : (decide (¬ (x136.role ∈ s.roles)) : Bool) = kD b k.toNat s top := by (have n1_ : b.incls[k.toNat]? = none := List.getElem?_eq_none (by omega); have n2_ : b.roles[k.toNat - b.incls.length]? = none := List.getElem?_eq_none (by omega); have n3_ : b.facts[k.toNat - b.incls.length - b.roles.length]? = none := List.getElem?_eq_none (by omega); have q_ := hx137; rw [show (k - (b.incls.length : Int) - (b.roles.length : Int) - (b.facts.length : Int)).toNat = k.toNat - b.incls.length - b.roles.length - b.facts.length by omega] at q_; unfold kD; rw [n1_]; simp only []; rw [n2_]; simp only []; rw [n3_]; simp only []; rw [q_]; grind)
 exact fun w hw => ⟨congrArg Ending.returned (congrArg (fun x0 => Value.bool x0) e146), hw.drop 2⟩
 refine xA 107 rfl rfl rfl ?_
 refine xA 107 rfl rfl rfl ?_
 refine xA 107 rfl rfl rfl ?_
 refine xA 107 rfl rfl rfl ?_
 refine xA 107 rfl rfl rfl ?_
 refine xA 107 rfl rfl rfl ?_
 refine xA 107 rfl rfl rfl ?_
 refine xA 107 rfl rfl rfl ?_
 refine xA 107 rfl rfl rfl ?_
 refine xA 107 rfl rfl rfl ?_
 refine xA 107 rfl rfl rfl ?_
 refine xA 107 rfl rfl rfl ?_
 refine xA 107 rfl rfl rfl ?_
 refine xA 107 rfl rfl rfl ?_
 refine tq (qO rfl rfl) ?_
 refine tq (qD rfl) ?_
 refine vD <| qC <| qV ?_
 refine xB (.inl rfl) rfl rfl ?_
 have e147 : (false : Bool) = kD b k.toNat s top := by (have n1_ : b.incls[k.toNat]? = none := List.getElem?_eq_none (by omega); have n2_ : b.roles[k.toNat - b.incls.length]? = none := List.getElem?_eq_none (by omega); have n3_ : b.facts[k.toNat - b.incls.length - b.roles.length]? = none := List.getElem?_eq_none (by omega); unfold kD; rw [n1_]; simp only []; rw [n2_]; simp only []; rw [n3_]; simp only []; cases b.links[k.toNat - b.incls.length - b.roles.length - b.facts.length]? <;> grind)
 exact fun w hw => ⟨congrArg Ending.returned (congrArg (fun x0 => Value.bool x0) e147), hw.drop 2⟩



mutual
def inC : Concept → Int → Prop
  | .mk op n args, x => (op = 0 ∧ x = n) ∨ inCs args x
def inCs : List Concept → Int → Prop
  | [], _ => False
  | c :: cs, x => inC c x ∨ inCs cs x
end
mutual
def inR : Concept → Int → Prop
  | .mk op n args, x => ((op = 6 ∨ op = 7) ∧ x = n / 2) ∨ inRs args x
def inRs : List Concept → Int → Prop
  | [], _ => False
  | c :: cs, x => inR c x ∨ inRs cs x
end
mutual
theorem oA : ∀ (c : Concept) (s : List Int × List Int) (x : Int), (x ∈ (kS c s).1 ↔ x ∈ s.1 ∨ inC c x) ∧ (x ∈ (kS c s).2 ↔ x ∈ s.2 ∨ inR c x)
  | .mk op n args, s, x => by
    rw [kS, inC, inR]
    have h := oB args (if op = 0 then wS s.1 n else s.1, if op = 6 ∨ op = 7 then wS s.2 (n / 2) else s.2) x
    have h1 : x ∈ (if op = 0 then wS s.1 n else s.1) ↔ x ∈ s.1 ∨ (op = 0 ∧ x = n) := by split <;> simp [insI_mem, *]
    have h2 : x ∈ (if op = 6 ∨ op = 7 then wS s.2 (n / 2) else s.2) ↔ x ∈ s.2 ∨ ((op = 6 ∨ op = 7) ∧ x = n / 2) := by split <;> simp [insI_mem, *]
    rw [h.1, h.2]
    dsimp only
    rw [h1, h2]
    exact ⟨or_assoc, or_assoc⟩
theorem oB : ∀ (l : List Concept) (s : List Int × List Int) (x : Int), (x ∈ (zS l s).1 ↔ x ∈ s.1 ∨ inCs l x) ∧ (x ∈ (zS l s).2 ↔ x ∈ s.2 ∨ inRs l x)
  | [], s, x => by simp [zS, inCs, inRs]
  | c :: cs, s, x => by
    rw [zS, inCs, inRs]
    have h := oB cs (kS c s) x
    have h1 := oA c s x
    rw [h.1, h.2, h1.1, h1.2]
    exact ⟨or_assoc, or_assoc⟩
end
def axC (b : Base) (k : Nat) (x : Int) : Prop := x ∈ (wQ b k ⟨[], []⟩).concepts
def axR (b : Base) (k : Nat) (x : Int) : Prop := x ∈ (wQ b k ⟨[], []⟩).roles
theorem gR (s : Sig) (c : Concept) (x : Int) : (x ∈ (zO s c).concepts ↔ x ∈ s.concepts ∨ inC c x) ∧ (x ∈ (zO s c).roles ↔ x ∈ s.roles ∨ inR c x) := oA c (s.concepts, s.roles) x
theorem cV (b : Base) (k : Nat) (s : Sig) (x : Int) : (x ∈ (wQ b k s).concepts ↔ x ∈ s.concepts ∨ axC b k x) ∧ (x ∈ (wQ b k s).roles ↔ x ∈ s.roles ∨ axR b k x) := by
  unfold axC axR wQ
  split
  · simp only [(gR _ _ _).1, (gR _ _ _).2]; simp [or_assoc]
  · split
    · simp [insI_mem, or_assoc]
    · split
      · simp only [(gR _ _ _).1, (gR _ _ _).2]; simp
      · split
        · simp [insI_mem]
        · simp
theorem gK (b : Base) (x : Int) : ∀ (l : List Int) (s : Sig), (x ∈ (jP b l s).concepts ↔ x ∈ s.concepts ∨ ∃ k ∈ l, axC b k.toNat x) ∧ (x ∈ (jP b l s).roles ↔ x ∈ s.roles ∨ ∃ k ∈ l, axR b k.toNat x)
  | [], s => by simp [jP]
  | k :: l, s => by
    have h := gK b x l (wQ b k.toNat s)
    have e : jP b (k :: l) s = jP b l (wQ b k.toNat s) := rfl
    rw [e, h.1, h.2, (cV b k.toNat s x).1, (cV b k.toNat s x).2]
    constructor <;> simp [or_assoc]
def Sig.le (s t : Sig) : Prop := (∀ x ∈ s.concepts, x ∈ t.concepts) ∧ (∀ x ∈ s.roles, x ∈ t.roles)
theorem oC {b : Base} {l m : List Int} {s t : Sig} (h : ∀ x ∈ l, x ∈ m) (hs : s.le t) : (jP b l s).le (jP b m t) := by
  constructor
  · intro x hx
    rw [(gK b x l s).1] at hx
    rw [(gK b x m t).1]
    rcases hx with hx | ⟨k, hk, hx⟩
    · exact .inl (hs.1 x hx)
    · exact .inr ⟨k, h k hk, hx⟩
  · intro x hx
    rw [(gK b x l s).2] at hx
    rw [(gK b x m t).2]
    rcases hx with hx | ⟨k, hk, hx⟩
    · exact .inl (hs.2 x hx)
    · exact .inr ⟨k, h k hk, hx⟩
def pleB (p q : Bool × Bool) : Prop := (p.1 = true → q.1 = true) ∧ (p.2 = true → q.2 = true)
theorem oD {l m : List (Bool × Bool)} (hlen : l.length = m.length) (h : ∀ (i : Nat) p q, l[i]? = some p → m[i]? = some q → pleB p q) (i : Nat) : (shE l i = true → shE m i = true) ∧ (shF l i = true → shF m i = true) := by
  unfold shE shF
  cases hl : l[i]? with
  | none => simp
  | some p =>
    have : i < m.length := by have := (List.getElem?_eq_some_iff.1 hl).1; omega
    have hm : m[i]? = some m[i] := List.getElem?_eq_getElem this
    rw [hm]
    exact h i p _ hl hm
theorem qE8 {s t : Sig} (hs : s.le t) (top : Bool) (op n : Int) {l m : List (Bool × Bool)} (hlen : l.length = m.length) (h : ∀ (i : Nat) p q, l[i]? = some p → m[i]? = some q → pleB p q) : pleB (jK t top op n l) (jK s top op n m) := by
  have h0 := oD hlen h 0
  have h1 := oD hlen h 1
  have hc : ¬ n ∈ t.concepts → ¬ n ∈ s.concepts := fun k k2 => k (hs.1 n k2)
  have ho : yE t op n = true → yE s op n = true := by
    unfold yE; simp only [decide_eq_true_eq]
    exact fun k => ⟨k.1, fun k2 => k.2 (hs.2 _ k2)⟩
  unfold jK pleB
  grind
mutual
theorem cW {s t : Sig} (hs : s.le t) (top : Bool) : ∀ c : Concept, pleB (qL t top c) (qL s top c)
  | .mk op n args => by
    rw [qL, qL]
    exact qE8 hs top op n (by rw [xS, xS]) (lW hs top args)
theorem lW {s t : Sig} (hs : s.le t) (top : Bool) : ∀ (l : List Concept) (i : Nat) (p q : Bool × Bool), (jL t top l)[i]? = some p → (jL s top l)[i]? = some q → pleB p q
  | [], i, p, q, h, k => by simp [jL] at h
  | c :: cs, 0, p, q, h, k => by
    simp only [jL, List.getElem?_cons_zero, Option.some.injEq] at h k
    rw [← h, ← k]; exact cW hs top c
  | c :: cs, i + 1, p, q, h, k => by
    simp only [jL, List.getElem?_cons_succ] at h k
    exact lW hs top cs i p q h k
end
theorem zK {s t : Sig} (hs : s.le t) (b : Base) (k : Nat) (top : Bool) (h : kD b k t top = true) : kD b k s top = true := by
  unfold kD at *
  split
  · rename_i x hx
    rw [hx] at h
    have h1 := cW hs top x.sub; have h2 := cW hs top x.sup
    unfold pleB at h1 h2
    simp only [Bool.or_eq_true] at h ⊢
    exact h.imp h1.1 h2.2
  · rename_i hx
    rw [hx] at h
    simp only [] at h
    split
    · rename_i x hx2
      rw [hx2] at h
      simp only [] at h
      have h1 := hs.2 (x.sup / 2); have h2 := hs.2 (x.sub / 2)
      grind
    · rename_i hx2
      rw [hx2] at h
      simp only [] at h
      split
      · rename_i x hx3
        rw [hx3] at h
        exact (cW hs top x.con).2 h
      · rename_i hx3
        rw [hx3] at h
        simp only [] at h
        split
        · rename_i x hx4
          rw [hx4] at h
          have h1 := hs.2 x.role
          grind
        · rename_i hx4
          rw [hx4] at h
          simp only [] at h
          cases h
def aP (b : Base) (l : List Int) (s : Sig) (top : Bool) (X : List Int) : Prop := ∀ i ∈ l, ¬ i ∈ X → kD b i.toNat (jP b X s) top = true
def modP (b : Base) (l : List Int) (s : Sig) (top : Bool) (i : Int) : Prop := ∀ X : List Int, aP b l s top X → i ∈ X
open Classical in
noncomputable def modL (b : Base) (l : List Int) (s : Sig) (top : Bool) : List Int := l.filter fun i => decide (modP b l s top i)
theorem cX {b : Base} {l : List Int} {s : Sig} {top : Bool} {o : List Int} {i : Int} {t : Sig} (ho : ∀ x ∈ o, modP b l s top x) (hi : i ∈ l) (ht : t.le (jP b o s)) (hn : ¬ kD b i.toNat t top = true) : modP b l s top i := by
  intro X hX
  by_cases hm : i ∈ X
  · exact hm
  · have h1 := hX i hi hm
    have h2 : (jP b o s).le (jP b X s) := oC (fun x hx => ho x hx X hX) ⟨fun _ h => h, fun _ h => h⟩
    have h3 := zK h2 b i.toNat top h1
    exact absurd (zK ht b i.toNat top h3) hn
theorem rM {b : Base} {l : List Int} {s : Sig} {top : Bool} {r : List Int} (hl : Up l) (hr : Up r) (hs : ∀ x ∈ r, x ∈ l ∧ modP b l s top x) (hc : aP b l s top r) : r = modL b l s top := by
  classical
  refine nK hr ?_ fun x => ?_
  · exact List.Pairwise.filter _ hl
  · unfold modL
    rw [List.mem_filter]
    constructor
    · intro hx; exact ⟨(hs x hx).1, by simpa using (hs x hx).2⟩
    · intro hx
      have : modP b l s top x := by simpa using hx.2
      exact this r hc

theorem ca26 : Callable Tryz.prog 26 := ⟨by kernel_rfl⟩
theorem ca27 : Callable Tryz.prog 27 := ⟨by kernel_rfl⟩

theorem eL {n : Int} : ∀ {l : List Int}, ¬ n ∈ l → (wS l n).length = l.length + 1
  | [], _ => rfl
  | x :: xs, h => by
    unfold wS
    rw [if_neg (fun e => h (by simp [e]))]
    split
    · simp
    · have := eL (l := xs) fun k => h (List.mem_cons_of_mem _ k)
      simp [this]
theorem gB : ∀ {o l : List Int}, o.Nodup → (∀ x ∈ o, x ∈ l) → o.length ≤ l.length
  | [], _, _, _ => by simp
  | x :: xs, l, h, k => by
    have h' := List.nodup_cons.1 h
    have hx : x ∈ l := k x (by simp)
    have := gB (o := xs) (l := l.erase x) h'.2 fun y hy => (List.mem_erase_of_ne (fun e : y = x => h'.1 (e ▸ hy))).2 (k y (by simp [hy]))
    rw [List.length_erase_of_mem hx] at this
    have : 0 < l.length := List.length_pos_of_mem hx
    simp only [List.length_cons]; omega
theorem fJ {l : List Int} (h : Up l) : l.Nodup := List.Pairwise.imp (fun {a b} (k : a < b) => (by omega : a ≠ b)) h
theorem uB (s : Sig) : s.le s := ⟨fun _ h => h, fun _ h => h⟩

theorem hZ {R : RO} {G : List Res} {w : World} {c_b : List Value} (b : Base) {A_l : Option Addr} {d_l : Nat} (l : List (Int)) {c_s : List Value} (s : Sig) (top : Bool) (hr_b : kBase.rep R b c_b) (hs_l : SlAt kInt R A_l l) (hr_s : kSig.rep R s c_s) (hB : BaseOk b) (hl : Up l ∧ l.length ≤ 1000 ∧ ∀ x ∈ l, 0 ≤ x ∧ x < xT b) (hb : s.concepts.length ≤ 1000 ∧ s.roles.length ≤ 1000) (hw : Own w R (G)) :
    Calls Tryz.prog 42 [.agg c_b.toArray, .slice A_l l.length d_l, .agg c_s.toArray, .bool top].toArray w (gZ R G (fun v_ R' L_ => ∃ (A_0 : Option Addr) (d_0 : Nat), v_ = (.slice A_0 ((modL b l s top).length) d_0 : Value) ∧ L_ = ([] : List Res) ∧ SlAt kInt R' A_0 (modL b l s top))) := by
 obtain ⟨c1, A3, d4, A6, d7, A9, d10, A12, d13, rfl, hr2, hs5, hs8, hs11, hs14⟩ := id hr_b
 have z27 := hs5.size
 unfold big at z27
 have z28 := hs8.size
 unfold big at z28
 have z29 := hs11.size
 unfold big at z29
 have z30 := hs14.size
 unfold big at z30
 obtain ⟨A15, d16, A19, d20, A23, d24, rfl, hs17, hs21, hs25⟩ := id hr2
 have z18 := hs17.size
 unfold big at z18
 have z22 := hs21.size
 unfold big at z22
 have z26 := hs25.size
 unfold big at z26
 have hz_l := hs_l.size
 unfold big at hz_l
 obtain ⟨A31, d32, A35, d36, rfl, hs33, hs37⟩ := id hr_s
 have z34 := hs33.size
 unfold big at z34
 have z38 := hs37.size
 unfold big at z38
 refine xH (vs := [.agg #[.slice A15 b.names.concepts.length d16, .slice A19 b.names.roles.length d20, .slice A23 b.names.inds.length d24, .slice A3 b.incls.length d4, .slice A6 b.roles.length d7, .slice A9 b.facts.length d10, .slice A12 b.links.length d13], .slice A_l l.length d_l, .agg #[.slice A31 s.concepts.length d32, .slice A35 s.roles.length d36], .bool top]) Tryz.func42 rfl rfl rfl ?_ hw
 refine qE <| qA ?_
 refine qW (l := [.slice A15 b.names.concepts.length d16, .slice A19 b.names.roles.length d20, .slice A23 b.names.inds.length d24, .slice A3 b.incls.length d4, .slice A6 b.roles.length d7, .slice A9 b.facts.length d10, .slice A12 b.links.length d13]) rfl rfl fun b39 => ?_
 refine qW (l := [.slice A31 s.concepts.length d32, .slice A35 s.roles.length d36]) rfl rfl fun b40 => ?_
 refine tl (qD rfl) ?_
 refine qB <| qC <| qE <| qA ?_
 refine cR 3 1 ?_
 have hv41 : (kInt).reps R [] [] := rfl
 refine tl (qD rfl) ?_
 refine qB <| qC <| qE <| qE <| qA ?_
 refine tl (qD rfl) ?_
 refine qB <| qC <| qX ?_
 refine jF ?_
 refine wD (fun b_ : Bool × List (Int) × Option Addr × Nat × List Value => match b_ with | (mr, o, A_o, c_o, l_o) => 2 * (l.length - o.length) + (if mr = true then 1 else 0)) (fun b_ : Bool × List (Int) × Option Addr × Nat × List Value => match b_ with | (mr, o, A_o, c_o, l_o) => [(1, .slice A_l l.length d_l), (3, .bool top), (4, .pointer (some ⟨b39, 0, none⟩)), (6, .pointer (some ⟨b40, 0, none⟩)), (8, .slice none 0 0), (10, .bool mr), (9, .slice A_o o.length c_o)]) (fun b_ : Bool × List (Int) × Option Addr × Nat × List Value => match b_ with | (mr, o, A_o, c_o, l_o) => (.vec (.slice A_o o.length c_o) o.length 3 1 l_o :: .blk b40 [.slice A31 s.concepts.length d32, .slice A35 s.roles.length d36] 33 :: .blk b39 [.slice A15 b.names.concepts.length d16, .slice A19 b.names.roles.length d20, .slice A23 b.names.inds.length d24, .slice A3 b.incls.length d4, .slice A6 b.roles.length d7, .slice A9 b.facts.length d10, .slice A12 b.links.length d13] 30 :: G)) (fun (b_ : Bool × List (Int) × Option Addr × Nat × List Value) (R_ : RO) => match b_ with | (mr, o, A_o, c_o, l_o) => (kInt).reps R_ o l_o ∧ (Up o ∧ (∀ x ∈ o, x ∈ l ∧ modP b l s top x) ∧ (mr = false → aP b l s top o))) (true, ([] : List (Int)), none, 0, []) (by repeat' constructor) (by refine ⟨hv41, ?_⟩; exact ⟨List.Pairwise.nil, by simp, fun h => by cases h⟩) (fun w hw => hw) ?_
 rintro ⟨mr, o, A_o, c_o, l_o⟩ R47 hle48 hI45 ih46
 try replace hr_b := kBase.mono _ _ _ _ hle48 hr_b
 try replace hs_l := hs_l.mono hle48
 try replace hr_s := kSig.mono _ _ _ _ hle48 hr_s
 show TC Tryz.prog _ _ _ [] [(1, .slice A_l l.length d_l), (3, .bool top), (4, .pointer (some ⟨b39, 0, none⟩)), (6, .pointer (some ⟨b40, 0, none⟩)), (8, .slice none 0 0), (10, .bool mr), (9, .slice A_o o.length c_o)] R47 (.vec (.slice A_o o.length c_o) o.length 3 1 l_o :: .blk b40 [.slice A31 s.concepts.length d32, .slice A35 s.roles.length d36] 33 :: .blk b39 [.slice A15 b.names.concepts.length d16, .slice A19 b.names.roles.length d20, .slice A23 b.names.inds.length d24, .slice A3 b.incls.length d4, .slice A6 b.roles.length d7, .slice A9 b.facts.length d10, .slice A12 b.links.length d13] 30 :: G)
 obtain ⟨hv44, hI49⟩ := hI45
 obtain ⟨ho1, ho2, ho3⟩ := hI49
 have hol := gB (fJ ho1) (fun x hx => (ho2 x hx).1)
 refine qE <| qE <| qA ?_
 refine tl (qG rfl) ?_
 refine qB <| qC ?_
 refine vI 14 rfl (fun h50 => ?_) (fun h50 => ?_)
 refine xE rfl ?_
 refine qZ <| qC <| qX <| qE <| qA ?_
 refine tl (qD rfl) ?_
 refine qB <| qC <| qE <| qA ?_
 refine tl (qQ 2 [.slice A15 b.names.concepts.length d16, .slice A19 b.names.roles.length d20, .slice A23 b.names.inds.length d24, .slice A3 b.incls.length d4, .slice A6 b.roles.length d7, .slice A9 b.facts.length d10, .slice A12 b.links.length d13] rfl pN rfl rfl) ?_
 refine tl (qG rfl) ?_
 refine tl (qQ 1 [.slice A31 s.concepts.length d32, .slice A35 s.roles.length d36] rfl yM rfl rfl) ?_
 refine xD ca26 rfl (fun w hw => uA b o s hr_b hv44 hr_s (by first | assumption | exact ⟨by omega, fun x hx => hl.2.2 x (ho2 x hx).1⟩ | omega) (by first | assumption | exact ⟨by omega, fun x hx => hl.2.2 x (ho2 x hx).1⟩ | omega) (by first | assumption | exact ⟨by omega, fun x hx => hl.2.2 x (ho2 x hx).1⟩ | omega) hw) rfl ?_
 rintro _ R52 _ hle53 ⟨A_z51_01, c_z51_01, l_z51_01, A_z51_02, c_z51_02, l_z51_02, rfl, rfl, hv_z51_01, hv_z51_02⟩
 try replace hr_b := kBase.mono _ _ _ _ hle53 hr_b
 try replace hs_l := hs_l.mono hle53
 try replace hv44 := Kd.reps_mono hle53 hv44
 have hle54 := hle48.trans hle53
 refine pM (k := kInt) (l := (jP b o s).concepts) 0 rfl hv_z51_01 rfl (by (unfold big; have q_ := bC hB o s; omega)) fun R56 hle57 hs55 => ?_
 try replace hr_b := kBase.mono _ _ _ _ hle57 hr_b
 try replace hs_l := hs_l.mono hle57
 try replace hv44 := Kd.reps_mono hle57 hv44
 try replace hv_z51_02 := Kd.reps_mono hle57 hv_z51_02
 have hle58 := hle54.trans hle57
 have hle59 := hle53.trans hle57
 have z60 := hs55.size
 unfold big at z60
 refine pM (k := kInt) (l := (jP b o s).roles) 0 rfl hv_z51_02 rfl (by (unfold big; have q_ := bC hB o s; omega)) fun R62 hle63 hs61 => ?_
 try replace hr_b := kBase.mono _ _ _ _ hle63 hr_b
 try replace hs_l := hs_l.mono hle63
 try replace hv44 := Kd.reps_mono hle63 hv44
 try replace hs55 := hs55.mono hle63
 have hle64 := hle58.trans hle63
 have hle65 := hle59.trans hle63
 have hle66 := hle57.trans hle63
 have z67 := hs61.size
 unfold big at z67
 refine qS tS rfl fun b68 => ?_
 refine xN 0 [.slice A_z51_01 ((jP b o s).concepts.length) c_z51_01, .slice A_z51_02 ((jP b o s).roles.length) c_z51_02] rfl rfl yM rfl rfl rfl rfl rfl rfl ?_
 refine qB <| qC <| qE <| qA ?_
 refine tl (qG rfl) ?_
 refine tl (jJ rfl pL) ?_
 refine tl (qG rfl) ?_
 refine qB <| qC <| qX ?_
 refine jF ?_
 refine wD (fun b_ : Nat × Bool × List (Int) × Option Addr × Nat × List Value => match b_ with | (i, m2, u, A_u, c_u, l_u) => l.length - i) (fun b_ : Nat × Bool × List (Int) × Option Addr × Nat × List Value => match b_ with | (i, m2, u, A_u, c_u, l_u) => [(1, .slice A_l l.length d_l), (3, .bool top), (4, .pointer (some ⟨b39, 0, none⟩)), (6, .pointer (some ⟨b40, 0, none⟩)), (8, .slice none 0 0), (11, .pointer (some ⟨b68, 0, none⟩)), (19, .slice A_l l.length d_l), (20, .int .i64 (l.length : Int)), (21, .int .i64 (i : Int)), (10, .bool m2), (9, .slice A_u u.length c_u)]) (fun b_ : Nat × Bool × List (Int) × Option Addr × Nat × List Value => match b_ with | (i, m2, u, A_u, c_u, l_u) => (.blk b68 [.slice A_z51_01 ((jP b o s).concepts.length) c_z51_01, .slice A_z51_02 ((jP b o s).roles.length) c_z51_02] 33 :: .vec (.slice A_u u.length c_u) u.length 3 1 l_u :: .blk b40 [.slice A31 s.concepts.length d32, .slice A35 s.roles.length d36] 33 :: .blk b39 [.slice A15 b.names.concepts.length d16, .slice A19 b.names.roles.length d20, .slice A23 b.names.inds.length d24, .slice A3 b.incls.length d4, .slice A6 b.roles.length d7, .slice A9 b.facts.length d10, .slice A12 b.links.length d13] 30 :: G)) (fun (b_ : Nat × Bool × List (Int) × Option Addr × Nat × List Value) (R_ : RO) => match b_ with | (i, m2, u, A_u, c_u, l_u) => (kInt).reps R_ u l_u ∧ (i ≤ l.length ∧ Up u ∧ (∀ x ∈ u, x ∈ l ∧ modP b l s top x) ∧ (∀ x ∈ o, x ∈ u) ∧ (m2 = false → u = o ∧ ∀ y ∈ l.take i, ¬ y ∈ o → kD b y.toNat (jP b o s) top = true) ∧ (m2 = true → o.length < u.length))) (0, false, o, A_o, c_o, l_o) (by repeat' constructor) (by refine ⟨hv44, ?_⟩; exact ⟨by omega, ho1, ho2, fun x hx => hx, fun _ => ⟨rfl, by simp⟩, fun h => by cases h⟩) (fun w hw => hw) ?_
 rintro ⟨i, m2, u, A_u, c_u, l_u⟩ R73 hle74 hI71 ih72
 try replace hr_b := kBase.mono _ _ _ _ hle74 hr_b
 try replace hs_l := hs_l.mono hle74
 try replace hv44 := Kd.reps_mono hle74 hv44
 try replace hs55 := hs55.mono hle74
 try replace hs61 := hs61.mono hle74
 have hle75 := hle64.trans hle74
 have hle76 := hle65.trans hle74
 have hle77 := hle66.trans hle74
 have hle78 := hle63.trans hle74
 show TC Tryz.prog _ _ _ [] [(1, .slice A_l l.length d_l), (3, .bool top), (4, .pointer (some ⟨b39, 0, none⟩)), (6, .pointer (some ⟨b40, 0, none⟩)), (8, .slice none 0 0), (11, .pointer (some ⟨b68, 0, none⟩)), (19, .slice A_l l.length d_l), (20, .int .i64 (l.length : Int)), (21, .int .i64 (i : Int)), (10, .bool m2), (9, .slice A_u u.length c_u)] R73 (.blk b68 [.slice A_z51_01 ((jP b o s).concepts.length) c_z51_01, .slice A_z51_02 ((jP b o s).roles.length) c_z51_02] 33 :: .vec (.slice A_u u.length c_u) u.length 3 1 l_u :: .blk b40 [.slice A31 s.concepts.length d32, .slice A35 s.roles.length d36] 33 :: .blk b39 [.slice A15 b.names.concepts.length d16, .slice A19 b.names.roles.length d20, .slice A23 b.names.inds.length d24, .slice A3 b.incls.length d4, .slice A6 b.roles.length d7, .slice A9 b.facts.length d10, .slice A12 b.links.length d13] 30 :: G)
 obtain ⟨hv70, hI79⟩ := hI71
 obtain ⟨hj1, hj2, hj3, hj4, hj5, hj6⟩ := hI79
 have hul := gB (fJ hj2) (fun x hx => (hj3 x hx).1)
 refine qE <| qA ?_
 refine tl (jR rfl rfl rfl) ?_
 refine qB <| qC <| qE ?_
 refine qP 22 rfl (fun h80 => ?_) (fun h80 => ?_)
 refine xE rfl ?_
 refine qZ <| qC <| qE <| qX <| qE <| qA ?_
 have hb86 : i < l.length := by omega
 obtain ⟨x81, hx82⟩ : ∃ x, l[i]? = some x := ⟨_, List.getElem?_eq_getElem hb86⟩
 obtain ⟨c83, hr84, ha85⟩ := hs_l.get _ x81 hx82
 obtain ⟨rfl, i87⟩ := hr84
 unfold i64 at i87
 have hf88 := hl.2.2 _ (List.mem_of_getElem? hx82)
 refine tl (jV (i := i) hs_l rfl rfl rfl pL hb86) ?_
 refine tl (yN 0 ha85 rfl ld3 rfl rfl) ?_
 refine tl (qD rfl) ?_
 refine qB <| qC ?_
 refine vH [(1, .slice A_l l.length d_l), (3, .bool top), (4, .pointer (some ⟨b39, 0, none⟩)), (6, .pointer (some ⟨b40, 0, none⟩)), (8, .slice none 0 0), (11, .pointer (some ⟨b68, 0, none⟩)), (19, .slice A_l l.length d_l), (20, .int .i64 (l.length : Int)), (21, .int .i64 (i : Int)), (10, .bool m2), (9, .slice A_u u.length c_u), (22, .bool true), (13, .int .i64 x81), (36, .bool (decide ((¬ (x81 ∈ u)) ∧ ((!(kD b x81.toNat (Sig.mk ((jP b o s).concepts) ((jP b o s).roles)) top)) = true))))] (.blk b68 [.slice A_z51_01 ((jP b o s).concepts.length) c_z51_01, .slice A_z51_02 ((jP b o s).roles.length) c_z51_02] 33 :: .vec (.slice A_u u.length c_u) u.length 3 1 l_u :: .blk b40 [.slice A31 s.concepts.length d32, .slice A35 s.roles.length d36] 33 :: .blk b39 [.slice A15 b.names.concepts.length d16, .slice A19 b.names.roles.length d20, .slice A23 b.names.inds.length d24, .slice A3 b.incls.length d4, .slice A6 b.roles.length d7, .slice A9 b.facts.length d10, .slice A12 b.links.length d13] 30 :: G) (fun _ => True) (fun K hK89 hE90 => ?_) ?_
 refine qA ?_
 refine tl (qG rfl) ?_
 refine tl (qG rfl) ?_
 refine tX (k := kInt) (l := u) 1 rfl hv70 rfl (by omega) qJ4 rfl (fun R_ w hle_ hlent hw => by exact kB u x81 hlent (by unfold i64; omega) hw) rfl ?_
 refine tl (wZ rfl) ?_
 refine tl (qG rfl) ?_
 refine xX 29 rfl (fun h91 => ?_) (fun h91 => ?_)
 refine qJ 29 rfl rfl ?_
 refine tl (qQ 3 [.slice A15 b.names.concepts.length d16, .slice A19 b.names.roles.length d20, .slice A23 b.names.inds.length d24, .slice A3 b.incls.length d4, .slice A6 b.roles.length d7, .slice A9 b.facts.length d10, .slice A12 b.links.length d13] rfl pN rfl rfl) ?_
 refine qJ 29 rfl rfl ?_
 refine tl (qG rfl) ?_
 refine qJ 29 rfl rfl ?_
 refine tl (qQ 0 [.slice A_z51_01 ((jP b o s).concepts.length) c_z51_01, .slice A_z51_02 ((jP b o s).roles.length) c_z51_02] rfl yM rfl rfl) ?_
 refine qJ 29 rfl rfl ?_
 refine tl (qG rfl) ?_
 refine qJ 29 rfl rfl ?_
 refine xC ca27 rfl (fun w hw => aO b x81 (Sig.mk ((jP b o s).concepts) ((jP b o s).roles)) top hr_b (by unfold i64; omega) ⟨_, _, _, _, rfl, hs55, hs61⟩ (by first | assumption | omega) (by first | assumption | omega) hw) rfl ?_
 refine qJ 29 rfl rfl ?_
 refine tl (wJ rfl) ?_
 refine tl (qR rfl rfl) ?_
 refine qB ?_
 exact xW hK89 (.refl _) (trivial) ⟨rfl, rfl, rfl, rfl, rfl, rfl, rfl, rfl, rfl, rfl, rfl, rfl, rfl, show some (Value.bool (!(kD b x81.toNat (Sig.mk ((jP b o s).concepts) ((jP b o s).roles)) top))) = some (Value.bool (decide ((¬ (x81 ∈ u)) ∧ ((!(kD b x81.toNat (Sig.mk ((jP b o s).concepts) ((jP b o s).roles)) top)) = true)))) by first | (simp [h91]; done) | grind | (simp [h91] <;> omega), trivial⟩ (fun w hw => hw)
 refine qF 29 rfl rfl rfl ?_
 refine qF 29 rfl rfl rfl ?_
 refine qF 29 rfl rfl rfl ?_
 refine qF 29 rfl rfl rfl ?_
 refine qF 29 rfl rfl rfl ?_
 refine qF 29 rfl rfl rfl ?_
 refine tl (qO rfl rfl) ?_
 refine qB ?_
 exact xW hK89 (.refl _) (trivial) ⟨rfl, rfl, rfl, rfl, rfl, rfl, rfl, rfl, rfl, rfl, rfl, rfl, rfl, show some (Value.bool false) = some (Value.bool (decide ((¬ (x81 ∈ u)) ∧ ((!(kD b x81.toNat (Sig.mk ((jP b o s).concepts) ((jP b o s).roles)) top)) = true)))) by first | (simp [h91]; done) | grind | (simp [h91] <;> omega), trivial⟩ (fun w hw => hw)
 refine fun R93 hle94 hj92 => jH hle94 ?_
 refine qP 36 rfl (fun h95 => ?_) (fun h95 => ?_)
 refine xE rfl ?_
 refine qA ?_
 refine tl (qG rfl) ?_
 refine tl (qG rfl) ?_
 refine tR (.vec (.slice A_u u.length c_u) u.length 3 1 l_u :: .blk b68 [.slice A_z51_01 ((jP b o s).concepts.length) c_z51_01, .slice A_z51_02 ((jP b o s).roles.length) c_z51_02] 33 :: .blk b40 [.slice A31 s.concepts.length d32, .slice A35 s.roles.length d36] 33 :: .blk b39 [.slice A15 b.names.concepts.length d16, .slice A19 b.names.roles.length d20, .slice A23 b.names.inds.length d24, .slice A3 b.incls.length d4, .slice A6 b.roles.length d7, .slice A9 b.facts.length d10, .slice A12 b.links.length d13] 30 :: G) (fun w hw => (hw.pick 1)) ?_
 refine xD ca16 rfl (fun w hw => kW u x81 hv70 (by unfold i64; omega) (by omega) hw) rfl ?_
 rintro _ R97 _ hle98 ⟨A_z96_0, c_z96_0, l_z96_0, rfl, rfl, hv_z96_0⟩
 try replace hv44 := Kd.reps_mono hle98 hv44
 try replace hv70 := Kd.reps_mono hle98 hv70
 have hle99 := hle75.trans hle98
 have hle100 := hle76.trans hle98
 have hle101 := hle77.trans hle98
 have hle102 := hle78.trans hle98
 have hle103 := hle74.trans hle98
 refine tl (qD rfl) ?_
 refine tl (qD rfl) ?_
 refine qB <| jC <| qC <| qA ?_
 refine tl (jT rfl rfl (by omega) (by omega)) ?_
 refine tl (qG rfl) ?_
 refine qB ?_
 refine xQ ?_
 exact fun a w ha hw => ih72.out (i + 1, true, (wS u x81), A_z96_0, c_z96_0, l_z96_0) _ (hle98) (by refine ⟨hv_z96_0, ?_⟩; (have hm_ := List.mem_of_getElem? hx82; refine ⟨by omega, bU hj2, fun x hx => ?_, fun x hx => insI_mem.2 (.inl (hj4 x hx)), fun h => by simp at h, fun _ => ?_⟩; (rcases insI_mem.1 hx with hx | he_; exact hj3 x hx; rw [he_]; exact ⟨hm_, cX (fun x hx => (ho2 x hx).2) hm_ (uB (jP b o s)) (fun k_ => by (have f2_ : (!kD b (x81).toNat (jP b o s) top) = true := (h95).2); rw [k_] at f2_; cases f2_)⟩); (have hn_ : ¬ x81 ∈ u := (h95).1); rw [eL hn_]; cases m2; (have := (hj5 rfl).1; rw [this]; omega); (have := hj6 rfl; omega))) (by (try dsimp only); omega) a w (ha.sub (xL (by repeat' constructor))) (((((hw.pick 3).pick 3).pick 2).pick 3))
 refine xV rfl ?_
 refine qZ <| jC <| qC <| qA ?_
 refine tl (jT rfl rfl (by omega) (by omega)) ?_
 refine tl (qG rfl) ?_
 refine qB ?_
 refine xQ ?_
 exact fun a w ha hw => ih72.out (i + 1, m2, u, A_u, c_u, l_u) _ (.refl _) (by refine ⟨hv70, ?_⟩; (refine ⟨by omega, hj2, hj3, hj4, fun h => ⟨(hj5 h).1, vQ (hj5 h).2 hx82 fun hn => ?_⟩, hj6⟩; have hq_ := (hj5 h).1; cases hl_ : kD b (x81).toNat (jP b o s) top; exact absurd ⟨by rw [hq_]; exact hn, (show (!kD b (x81).toNat (jP b o s) top) = true by rw [hl_]; rfl)⟩ h95; rfl)) (by (try dsimp only); omega) a w (ha.sub (xL (by repeat' constructor))) (hw)
 refine xV rfl ?_
 refine jE <| qK <| qK <| xG <| jC ?_
 refine xQ ?_
 exact fun a w ha hw => ih46.out (m2, u, A_u, c_u, l_u) _ (hle76) (by refine ⟨hv70, ?_⟩; exact ⟨hj2, hj3, fun h y hy hn => by (have hq_ := hj5 h); rw [xF (l := l) (by assumption) (by assumption)] at hq_; rw [hq_.1] at hn ⊢; exact hq_.2 y hy hn⟩) (by (dsimp only; cases m2; (have := (hj5 rfl).1; subst this; simp_all); (have := hj6 rfl; simp only [if_true]; split <;> omega))) a w (ha.sub (xL (by repeat' constructor))) (hw.drop 1)
 refine xV rfl ?_
 refine jE <| qK <| qK <| xG <| qC <| qE <| qA ?_
 refine tl (qG rfl) ?_
 refine tl (qD rfl) ?_
 refine qB <| qC <| qV ?_
 refine kZ (k := kInt) (l := o) 0 rfl hv44 rfl (by (unfold big; have q_ := bC hB o s; omega)) fun R105 hle106 hs104 => ?_
 have hle107 := hle48.trans hle106
 have z108 := hs104.size
 unfold big at z108
 refine xB (.inl rfl) rfl rfl ?_
 have e109 : (o : List (Int)) = modL b l s top := by exact rM hl.1 ho1 ho2 (ho3 (by grind))
 intro w hw
 exact ⟨_, _, [], rfl, hle107, hw.drop 2, A_o, c_o, (congrArg (fun (z0_ : List (Int)) => (.slice A_o z0_.length c_o : Value)) e109), rfl, (Eq.mp (congrArg (fun z => SlAt kInt R105 A_o z) e109) hs104)⟩

end Go.Proofs.YtcbcdlajnmkioaaGreatDoor
