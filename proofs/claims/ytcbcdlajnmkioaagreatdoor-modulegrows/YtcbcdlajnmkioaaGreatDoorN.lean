/- A part of the proof of the statement ModuleGrows of isagogelaw19: functions walked, and plain laws on what they answer. -/
import Derived.Test.YtcbcdlajnmkioaaGreatDoorM
namespace Go.Proofs.YtcbcdlajnmkioaaGreatDoor
open Go Go.Proofs
set_option linter.unusedSimpArgs false
set_option linter.unusedVariables false


mutual
def inC : Concept → Int → Prop
  | .mk op n args, x => (op = 0 ∧ x = n) ∨ inCs args x
def inCs : List Concept → Int → Prop
  | [], _ => False
  | c :: cs, x => inC c x ∨ inCs cs x
end
mutual
def inR : Concept → Int → Prop
  | .mk op n args, x => ((op = 6 ∨ op = 7) ∧ x = n / 2) ∨ inRs args x
def inRs : List Concept → Int → Prop
  | [], _ => False
  | c :: cs, x => inR c x ∨ inRs cs x
end
mutual
theorem usesC_mem : ∀ (c : Concept) (s : List Int × List Int) (x : Int), (x ∈ (usesC c s).1 ↔ x ∈ s.1 ∨ inC c x) ∧ (x ∈ (usesC c s).2 ↔ x ∈ s.2 ∨ inR c x)
  | .mk op n args, s, x => by
    rw [usesC, inC, inR]
    have h := usesL_mem args (if op = 0 then insI s.1 n else s.1, if op = 6 ∨ op = 7 then insI s.2 (n / 2) else s.2) x
    have h1 : x ∈ (if op = 0 then insI s.1 n else s.1) ↔ x ∈ s.1 ∨ (op = 0 ∧ x = n) := by split <;> simp [insI_mem, *]
    have h2 : x ∈ (if op = 6 ∨ op = 7 then insI s.2 (n / 2) else s.2) ↔ x ∈ s.2 ∨ ((op = 6 ∨ op = 7) ∧ x = n / 2) := by split <;> simp [insI_mem, *]
    rw [h.1, h.2]
    dsimp only
    rw [h1, h2]
    exact ⟨or_assoc, or_assoc⟩
theorem usesL_mem : ∀ (l : List Concept) (s : List Int × List Int) (x : Int), (x ∈ (usesL l s).1 ↔ x ∈ s.1 ∨ inCs l x) ∧ (x ∈ (usesL l s).2 ↔ x ∈ s.2 ∨ inRs l x)
  | [], s, x => by simp [usesL, inCs, inRs]
  | c :: cs, s, x => by
    rw [usesL, inCs, inRs]
    have h := usesL_mem cs (usesC c s) x
    have h1 := usesC_mem c s x
    rw [h.1, h.2, h1.1, h1.2]
    exact ⟨or_assoc, or_assoc⟩
end
/-- The names that an entry of a base uses. -/
def axC (b : Base) (k : Nat) (x : Int) : Prop := x ∈ (usesA b k ⟨[], []⟩).concepts
def axR (b : Base) (k : Nat) (x : Int) : Prop := x ∈ (usesA b k ⟨[], []⟩).roles
theorem addS_mem (s : Sig) (c : Concept) (x : Int) : (x ∈ (addS s c).concepts ↔ x ∈ s.concepts ∨ inC c x) ∧ (x ∈ (addS s c).roles ↔ x ∈ s.roles ∨ inR c x) := usesC_mem c (s.concepts, s.roles) x
theorem usesA_mem (b : Base) (k : Nat) (s : Sig) (x : Int) : (x ∈ (usesA b k s).concepts ↔ x ∈ s.concepts ∨ axC b k x) ∧ (x ∈ (usesA b k s).roles ↔ x ∈ s.roles ∨ axR b k x) := by
  unfold axC axR usesA
  split
  · simp only [(addS_mem _ _ _).1, (addS_mem _ _ _).2]; simp [or_assoc]
  · split
    · simp [insI_mem, or_assoc]
    · split
      · simp only [(addS_mem _ _ _).1, (addS_mem _ _ _).2]; simp
      · split
        · simp [insI_mem]
        · simp
theorem namesA_mem (b : Base) (x : Int) : ∀ (l : List Int) (s : Sig), (x ∈ (namesA b l s).concepts ↔ x ∈ s.concepts ∨ ∃ k ∈ l, axC b k.toNat x) ∧ (x ∈ (namesA b l s).roles ↔ x ∈ s.roles ∨ ∃ k ∈ l, axR b k.toNat x)
  | [], s => by simp [namesA]
  | k :: l, s => by
    have h := namesA_mem b x l (usesA b k.toNat s)
    have e : namesA b (k :: l) s = namesA b l (usesA b k.toNat s) := rfl
    rw [e, h.1, h.2, (usesA_mem b k.toNat s x).1, (usesA_mem b k.toNat s x).2]
    constructor <;> simp [or_assoc]
def Sig.le (s t : Sig) : Prop := (∀ x ∈ s.concepts, x ∈ t.concepts) ∧ (∀ x ∈ s.roles, x ∈ t.roles)
theorem namesA_le {b : Base} {l m : List Int} {s t : Sig} (h : ∀ x ∈ l, x ∈ m) (hs : s.le t) : (namesA b l s).le (namesA b m t) := by
  constructor
  · intro x hx
    rw [(namesA_mem b x l s).1] at hx
    rw [(namesA_mem b x m t).1]
    rcases hx with hx | ⟨k, hk, hx⟩
    · exact .inl (hs.1 x hx)
    · exact .inr ⟨k, h k hk, hx⟩
  · intro x hx
    rw [(namesA_mem b x l s).2] at hx
    rw [(namesA_mem b x m t).2]
    rcases hx with hx | ⟨k, hk, hx⟩
    · exact .inl (hs.2 x hx)
    · exact .inr ⟨k, h k hk, hx⟩
def pleB (p q : Bool × Bool) : Prop := (p.1 = true → q.1 = true) ∧ (p.2 = true → q.2 = true)
theorem pleB_getE {l m : List (Bool × Bool)} (hlen : l.length = m.length) (h : ∀ (i : Nat) p q, l[i]? = some p → m[i]? = some q → pleB p q) (i : Nat) : (shE l i = true → shE m i = true) ∧ (shF l i = true → shF m i = true) := by
  unfold shE shF
  cases hl : l[i]? with
  | none => simp
  | some p =>
    have : i < m.length := by have := (List.getElem?_eq_some_iff.1 hl).1; omega
    have hm : m[i]? = some m[i] := List.getElem?_eq_getElem this
    rw [hm]
    exact h i p _ hl hm
theorem shapeAt_le {s t : Sig} (hs : s.le t) (top : Bool) (op n : Int) {l m : List (Bool × Bool)} (hlen : l.length = m.length) (h : ∀ (i : Nat) p q, l[i]? = some p → m[i]? = some q → pleB p q) : pleB (shapeAt t top op n l) (shapeAt s top op n m) := by
  have h0 := pleB_getE hlen h 0
  have h1 := pleB_getE hlen h 1
  have hc : ¬ n ∈ t.concepts → ¬ n ∈ s.concepts := fun k k2 => k (hs.1 n k2)
  have ho : outB t op n = true → outB s op n = true := by
    unfold outB; simp only [decide_eq_true_eq]
    exact fun k => ⟨k.1, fun k2 => k.2 (hs.2 _ k2)⟩
  unfold shapeAt pleB
  grind
mutual
theorem shapeC_le {s t : Sig} (hs : s.le t) (top : Bool) : ∀ c : Concept, pleB (shapeC t top c) (shapeC s top c)
  | .mk op n args => by
    rw [shapeC, shapeC]
    exact shapeAt_le hs top op n (by rw [shapeCs_len, shapeCs_len]) (shapeCs_le hs top args)
theorem shapeCs_le {s t : Sig} (hs : s.le t) (top : Bool) : ∀ (l : List Concept) (i : Nat) (p q : Bool × Bool), (shapeCs t top l)[i]? = some p → (shapeCs s top l)[i]? = some q → pleB p q
  | [], i, p, q, h, k => by simp [shapeCs] at h
  | c :: cs, 0, p, q, h, k => by
    simp only [shapeCs, List.getElem?_cons_zero, Option.some.injEq] at h k
    rw [← h, ← k]; exact shapeC_le hs top c
  | c :: cs, i + 1, p, q, h, k => by
    simp only [shapeCs, List.getElem?_cons_succ] at h k
    exact shapeCs_le hs top cs i p q h k
end
theorem localB_le {s t : Sig} (hs : s.le t) (b : Base) (k : Nat) (top : Bool) (h : localB b k t top = true) : localB b k s top = true := by
  unfold localB at *
  split
  · rename_i x hx
    rw [hx] at h
    have h1 := shapeC_le hs top x.sub; have h2 := shapeC_le hs top x.sup
    unfold pleB at h1 h2
    simp only [Bool.or_eq_true] at h ⊢
    exact h.imp h1.1 h2.2
  · rename_i hx
    rw [hx] at h
    simp only [] at h
    split
    · rename_i x hx2
      rw [hx2] at h
      simp only [] at h
      have h1 := hs.2 (x.sup / 2); have h2 := hs.2 (x.sub / 2)
      grind
    · rename_i hx2
      rw [hx2] at h
      simp only [] at h
      split
      · rename_i x hx3
        rw [hx3] at h
        exact (shapeC_le hs top x.con).2 h
      · rename_i hx3
        rw [hx3] at h
        simp only [] at h
        split
        · rename_i x hx4
          rw [hx4] at h
          have h1 := hs.2 x.role
          grind
        · rename_i hx4
          rw [hx4] at h
          simp only [] at h
          cases h
/-- Closed: what is outside is local. -/
def ClosedM (b : Base) (l : List Int) (s : Sig) (top : Bool) (X : List Int) : Prop := ∀ i ∈ l, ¬ i ∈ X → localB b i.toNat (namesA b X s) top = true
def modP (b : Base) (l : List Int) (s : Sig) (top : Bool) (i : Int) : Prop := ∀ X : List Int, ClosedM b l s top X → i ∈ X
open Classical in
noncomputable def modL (b : Base) (l : List Int) (s : Sig) (top : Bool) : List Int := l.filter fun i => decide (modP b l s top i)
theorem modP_step {b : Base} {l : List Int} {s : Sig} {top : Bool} {o : List Int} {i : Int} {t : Sig} (ho : ∀ x ∈ o, modP b l s top x) (hi : i ∈ l) (ht : t.le (namesA b o s)) (hn : ¬ localB b i.toNat t top = true) : modP b l s top i := by
  intro X hX
  by_cases hm : i ∈ X
  · exact hm
  · have h1 := hX i hi hm
    have h2 : (namesA b o s).le (namesA b X s) := namesA_le (fun x hx => ho x hx X hX) ⟨fun _ h => h, fun _ h => h⟩
    have h3 := localB_le h2 b i.toNat top h1
    exact absurd (localB_le ht b i.toNat top h3) hn
theorem modL_eq {b : Base} {l : List Int} {s : Sig} {top : Bool} {r : List Int} (hl : Up l) (hr : Up r) (hs : ∀ x ∈ r, x ∈ l ∧ modP b l s top x) (hc : ClosedM b l s top r) : r = modL b l s top := by
  classical
  refine up_ext hr ?_ fun x => ?_
  · exact List.Pairwise.filter _ hl
  · unfold modL
    rw [List.mem_filter]
    constructor
    · intro hx; exact ⟨(hs x hx).1, by simpa using (hs x hx).2⟩
    · intro hx
      have : modP b l s top x := by simpa using hx.2
      exact this r hc

end Go.Proofs.YtcbcdlajnmkioaaGreatDoor
