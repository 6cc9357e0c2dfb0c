/- A part of the proof of the statement ModuleShapes of isagogelaw19: rules by which code is walked. -/
import Derived.Test.YtcbcdlajnmkioaaGreatDoorE7
import Derived.RangeFuncLeaves
import Derived.RangeFuncSeq
import Derived.TacticsIn
import Derived.Test.YtcbcdlajnmkioaaGreatDoorE0
import Derived.Shelf.Slices.In.SortNone
import Derived.Shelf.Sort.Plain
import Derived.Shelf.Strings.Search3
import Derived.Test.YtcbcdlajnmkioaaGreatDoorProg
namespace Go.Proofs.YtcbcdlajnmkioaaGreatDoor
open Go
set_option linter.unusedVariables false
set_option linter.unusedSimpArgs false

/-! ## 13. Range over a function -/

/-- No fence at all; a round's frame, or none. -/
def FW (ρ : Option Nat) : Fence := { Fence.wide with round := ρ }
def TCr (ρ : Option Nat) (P : Program) (c : Code) (Q : Exit → Act → World → Prop) (n : Nat) (D : List Deferred) (env : List (Nat × Value)) (R : RO) (G : List Res) : Prop :=
  ∀ a w, Env n D env a → Own w R G → c.wpIn (FW ρ) 0 P Q a w
def TLr (ρ : Option Nat) (P : Program) (ops : Array Oper) (Q : Exit → Act → World → Prop) (rest : List Oper) (n : Nat) (D : List Deferred) (env : List (Nat × Value)) (R : RO) (G : List Res) : Prop :=
  ∀ a w, Env n D env a → Own w R G → wpListIn (FW ρ) 0 P ops Q rest a w
def qG7 (o : Oper) : Bool := match o.op with | .defer _ => false | _ => true
/-- The region's one operation, and what follows it. -/
def onR (ρ : Option Nat) (P : Program) (ops : Array Oper) (Q : Exit → Act → World → Prop) (rest : List Oper) : Exit → Act → World → Prop := fun e a w => match e with
  | .normal => wpListIn (FW ρ) 0 P ops Q rest a w
  | _ => False

/-- Several resources as one. -/
def Res.join (L : List Res) : Res :=
  ⟨fun b => ∃ r ∈ L, r.foot b, fun w => (∀ r ∈ L, r.holds w) ∧ L.Pairwise (fun r s : Res => ∀ b, r.foot b → ¬ s.foot b),
   fun w w' h k => ⟨fun r hr => r.loc w w' (fun b hb => h b ⟨r, hr, hb⟩) (k.1 r hr), k.2⟩,
   fun w k b ⟨r, hr, hb⟩ => r.lt w (k.1 r hr) b hb⟩
theorem Own.join {w R G} {L : List Res} (h : Own w R (L ++ G)) : Own w R (.join L :: G) :=
  ⟨h.os, h.tape, h.output, h.ro, fun r hr => by
    rcases List.mem_cons.1 hr with rfl | hr
    · exact ⟨fun r hr => h.holds r (List.mem_append_left _ hr), (List.pairwise_append.1 h.apart).1⟩
    · exact h.holds r (List.mem_append_right _ hr),
   fun r hr b hb => by
    rcases List.mem_cons.1 hr with rfl | hr
    · obtain ⟨s, hs, hb⟩ := hb; exact h.away s (List.mem_append_left _ hs) b hb
    · exact h.away r (List.mem_append_right _ hr) b hb,
   List.pairwise_cons.2 ⟨fun s hs b hb hc => by
    obtain ⟨r, hr, hb⟩ := hb
    exact (List.pairwise_append.1 h.apart).2.2 r hr s hs b hb hc, (List.pairwise_append.1 h.apart).2.1⟩⟩
theorem Own.unjoin {w R G} {L : List Res} (h : Own w R (.join L :: G)) : Own w R (L ++ G) :=
  have hj : (∀ r ∈ L, r.holds w) ∧ L.Pairwise fun r s => ∀ b, r.foot b → ¬ s.foot b := h.holds _ (.head _)
  have hp := List.pairwise_cons.1 h.apart
  ⟨h.os, h.tape, h.output, h.ro, fun r hr => by
    rcases List.mem_append.1 hr with hr | hr
    · exact hj.1 r hr
    · exact h.holds r (.tail _ hr),
   fun r hr b hb => by
    rcases List.mem_append.1 hr with hr | hr
    · exact h.away _ (.head _) b ⟨r, hr, hb⟩
    · exact h.away r (.tail _ hr) b hb,
   List.pairwise_append.2 ⟨hj.2, hp.2, fun r hr s hs b hb hc => hp.1 s hs b ⟨r, hr, hb⟩ hc⟩⟩

/-- What a loop's body does with an element, told by a state: yield may be called with it. -/
structure YieldOk {α σ : Type} (P : Program) (R0 : RO) (L : Nat) (k : Kd α) (St : σ → Res) (visit : α → σ → σ) : Prop where
  run : ∀ {R : RO} {G : List Res} {w : World} {x : α} {cs : List Value} (s : σ), R0.le R → k.rep R x cs → Own w R (St s :: G) →
    YieldAt .wide 0 P L #[.agg cs.toArray] w (hY R G fun v R' L' => v = .bool true ∧ L' = [St (visit x s)])

theorem YieldOk.mono {α σ : Type} {P : Program} {R R' : RO} {L : Nat} {k : Kd α} {St : σ → Res} {visit : α → σ → σ} (h : YieldOk P R L k St visit) (hle : R.le R') : YieldOk P R' L k St visit := ⟨fun s h0 h1 h2 => h.run s (hle.trans h0) h1 h2⟩
theorem nF {n : Nat} {D : List Deferred} {env : List (Nat × Value)} {a : Act} {x : Operand} {xs : List Operand} {vs : List Value} {L dst ty pos af at_} (ha : Env n D env a) (hx : ev env x = some (.func (.yield L) #[] #[])) (hv : evs env xs = some vs) :
    (execOp a.eval ⟨dst, .call { callee := .value x, args := xs.toArray, argTypes := at_ }, ty, pos, af, none⟩) = Instr.yield L vs.toArray := by
  have e : xs.toArray.map a.eval = vs.toArray := by rw [← aA ha hv]; simp
  simp [execOp, resolve, e, ha.eval hx, Deferred.ofValue, invoke]

section
variable {P : Program} {ρ : Option Nat} {n : Nat} {D : List Deferred} {env env' : List (Nat × Value)} {R : RO} {G G' : List Res} {Q : Exit → Act → World → Prop} {ops : Array Oper} {rest : List Oper} {o : Oper}

theorem qG8 {c : Code} (h : TCr none P c Q n D env R G) : TC P c Q n D env R G := fun a w ha hw => wpIn_wide.1 (h a w ha hw)
theorem tcr_of_tc {c : Code} (h : TC P c Q n D env R G) : TCr none P c Q n D env R G := fun a w ha hw => wpIn_wide.2 (h a w ha hw)
theorem yW {i : Nat} {l : List Oper} (h : TLr ρ P l.toArray Q l n D env R G) : TCr ρ P (.region i l.toArray false) Q n D env R G := fun a w ha hw => wpIn_region_lit (h a w ha hw)
theorem lX {x y : Code} (h : TCr ρ P x (Exit.then (y.wpIn (FW ρ) 0 P Q) Q) n D env R G) : TCr ρ P (.seq x y) Q n D env R G := fun a w ha hw => wpIn_seq (h a w ha hw)
theorem nG {i : Nat} {c : Code} (h : TCr ρ P c (Exit.inBlock i Q) n D env R G) : TCr ρ P (.block i c) Q n D env R G := fun a w ha hw => wpIn_block (h a w ha hw)
theorem rR (h : TX Q .normal n D env R G) : TCr ρ P .skip Q n D env R G := fun a w ha hw => wpIn_skip (h a w ha hw)
theorem cC {y : Code} {Q' : Exit → Act → World → Prop} (h : TCr ρ P y Q n D env R G) : TX (Exit.then (y.wpIn (FW ρ) 0 P Q) Q') .normal n D env R G := h
theorem eU {c : Operand} {x y : Code} {t : Bool} (hc : ev env c = some (.bool t)) (ht : t = true → TCr ρ P x Q n D env R G) (hf : t = false → TCr ρ P y Q n D env R G) : TCr ρ P (.cond c x y) Q n D env R G :=
  fun a w ha hw => wpIn_cond_split (ha.eval hc) (fun h => ht h a w ha hw) (fun h => hf h a w ha hw)
theorem tO (h : TX Q .normal n D env R G) : TLr ρ P ops Q [] n D env R G := fun a w ha hw => h a w ha hw
theorem tlr_G (G') (h : ∀ w, Own w R G → Own w R G') (k : TLr ρ P ops Q rest n D env R G') : TLr ρ P ops Q rest n D env R G := fun a w ha hw => k a w ha (h w hw)
theorem wY (h : TLr ρ P ops Q rest n D env R G) : TX (onR ρ P ops Q rest) .normal n D env R G := h

theorem vE (hg : qG7 o = true) (hgd : o.guard.isNone = true) (h : TL P ops (onR ρ P ops Q rest) [o] n D env R G) : TLr ρ P ops Q (o :: rest) n D env R G := fun a w ha hw => by
  have h1 := h a w ha hw
  have hd : ∀ c, o.op ≠ .defer c := fun c e => by unfold qG7 at hg; rw [e] at hg; cases hg
  have hwt : Region.wanted o (yielded ops a.tmps) = true := by
    cases hq : o.guard with
    | none => simp [Region.wanted, hq]
    | some q => rw [hq] at hgd; cases hgd
  unfold wpList at h1
  unfold wpListIn
  rw [if_pos hwt] at h1 ⊢
  rcases h1 with h1 | ⟨_, hlets⟩
  · refine ⟨fun _ _ => trivial, ?_⟩
    have hs : Oper.semAt (FW ρ).round a.eval o = execOp a.eval o := Oper.semAt_eq _ _ _ hd
    rw [hs]
    unfold Oper.wp at h1
    generalize (execOp a.eval o).run P w = r at h1 ⊢
    cases r with
    | ok x w' =>
      cases x <;> simp only [Oper.upon, Oper.uponIn] at h1 ⊢ <;> first | exact h1 | exact h1.elim | skip
      · rename_i f args
        refine ⟨fun h => (by cases h), ?_⟩
        refine callsIn_wide.2 (h1.mono ?_)
        intro e w'' h2
        cases e
        · exact h2
        · exact h2.elim
        · obtain ⟨_, _, h3⟩ := h2; exact h3.elim
      · rename_i row args
        refine ⟨fun h => (by cases h), fun c cs _ => ?_⟩
        obtain ⟨v, w'', h2, h3⟩ := h1 c cs
        exact ⟨v, w'', h2, stepsIn_wide.2 h3⟩
    | halt x w' => cases x <;> simp only [Oper.upon, Oper.uponIn] at h1 ⊢ <;> first | exact h1 | exact h1.elim
  · obtain ⟨a1, w1, h2⟩ := hlets
    exact h2.elim

/-- yield is called. -/
theorem qG9 {L d ty pos af at_ x xs vs} {φ : Value → RO → List Res → Prop} {G1 : List Res} (hx : ev env x = some (.func (.yield L) #[] #[])) (hv : evs env xs = some vs) (hk : ∀ w, Own w R G → YieldAt .wide 0 P L vs.toArray w (hY R G1 φ)) (hn : Nat.blt d n = true)
    (k : ∀ v R' L', R.le R' → φ v R' L' → TLr none P ops Q rest n D ((d, v) :: env) R' (L' ++ G1)) : TLr none P ops Q (⟨some d, .call { callee := .value x, args := xs.toArray, argTypes := at_ }, ty, pos, af, none⟩ :: rest) n D env R G := fun a w ha hw => by
  refine wpListIn_plain rfl fun K hK => ?_
  refine ⟨fun _ _ => trivial, ?_⟩
  obtain ⟨fn, tmps, assign, body, hr, hround⟩ := hk w hw
  have hs : Oper.semAt (FW none).round a.eval ⟨some d, .call { callee := .value x, args := xs.toArray, argTypes := at_ }, ty, pos, af, none⟩ = Instr.yield L vs.toArray := nF ha hx hv
  rw [hs, hr]
  refine ⟨fun h => (by cases h), hround.mono ?_⟩
  rintro e w' ⟨v, R', L', rfl, hle, ho, hp⟩
  exact hK _ _ (k v R' L' hle hp _ _ (ha.put (Nat.le_of_ble_eq_true hn)) ho)

theorem Own.putObj {w : World} {l : Nat} {o o' : Obj} (h : Own w R (.raw l o :: G)) : Own (w.putObj l o') R (.raw l o' :: G) := by
  have hh : w.heap[l]? = some o := h.holds _ (.head _)
  exact Own.step h rfl rfl rfl (fun b _ hb => World.putObj_heap_other (fun e => hb e)) (World.putObj_heap_same (zR hh)) fun b hb => .inl hb

theorem perm2 (u v : Res) (l m : List Res) : (u :: v :: (l ++ m)).Perm (l ++ (u :: v :: m)) := by
  have := (List.perm_append_comm (l₁ := [u, v]) (l₂ := l)).append_right m
  simpa using this

/-- The statement: an iterator that calls yield with each element, whatever yield does, told by a state. -/
theorem tc_range {α σ Z : Type} {κ : Kd α} {g : Operand} {p : Nat} {assign body : Code} {f : FuncId} {caps : List Value} (Gm : σ → List Res) (visit : α → σ → σ) (fin : σ → σ) (s0 : σ) (G0 : List Res) (envA : Z → List Value → List (Nat × Value)) (GA : Z → List Value → σ → List Res)
    (hg : ev env g = some (.func (.func f) #[] caps.toArray)) (hc : Callable P f) (hp : Nat.blt p n = true) (hG : ∀ w, Own w R G → Own w R (Gm s0 ++ G0))
    (hassign : ∀ (l : Nat) (R' : RO) (s : σ) (x : α) (cs : List Value) (G1 : List Res) (K : Exit → Act → World → Prop), R.le R' → κ.rep R' x cs → (∀ z a w R'', R'.le R'' → Env n [] (envA z cs) a → Own w R'' (GA z cs s ++ G1) → K .normal a w) → TCr (some l) P assign K n [] ((p, .agg cs.toArray) :: env) R' (Gm s ++ G1))
    (hbody : ∀ (z : Z) (l : Nat) (R' : RO) (s : σ) (x : α) (cs : List Value) (G1 : List Res) (K : Exit → Act → World → Prop), R.le R' → κ.rep R' x cs → (∀ a w R'', R'.le R'' → Own w R'' (Gm (visit x s) ++ G1) → K .normal a w) → TCr (some l) P body K n [] (envA z cs) R' (GA z cs s ++ G1))
    (hcall : ∀ (L : Nat) (St : σ → Res), YieldOk P R L κ St visit → ∀ w, Own w R (St s0 :: G0) → Calls P f ((Value.func (.yield L) #[] #[]) :: caps).toArray w (hY R G0 fun _ _ L' => L' = [St (fin s0)]))
    (k : ∀ B R', R.le R' → TX Q .normal n ({ target := .collected B, args := #[] } :: D) env R' (.raw B (.deferred (some [])) :: (Gm (fin s0) ++ G0))) : TC P (.rangeFunc g #[p] assign body) Q n D env R G := by
  intro a w ha hw
  refine (wpIn_wide (n := 0)).1 (wpIn_rangeFunc fun fn _ => ?_)
  obtain ⟨rec, hrec⟩ : ∃ rec : LoopState → Loop, rec = fun st => { state := st, pending := none, fn, tmps := a.tmps, params := #[p], assign, body, defers := w.heap.size } := ⟨_, rfl⟩
  obtain ⟨W1, hW1⟩ : ∃ W1, (w.alloc (.deferred (some []))).alloc (.loop (rec .ready)) = W1 := ⟨_, rfl⟩
  have h1 : Own W1 R (.raw (w.heap.size + 1) (.loop (rec .ready)) :: .raw w.heap.size (.deferred (some [])) :: (Gm s0 ++ G0)) := by
    have a1 : Own (w.alloc (.deferred (some []))) R (.raw w.heap.size (.deferred (some [])) :: (Gm s0 ++ G0)) :=
      (hG w hw).new rfl rfl rfl (fun b hb => heap_alloc_old w _ hb) (World.alloc_heap_new w _) fun b hb => by have : b = w.heap.size := hb; omega
    rw [← hW1]
    have hs : (w.alloc (.deferred (some []))).heap.size = w.heap.size + 1 := by simp
    exact a1.new rfl rfl rfl (fun b hb => heap_alloc_old _ _ hb) (by have := World.alloc_heap_new (w.alloc (.deferred (some []))) (.loop (rec .ready)); rw [hs] at this; exact this) fun b hb => by have : b = w.heap.size + 1 := hb; omega
  refine ⟨w.heap.size + 1, [{ target := .collected w.heap.size, args := #[] }], W1, { target := .fn (.func f) caps.toArray, args := #[.func (.yield (w.heap.size + 1)) #[] #[]] }, W1, f,
    ((Value.func (.yield (w.heap.size + 1)) #[] #[]) :: caps).toArray, W1, ?_, ?_, fun _ _ => trivial, ?_, fun h => (by cases h), ?_⟩
  · rw [← hW1, hrec]; exact run_enterLoop_outer _ _ _ _ _
  · have e1 := ha.eval hg
    simp only [resolve, rangeCall, e1, Deferred.ofValue]
    simp [go_sem, Act.eval]
  · have := sJ (P := P) (w := W1) (args := #[.func (.yield (w.heap.size + 1)) #[] #[]] ++ caps.toArray) hc
    simpa [invoke] using this
  · refine callsIn_wide.2 ?_
    have hy : YieldOk P R (w.heap.size + 1) κ (fun s => .join (.raw (w.heap.size + 1) (.loop (rec .ready)) :: .raw w.heap.size (.deferred (some [])) :: Gm s)) visit := by
      refine ⟨?_⟩
      intro R0 G' w0 x cs s hle0 hr ho
      have h2 : Own w0 R0 (.raw (w.heap.size + 1) (.loop (rec .ready)) :: .raw w.heap.size (.deferred (some [])) :: (Gm s ++ G')) := Own.unjoin ho
      have hl : w0.heap[w.heap.size + 1]? = some (.loop (rec .ready)) := h2.holds _ (.head _)
      have hyr : (Instr.yield (w.heap.size + 1) #[.agg cs.toArray]).run P w0 = .ok (.round (w.heap.size + 1) fn (a.tmps.setIfInBounds p (.agg cs.toArray)) assign body) w0 := by
        have := run_yield (P := P) (args := #[.agg cs.toArray]) hl (by rw [hrec]; rfl)
        rw [hrec] at this; simpa using this
      refine ⟨fn, _, assign, body, hyr, roundIn_of_wpIn (F := Fence.wide) trivial ?_⟩
      have hp' := Nat.le_of_ble_eq_true hp
      have henv : Env n [] ((p, .agg cs.toArray) :: env) { tmps := a.tmps.setIfInBounds p (.agg cs.toArray), defers := [] } :=
        Env.put (a := { tmps := a.tmps, defers := [] }) ⟨ha.size, rfl, ha.get⟩ hp'
      have h3 : Own w0 R0 (Gm s ++ (.raw (w.heap.size + 1) (.loop (rec .ready)) :: .raw w.heap.size (.deferred (some [])) :: G')) := h2.perm (by
        exact perm2 _ _ _ _)
      have hback : ∀ {w1 : World} {R1 : RO} {o : Obj} {l : List Res}, Own w1 R1 (l ++ (.raw (w.heap.size + 1) o :: .raw w.heap.size (.deferred (some [])) :: G')) → Own w1 R1 (.raw (w.heap.size + 1) o :: .raw w.heap.size (.deferred (some [])) :: (l ++ G')) := fun h => h.perm (perm2 _ _ _ _).symm
      refine hassign (w.heap.size + 1) R0 s x cs _ _ hle0 hr (fun z a1 w1 R1 hle1 he1 ho1 => ?_) _ _ henv h3
      have hb1 := hback ho1
      have hl1 : w1.heap[w.heap.size + 1]? = some (.loop (rec .ready)) := hb1.holds _ (.head _)
      refine ⟨_, run_beginRound hl1 (by rw [hrec]), ?_⟩
      have hb2 : Own _ R1 (.raw (w.heap.size + 1) (.loop { rec .ready with state := .busy }) :: .raw w.heap.size (.deferred (some [])) :: (GA z cs s ++ G')) := Own.putObj hb1
      refine hbody z (w.heap.size + 1) R1 s x cs _ _ (hle0.trans hle1) (κ.mono _ _ _ _ hle1 hr) (fun a2 w2 R2 hle2 ho2 => ?_) _ _ he1 (hb2.perm (perm2 _ _ _ _))
      have hb3 := hback ho2
      have hl3 : w2.heap[w.heap.size + 1]? = some (.loop { rec .ready with state := .busy }) := hb3.holds _ (.head _)
      refine ⟨_, _, run_endRound none hl3, _, R2, [_], rfl, hle1.trans hle2, ?_, rfl, rfl⟩
      have e4 : ({ { rec .ready with state := .busy } with state := if (none : Option Code).isNone then .ready else .done, pending := none } : Loop) = rec .ready := by rw [hrec]; rfl
      rw [e4]
      have hb4 : Own (w2.putObj (w.heap.size + 1) (.loop (rec .ready))) R2 (.raw (w.heap.size + 1) (.loop (rec .ready)) :: .raw w.heap.size (.deferred (some [])) :: (Gm (visit x s) ++ G')) := Own.putObj hb3
      exact Own.join (L := .raw (w.heap.size + 1) (.loop (rec .ready)) :: .raw w.heap.size (.deferred (some [])) :: Gm (visit x s)) hb4
    refine (hcall (w.heap.size + 1) _ hy W1 (Own.join (L := .raw (w.heap.size + 1) (.loop (rec .ready)) :: .raw w.heap.size (.deferred (some [])) :: Gm s0) h1)).mono ?_
    rintro e w' ⟨v, R', L', rfl, hle, ho, rfl⟩
    have h2 : Own w' R' (.raw (w.heap.size + 1) (.loop (rec .ready)) :: .raw w.heap.size (.deferred (some [])) :: (Gm (fin s0) ++ G0)) := Own.unjoin ho
    have hl : w'.heap[w.heap.size + 1]? = some (.loop (rec .ready)) := h2.holds _ (.head _)
    refine ⟨none, _, by have := run_endLoop (P := P) hl (by rw [hrec]; simp); rw [hrec] at this; exact this, ?_⟩
    exact k _ R' hle _ _ ⟨ha.size, by show _ ++ a.defers = _; rw [ha.defers]; rfl, ha.get⟩ (Own.putObj (o' := _) (by rw [hrec] at h2; exact h2)).tail

/-- A function whose body holds such a statement. -/
theorem qH0 {f : FuncId} {fn : Func} {c : Code} {vs : List Value} {w : World} {Rp : Ending → World → Prop} (hf : P.funcs[f]? = some fn) (hb : fn.body = some c) (hn : fn.ntmps = n) (hl : Nat.ble vs.length n = true)
    (h : TC P c (bodyPostM .wide 0 P fn Rp) n [] (qC6 0 vs) R G) (hw : Own w R G) : Calls P f vs.toArray w Rp := by
  refine (callsIn_wide (n := 0)).1 (callsIn_of_wp_marks hf hb trivial ((wpIn_wide (n := 0)).2 (h _ w ⟨?_, rfl, fun t v e => ?_⟩ hw)))
  · have := Nat.le_of_ble_eq_true hl
    simp [hn]; omega
  · obtain ⟨j, rfl, hj⟩ := mA vs 0 t v e
    have hlt : j < vs.length := (List.getElem?_eq_some_iff.1 hj).1
    simp only [Nat.zero_add]
    rw [Array.getElem?_append_left (by simpa using hlt)]
    simpa using hj
theorem tx_ret0M {fn : Func} {Rp : Ending → World → Prop} {B : Nat} {e : Exit} (he : e = .ret ∨ e = .normal) (hr : fn.results = #[]) (h : ∀ w, Own w R G → Rp (.returned (.tuple #[])) w) : TX (bodyPostM .wide 0 P fn Rp) e n [{ target := .collected B, args := #[] }] env R (.raw B (.deferred (some [])) :: G) := by
  intro a w ha hw
  have hb : w.heap[B]? = some (.deferred (some [])) := hw.holds _ (.head _)
  have : LeavesInM .wide 0 P fn a.tmps Rp a.defers .returning w := by
    rw [ha.defers]
    refine ⟨by simp, .inl ⟨B, _, rfl, run_takeDeferred hb, ?_⟩⟩
    exact ⟨_, results_none hr _ _ _, h _ (Own.putObj (o' := .deferred none) hw).tail⟩
  rcases he with rfl | rfl <;> exact this
theorem qH1 {fn : Func} {Rp : Ending → World → Prop} {t u x y : Nat} {v v' v'' v3 : Value} {e : Exit} (he : e = .ret ∨ e = .normal) (hr : fn.results = #[.tmp t, .tmp u, .tmp x, .tmp y]) (hv : lk env t = some v) (hv' : lk env u = some v') (hv'' : lk env x = some v'') (hv3 : lk env y = some v3) (h : ∀ w, Own w R G → Rp (.returned (.tuple #[v, v', v'', v3])) w) : TX (bodyPost P fn Rp) e n [] env R G := by
  intro a w ha hw
  have : (results fn a.tmps).run P w = .ok (.tuple #[v, v', v'', v3]) w := by
    simp [results, hr, ha.get _ _ hv, ha.get _ _ hv', ha.get _ _ hv'', ha.get _ _ hv3]
  rcases he with rfl | rfl <;> exact ⟨ha.defers, _, this, h w hw⟩
end
end Go.Proofs.YtcbcdlajnmkioaaGreatDoor

namespace Go.Proofs.YtcbcdlajnmkioaaGreatDoor
open Go
/-! Plain functions: what the layers compute. -/
def vP (c : Int) : Bool := (decide (97 ≤ c) && decide (c ≤ 122)) || (decide (65 ≤ c) && decide (c ≤ 90))
def tJ (c : Int) : Bool := decide (48 ≤ c) && decide (c ≤ 57)
def gW (c : Int) : Bool := vP c || tJ c || decide (c = 95)
def okB (i : Nat) (c : Int) : Bool := vP c || (decide (0 < i) && (tJ c || decide (c = 95)))
def reserved : List ByteArray := [⟨#[116, 111, 112]⟩, ⟨#[98, 111, 116]⟩, ⟨#[110, 111, 116]⟩, ⟨#[97, 110, 100]⟩, ⟨#[111, 114]⟩, ⟨#[115, 111, 109, 101]⟩, ⟨#[97, 108, 108]⟩, ⟨#[99, 111, 110, 99, 101, 112, 116]⟩, ⟨#[114, 111, 108, 101]⟩, ⟨#[105, 110, 100]⟩]
def bI (s : ByteArray) : Bool := reserved.any fun t => decide (s = t)
def bQ (l : List ByteArray) (s : ByteArray) : Int := match l.findIdx? (fun x => decide (s = x)) with | some i => i | none => -1
def dO (s : ByteArray) : Bool := decide (¬ s = ⟨#[]⟩ ∧ ∀ i, i < s.size → okB i (bt s i) = true)
def pQ (s : ByteArray) : Bool := decide (s.size ≤ 12) && dO s && !bI s
end Go.Proofs.YtcbcdlajnmkioaaGreatDoor

namespace Go.Proofs
open Go.Shelf
set_option linter.unusedVariables false
def Tryz.lays144_ren : Go.Shelf.Ren := ⟨fun | 144 => 108 | 143 => 115 | 219 => 127 | 217 => 134 | 225 => 135 | 224 => 136 | 267 => 137 | 266 => 139 | 314 => 140 | n => n, fun | 9 => 9 | 4 => 4 | 3 => 3 | 5 => 5 | 46 => 175 | 146 => 199 | 51 => 188 | n => n, fun | 1 => 1 | n => n⟩
theorem Tryz.lays144 : Go.Proofs.Lays.n144 Tryz.prog Tryz.lays144_ren := {
  mixed := by kernel_rfl
  f143 := Tryz.func115.trans (congrArg some (by kernel_rfl))
  f144 := Tryz.func108.trans (congrArg some (by kernel_rfl))
  f217 := Tryz.func134.trans (congrArg some (by kernel_rfl))
  f219 := Tryz.func127.trans (congrArg some (by kernel_rfl))
  f224 := Tryz.func136.trans (congrArg some (by kernel_rfl))
  f225 := Tryz.func135.trans (congrArg some (by kernel_rfl))
  f266 := Tryz.func139.trans (congrArg some (by kernel_rfl))
  f267 := Tryz.func137.trans (congrArg some (by kernel_rfl))
  f314 := Tryz.func140.trans (congrArg some (by kernel_rfl))
  t3 := Tryz.underlying3
  a3 := Tryz.isAgg3
  z3 := Tryz.sizeOf3
  v3 := Tryz.zeroValue3
  t4 := Tryz.underlying4
  a4 := Tryz.isAgg4
  z4 := Tryz.sizeOf4
  v4 := Tryz.zeroValue4
  t5 := Tryz.underlying5
  a5 := Tryz.isAgg5
  z5 := Tryz.sizeOf5
  v5 := Tryz.zeroValue5
  t9 := Tryz.underlying9
  a9 := Tryz.isAgg9
  z9 := Tryz.sizeOf9
  v9 := Tryz.zeroValue9
  t46 := Tryz.underlying175
  a46 := Tryz.isAgg175
  z46 := Tryz.sizeOf175
  v46 := Tryz.zeroValue175
  t51 := Tryz.underlying188
  a51 := Tryz.isAgg188
  z51 := Tryz.sizeOf188
  v51 := Tryz.zeroValue188
  t146 := Tryz.underlying199
  a146 := Tryz.isAgg199
  z146 := Tryz.sizeOf199
  v146 := Tryz.zeroValue199
  g1 := by kernel_rfl }
open Go.RowKit Go.Lib in
theorem Tryz.strings_Contains (s sub : ByteArray) (m : Int) (w : World) (hs : s.size < 4294967281) (hm : w.cell? ⟨1, 0, none⟩ = some (.int .i64 m)) :
    Calls Tryz.prog 108 #[.string s, .string sub] w fun e w' => e = .returned (.bool (Lib.contains s.data.toList sub.data.toList)) ∧ w' = w := Any.strings_Contains Tryz.lays144 s sub m w hs hm
def Tryz.lays189_ren : Go.Shelf.Ren := ⟨fun | 189 => 104 | 125 => 113 | 257 => 112 | 128 => 125 | 129 => 126 | 294 => 116 | 295 => 117 | 296 => 118 | 297 => 119 | 298 => 120 | 299 => 121 | 216 => 122 | 300 => 123 | 301 => 124 | 328 => 128 | 329 => 129 | 330 => 130 | 331 => 131 | 332 => 132 | 215 => 133 | 343 => 138 | n => n, fun | 28 => 31 | 3 => 3 | 46 => 175 | 0 => 0 | 51 => 188 | 53 => 190 | 4 => 4 | 183 => 180 | 182 => 179 | 131 => 185 | 5 => 5 | 9 => 9 | 218 => 191 | 222 => 138 | 228 => 197 | 229 => 81 | n => n, fun | n => n⟩
theorem Tryz.lays189 : Go.Proofs.Lays.n189 Tryz.prog Tryz.lays189_ren := {
  mixed := by kernel_rfl
  f125 := Tryz.func113.trans (congrArg some (by kernel_rfl))
  f128 := Tryz.func125.trans (congrArg some (by kernel_rfl))
  f129 := Tryz.func126.trans (congrArg some (by kernel_rfl))
  f189 := Tryz.func104.trans (congrArg some (by kernel_rfl))
  f215 := Tryz.func133.trans (congrArg some (by kernel_rfl))
  f216 := Tryz.func122.trans (congrArg some (by kernel_rfl))
  f257 := Tryz.func112.trans (congrArg some (by kernel_rfl))
  f294 := Tryz.func116.trans (congrArg some (by kernel_rfl))
  f295 := Tryz.func117.trans (congrArg some (by kernel_rfl))
  f296 := Tryz.func118.trans (congrArg some (by kernel_rfl))
  f297 := Tryz.func119.trans (congrArg some (by kernel_rfl))
  f298 := Tryz.func120.trans (congrArg some (by kernel_rfl))
  f299 := Tryz.func121.trans (congrArg some (by kernel_rfl))
  f300 := Tryz.func123.trans (congrArg some (by kernel_rfl))
  f301 := Tryz.func124.trans (congrArg some (by kernel_rfl))
  f328 := Tryz.func128.trans (congrArg some (by kernel_rfl))
  f329 := Tryz.func129.trans (congrArg some (by kernel_rfl))
  f330 := Tryz.func130.trans (congrArg some (by kernel_rfl))
  f331 := Tryz.func131.trans (congrArg some (by kernel_rfl))
  f332 := Tryz.func132.trans (congrArg some (by kernel_rfl))
  f343 := Tryz.func138.trans (congrArg some (by kernel_rfl))
  t0 := Tryz.underlying0
  a0 := Tryz.isAgg0
  z0 := Tryz.sizeOf0
  v0 := Tryz.zeroValue0
  t3 := Tryz.underlying3
  a3 := Tryz.isAgg3
  z3 := Tryz.sizeOf3
  v3 := Tryz.zeroValue3
  t4 := Tryz.underlying4
  a4 := Tryz.isAgg4
  z4 := Tryz.sizeOf4
  v4 := Tryz.zeroValue4
  t5 := Tryz.underlying5
  a5 := Tryz.isAgg5
  z5 := Tryz.sizeOf5
  v5 := Tryz.zeroValue5
  t9 := Tryz.underlying9
  a9 := Tryz.isAgg9
  z9 := Tryz.sizeOf9
  v9 := Tryz.zeroValue9
  t28 := Tryz.underlying31
  a28 := Tryz.isAgg31
  z28 := Tryz.sizeOf31
  v28 := Tryz.zeroValue31
  t46 := Tryz.underlying175
  a46 := Tryz.isAgg175
  z46 := Tryz.sizeOf175
  v46 := Tryz.zeroValue175
  t51 := Tryz.underlying188
  a51 := Tryz.isAgg188
  z51 := Tryz.sizeOf188
  v51 := Tryz.zeroValue188
  t53 := Tryz.underlying190
  a53 := Tryz.isAgg190
  z53 := Tryz.sizeOf190
  v53 := Tryz.zeroValue190
  t131 := Tryz.underlying185
  a131 := Tryz.isAgg185
  z131 := Tryz.sizeOf185
  v131 := Tryz.zeroValue185
  t182 := Tryz.underlying179
  a182 := Tryz.isAgg179
  z182 := Tryz.sizeOf179
  v182 := Tryz.zeroValue179
  t183 := Tryz.underlying180
  a183 := Tryz.isAgg180
  z183 := Tryz.sizeOf180
  v183 := Tryz.zeroValue180
  t218 := Tryz.underlying191
  a218 := Tryz.isAgg191
  z218 := Tryz.sizeOf191
  v218 := Tryz.zeroValue191
  t222 := Tryz.underlying138
  a222 := Tryz.isAgg138
  z222 := Tryz.sizeOf138
  v222 := Tryz.zeroValue138
  t228 := Tryz.underlying197
  a228 := Tryz.isAgg197
  z228 := Tryz.sizeOf197
  v228 := Tryz.zeroValue197
  t229 := Tryz.underlying81
  a229 := Tryz.isAgg81
  z229 := Tryz.sizeOf81
  v229 := Tryz.zeroValue81 }
open Go.Sort Go.RowKit in
theorem Tryz.slices_Sort_int (blk off cap : Nat) (zs : List Int) (w : World) (hH : Holds (Value.int .i64) w blk off zs.toArray) (hblk : blk < w.heap.size) (hsz : zs.length < 4611686018427387904) :
    Calls Tryz.prog 104 #[.slice (some ⟨blk, off, none⟩) zs.length cap] w fun e w' =>
      e = .returned (.tuple #[]) ∧ ∃ n os, w' = grow (putRow (Value.int .i64) (Sort.ahead w n) blk off (zs.mergeSort fun x y => decide (x ≤ y)).toArray) os := Any.slices_Sort_int Tryz.lays189 blk off cap zs w hH hblk hsz
open Go.RowKit Go.Sort in
theorem Tryz.slices_Sort_int_none (p : Option Addr) (cap : Nat) (w : World) :
    Calls Tryz.prog 104 #[.slice p 0 cap] w fun e w' => e = .returned (.tuple #[]) ∧ w' = w := Any.slices_Sort_int_none Tryz.lays189 p cap w
end Go.Proofs

namespace Go.Proofs.YtcbcdlajnmkioaaGreatDoor
open Go Go.Proofs
set_option linter.unusedSimpArgs false
set_option linter.unusedVariables false
theorem ca107 : Callable Tryz.prog 107 := ⟨by kernel_rfl⟩

set_option maxRecDepth 20000 in
set_option maxHeartbeats 8000000 in
theorem uI {R : RO} {G : List Res} {w : World} (c : Int) (hb_c : 0 ≤ c ∧ c ≤ 255) (hw : Own w R (G)) :
    Calls Tryz.prog 98 [.int .u8 c].toArray w (kK R G (.bool (vP c))) := by
 refine xG (vs := [.int .u8 c]) Tryz.func98 rfl rfl rfl ?_ hw
 refine qF <| qA ?_
 refine tl (qD rfl) ?_
 refine qB <| qC ?_
 refine kN [(2, .bool (decide (((97 ≤ c) ∧ (c ≤ 122)) ∨ ((65 ≤ c) ∧ (c ≤ 90)))))] (G) (fun _ => True) (fun K hK1 hE2 => ?_) ?_
 refine qA ?_
 refine tl (qG rfl) ?_
 refine tl (jQ rfl rfl rfl) ?_
 refine tl (qG rfl) ?_
 refine xR 5 rfl (fun h3 => ?_) (fun h3 => ?_)
 refine qJ 5 rfl rfl ?_
 refine tl (qG rfl) ?_
 refine qJ 5 rfl rfl ?_
 refine tl (jQ rfl rfl rfl) ?_
 refine tl (qP rfl rfl) ?_
 refine tl (qG rfl) ?_
 refine xR 9 rfl (fun h4 => ?_) (fun h4 => ?_)
 refine qE 9 rfl rfl rfl ?_
 refine qE 9 rfl rfl rfl ?_
 refine qE 9 rfl rfl rfl ?_
 refine jA 12 rfl rfl rfl ?_
 refine jA 12 rfl rfl rfl ?_
 refine qE 9 rfl rfl rfl ?_
 refine tl (qP rfl rfl) ?_
 refine tl (qD rfl) ?_
 refine qB ?_
 exact xK hK1 (.refl _) (trivial) ⟨show some (Value.bool true) = some (Value.bool (decide (((97 ≤ c) ∧ (c ≤ 122)) ∨ ((65 ≤ c) ∧ (c ≤ 90))))) by first | (simp [h3, h4]; done) | grind | (simp [h3, h4] <;> omega), trivial⟩ (fun w hw => hw)
 refine qJ 9 rfl rfl ?_
 refine tl (qG rfl) ?_
 refine qJ 9 rfl rfl ?_
 refine tl (jQ rfl rfl rfl) ?_
 refine qJ 9 rfl rfl ?_
 refine tl (qG rfl) ?_
 refine xR 12 rfl (fun h5 => ?_) (fun h5 => ?_)
 refine qJ 12 rfl rfl ?_
 refine tl (qG rfl) ?_
 refine qJ 12 rfl rfl ?_
 refine tl (jQ rfl rfl rfl) ?_
 refine qJ 9 rfl rfl ?_
 refine tl (qP rfl rfl) ?_
 refine tl (qN rfl rfl) ?_
 refine tl (qD rfl) ?_
 refine qB ?_
 exact xK hK1 (.refl _) (trivial) ⟨show some (Value.bool (decide (c ≤ 90))) = some (Value.bool (decide (((97 ≤ c) ∧ (c ≤ 122)) ∨ ((65 ≤ c) ∧ (c ≤ 90))))) by first | (simp [h3, h4, h5]; done) | grind | (simp [h3, h4, h5] <;> omega), trivial⟩ (fun w hw => hw)
 refine qE 12 rfl rfl rfl ?_
 refine qE 12 rfl rfl rfl ?_
 refine qJ 9 rfl rfl ?_
 refine tl (qN rfl rfl) ?_
 refine tl (qN rfl rfl) ?_
 refine tl (qD rfl) ?_
 refine qB ?_
 exact xK hK1 (.refl _) (trivial) ⟨show some (Value.bool false) = some (Value.bool (decide (((97 ≤ c) ∧ (c ≤ 122)) ∨ ((65 ≤ c) ∧ (c ≤ 90))))) by first | (simp [h3, h4, h5]; done) | grind | (simp [h3, h4, h5] <;> omega), trivial⟩ (fun w hw => hw)
 refine qE 5 rfl rfl rfl ?_
 refine qE 5 rfl rfl rfl ?_
 refine tl (qN rfl rfl) ?_
 refine tl (qG rfl) ?_
 refine qJ 9 rfl rfl ?_
 refine tl (qG rfl) ?_
 refine qJ 9 rfl rfl ?_
 refine tl (jQ rfl rfl rfl) ?_
 refine qJ 9 rfl rfl ?_
 refine tl (qG rfl) ?_
 refine xR 12 rfl (fun h6 => ?_) (fun h6 => ?_)
 refine qJ 12 rfl rfl ?_
 refine tl (qG rfl) ?_
 refine qJ 12 rfl rfl ?_
 refine tl (jQ rfl rfl rfl) ?_
 refine qJ 9 rfl rfl ?_
 refine tl (qP rfl rfl) ?_
 refine tl (qN rfl rfl) ?_
 refine tl (qD rfl) ?_
 refine qB ?_
 exact xK hK1 (.refl _) (trivial) ⟨show some (Value.bool (decide (c ≤ 90))) = some (Value.bool (decide (((97 ≤ c) ∧ (c ≤ 122)) ∨ ((65 ≤ c) ∧ (c ≤ 90))))) by first | (simp [h3, h6]; done) | grind | (simp [h3, h6] <;> omega), trivial⟩ (fun w hw => hw)
 refine qE 12 rfl rfl rfl ?_
 refine qE 12 rfl rfl rfl ?_
 refine qJ 9 rfl rfl ?_
 refine tl (qN rfl rfl) ?_
 refine tl (qN rfl rfl) ?_
 refine tl (qD rfl) ?_
 refine qB ?_
 exact xK hK1 (.refl _) (trivial) ⟨show some (Value.bool false) = some (Value.bool (decide (((97 ≤ c) ∧ (c ≤ 122)) ∨ ((65 ≤ c) ∧ (c ≤ 90))))) by first | (simp [h3, h6]; done) | grind | (simp [h3, h6] <;> omega), trivial⟩ (fun w hw => hw)
 refine fun R8 hle9 hj7 => jC hle9 ?_
 refine qV ?_
 refine xC (.inl rfl) rfl rfl ?_
 have e10 : (decide (((97 ≤ c) ∧ (c ≤ 122)) ∨ ((65 ≤ c) ∧ (c ≤ 90))) : Bool) = vP c := by first | rfl | (rw [Bool.eq_iff_iff]; simp only [vP, decide_eq_true_eq, Bool.or_eq_true, Bool.and_eq_true, Bool.false_eq_true, Bool.not_eq_true', Bool.not_eq_eq_eq_not, Bool.not_true, decide_eq_false_iff_not, Bool.not_false] <;> omega) | (rw [Bool.eq_iff_iff]; simp [vP] <;> omega)
 exact fun w hw => ⟨congrArg Ending.returned (congrArg (fun x0 => Value.bool x0) e10), hw⟩

set_option maxRecDepth 20000 in
set_option maxHeartbeats 8000000 in
theorem uQ {R : RO} {G : List Res} {w : World} (c : Int) (hb_c : 0 ≤ c ∧ c ≤ 255) (hw : Own w R (G)) :
    Calls Tryz.prog 99 [.int .u8 c].toArray w (kK R G (.bool (tJ c))) := by
 refine xG (vs := [.int .u8 c]) Tryz.func99 rfl rfl rfl ?_ hw
 refine qF <| qA ?_
 refine tl (qD rfl) ?_
 refine qB <| qC ?_
 refine kN [(2, .bool (decide ((48 ≤ c) ∧ (c ≤ 57))))] (G) (fun _ => True) (fun K hK1 hE2 => ?_) ?_
 refine qA ?_
 refine tl (qG rfl) ?_
 refine tl (jQ rfl rfl rfl) ?_
 refine tl (qG rfl) ?_
 refine xR 5 rfl (fun h3 => ?_) (fun h3 => ?_)
 refine qJ 5 rfl rfl ?_
 refine tl (qG rfl) ?_
 refine qJ 5 rfl rfl ?_
 refine tl (jQ rfl rfl rfl) ?_
 refine tl (qP rfl rfl) ?_
 refine tl (qD rfl) ?_
 refine qB ?_
 exact xK hK1 (.refl _) (trivial) ⟨show some (Value.bool (decide (c ≤ 57))) = some (Value.bool (decide ((48 ≤ c) ∧ (c ≤ 57)))) by first | (simp [h3]; done) | grind | (simp [h3] <;> omega), trivial⟩ (fun w hw => hw)
 refine qE 5 rfl rfl rfl ?_
 refine qE 5 rfl rfl rfl ?_
 refine tl (qN rfl rfl) ?_
 refine tl (qD rfl) ?_
 refine qB ?_
 exact xK hK1 (.refl _) (trivial) ⟨show some (Value.bool false) = some (Value.bool (decide ((48 ≤ c) ∧ (c ≤ 57)))) by first | (simp [h3]; done) | grind | (simp [h3] <;> omega), trivial⟩ (fun w hw => hw)
 refine fun R5 hle6 hj4 => jC hle6 ?_
 refine qV ?_
 refine xC (.inl rfl) rfl rfl ?_
 have e7 : (decide ((48 ≤ c) ∧ (c ≤ 57)) : Bool) = tJ c := by first | rfl | (rw [Bool.eq_iff_iff]; simp only [tJ, decide_eq_true_eq, Bool.or_eq_true, Bool.and_eq_true, Bool.false_eq_true, Bool.not_eq_true', Bool.not_eq_eq_eq_not, Bool.not_true, decide_eq_false_iff_not, Bool.not_false] <;> omega) | (rw [Bool.eq_iff_iff]; simp [tJ] <;> omega)
 exact fun w hw => ⟨congrArg Ending.returned (congrArg (fun x0 => Value.bool x0) e7), hw⟩

set_option maxRecDepth 20000 in
set_option maxHeartbeats 8000000 in
theorem tC {R : RO} {G : List Res} {w : World} (c : Int) (hb_c : 0 ≤ c ∧ c ≤ 255) (hw : Own w R (G)) :
    Calls Tryz.prog 107 [.int .u8 c].toArray w (kK R G (.bool (vP c))) := by
 refine xG (vs := [.int .u8 c]) Tryz.func107 rfl rfl rfl ?_ hw
 refine qF <| qA ?_
 refine tl (qD rfl) ?_
 refine qB <| qC ?_
 refine kN [(2, .bool (decide (((97 ≤ c) ∧ (c ≤ 122)) ∨ ((65 ≤ c) ∧ (c ≤ 90)))))] (G) (fun _ => True) (fun K hK1 hE2 => ?_) ?_
 refine qA ?_
 refine tl (qG rfl) ?_
 refine tl (jQ rfl rfl rfl) ?_
 refine tl (qG rfl) ?_
 refine xR 5 rfl (fun h3 => ?_) (fun h3 => ?_)
 refine qJ 5 rfl rfl ?_
 refine tl (qG rfl) ?_
 refine qJ 5 rfl rfl ?_
 refine tl (jQ rfl rfl rfl) ?_
 refine tl (qP rfl rfl) ?_
 refine tl (qG rfl) ?_
 refine xR 9 rfl (fun h4 => ?_) (fun h4 => ?_)
 refine qE 9 rfl rfl rfl ?_
 refine qE 9 rfl rfl rfl ?_
 refine qE 9 rfl rfl rfl ?_
 refine jA 12 rfl rfl rfl ?_
 refine jA 12 rfl rfl rfl ?_
 refine qE 9 rfl rfl rfl ?_
 refine tl (qP rfl rfl) ?_
 refine tl (qD rfl) ?_
 refine qB ?_
 exact xK hK1 (.refl _) (trivial) ⟨show some (Value.bool true) = some (Value.bool (decide (((97 ≤ c) ∧ (c ≤ 122)) ∨ ((65 ≤ c) ∧ (c ≤ 90))))) by first | (simp [h3, h4]; done) | grind | (simp [h3, h4] <;> omega), trivial⟩ (fun w hw => hw)
 refine qJ 9 rfl rfl ?_
 refine tl (qG rfl) ?_
 refine qJ 9 rfl rfl ?_
 refine tl (jQ rfl rfl rfl) ?_
 refine qJ 9 rfl rfl ?_
 refine tl (qG rfl) ?_
 refine xR 12 rfl (fun h5 => ?_) (fun h5 => ?_)
 refine qJ 12 rfl rfl ?_
 refine tl (qG rfl) ?_
 refine qJ 12 rfl rfl ?_
 refine tl (jQ rfl rfl rfl) ?_
 refine qJ 9 rfl rfl ?_
 refine tl (qP rfl rfl) ?_
 refine tl (qN rfl rfl) ?_
 refine tl (qD rfl) ?_
 refine qB ?_
 exact xK hK1 (.refl _) (trivial) ⟨show some (Value.bool (decide (c ≤ 90))) = some (Value.bool (decide (((97 ≤ c) ∧ (c ≤ 122)) ∨ ((65 ≤ c) ∧ (c ≤ 90))))) by first | (simp [h3, h4, h5]; done) | grind | (simp [h3, h4, h5] <;> omega), trivial⟩ (fun w hw => hw)
 refine qE 12 rfl rfl rfl ?_
 refine qE 12 rfl rfl rfl ?_
 refine qJ 9 rfl rfl ?_
 refine tl (qN rfl rfl) ?_
 refine tl (qN rfl rfl) ?_
 refine tl (qD rfl) ?_
 refine qB ?_
 exact xK hK1 (.refl _) (trivial) ⟨show some (Value.bool false) = some (Value.bool (decide (((97 ≤ c) ∧ (c ≤ 122)) ∨ ((65 ≤ c) ∧ (c ≤ 90))))) by first | (simp [h3, h4, h5]; done) | grind | (simp [h3, h4, h5] <;> omega), trivial⟩ (fun w hw => hw)
 refine qE 5 rfl rfl rfl ?_
 refine qE 5 rfl rfl rfl ?_
 refine tl (qN rfl rfl) ?_
 refine tl (qG rfl) ?_
 refine qJ 9 rfl rfl ?_
 refine tl (qG rfl) ?_
 refine qJ 9 rfl rfl ?_
 refine tl (jQ rfl rfl rfl) ?_
 refine qJ 9 rfl rfl ?_
 refine tl (qG rfl) ?_
 refine xR 12 rfl (fun h6 => ?_) (fun h6 => ?_)
 refine qJ 12 rfl rfl ?_
 refine tl (qG rfl) ?_
 refine qJ 12 rfl rfl ?_
 refine tl (jQ rfl rfl rfl) ?_
 refine qJ 9 rfl rfl ?_
 refine tl (qP rfl rfl) ?_
 refine tl (qN rfl rfl) ?_
 refine tl (qD rfl) ?_
 refine qB ?_
 exact xK hK1 (.refl _) (trivial) ⟨show some (Value.bool (decide (c ≤ 90))) = some (Value.bool (decide (((97 ≤ c) ∧ (c ≤ 122)) ∨ ((65 ≤ c) ∧ (c ≤ 90))))) by first | (simp [h3, h6]; done) | grind | (simp [h3, h6] <;> omega), trivial⟩ (fun w hw => hw)
 refine qE 12 rfl rfl rfl ?_
 refine qE 12 rfl rfl rfl ?_
 refine qJ 9 rfl rfl ?_
 refine tl (qN rfl rfl) ?_
 refine tl (qN rfl rfl) ?_
 refine tl (qD rfl) ?_
 refine qB ?_
 exact xK hK1 (.refl _) (trivial) ⟨show some (Value.bool false) = some (Value.bool (decide (((97 ≤ c) ∧ (c ≤ 122)) ∨ ((65 ≤ c) ∧ (c ≤ 90))))) by first | (simp [h3, h6]; done) | grind | (simp [h3, h6] <;> omega), trivial⟩ (fun w hw => hw)
 refine fun R8 hle9 hj7 => jC hle9 ?_
 refine qV ?_
 refine xC (.inl rfl) rfl rfl ?_
 have e10 : (decide (((97 ≤ c) ∧ (c ≤ 122)) ∨ ((65 ≤ c) ∧ (c ≤ 90))) : Bool) = vP c := by first | rfl | (rw [Bool.eq_iff_iff]; simp only [vP, decide_eq_true_eq, Bool.or_eq_true, Bool.and_eq_true, Bool.false_eq_true, Bool.not_eq_true', Bool.not_eq_eq_eq_not, Bool.not_true, decide_eq_false_iff_not, Bool.not_false] <;> omega) | (rw [Bool.eq_iff_iff]; simp [vP] <;> omega)
 exact fun w hw => ⟨congrArg Ending.returned (congrArg (fun x0 => Value.bool x0) e10), hw⟩

set_option maxRecDepth 20000 in
set_option maxHeartbeats 8000000 in
theorem cX {R : RO} {G : List Res} {w : World} (c : Int) (hb_c : 0 ≤ c ∧ c ≤ 255) (hw : Own w R (G)) :
    Calls Tryz.prog 109 [.int .u8 c].toArray w (kK R G (.bool (gW c))) := by
 refine xG (vs := [.int .u8 c]) Tryz.func109 rfl rfl rfl ?_ hw
 refine qF <| qA ?_
 refine tl (qD rfl) ?_
 refine qB <| qC ?_
 refine kN [(2, .bool (decide ((((vP c) = true) ∨ ((48 ≤ c) ∧ (c ≤ 57))) ∨ (c = 95))))] (G) (fun _ => True) (fun K hK1 hE2 => ?_) ?_
 refine qA ?_
 refine tl (qG rfl) ?_
 refine qY ca107 rfl (fun w hw => tC c (by omega) hw) rfl ?_
 refine tl (qG rfl) ?_
 refine kB 5 rfl (fun h3 => ?_) (fun h3 => ?_)
 refine qE 5 rfl rfl rfl ?_
 refine qE 5 rfl rfl rfl ?_
 refine qE 5 rfl rfl rfl ?_
 refine jA 8 rfl rfl rfl ?_
 refine jA 8 rfl rfl rfl ?_
 refine qE 5 rfl rfl rfl ?_
 refine tl (qP rfl rfl) ?_
 refine tl (qG rfl) ?_
 refine qE 13 rfl rfl rfl ?_
 refine qE 13 rfl rfl rfl ?_
 refine tl (qP rfl rfl) ?_
 refine tl (qD rfl) ?_
 refine qB ?_
 exact xK hK1 (.refl _) (trivial) ⟨show some (Value.bool true) = some (Value.bool (decide ((((vP c) = true) ∨ ((48 ≤ c) ∧ (c ≤ 57))) ∨ (c = 95)))) by first | (simp [h3]; done) | grind | (simp [h3] <;> omega), trivial⟩ (fun w hw => hw)
 refine qJ 5 rfl rfl ?_
 refine tl (qG rfl) ?_
 refine qJ 5 rfl rfl ?_
 refine tl (jQ rfl rfl rfl) ?_
 refine qJ 5 rfl rfl ?_
 refine tl (qG rfl) ?_
 refine xR 8 rfl (fun h4 => ?_) (fun h4 => ?_)
 refine qJ 8 rfl rfl ?_
 refine tl (qG rfl) ?_
 refine qJ 8 rfl rfl ?_
 refine tl (jQ rfl rfl rfl) ?_
 refine qJ 5 rfl rfl ?_
 refine tl (qP rfl rfl) ?_
 refine tl (qN rfl rfl) ?_
 refine tl (qG rfl) ?_
 refine xR 13 rfl (fun h5 => ?_) (fun h5 => ?_)
 refine qE 13 rfl rfl rfl ?_
 refine qE 13 rfl rfl rfl ?_
 refine tl (qP rfl rfl) ?_
 refine tl (qD rfl) ?_
 refine qB ?_
 exact xK hK1 (.refl _) (trivial) ⟨show some (Value.bool true) = some (Value.bool (decide ((((vP c) = true) ∨ ((48 ≤ c) ∧ (c ≤ 57))) ∨ (c = 95)))) by first | (simp [h3, h4, h5]; done) | grind | (simp [h3, h4, h5] <;> omega), trivial⟩ (fun w hw => hw)
 refine qJ 13 rfl rfl ?_
 refine tl (qG rfl) ?_
 refine qJ 13 rfl rfl ?_
 refine tl (jQ rfl rfl rfl) ?_
 refine tl (qN rfl rfl) ?_
 refine tl (qD rfl) ?_
 refine qB ?_
 exact xK hK1 (.refl _) (trivial) ⟨show some (Value.bool (decide (c = 95))) = some (Value.bool (decide ((((vP c) = true) ∨ ((48 ≤ c) ∧ (c ≤ 57))) ∨ (c = 95)))) by first | (simp [h3, h4, h5]; done) | grind | (simp [h3, h4, h5] <;> omega), trivial⟩ (fun w hw => hw)
 refine qE 8 rfl rfl rfl ?_
 refine qE 8 rfl rfl rfl ?_
 refine qJ 5 rfl rfl ?_
 refine tl (qN rfl rfl) ?_
 refine tl (qN rfl rfl) ?_
 refine tl (qG rfl) ?_
 refine qJ 13 rfl rfl ?_
 refine tl (qG rfl) ?_
 refine qJ 13 rfl rfl ?_
 refine tl (jQ rfl rfl rfl) ?_
 refine tl (qN rfl rfl) ?_
 refine tl (qD rfl) ?_
 refine qB ?_
 exact xK hK1 (.refl _) (trivial) ⟨show some (Value.bool (decide (c = 95))) = some (Value.bool (decide ((((vP c) = true) ∨ ((48 ≤ c) ∧ (c ≤ 57))) ∨ (c = 95)))) by first | (simp [h3, h4]; done) | grind | (simp [h3, h4] <;> omega), trivial⟩ (fun w hw => hw)
 refine fun R7 hle8 hj6 => jC hle8 ?_
 refine qV ?_
 refine xC (.inl rfl) rfl rfl ?_
 have e9 : (decide ((((vP c) = true) ∨ ((48 ≤ c) ∧ (c ≤ 57))) ∨ (c = 95)) : Bool) = gW c := by first | rfl | simp [gW, vP, tJ, *] | (simp [gW, tJ, *] <;> omega)
 exact fun w hw => ⟨congrArg Ending.returned (congrArg (fun x0 => Value.bool x0) e9), hw⟩

end Go.Proofs.YtcbcdlajnmkioaaGreatDoor

namespace Go.Proofs.YtcbcdlajnmkioaaGreatDoor
open Go Go.Proofs
set_option linter.unusedSimpArgs false
set_option linter.unusedVariables false
theorem ca77 : Callable Tryz.prog 77 := ⟨by kernel_rfl⟩
theorem ca78 : Callable Tryz.prog 78 := ⟨by kernel_rfl⟩
theorem ca98 : Callable Tryz.prog 98 := ⟨by kernel_rfl⟩
theorem ca99 : Callable Tryz.prog 99 := ⟨by kernel_rfl⟩
theorem st9 : qH2 Tryz.prog 9 = true := by kernel_rfl

set_option maxRecDepth 20000 in
set_option maxHeartbeats 8000000 in
theorem aV {R : RO} {G : List Res} {w : World} (s : ByteArray) (hz_s : s.size ≤ big) (hw : Own w R (G)) :
    Calls Tryz.prog 77 [.string s].toArray w (kK R G (.bool (dO s))) := by
 unfold big at hz_s
 refine xG (vs := [.string s]) Tryz.func77 rfl rfl rfl ?_ hw
 refine qF <| qA ?_
 refine tl (qD rfl) ?_
 refine qB <| qC <| qF <| qF <| qA ?_
 refine tl (qD rfl) ?_
 refine qB <| qC <| xB ?_
 refine jL ?_
 refine jS (fun i : Nat => s.size - i) (fun i : Nat => [(0, .string s), (3, .int .i64 (i : Int))]) (fun i : Nat => (G)) (fun (i : Nat) => i ≤ s.size ∧ ∀ j : Nat, j < i → okB j (bt s j) = true) (0) ⟨rfl, rfl, trivial⟩ (by exact ⟨by omega, fun j h => by omega⟩) (fun w hw => hw) ?_
 rintro i hI1 ih2
 show TC Tryz.prog _ _ _ [] [(0, .string s), (3, .int .i64 (i : Int))] R (G)
 obtain ⟨hi1, hi2⟩ := hI1
 refine qF <| qF <| qA ?_
 refine tl (qG rfl) ?_
 refine tl (qG rfl) ?_
 refine tl (uZ rfl st9) ?_
 refine tl (jQ rfl rfl rfl) ?_
 refine qB <| qC ?_
 refine qR 7 rfl (fun h5 => ?_) (fun h5 => ?_)
 refine xD rfl ?_
 refine xA <| qC <| qF <| xB ?_
 refine kN [(0, .string s), (3, .int .i64 (i : Int)), (7, .bool true), (31, .bool (decide (((!(vP (bt s i))) = true) ∧ (((i : Int) = 0) ∨ (((!(tJ (bt s i))) = true) ∧ (¬ (bt s i) = 95))))))] (G) (fun _ => True) (fun K hK6 hE7 => ?_) ?_
 refine qA ?_
 refine tl (qG rfl) ?_
 refine tl (qG rfl) ?_
 have hb8 : i < s.size := by omega
 have hr9 := cG s i
 refine tl (nJ (i := i) rfl rfl st9 hb8) ?_
 refine qY ca98 rfl (fun w hw => uI (bt s i) (by omega) hw) rfl ?_
 refine tl (wB rfl) ?_
 refine tl (qG rfl) ?_
 refine kB 15 rfl (fun h10 => ?_) (fun h10 => ?_)
 refine qJ 15 rfl rfl ?_
 refine tl (qG rfl) ?_
 refine qJ 15 rfl rfl ?_
 refine tl (jQ rfl rfl rfl) ?_
 refine qJ 15 rfl rfl ?_
 refine tl (qG rfl) ?_
 refine xR 18 rfl (fun h11 => ?_) (fun h11 => ?_)
 refine qE 18 rfl rfl rfl ?_
 refine qE 18 rfl rfl rfl ?_
 refine qE 18 rfl rfl rfl ?_
 refine qE 18 rfl rfl rfl ?_
 refine qE 18 rfl rfl rfl ?_
 refine qE 18 rfl rfl rfl ?_
 refine jA 24 rfl rfl rfl ?_
 refine jA 24 rfl rfl rfl ?_
 refine jA 24 rfl rfl rfl ?_
 refine jA 24 rfl rfl rfl ?_
 refine qE 18 rfl rfl rfl ?_
 refine qJ 15 rfl rfl ?_
 refine tl (qP rfl rfl) ?_
 refine tl (qP rfl rfl) ?_
 refine qB ?_
 exact xK hK6 (.refl _) (trivial) ⟨rfl, rfl, rfl, show some (Value.bool true) = some (Value.bool (decide (((!(vP (bt s i))) = true) ∧ (((i : Int) = 0) ∨ (((!(tJ (bt s i))) = true) ∧ (¬ (bt s i) = 95)))))) by first | (simp [h10, h11]; done) | grind | (simp [h10, h11] <;> omega), trivial⟩ (fun w hw => hw)
 refine qJ 18 rfl rfl ?_
 refine tl (qG rfl) ?_
 refine qJ 18 rfl rfl ?_
 refine tl (qG rfl) ?_
 refine qJ 18 rfl rfl ?_
 have hb12 : i < s.size := by omega
 have hr13 := cG s i
 refine tl (nJ (i := i) rfl rfl st9 hb12) ?_
 refine qJ 18 rfl rfl ?_
 refine qY ca99 rfl (fun w hw => uQ (bt s i) (by omega) hw) rfl ?_
 refine qJ 18 rfl rfl ?_
 refine tl (wB rfl) ?_
 refine qJ 18 rfl rfl ?_
 refine tl (qG rfl) ?_
 refine kB 24 rfl (fun h14 => ?_) (fun h14 => ?_)
 refine qJ 24 rfl rfl ?_
 refine tl (qG rfl) ?_
 refine qJ 24 rfl rfl ?_
 refine tl (qG rfl) ?_
 refine qJ 24 rfl rfl ?_
 have hb15 : i < s.size := by omega
 have hr16 := cG s i
 refine tl (nJ (i := i) rfl rfl st9 hb15) ?_
 refine qJ 24 rfl rfl ?_
 refine tl (jQ rfl rfl rfl) ?_
 refine qJ 18 rfl rfl ?_
 refine tl (qP rfl rfl) ?_
 refine qJ 15 rfl rfl ?_
 refine tl (qN rfl rfl) ?_
 refine tl (qP rfl rfl) ?_
 refine qB ?_
 exact xK hK6 (.refl _) (trivial) ⟨rfl, rfl, rfl, show some (Value.bool (decide (¬ (bt s i) = 95))) = some (Value.bool (decide (((!(vP (bt s i))) = true) ∧ (((i : Int) = 0) ∨ (((!(tJ (bt s i))) = true) ∧ (¬ (bt s i) = 95)))))) by first | (simp [h10, h11, h14]; done) | grind | (simp [h10, h11, h14] <;> omega), trivial⟩ (fun w hw => hw)
 refine qE 24 rfl rfl rfl ?_
 refine qE 24 rfl rfl rfl ?_
 refine qE 24 rfl rfl rfl ?_
 refine qE 24 rfl rfl rfl ?_
 refine qJ 18 rfl rfl ?_
 refine tl (qN rfl rfl) ?_
 refine qJ 15 rfl rfl ?_
 refine tl (qN rfl rfl) ?_
 refine tl (qP rfl rfl) ?_
 refine qB ?_
 exact xK hK6 (.refl _) (trivial) ⟨rfl, rfl, rfl, show some (Value.bool false) = some (Value.bool (decide (((!(vP (bt s i))) = true) ∧ (((i : Int) = 0) ∨ (((!(tJ (bt s i))) = true) ∧ (¬ (bt s i) = 95)))))) by first | (simp [h10, h11, h14]; done) | grind | (simp [h10, h11, h14] <;> omega), trivial⟩ (fun w hw => hw)
 refine qE 15 rfl rfl rfl ?_
 refine qE 15 rfl rfl rfl ?_
 refine qE 15 rfl rfl rfl ?_
 refine jA 18 rfl rfl rfl ?_
 refine jA 18 rfl rfl rfl ?_
 refine jA 18 rfl rfl rfl ?_
 refine jA 18 rfl rfl rfl ?_
 refine jA 18 rfl rfl rfl ?_
 refine jA 18 rfl rfl rfl ?_
 refine jA 24 rfl rfl rfl ?_
 refine jA 24 rfl rfl rfl ?_
 refine jA 24 rfl rfl rfl ?_
 refine jA 24 rfl rfl rfl ?_
 refine jA 18 rfl rfl rfl ?_
 refine qE 15 rfl rfl rfl ?_
 refine tl (qN rfl rfl) ?_
 refine qB ?_
 exact xK hK6 (.refl _) (trivial) ⟨rfl, rfl, rfl, show some (Value.bool false) = some (Value.bool (decide (((!(vP (bt s i))) = true) ∧ (((i : Int) = 0) ∨ (((!(tJ (bt s i))) = true) ∧ (¬ (bt s i) = 95)))))) by first | (simp [h10]; done) | grind | (simp [h10] <;> omega), trivial⟩ (fun w hw => hw)
 refine fun R18 hle19 hj17 => jC hle19 ?_
 refine qR 31 rfl (fun h20 => ?_) (fun h20 => ?_)
 refine xD rfl ?_
 refine qF <| qA ?_
 refine tl (qD rfl) ?_
 refine qB <| qC <| qV <| qO <| qI <| qI <| qO <| qI ?_
 refine xC (.inl rfl) rfl rfl ?_
 have e21 : (false : Bool) = dO s := by (simp only [dO]; rw [eq_comm, decide_eq_false_iff_not]; rintro ⟨_, hall⟩; have hk := hall i (by omega); grind [okB])
 exact fun w hw => ⟨congrArg Ending.returned (congrArg (fun x0 => Value.bool x0) e21), hw⟩
 refine xW rfl ?_
 refine xA <| jG <| qC <| qA ?_
 refine tl (qG rfl) ?_
 refine tl (kF rfl rfl (by omega) (by omega)) ?_
 refine tl (qD rfl) ?_
 refine qB ?_
 refine xY ?_
 exact fun a w ha hw => ih2.out (i + 1) (by refine ⟨by omega, fun j h => ?_⟩; by_cases e : j = i; (subst e; grind [okB]); exact hi2 j (by omega)) (by (try dsimp only); omega) a w (ha.sub (xS ⟨rfl, rfl, trivial⟩)) (hw)
 refine xW rfl ?_
 refine jK <| qL <| qL <| xI <| qC <| qF <| qA ?_
 refine tl (qG rfl) ?_
 refine tl (v_sne rfl rfl) ?_
 refine tl (qD rfl) ?_
 refine qB <| qC <| qV ?_
 refine xC (.inl rfl) rfl rfl ?_
 have e22 : (decide (¬ s = (⟨#[]⟩)) : Bool) = dO s := by (have e : i = s.size := by omega); subst e; simp only [dO]; simp only [decide_eq_decide]; exact ⟨fun h => ⟨h, hi2⟩, fun h => h.1⟩
 exact fun w hw => ⟨congrArg Ending.returned (congrArg (fun x0 => Value.bool x0) e22), hw⟩

set_option maxRecDepth 20000 in
set_option maxHeartbeats 8000000 in
theorem tD {R : RO} {G : List Res} {w : World} (s : ByteArray) (hz_s : s.size ≤ big) (hw : Own w R (G)) :
    Calls Tryz.prog 78 [.string s].toArray w (kK R G (.bool (bI s))) := by
 unfold big at hz_s
 refine xG (vs := [.string s]) Tryz.func78 rfl rfl rfl ?_ hw
 refine qF <| qA ?_
 refine tl (qD rfl) ?_
 refine qB <| qC <| qF <| qF <| qA ?_
 refine tl (qG rfl) ?_
 refine qB <| qC <| xB <| qF <| qF <| qA ?_
 refine tl (eL rfl rfl) ?_
 refine tl (qD rfl) ?_
 refine qB <| qC ?_
 refine qR 4 rfl (fun h1 => ?_) (fun h1 => ?_)
 refine xD rfl ?_
 refine xA <| qC ?_
 refine xD rfl ?_
 refine qF <| qA ?_
 refine tl (qD rfl) ?_
 refine qB <| qC <| qV <| qO <| qI ?_
 refine xC (.inl rfl) rfl rfl ?_
 have e2 : (true : Bool) = bI s := by (simp only [bI, reserved, List.any_cons, List.any_nil]; grind)
 exact fun w hw => ⟨congrArg Ending.returned (congrArg (fun x0 => Value.bool x0) e2), hw⟩
 refine xW rfl ?_
 refine qF <| qA ?_
 refine tl (eL rfl rfl) ?_
 refine tl (qD rfl) ?_
 refine qB <| qC ?_
 refine qR 4 rfl (fun h3 => ?_) (fun h3 => ?_)
 refine xD rfl ?_
 refine xA <| qC ?_
 refine xD rfl ?_
 refine qF <| qA ?_
 refine tl (qD rfl) ?_
 refine qB <| qC <| qV <| qO <| qI ?_
 refine xC (.inl rfl) rfl rfl ?_
 have e4 : (true : Bool) = bI s := by (simp only [bI, reserved, List.any_cons, List.any_nil]; grind)
 exact fun w hw => ⟨congrArg Ending.returned (congrArg (fun x0 => Value.bool x0) e4), hw⟩
 refine xW rfl ?_
 refine qF <| qA ?_
 refine tl (eL rfl rfl) ?_
 refine tl (qD rfl) ?_
 refine qB <| qC ?_
 refine qR 4 rfl (fun h5 => ?_) (fun h5 => ?_)
 refine xD rfl ?_
 refine xA <| qC ?_
 refine xD rfl ?_
 refine qF <| qA ?_
 refine tl (qD rfl) ?_
 refine qB <| qC <| qV <| qO <| qI ?_
 refine xC (.inl rfl) rfl rfl ?_
 have e6 : (true : Bool) = bI s := by (simp only [bI, reserved, List.any_cons, List.any_nil]; grind)
 exact fun w hw => ⟨congrArg Ending.returned (congrArg (fun x0 => Value.bool x0) e6), hw⟩
 refine xW rfl ?_
 refine qF <| qA ?_
 refine tl (eL rfl rfl) ?_
 refine tl (qD rfl) ?_
 refine qB <| qC ?_
 refine qR 4 rfl (fun h7 => ?_) (fun h7 => ?_)
 refine xD rfl ?_
 refine xA <| qC ?_
 refine xD rfl ?_
 refine qF <| qA ?_
 refine tl (qD rfl) ?_
 refine qB <| qC <| qV <| qO <| qI ?_
 refine xC (.inl rfl) rfl rfl ?_
 have e8 : (true : Bool) = bI s := by (simp only [bI, reserved, List.any_cons, List.any_nil]; grind)
 exact fun w hw => ⟨congrArg Ending.returned (congrArg (fun x0 => Value.bool x0) e8), hw⟩
 refine xW rfl ?_
 refine qF <| qA ?_
 refine tl (eL rfl rfl) ?_
 refine tl (qD rfl) ?_
 refine qB <| qC ?_
 refine qR 4 rfl (fun h9 => ?_) (fun h9 => ?_)
 refine xD rfl ?_
 refine xA <| qC ?_
 refine xD rfl ?_
 refine qF <| qA ?_
 refine tl (qD rfl) ?_
 refine qB <| qC <| qV <| qO <| qI ?_
 refine xC (.inl rfl) rfl rfl ?_
 have e10 : (true : Bool) = bI s := by (simp only [bI, reserved, List.any_cons, List.any_nil]; grind)
 exact fun w hw => ⟨congrArg Ending.returned (congrArg (fun x0 => Value.bool x0) e10), hw⟩
 refine xW rfl ?_
 refine qF <| qA ?_
 refine tl (eL rfl rfl) ?_
 refine tl (qD rfl) ?_
 refine qB <| qC ?_
 refine qR 4 rfl (fun h11 => ?_) (fun h11 => ?_)
 refine xD rfl ?_
 refine xA <| qC ?_
 refine xD rfl ?_
 refine qF <| qA ?_
 refine tl (qD rfl) ?_
 refine qB <| qC <| qV <| qO <| qI ?_
 refine xC (.inl rfl) rfl rfl ?_
 have e12 : (true : Bool) = bI s := by (simp only [bI, reserved, List.any_cons, List.any_nil]; grind)
 exact fun w hw => ⟨congrArg Ending.returned (congrArg (fun x0 => Value.bool x0) e12), hw⟩
 refine xW rfl ?_
 refine qF <| qA ?_
 refine tl (eL rfl rfl) ?_
 refine tl (qD rfl) ?_
 refine qB <| qC ?_
 refine qR 4 rfl (fun h13 => ?_) (fun h13 => ?_)
 refine xD rfl ?_
 refine xA <| qC ?_
 refine xD rfl ?_
 refine qF <| qA ?_
 refine tl (qD rfl) ?_
 refine qB <| qC <| qV <| qO <| qI ?_
 refine xC (.inl rfl) rfl rfl ?_
 have e14 : (true : Bool) = bI s := by (simp only [bI, reserved, List.any_cons, List.any_nil]; grind)
 exact fun w hw => ⟨congrArg Ending.returned (congrArg (fun x0 => Value.bool x0) e14), hw⟩
 refine xW rfl ?_
 refine qF <| qA ?_
 refine tl (eL rfl rfl) ?_
 refine tl (qD rfl) ?_
 refine qB <| qC ?_
 refine qR 4 rfl (fun h15 => ?_) (fun h15 => ?_)
 refine xD rfl ?_
 refine xA <| qC ?_
 refine xD rfl ?_
 refine qF <| qA ?_
 refine tl (qD rfl) ?_
 refine qB <| qC <| qV <| qO <| qI ?_
 refine xC (.inl rfl) rfl rfl ?_
 have e16 : (true : Bool) = bI s := by (simp only [bI, reserved, List.any_cons, List.any_nil]; grind)
 exact fun w hw => ⟨congrArg Ending.returned (congrArg (fun x0 => Value.bool x0) e16), hw⟩
 refine xW rfl ?_
 refine qF <| qA ?_
 refine tl (eL rfl rfl) ?_
 refine tl (qD rfl) ?_
 refine qB <| qC ?_
 refine qR 4 rfl (fun h17 => ?_) (fun h17 => ?_)
 refine xD rfl ?_
 refine xA <| qC ?_
 refine xD rfl ?_
 refine qF <| qA ?_
 refine tl (qD rfl) ?_
 refine qB <| qC <| qV <| qO <| qI ?_
 refine xC (.inl rfl) rfl rfl ?_
 have e18 : (true : Bool) = bI s := by (simp only [bI, reserved, List.any_cons, List.any_nil]; grind)
 exact fun w hw => ⟨congrArg Ending.returned (congrArg (fun x0 => Value.bool x0) e18), hw⟩
 refine xW rfl ?_
 refine qA ?_
 refine tl (eL rfl rfl) ?_
 refine tl (qD rfl) ?_
 refine qB <| qC ?_
 refine qR 4 rfl (fun h19 => ?_) (fun h19 => ?_)
 refine xD rfl ?_
 refine qF <| qA ?_
 refine tl (qD rfl) ?_
 refine qB <| qC <| qV <| qO <| qI ?_
 refine xC (.inl rfl) rfl rfl ?_
 have e20 : (true : Bool) = bI s := by (simp only [bI, reserved, List.any_cons, List.any_nil]; grind)
 exact fun w hw => ⟨congrArg Ending.returned (congrArg (fun x0 => Value.bool x0) e20), hw⟩
 refine xW rfl ?_
 refine xA <| jG <| qC <| qF <| qA ?_
 refine tl (qD rfl) ?_
 refine qB <| qC <| qV ?_
 refine xC (.inl rfl) rfl rfl ?_
 have e21 : (false : Bool) = bI s := by (simp only [bI, reserved, List.any_cons, List.any_nil]; grind)
 exact fun w hw => ⟨congrArg Ending.returned (congrArg (fun x0 => Value.bool x0) e21), hw⟩

set_option maxRecDepth 20000 in
set_option maxHeartbeats 8000000 in
theorem aW {R : RO} {G : List Res} {w : World} (s : ByteArray) (hz_s : s.size ≤ big) (hw : Own w R (G)) :
    Calls Tryz.prog 57 [.string s].toArray w (kK R G (.bool (pQ s))) := by
 unfold big at hz_s
 refine xG (vs := [.string s]) Tryz.func57 rfl rfl rfl ?_ hw
 refine qF <| qA ?_
 refine tl (qD rfl) ?_
 refine qB <| qC ?_
 refine kN [(2, .bool (decide ((((s.size : Int) ≤ 12) ∧ ((dO s) = true)) ∧ ((!(bI s)) = true))))] (G) (fun _ => True) (fun K hK1 hE2 => ?_) ?_
 refine qA ?_
 refine tl (qG rfl) ?_
 refine tl (uZ rfl st9) ?_
 refine tl (jQ rfl rfl rfl) ?_
 refine tl (qG rfl) ?_
 refine xR 6 rfl (fun h3 => ?_) (fun h3 => ?_)
 refine qJ 6 rfl rfl ?_
 refine tl (qG rfl) ?_
 refine qJ 6 rfl rfl ?_
 refine qY ca77 rfl (fun w hw => aV s (by unfold big; omega) hw) rfl ?_
 refine tl (qP rfl rfl) ?_
 refine tl (qG rfl) ?_
 refine kB 10 rfl (fun h4 => ?_) (fun h4 => ?_)
 refine qJ 10 rfl rfl ?_
 refine tl (qG rfl) ?_
 refine qJ 10 rfl rfl ?_
 refine qY ca78 rfl (fun w hw => tD s (by unfold big; omega) hw) rfl ?_
 refine qJ 10 rfl rfl ?_
 refine tl (wB rfl) ?_
 refine tl (qP rfl rfl) ?_
 refine tl (qD rfl) ?_
 refine qB ?_
 exact xK hK1 (.refl _) (trivial) ⟨show some (Value.bool (!(bI s))) = some (Value.bool (decide ((((s.size : Int) ≤ 12) ∧ ((dO s) = true)) ∧ ((!(bI s)) = true)))) by first | (simp [h3, h4]; done) | grind | (simp [h3, h4] <;> omega), trivial⟩ (fun w hw => hw)
 refine qE 10 rfl rfl rfl ?_
 refine qE 10 rfl rfl rfl ?_
 refine qE 10 rfl rfl rfl ?_
 refine tl (qN rfl rfl) ?_
 refine tl (qD rfl) ?_
 refine qB ?_
 exact xK hK1 (.refl _) (trivial) ⟨show some (Value.bool false) = some (Value.bool (decide ((((s.size : Int) ≤ 12) ∧ ((dO s) = true)) ∧ ((!(bI s)) = true)))) by first | (simp [h3, h4]; done) | grind | (simp [h3, h4] <;> omega), trivial⟩ (fun w hw => hw)
 refine qE 6 rfl rfl rfl ?_
 refine qE 6 rfl rfl rfl ?_
 refine tl (qN rfl rfl) ?_
 refine tl (qG rfl) ?_
 refine qE 10 rfl rfl rfl ?_
 refine qE 10 rfl rfl rfl ?_
 refine qE 10 rfl rfl rfl ?_
 refine tl (qN rfl rfl) ?_
 refine tl (qD rfl) ?_
 refine qB ?_
 exact xK hK1 (.refl _) (trivial) ⟨show some (Value.bool false) = some (Value.bool (decide ((((s.size : Int) ≤ 12) ∧ ((dO s) = true)) ∧ ((!(bI s)) = true)))) by first | (simp [h3]; done) | grind | (simp [h3] <;> omega), trivial⟩ (fun w hw => hw)
 refine fun R6 hle7 hj5 => jC hle7 ?_
 refine qV ?_
 refine xC (.inl rfl) rfl rfl ?_
 have e8 : (decide ((((s.size : Int) ≤ 12) ∧ ((dO s) = true)) ∧ ((!(bI s)) = true)) : Bool) = pQ s := by (simp only [pQ]; grind)
 exact fun w hw => ⟨congrArg Ending.returned (congrArg (fun x0 => Value.bool x0) e8), hw⟩

end Go.Proofs.YtcbcdlajnmkioaaGreatDoor

namespace Go.Proofs.YtcbcdlajnmkioaaGreatDoor
open Go Go.Proofs
set_option linter.unusedSimpArgs false
set_option linter.unusedVariables false
theorem ap115 : yM Tryz.prog 115 = some (22, 1, 24, [.slice none 0 0]) := by kernel_rfl
theorem ap22 : yM Tryz.prog 22 = some (9, 1, 16, [.string (⟨#[]⟩)]) := by kernel_rfl
theorem ca57 : Callable Tryz.prog 57 := ⟨by kernel_rfl⟩
theorem ca58 : Callable Tryz.prog 58 := ⟨by kernel_rfl⟩
theorem bD : kH Tryz.prog 24 0 = some 0 := by kernel_rfl
theorem pG : kH Tryz.prog 24 1 = some 1 := by kernel_rfl
theorem dY : kH Tryz.prog 24 2 = some 2 := by kernel_rfl
theorem uJ : kS Tryz.prog 22 = some (false, 1) := by kernel_rfl
theorem ld9 : kS Tryz.prog 9 = some (false, 1) := by kernel_rfl
theorem mX : wJ Tryz.prog 115 = some (22, 1) := by kernel_rfl
theorem uE : wJ Tryz.prog 22 = some (9, 1) := by kernel_rfl

theorem findI_at {l : List ByteArray} {s : ByteArray} : ∀ {i : Nat}, l[i]? = some s → (∀ (j : Nat) (x : ByteArray), j < i → l[j]? = some x → ¬ x = s) → bQ l s = i := by
  intro i h hp
  have : l.findIdx? (fun x => decide (s = x)) = some i := by
    rw [List.findIdx?_eq_some_iff_getElem]
    obtain ⟨hl, hx⟩ := List.getElem?_eq_some_iff.1 h
    refine ⟨hl, by simp [hx], fun j hj => ?_⟩
    have := hp j _ hj (List.getElem?_eq_getElem (by omega))
    simp; exact fun e => this e.symm
  simp [bQ, this]
theorem qC0 {l : List ByteArray} {s : ByteArray} (hp : ∀ (j : Nat) (x : ByteArray), l[j]? = some x → ¬ x = s) : bQ l s = -1 := by
  have : l.findIdx? (fun x => decide (s = x)) = none := by
    rw [List.findIdx?_eq_none_iff]
    intro x hx
    obtain ⟨j, hj⟩ := List.mem_iff_getElem?.1 hx
    have := hp j x hj
    simp; exact fun e => this e.symm
  simp [bQ, this]
theorem fB (l : List ByteArray) (s : ByteArray) : 0 ≤ bQ l s ↔ s ∈ l := by
  unfold bQ
  cases h : l.findIdx? (fun x => decide (s = x)) with
  | none =>
    rw [List.findIdx?_eq_none_iff] at h
    simp only [show ¬ (0 : Int) ≤ -1 by omega, false_iff]
    intro hm
    have := h s hm
    simp at this
  | some i =>
    rw [List.findIdx?_eq_some_iff_getElem] at h
    obtain ⟨hl, hx, -⟩ := h
    have e : s = l[i] := by simpa using hx
    simp only [Int.natCast_nonneg, true_iff]
    rw [e]; exact List.getElem_mem hl
theorem findI_lo (l : List ByteArray) (s : ByteArray) : -1 ≤ bQ l s := by unfold bQ; split <;> omega

set_option maxRecDepth 20000 in
set_option maxHeartbeats 8000000 in
theorem aX {R : RO} {G : List Res} {w : World} {A_l : Option Addr} {d_l : Nat} (l : List (ByteArray)) (s : ByteArray) (hs_l : SlAt kStr R A_l l) (hz_s : s.size ≤ big) (hw : Own w R (G)) :
    Calls Tryz.prog 58 [.slice A_l l.length d_l, .string s].toArray w (kK R G (.int .i64 (bQ l s))) := by
 have hz_l := hs_l.size
 unfold big at hz_l
 unfold big at hz_s
 refine xG (vs := [.slice A_l l.length d_l, .string s]) Tryz.func58 rfl rfl rfl ?_ hw
 refine qF <| qA ?_
 refine tl (qD rfl) ?_
 refine qB <| qC <| qF <| qF <| qA ?_
 refine tl (qG rfl) ?_
 refine tl (jM rfl uE) ?_
 refine tl (qG rfl) ?_
 refine qB <| qC <| xB ?_
 refine jL ?_
 refine jS (fun i : Nat => l.length - i) (fun i : Nat => [(1, .string s), (7, .slice A_l l.length d_l), (8, .int .i64 (l.length : Int)), (9, .int .i64 (i : Int))]) (fun i : Nat => (G)) (fun (i : Nat) => i ≤ l.length ∧ ∀ (j : Nat) (x : ByteArray), j < i → l[j]? = some x → ¬ x = s) (0) ⟨rfl, rfl, rfl, rfl, trivial⟩ (by exact ⟨by omega, fun j x h => by omega⟩) (fun w hw => hw) ?_
 rintro i hI1 ih2
 show TC Tryz.prog _ _ _ [] [(1, .string s), (7, .slice A_l l.length d_l), (8, .int .i64 (l.length : Int)), (9, .int .i64 (i : Int))] R (G)
 obtain ⟨hi1, hi2⟩ := hI1
 refine qF <| qA ?_
 refine tl (jQ rfl rfl rfl) ?_
 refine qB <| qC <| qF ?_
 refine qR 10 rfl (fun h5 => ?_) (fun h5 => ?_)
 refine xD rfl ?_
 refine xA <| qC <| qF <| xB <| qF <| qA ?_
 refine tl (qG rfl) ?_
 have hb11 : i < l.length := by omega
 obtain ⟨x6, hx7⟩ : ∃ x, l[i]? = some x := ⟨_, List.getElem?_eq_getElem hb11⟩
 obtain ⟨c8, hr9, ha10⟩ := hs_l.get _ x6 hx7
 obtain ⟨rfl, z12⟩ := hr9
 unfold big at z12
 refine tl (kC (i := i) hs_l rfl rfl rfl uE hb11) ?_
 refine tl (yL 0 ha10 rfl ld9 rfl rfl) ?_
 refine tl (qD rfl) ?_
 refine tl (qD rfl) ?_
 refine qB <| qC <| qF <| qA ?_
 refine tl (qG rfl) ?_
 refine tl (qG rfl) ?_
 refine tl (eL rfl rfl) ?_
 refine qB <| qC ?_
 refine qR 16 rfl (fun h13 => ?_) (fun h13 => ?_)
 refine xD rfl ?_
 refine qF <| qA ?_
 refine tl (qG rfl) ?_
 refine tl (qD rfl) ?_
 refine qB <| qC <| qV <| qO <| qI <| qI <| qO <| qI ?_
 refine xC (.inl rfl) rfl rfl ?_
 have e14 : ((i : Int) : Int) = bQ l s := by exact (findI_at (by rw [hx7, ← h13]) hi2).symm
 exact fun w hw => ⟨congrArg Ending.returned (congrArg (fun x0 => Value.int .i64 x0) e14), hw⟩
 refine xW rfl ?_
 refine xA <| jG <| qC <| qA ?_
 refine tl (kF rfl rfl (by omega) (by omega)) ?_
 refine tl (qG rfl) ?_
 refine qB ?_
 refine xY ?_
 exact fun a w ha hw => ih2.out (i + 1) (by refine ⟨by omega, fun j x h hx => ?_⟩; by_cases e : j = i; (subst e; grind); exact hi2 j x (by omega) hx) (by (try dsimp only); omega) a w (ha.sub (xS ⟨rfl, rfl, rfl, rfl, trivial⟩)) (hw)
 refine xW rfl ?_
 refine jK <| qL <| qL <| xI <| qC <| qF <| qA ?_
 refine tl (qD rfl) ?_
 refine qB <| qC <| qV ?_
 refine xC (.inl rfl) rfl rfl ?_
 have e15 : ((-1) : Int) = bQ l s := by (symm; apply qC0; intro j x hx; exact hi2 j x (by have := (List.getElem?_eq_some_iff.1 hx).1; omega) hx)
 exact fun w hw => ⟨congrArg Ending.returned (congrArg (fun x0 => Value.int .i64 x0) e15), hw⟩

def zE (n : Names) : List ByteArray := n.concepts ++ n.roles ++ n.inds
def wH (n : Names) : Bool := decide (n.concepts.length ≤ 16 ∧ n.roles.length ≤ 6 ∧ n.inds.length ≤ 10 ∧ (∀ s ∈ zE n, pQ s = true) ∧ (zE n).Nodup)
theorem lD {l : List ByteArray} {x : ByteArray} (h : l.Nodup) (hx : ¬ x ∈ l) : (l ++ [x]).Nodup := by
  rw [List.nodup_append]; refine ⟨h, by simp, fun a ha b hb => ?_⟩
  simp at hb; subst hb; exact fun e => hx (e ▸ ha)

theorem flat_pos {α : Type} {L : List (List α)} {i j : Nat} {x : List α} {e : α} (hx : L[i]? = some x) (he : x[j]? = some e) : ∃ rest, L.flatten = (L.take i).flatten ++ x.take j ++ e :: rest := by
  obtain ⟨hi, rfl⟩ := List.getElem?_eq_some_iff.1 hx
  obtain ⟨hj, rfl⟩ := List.getElem?_eq_some_iff.1 he
  refine ⟨(L[i]).drop (j + 1) ++ (L.drop (i + 1)).flatten, ?_⟩
  have h1 : L.flatten = (L.take i).flatten ++ (L.drop i).flatten := by rw [← List.flatten_append, List.take_append_drop]
  rw [h1, List.drop_eq_getElem_cons hi, List.flatten_cons]
  have h2 : L[i].take j ++ L[i][j] :: L[i].drop (j + 1) = L[i] := by rw [← List.drop_eq_getElem_cons hj, List.take_append_drop]
  have h3 : L[i] ++ (L.drop (i + 1)).flatten = L[i].take j ++ (L[i][j] :: (L[i].drop (j + 1) ++ (L.drop (i + 1)).flatten)) := by
    rw [← List.cons_append, ← List.append_assoc, h2]
  rw [h3]; simp
theorem fC {α : Type} {L : List (List α)} {i : Nat} {x : List α} (hx : L[i]? = some x) : (L.take (i + 1)).flatten = (L.take i).flatten ++ x := by
  rw [List.take_add_one, hx]; simp
theorem dZ {n : Names} {seen rest : List ByteArray} {e : ByteArray} (h : zE n = seen ++ e :: rest) (hc : ¬ pQ e = true ∨ e ∈ seen) : wH n = false := by
  unfold wH
  rw [decide_eq_false_iff_not]
  rintro ⟨-, -, -, h1, h2⟩
  rcases hc with hc | hc
  · exact hc (h1 e (by rw [h]; simp))
  · rw [h, List.nodup_append] at h2
    exact h2.2.2 e hc e (by simp) rfl
def gX (n : Names) : List (List ByteArray) := [n.concepts, n.roles, n.inds]
theorem cY (n : Names) : (gX n).flatten = zE n := by simp [gX, zE]

set_option maxRecDepth 20000 in
set_option maxHeartbeats 8000000 in
theorem gP {R : RO} {G : List Res} {w : World} {c_n : List Value} (n : Names) (hr_n : kNames.rep R n c_n) (hw : Own w R (G)) :
    Calls Tryz.prog 28 [.agg c_n.toArray].toArray w (kK R G (.bool (wH n))) := by
 obtain ⟨A1, d2, A5, d6, A9, d10, rfl, hs3, hs7, hs11⟩ := id hr_n
 have z4 := hs3.size
 unfold big at z4
 have z8 := hs7.size
 unfold big at z8
 have z12 := hs11.size
 unfold big at z12
 refine xG (vs := [.agg #[.slice A1 n.concepts.length d2, .slice A5 n.roles.length d6, .slice A9 n.inds.length d10]]) Tryz.func28 rfl rfl rfl ?_ hw
 refine qF <| qA ?_
 refine qX (l := [.slice A1 n.concepts.length d2, .slice A5 n.roles.length d6, .slice A9 n.inds.length d10]) rfl rfl fun b13 => ?_
 refine tl (qD rfl) ?_
 refine qB <| qC <| qF ?_
 refine kN [(0, .agg #[.slice A1 n.concepts.length d2, .slice A5 n.roles.length d6, .slice A9 n.inds.length d10]), (1, .pointer (some ⟨b13, 0, none⟩)), (2, .bool false), (23, .bool (decide (((16 < (n.concepts.length : Int)) ∨ (6 < (n.roles.length : Int))) ∨ (10 < (n.inds.length : Int)))))] (.blk b13 [.slice A1 n.concepts.length d2, .slice A5 n.roles.length d6, .slice A9 n.inds.length d10] 24 :: G) (fun _ => True) (fun K hK14 hE15 => ?_) ?_
 refine qA ?_
 refine tl (qH 0 rfl bD rfl) ?_
 refine tl (jN 0 rfl uJ rfl rfl) ?_
 refine tl (jM rfl uE) ?_
 refine tl (jQ rfl rfl rfl) ?_
 refine tl (qG rfl) ?_
 refine xR 12 rfl (fun h16 => ?_) (fun h16 => ?_)
 refine qE 12 rfl rfl rfl ?_
 refine qE 12 rfl rfl rfl ?_
 refine qE 12 rfl rfl rfl ?_
 refine qE 12 rfl rfl rfl ?_
 refine tl (qP rfl rfl) ?_
 refine tl (qG rfl) ?_
 refine qE 18 rfl rfl rfl ?_
 refine qE 18 rfl rfl rfl ?_
 refine qE 18 rfl rfl rfl ?_
 refine qE 18 rfl rfl rfl ?_
 refine tl (qP rfl rfl) ?_
 refine qB ?_
 exact xK hK14 (.refl _) (trivial) ⟨rfl, rfl, rfl, show some (Value.bool true) = some (Value.bool (decide (((16 < (n.concepts.length : Int)) ∨ (6 < (n.roles.length : Int))) ∨ (10 < (n.inds.length : Int))))) by first | (simp [h16]; done) | grind | (simp [h16] <;> omega), trivial⟩ (fun w hw => hw)
 refine qJ 12 rfl rfl ?_
 refine tl (qH 1 rfl pG rfl) ?_
 refine qJ 12 rfl rfl ?_
 refine tl (jN 0 rfl uJ rfl rfl) ?_
 refine qJ 12 rfl rfl ?_
 refine tl (jM rfl uE) ?_
 refine qJ 12 rfl rfl ?_
 refine tl (jQ rfl rfl rfl) ?_
 refine tl (qN rfl rfl) ?_
 refine tl (qG rfl) ?_
 refine xR 18 rfl (fun h17 => ?_) (fun h17 => ?_)
 refine qE 18 rfl rfl rfl ?_
 refine qE 18 rfl rfl rfl ?_
 refine qE 18 rfl rfl rfl ?_
 refine qE 18 rfl rfl rfl ?_
 refine tl (qP rfl rfl) ?_
 refine qB ?_
 exact xK hK14 (.refl _) (trivial) ⟨rfl, rfl, rfl, show some (Value.bool true) = some (Value.bool (decide (((16 < (n.concepts.length : Int)) ∨ (6 < (n.roles.length : Int))) ∨ (10 < (n.inds.length : Int))))) by first | (simp [h16, h17]; done) | grind | (simp [h16, h17] <;> omega), trivial⟩ (fun w hw => hw)
 refine qJ 18 rfl rfl ?_
 refine tl (qH 2 rfl dY rfl) ?_
 refine qJ 18 rfl rfl ?_
 refine tl (jN 0 rfl uJ rfl rfl) ?_
 refine qJ 18 rfl rfl ?_
 refine tl (jM rfl uE) ?_
 refine qJ 18 rfl rfl ?_
 refine tl (jQ rfl rfl rfl) ?_
 refine tl (qN rfl rfl) ?_
 refine qB ?_
 exact xK hK14 (.refl _) (trivial) ⟨rfl, rfl, rfl, show some (Value.bool (decide (10 < (n.inds.length : Int)))) = some (Value.bool (decide (((16 < (n.concepts.length : Int)) ∨ (6 < (n.roles.length : Int))) ∨ (10 < (n.inds.length : Int))))) by first | (simp [h16, h17]; done) | grind | (simp [h16, h17] <;> omega), trivial⟩ (fun w hw => hw)
 refine fun R19 hle20 hj18 => jC hle20 ?_
 refine qR 23 rfl (fun h21 => ?_) (fun h21 => ?_)
 refine xD rfl ?_
 refine qF <| qA ?_
 refine tl (qD rfl) ?_
 refine qB <| qC <| qV <| qI ?_
 refine xC (.inl rfl) rfl rfl ?_
 have e22 : (false : Bool) = wH n := by (unfold wH; rw [eq_comm, decide_eq_false_iff_not]; rintro ⟨h_, h2_, h3_, -⟩; omega)
 exact fun w hw => ⟨congrArg Ending.returned (congrArg (fun x0 => Value.bool x0) e22), hw.drop 1⟩
 refine xW rfl ?_
 refine xA <| qC <| qF <| qA ?_
 refine nL 9 1 ?_
 have hv23 : (kStr).reps R [] [] := rfl
 refine tl (qD rfl) ?_
 refine qB <| qC <| qF <| qF <| qA ?_
 refine tl (qH 0 rfl bD rfl) ?_
 refine tl (jN 1 rfl uJ rfl rfl) ?_
 refine tl (qH 1 rfl pG rfl) ?_
 refine tl (jN 1 rfl uJ rfl rfl) ?_
 refine tl (qH 2 rfl dY rfl) ?_
 refine tl (jN 1 rfl uJ rfl rfl) ?_
 refine jF [.slice A1 n.concepts.length d2, .slice A5 n.roles.length d6, .slice A9 n.inds.length d10] ap115 rfl rfl rfl rfl rfl rfl rfl fun b25 => ?_
 refine zH (k := kStr.sl) (l := gX n) 0 rfl (⟨_, _, rfl, ⟨_, _, rfl, hs3⟩, _, _, rfl, ⟨_, _, rfl, hs7⟩, _, _, rfl, ⟨_, _, rfl, hs11⟩, rfl⟩) (by show 3 ≤ big; unfold big; omega) fun R26 hle27 hs28 => ?_
 try replace hv23 := Kd.reps_mono hle27 hv23
 have z29 := hs28.size
 unfold big at z29
 refine tl (jM rfl mX) ?_
 refine tl (qG rfl) ?_
 refine qB <| qC <| xB ?_
 refine jL ?_
 refine jS (fun b_ : Nat × List (ByteArray) × Option Addr × Nat × List Value => match b_ with | (i, seen, A_seen, c_seen, l_seen) => 3 - i) (fun b_ : Nat × List (ByteArray) × Option Addr × Nat × List Value => match b_ with | (i, seen, A_seen, c_seen, l_seen) => [(30, .slice (some ⟨b25, 0, none⟩) 3 3), (31, .int .i64 3), (32, .int .i64 (i : Int)), (3, .slice A_seen seen.length c_seen)]) (fun b_ : Nat × List (ByteArray) × Option Addr × Nat × List Value => match b_ with | (i, seen, A_seen, c_seen, l_seen) => (.vec (.slice A_seen seen.length c_seen) seen.length 9 1 l_seen :: .blk b13 [.slice A1 n.concepts.length d2, .slice A5 n.roles.length d6, .slice A9 n.inds.length d10] 24 :: G)) (fun (b_ : Nat × List (ByteArray) × Option Addr × Nat × List Value) => match b_ with | (i, seen, A_seen, c_seen, l_seen) => (kStr).reps R26 seen l_seen ∧ (i ≤ 3 ∧ seen = ((gX n).take i).flatten ∧ (∀ s ∈ seen, pQ s = true) ∧ seen.Nodup ∧ seen.length ≤ i * 16)) (0, ([] : List (ByteArray)), none, 0, []) ⟨rfl, rfl, rfl, rfl, trivial⟩ (by refine ⟨hv23, ?_⟩; exact ⟨by omega, rfl, by simp, by simp, by simp⟩) (fun w hw => hw) ?_
 rintro ⟨i, seen, A_seen, c_seen, l_seen⟩ hI32 ih33
 show TC Tryz.prog _ _ _ [] [(30, .slice (some ⟨b25, 0, none⟩) 3 3), (31, .int .i64 3), (32, .int .i64 (i : Int)), (3, .slice A_seen seen.length c_seen)] R26 (.vec (.slice A_seen seen.length c_seen) seen.length 9 1 l_seen :: .blk b13 [.slice A1 n.concepts.length d2, .slice A5 n.roles.length d6, .slice A9 n.inds.length d10] 24 :: G)
 obtain ⟨hv31, hI36⟩ := hI32
 obtain ⟨hi1, hi2, hi3, hi4, hi5⟩ := hI36
 have hl3 : (gX n).length = 3 := rfl
 refine qF <| qA ?_
 refine tl (jQ rfl rfl rfl) ?_
 refine qB <| qC <| qF ?_
 refine qR 33 rfl (fun h37 => ?_) (fun h37 => ?_)
 refine xD rfl ?_
 refine xA <| qC <| qF <| xB <| qF <| qA ?_
 have hb43 : i < (gX n).length := by omega
 obtain ⟨x38, hx39⟩ : ∃ x, (gX n)[i]? = some x := ⟨_, List.getElem?_eq_getElem hb43⟩
 obtain ⟨c40, hr41, ha42⟩ := hs28.get _ x38 hx39
 obtain ⟨A44, d45, rfl, hs46⟩ := hr41
 have z47 := hs46.size
 unfold big at z47
 refine tl (kC (i := i) hs28 rfl rfl rfl mX hb43) ?_
 refine tl (yL 0 ha42 rfl uJ rfl rfl) ?_
 refine tl (qD rfl) ?_
 refine qB <| qC <| qF <| qA ?_
 refine tl (qG rfl) ?_
 refine tl (jM rfl uE) ?_
 refine tl (qG rfl) ?_
 refine qB <| qC <| xB ?_
 refine jL ?_
 refine jS (fun b_ : Nat × List (ByteArray) × Option Addr × Nat × List Value => match b_ with | (j, seen2, A_seen2, c_seen2, l_seen2) => x38.length - j) (fun b_ : Nat × List (ByteArray) × Option Addr × Nat × List Value => match b_ with | (j, seen2, A_seen2, c_seen2, l_seen2) => [(30, .slice (some ⟨b25, 0, none⟩) 3 3), (31, .int .i64 3), (32, .int .i64 (i : Int)), (36, .slice A44 x38.length d45), (37, .int .i64 (x38.length : Int)), (38, .int .i64 (j : Int)), (3, .slice A_seen2 seen2.length c_seen2)]) (fun b_ : Nat × List (ByteArray) × Option Addr × Nat × List Value => match b_ with | (j, seen2, A_seen2, c_seen2, l_seen2) => (.vec (.slice A_seen2 seen2.length c_seen2) seen2.length 9 1 l_seen2 :: .blk b13 [.slice A1 n.concepts.length d2, .slice A5 n.roles.length d6, .slice A9 n.inds.length d10] 24 :: G)) (fun (b_ : Nat × List (ByteArray) × Option Addr × Nat × List Value) => match b_ with | (j, seen2, A_seen2, c_seen2, l_seen2) => (kStr).reps R26 seen2 l_seen2 ∧ (j ≤ x38.length ∧ seen2 = seen ++ x38.take j ∧ (∀ s ∈ seen2, pQ s = true) ∧ seen2.Nodup ∧ seen2.length ≤ i * 16 + j)) (0, seen, A_seen, c_seen, l_seen) (by repeat' constructor) (by refine ⟨hv31, ?_⟩; exact ⟨by omega, by simp, hi3, hi4, by omega⟩) (fun w hw => hw) ?_
 rintro ⟨j, seen2, A_seen2, c_seen2, l_seen2⟩ hI50 ih51
 show TC Tryz.prog _ _ _ [] [(30, .slice (some ⟨b25, 0, none⟩) 3 3), (31, .int .i64 3), (32, .int .i64 (i : Int)), (36, .slice A44 x38.length d45), (37, .int .i64 (x38.length : Int)), (38, .int .i64 (j : Int)), (3, .slice A_seen2 seen2.length c_seen2)] R26 (.vec (.slice A_seen2 seen2.length c_seen2) seen2.length 9 1 l_seen2 :: .blk b13 [.slice A1 n.concepts.length d2, .slice A5 n.roles.length d6, .slice A9 n.inds.length d10] 24 :: G)
 obtain ⟨hv49, hI54⟩ := hI50
 obtain ⟨hj1, hj2, hj3, hj4, hj5⟩ := hI54
 have hx16 : x38.length ≤ 16 := by (have hm := List.mem_of_getElem? hx39); simp only [gX, List.mem_cons, List.not_mem_nil, or_false] at hm; rcases hm with rfl | rfl | rfl <;> grind
 refine qF <| qA ?_
 refine tl (jQ rfl rfl rfl) ?_
 refine qB <| qC <| qF ?_
 refine qR 39 rfl (fun h55 => ?_) (fun h55 => ?_)
 refine xD rfl ?_
 refine xA <| qC <| qF <| xB <| qF <| qA ?_
 have hb61 : j < x38.length := by omega
 obtain ⟨x56, hx57⟩ : ∃ x, x38[j]? = some x := ⟨_, List.getElem?_eq_getElem hb61⟩
 obtain ⟨c58, hr59, ha60⟩ := hs46.get _ x56 hx57
 obtain ⟨rfl, z62⟩ := hr59
 unfold big at z62
 refine tl (kC (i := j) hs46 rfl rfl rfl uE hb61) ?_
 refine tl (yL 0 ha60 rfl ld9 rfl rfl) ?_
 refine tl (qD rfl) ?_
 refine qB <| qC <| qF ?_
 refine kN [(30, .slice (some ⟨b25, 0, none⟩) 3 3), (31, .int .i64 3), (32, .int .i64 (i : Int)), (36, .slice A44 x38.length d45), (37, .int .i64 (x38.length : Int)), (38, .int .i64 (j : Int)), (3, .slice A_seen2 seen2.length c_seen2), (39, .bool true), (7, .string x56), (50, .bool (decide (((!(pQ x56)) = true) ∨ (0 ≤ (bQ seen2 x56)))))] (.vec (.slice A_seen2 seen2.length c_seen2) seen2.length 9 1 l_seen2 :: .blk b13 [.slice A1 n.concepts.length d2, .slice A5 n.roles.length d6, .slice A9 n.inds.length d10] 24 :: G) (fun _ => True) (fun K hK63 hE64 => ?_) ?_
 refine qA ?_
 refine tl (qG rfl) ?_
 refine qY ca57 rfl (fun w hw => aW x56 (by first | assumption | (unfold big; omega)) hw) rfl ?_
 refine tl (wB rfl) ?_
 refine tl (qG rfl) ?_
 refine kB 45 rfl (fun h65 => ?_) (fun h65 => ?_)
 refine qE 45 rfl rfl rfl ?_
 refine qE 45 rfl rfl rfl ?_
 refine qE 45 rfl rfl rfl ?_
 refine qE 45 rfl rfl rfl ?_
 refine tl (qP rfl rfl) ?_
 refine qB ?_
 exact xK hK63 (.refl _) (trivial) ⟨rfl, rfl, rfl, rfl, rfl, rfl, rfl, rfl, rfl, show some (Value.bool true) = some (Value.bool (decide (((!(pQ x56)) = true) ∨ (0 ≤ (bQ seen2 x56))))) by first | (simp [h65]; done) | grind | (simp [h65] <;> omega), trivial⟩ (fun w hw => hw)
 refine qJ 45 rfl rfl ?_
 refine tl (qG rfl) ?_
 refine qJ 45 rfl rfl ?_
 refine tl (qG rfl) ?_
 refine qJ 45 rfl rfl ?_
 refine hU (k := kStr) (l := seen2) 0 rfl hv49 rfl (by omega) ca58 rfl (fun R_ w hle_ hlent hw => by exact aX seen2 x56 hlent (by first | assumption | (unfold big; omega)) hw) rfl ?_
 have hf66 := fB seen2 x56
 refine qJ 45 rfl rfl ?_
 refine tl (jQ rfl rfl rfl) ?_
 refine tl (qN rfl rfl) ?_
 refine qB ?_
 exact xK hK63 (.refl _) (trivial) ⟨rfl, rfl, rfl, rfl, rfl, rfl, rfl, rfl, rfl, show some (Value.bool (decide (0 ≤ (bQ seen2 x56)))) = some (Value.bool (decide (((!(pQ x56)) = true) ∨ (0 ≤ (bQ seen2 x56))))) by first | (simp [h65]; done) | grind | (simp [h65] <;> omega), trivial⟩ (fun w hw => hw)
 refine fun R68 hle69 hj67 => jC hle69 ?_
 refine qR 50 rfl (fun h70 => ?_) (fun h70 => ?_)
 refine xD rfl ?_
 refine qF <| qA ?_
 refine tl (qD rfl) ?_
 refine qB <| qC <| qV <| qI <| qO <| qI <| qI <| qO <| qO <| qI <| qI <| qO <| qI ?_
 refine xC (.inl rfl) rfl rfl ?_
 have e71 : (false : Bool) = wH n := by (obtain ⟨rest_, hr_⟩ := flat_pos hx39 hx57; rw [cY, ← hi2, ← hj2] at hr_; symm; refine dZ hr_ ?_; have := fB seen2 x56; grind)
 exact fun w hw => ⟨congrArg Ending.returned (congrArg (fun x0 => Value.bool x0) e71), (hw.drop 2).weaken hle27⟩
 refine xW rfl ?_
 refine xA <| qC <| qA ?_
 refine tl (qG rfl) ?_
 refine tl (qG rfl) ?_
 refine jF [.string x56] ap22 rfl rfl rfl rfl rfl rfl rfl fun b72 => ?_
 refine zZ (k := kStr) (e := x56) 1 0 hv49 (⟨rfl, by unfold big; omega⟩) ap22 rfl rfl rfl rfl rfl (by omega) rfl rfl fun A73 c74 l75 hv76 => ?_
 refine tl (qD rfl) ?_
 refine qB <| jG <| qC <| qA ?_
 refine tl (kF rfl rfl (by omega) (by omega)) ?_
 refine tl (qG rfl) ?_
 refine qB ?_
 refine xY ?_
 exact fun a w ha hw => ih51.out (j + 1, (seen2 ++ [x56]), A73, c74, l75) (by refine ⟨hv76, ?_⟩; refine ⟨by omega, by rw [hj2, List.take_add_one, hx57]; simp, fun s_ hs_ => ?_, lD hj4 ?_, by simp; omega⟩; (rw [List.mem_append] at hs_; rcases hs_ with hs_ | hs_; exact hj3 s_ hs_; simp at hs_; subst hs_; grind); (have := fB seen2 x56; grind)) (by (try dsimp only); omega) a w (ha.sub (xS ⟨rfl, rfl, rfl, rfl, rfl, congrArg (fun z => some (Value.int .i64 z)) (show ((j : Int) + 1 : Int) = ((j + 1) : Int) by first | rfl | omega), rfl, trivial⟩)) (hw.drop 1)
 refine xW rfl ?_
 refine jK <| qL <| qL <| xI <| jG <| qC <| qA ?_
 refine tl (kF rfl rfl (by omega) (by omega)) ?_
 refine tl (qG rfl) ?_
 refine qB ?_
 refine xY ?_
 exact fun a w ha hw => ih33.out (i + 1, seen2, A_seen2, c_seen2, l_seen2) (by refine ⟨hv49, ?_⟩; (have e_ : j = x38.length := by omega); subst e_; rw [List.take_length] at hj2; exact ⟨by omega, by rw [hj2, hi2, fC hx39], hj3, hj4, by omega⟩) (by (try dsimp only); omega) a w (ha.sub (xS ⟨rfl, rfl, rfl, rfl, trivial⟩)) (hw)
 refine xW rfl ?_
 refine jK <| qL <| qL <| xI <| qC <| qF <| qA ?_
 refine tl (qD rfl) ?_
 refine qB <| qC <| qV ?_
 refine xC (.inl rfl) rfl rfl ?_
 have e78 : (true : Bool) = wH n := by (have e_ : i = 3 := by omega); subst e_; (have e2_ : seen = zE n := by rw [hi2, ← cY]; rfl); subst e2_; symm; unfold wH; rw [decide_eq_true_eq]; exact ⟨by omega, by omega, by omega, hi3, hi4⟩
 exact fun w hw => ⟨congrArg Ending.returned (congrArg (fun x0 => Value.bool x0) e78), (hw.drop 2).weaken hle27⟩

end Go.Proofs.YtcbcdlajnmkioaaGreatDoor
