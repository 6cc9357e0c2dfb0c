/- A part of the proof of the statement ModuleGrows of isagogelaw19: rules by which code is walked. -/
import Derived.Test.YtcbcdlajnmkioaaGreatDoorE11
import Derived.RangeFuncLeaves
import Derived.RangeFuncSeq
import Derived.TacticsIn
namespace Go.Proofs.YtcbcdlajnmkioaaGreatDoor
open Go
set_option linter.unusedVariables false
set_option linter.unusedSimpArgs false

/-! ## 13. Range over a function -/

/-- No fence at all; a round's frame, or none. -/
def FW (ρ : Option Nat) : Fence := { Fence.wide with round := ρ }
def TCr (ρ : Option Nat) (P : Program) (c : Code) (Q : Exit → Act → World → Prop) (n : Nat) (D : List Deferred) (env : List (Nat × Value)) (R : RO) (G : List Res) : Prop :=
  ∀ a w, Env n D env a → Own w R G → c.wpIn (FW ρ) 0 P Q a w
def TLr (ρ : Option Nat) (P : Program) (ops : Array Oper) (Q : Exit → Act → World → Prop) (rest : List Oper) (n : Nat) (D : List Deferred) (env : List (Nat × Value)) (R : RO) (G : List Res) : Prop :=
  ∀ a w, Env n D env a → Own w R G → wpListIn (FW ρ) 0 P ops Q rest a w
def noDefer (o : Oper) : Bool := match o.op with | .defer _ => false | _ => true
/-- The region's one operation, and what follows it. -/
def onR (ρ : Option Nat) (P : Program) (ops : Array Oper) (Q : Exit → Act → World → Prop) (rest : List Oper) : Exit → Act → World → Prop := fun e a w => match e with
  | .normal => wpListIn (FW ρ) 0 P ops Q rest a w
  | _ => False

/-- Several resources as one. -/
def Res.join (L : List Res) : Res :=
  ⟨fun b => ∃ r ∈ L, r.foot b, fun w => (∀ r ∈ L, r.holds w) ∧ L.Pairwise (fun r s : Res => ∀ b, r.foot b → ¬ s.foot b),
   fun w w' h k => ⟨fun r hr => r.loc w w' (fun b hb => h b ⟨r, hr, hb⟩) (k.1 r hr), k.2⟩,
   fun w k b ⟨r, hr, hb⟩ => r.lt w (k.1 r hr) b hb⟩
theorem Own.join {w R G} {L : List Res} (h : Own w R (L ++ G)) : Own w R (.join L :: G) :=
  ⟨h.os, h.tape, h.output, h.ro, fun r hr => by
    rcases List.mem_cons.1 hr with rfl | hr
    · exact ⟨fun r hr => h.holds r (List.mem_append_left _ hr), (List.pairwise_append.1 h.apart).1⟩
    · exact h.holds r (List.mem_append_right _ hr),
   fun r hr b hb => by
    rcases List.mem_cons.1 hr with rfl | hr
    · obtain ⟨s, hs, hb⟩ := hb; exact h.away s (List.mem_append_left _ hs) b hb
    · exact h.away r (List.mem_append_right _ hr) b hb,
   List.pairwise_cons.2 ⟨fun s hs b hb hc => by
    obtain ⟨r, hr, hb⟩ := hb
    exact (List.pairwise_append.1 h.apart).2.2 r hr s hs b hb hc, (List.pairwise_append.1 h.apart).2.1⟩⟩
theorem Own.unjoin {w R G} {L : List Res} (h : Own w R (.join L :: G)) : Own w R (L ++ G) :=
  have hj : (∀ r ∈ L, r.holds w) ∧ L.Pairwise fun r s => ∀ b, r.foot b → ¬ s.foot b := h.holds _ (.head _)
  have hp := List.pairwise_cons.1 h.apart
  ⟨h.os, h.tape, h.output, h.ro, fun r hr => by
    rcases List.mem_append.1 hr with hr | hr
    · exact hj.1 r hr
    · exact h.holds r (.tail _ hr),
   fun r hr b hb => by
    rcases List.mem_append.1 hr with hr | hr
    · exact h.away _ (.head _) b ⟨r, hr, hb⟩
    · exact h.away r (.tail _ hr) b hb,
   List.pairwise_append.2 ⟨hj.2, hp.2, fun r hr s hs b hb hc => hp.1 s hs b ⟨r, hr, hb⟩ hc⟩⟩

/-- What a loop's body does with an element, told by a state: yield may be called with it. -/
structure YieldOk {α σ : Type} (P : Program) (R0 : RO) (L : Nat) (k : Kd α) (St : σ → Res) (visit : α → σ → σ) : Prop where
  run : ∀ {R : RO} {G : List Res} {w : World} {x : α} {cs : List Value} (s : σ), R0.le R → k.rep R x cs → Own w R (St s :: G) →
    YieldAt .wide 0 P L #[.agg cs.toArray] w (RetO R G fun v R' L' => v = .bool true ∧ L' = [St (visit x s)])

theorem YieldOk.mono {α σ : Type} {P : Program} {R R' : RO} {L : Nat} {k : Kd α} {St : σ → Res} {visit : α → σ → σ} (h : YieldOk P R L k St visit) (hle : R.le R') : YieldOk P R' L k St visit := ⟨fun s h0 h1 h2 => h.run s (hle.trans h0) h1 h2⟩
theorem run_yieldval {n : Nat} {D : List Deferred} {env : List (Nat × Value)} {a : Act} {x : Operand} {xs : List Operand} {vs : List Value} {L dst ty pos af at_} (ha : Env n D env a) (hx : ev env x = some (.func (.yield L) #[] #[])) (hv : evs env xs = some vs) :
    (execOp a.eval ⟨dst, .call { callee := .value x, args := xs.toArray, argTypes := at_ }, ty, pos, af, none⟩) = Instr.yield L vs.toArray := by
  have e : xs.toArray.map a.eval = vs.toArray := by rw [← evs_map ha hv]; simp
  simp [execOp, resolve, e, ha.eval hx, Deferred.ofValue, invoke]

section
variable {P : Program} {ρ : Option Nat} {n : Nat} {D : List Deferred} {env env' : List (Nat × Value)} {R : RO} {G G' : List Res} {Q : Exit → Act → World → Prop} {ops : Array Oper} {rest : List Oper} {o : Oper}

theorem tc_of_tcr {c : Code} (h : TCr none P c Q n D env R G) : TC P c Q n D env R G := fun a w ha hw => wpIn_wide.1 (h a w ha hw)
theorem tcr_of_tc {c : Code} (h : TC P c Q n D env R G) : TCr none P c Q n D env R G := fun a w ha hw => wpIn_wide.2 (h a w ha hw)
theorem tcr_region {i : Nat} {l : List Oper} (h : TLr ρ P l.toArray Q l n D env R G) : TCr ρ P (.region i l.toArray false) Q n D env R G := fun a w ha hw => wpIn_region_lit (h a w ha hw)
theorem tcr_seq {x y : Code} (h : TCr ρ P x (Exit.then (y.wpIn (FW ρ) 0 P Q) Q) n D env R G) : TCr ρ P (.seq x y) Q n D env R G := fun a w ha hw => wpIn_seq (h a w ha hw)
theorem tcr_block {i : Nat} {c : Code} (h : TCr ρ P c (Exit.inBlock i Q) n D env R G) : TCr ρ P (.block i c) Q n D env R G := fun a w ha hw => wpIn_block (h a w ha hw)
theorem tcr_skip (h : TX Q .normal n D env R G) : TCr ρ P .skip Q n D env R G := fun a w ha hw => wpIn_skip (h a w ha hw)
theorem txr_then {y : Code} {Q' : Exit → Act → World → Prop} (h : TCr ρ P y Q n D env R G) : TX (Exit.then (y.wpIn (FW ρ) 0 P Q) Q') .normal n D env R G := h
theorem tcr_cond {c : Operand} {x y : Code} {t : Bool} (hc : ev env c = some (.bool t)) (ht : t = true → TCr ρ P x Q n D env R G) (hf : t = false → TCr ρ P y Q n D env R G) : TCr ρ P (.cond c x y) Q n D env R G :=
  fun a w ha hw => wpIn_cond_split (ha.eval hc) (fun h => ht h a w ha hw) (fun h => hf h a w ha hw)
theorem tlr_nil (h : TX Q .normal n D env R G) : TLr ρ P ops Q [] n D env R G := fun a w ha hw => h a w ha hw
theorem tlr_G (G') (h : ∀ w, Own w R G → Own w R G') (k : TLr ρ P ops Q rest n D env R G') : TLr ρ P ops Q rest n D env R G := fun a w ha hw => k a w ha (h w hw)
theorem tx_onr (h : TLr ρ P ops Q rest n D env R G) : TX (onR ρ P ops Q rest) .normal n D env R G := h

theorem tlr_step (hg : noDefer o = true) (hgd : o.guard.isNone = true) (h : TL P ops (onR ρ P ops Q rest) [o] n D env R G) : TLr ρ P ops Q (o :: rest) n D env R G := fun a w ha hw => by
  have h1 := h a w ha hw
  have hd : ∀ c, o.op ≠ .defer c := fun c e => by unfold noDefer at hg; rw [e] at hg; cases hg
  have hwt : Region.wanted o (yielded ops a.tmps) = true := by
    cases hq : o.guard with
    | none => simp [Region.wanted, hq]
    | some q => rw [hq] at hgd; cases hgd
  unfold wpList at h1
  unfold wpListIn
  rw [if_pos hwt] at h1 ⊢
  rcases h1 with h1 | ⟨_, hlets⟩
  · refine ⟨fun _ _ => trivial, ?_⟩
    have hs : Oper.semAt (FW ρ).round a.eval o = execOp a.eval o := Oper.semAt_eq _ _ _ hd
    rw [hs]
    unfold Oper.wp at h1
    generalize (execOp a.eval o).run P w = r at h1 ⊢
    cases r with
    | ok x w' =>
      cases x <;> simp only [Oper.upon, Oper.uponIn] at h1 ⊢ <;> first | exact h1 | exact h1.elim | skip
      · rename_i f args
        refine ⟨fun h => (by cases h), ?_⟩
        refine callsIn_wide.2 (h1.mono ?_)
        intro e w'' h2
        cases e
        · exact h2
        · exact h2.elim
        · obtain ⟨_, _, h3⟩ := h2; exact h3.elim
      · rename_i row args
        refine ⟨fun h => (by cases h), fun c cs _ => ?_⟩
        obtain ⟨v, w'', h2, h3⟩ := h1 c cs
        exact ⟨v, w'', h2, stepsIn_wide.2 h3⟩
    | halt x w' => cases x <;> simp only [Oper.upon, Oper.uponIn] at h1 ⊢ <;> first | exact h1 | exact h1.elim
  · obtain ⟨a1, w1, h2⟩ := hlets
    exact h2.elim

/-- yield is called. -/
theorem tlr_yield {L d ty pos af at_ x xs vs} {φ : Value → RO → List Res → Prop} {G1 : List Res} (hx : ev env x = some (.func (.yield L) #[] #[])) (hv : evs env xs = some vs) (hk : ∀ w, Own w R G → YieldAt .wide 0 P L vs.toArray w (RetO R G1 φ)) (hn : Nat.blt d n = true)
    (k : ∀ v R' L', R.le R' → φ v R' L' → TLr none P ops Q rest n D ((d, v) :: env) R' (L' ++ G1)) : TLr none P ops Q (⟨some d, .call { callee := .value x, args := xs.toArray, argTypes := at_ }, ty, pos, af, none⟩ :: rest) n D env R G := fun a w ha hw => by
  refine wpListIn_plain rfl fun K hK => ?_
  refine ⟨fun _ _ => trivial, ?_⟩
  obtain ⟨fn, tmps, assign, body, hr, hround⟩ := hk w hw
  have hs : Oper.semAt (FW none).round a.eval ⟨some d, .call { callee := .value x, args := xs.toArray, argTypes := at_ }, ty, pos, af, none⟩ = Instr.yield L vs.toArray := run_yieldval ha hx hv
  rw [hs, hr]
  refine ⟨fun h => (by cases h), hround.mono ?_⟩
  rintro e w' ⟨v, R', L', rfl, hle, ho, hp⟩
  exact hK _ _ (k v R' L' hle hp _ _ (ha.put (Nat.le_of_ble_eq_true hn)) ho)

theorem Own.putObj {w : World} {l : Nat} {o o' : Obj} (h : Own w R (.raw l o :: G)) : Own (w.putObj l o') R (.raw l o' :: G) := by
  have hh : w.heap[l]? = some o := h.holds _ (.head _)
  exact Own.step h rfl rfl rfl (fun b _ hb => World.putObj_heap_other (fun e => hb e)) (World.putObj_heap_same (lt_of_some hh)) fun b hb => .inl hb

theorem perm2 (u v : Res) (l m : List Res) : (u :: v :: (l ++ m)).Perm (l ++ (u :: v :: m)) := by
  have := (List.perm_append_comm (l₁ := [u, v]) (l₂ := l)).append_right m
  simpa using this

/-- The statement: an iterator that calls yield with each element, whatever yield does, told by a state. -/
theorem tc_range {α σ Z : Type} {κ : Kd α} {g : Operand} {p : Nat} {assign body : Code} {f : FuncId} {caps : List Value} (Gm : σ → List Res) (visit : α → σ → σ) (fin : σ → σ) (s0 : σ) (G0 : List Res) (envA : Z → List Value → List (Nat × Value)) (GA : Z → List Value → σ → List Res)
    (hg : ev env g = some (.func (.func f) #[] caps.toArray)) (hc : Callable P f) (hp : Nat.blt p n = true) (hG : ∀ w, Own w R G → Own w R (Gm s0 ++ G0))
    (hassign : ∀ (l : Nat) (R' : RO) (s : σ) (x : α) (cs : List Value) (G1 : List Res) (K : Exit → Act → World → Prop), R.le R' → κ.rep R' x cs → (∀ z a w R'', R'.le R'' → Env n [] (envA z cs) a → Own w R'' (GA z cs s ++ G1) → K .normal a w) → TCr (some l) P assign K n [] ((p, .agg cs.toArray) :: env) R' (Gm s ++ G1))
    (hbody : ∀ (z : Z) (l : Nat) (R' : RO) (s : σ) (x : α) (cs : List Value) (G1 : List Res) (K : Exit → Act → World → Prop), R.le R' → κ.rep R' x cs → (∀ a w R'', R'.le R'' → Own w R'' (Gm (visit x s) ++ G1) → K .normal a w) → TCr (some l) P body K n [] (envA z cs) R' (GA z cs s ++ G1))
    (hcall : ∀ (L : Nat) (St : σ → Res), YieldOk P R L κ St visit → ∀ w, Own w R (St s0 :: G0) → Calls P f ((Value.func (.yield L) #[] #[]) :: caps).toArray w (RetO R G0 fun _ _ L' => L' = [St (fin s0)]))
    (k : ∀ B R', R.le R' → TX Q .normal n ({ target := .collected B, args := #[] } :: D) env R' (.raw B (.deferred (some [])) :: (Gm (fin s0) ++ G0))) : TC P (.rangeFunc g #[p] assign body) Q n D env R G := by
  intro a w ha hw
  refine (wpIn_wide (n := 0)).1 (wpIn_rangeFunc fun fn _ => ?_)
  obtain ⟨rec, hrec⟩ : ∃ rec : LoopState → Loop, rec = fun st => { state := st, pending := none, fn, tmps := a.tmps, params := #[p], assign, body, defers := w.heap.size } := ⟨_, rfl⟩
  obtain ⟨W1, hW1⟩ : ∃ W1, (w.alloc (.deferred (some []))).alloc (.loop (rec .ready)) = W1 := ⟨_, rfl⟩
  have h1 : Own W1 R (.raw (w.heap.size + 1) (.loop (rec .ready)) :: .raw w.heap.size (.deferred (some [])) :: (Gm s0 ++ G0)) := by
    have a1 : Own (w.alloc (.deferred (some []))) R (.raw w.heap.size (.deferred (some [])) :: (Gm s0 ++ G0)) :=
      (hG w hw).new rfl rfl rfl (fun b hb => heap_alloc_old w _ hb) (World.alloc_heap_new w _) fun b hb => by have : b = w.heap.size := hb; omega
    rw [← hW1]
    have hs : (w.alloc (.deferred (some []))).heap.size = w.heap.size + 1 := by simp
    exact a1.new rfl rfl rfl (fun b hb => heap_alloc_old _ _ hb) (by have := World.alloc_heap_new (w.alloc (.deferred (some []))) (.loop (rec .ready)); rw [hs] at this; exact this) fun b hb => by have : b = w.heap.size + 1 := hb; omega
  refine ⟨w.heap.size + 1, [{ target := .collected w.heap.size, args := #[] }], W1, { target := .fn (.func f) caps.toArray, args := #[.func (.yield (w.heap.size + 1)) #[] #[]] }, W1, f,
    ((Value.func (.yield (w.heap.size + 1)) #[] #[]) :: caps).toArray, W1, ?_, ?_, fun _ _ => trivial, ?_, fun h => (by cases h), ?_⟩
  · rw [← hW1, hrec]; exact run_enterLoop_outer _ _ _ _ _
  · have e1 := ha.eval hg
    simp only [resolve, rangeCall, e1, Deferred.ofValue]
    simp [go_sem, Act.eval]
  · have := run_callFunc (P := P) (w := W1) (args := #[.func (.yield (w.heap.size + 1)) #[] #[]] ++ caps.toArray) hc
    simpa [invoke] using this
  · refine callsIn_wide.2 ?_
    have hy : YieldOk P R (w.heap.size + 1) κ (fun s => .join (.raw (w.heap.size + 1) (.loop (rec .ready)) :: .raw w.heap.size (.deferred (some [])) :: Gm s)) visit := by
      refine ⟨?_⟩
      intro R0 G' w0 x cs s hle0 hr ho
      have h2 : Own w0 R0 (.raw (w.heap.size + 1) (.loop (rec .ready)) :: .raw w.heap.size (.deferred (some [])) :: (Gm s ++ G')) := Own.unjoin ho
      have hl : w0.heap[w.heap.size + 1]? = some (.loop (rec .ready)) := h2.holds _ (.head _)
      have hyr : (Instr.yield (w.heap.size + 1) #[.agg cs.toArray]).run P w0 = .ok (.round (w.heap.size + 1) fn (a.tmps.setIfInBounds p (.agg cs.toArray)) assign body) w0 := by
        have := run_yield (P := P) (args := #[.agg cs.toArray]) hl (by rw [hrec]; rfl)
        rw [hrec] at this; simpa using this
      refine ⟨fn, _, assign, body, hyr, roundIn_of_wpIn (F := Fence.wide) trivial ?_⟩
      have hp' := Nat.le_of_ble_eq_true hp
      have henv : Env n [] ((p, .agg cs.toArray) :: env) { tmps := a.tmps.setIfInBounds p (.agg cs.toArray), defers := [] } :=
        Env.put (a := { tmps := a.tmps, defers := [] }) ⟨ha.size, rfl, ha.get⟩ hp'
      have h3 : Own w0 R0 (Gm s ++ (.raw (w.heap.size + 1) (.loop (rec .ready)) :: .raw w.heap.size (.deferred (some [])) :: G')) := h2.perm (by
        exact perm2 _ _ _ _)
      have hback : ∀ {w1 : World} {R1 : RO} {o : Obj} {l : List Res}, Own w1 R1 (l ++ (.raw (w.heap.size + 1) o :: .raw w.heap.size (.deferred (some [])) :: G')) → Own w1 R1 (.raw (w.heap.size + 1) o :: .raw w.heap.size (.deferred (some [])) :: (l ++ G')) := fun h => h.perm (perm2 _ _ _ _).symm
      refine hassign (w.heap.size + 1) R0 s x cs _ _ hle0 hr (fun z a1 w1 R1 hle1 he1 ho1 => ?_) _ _ henv h3
      have hb1 := hback ho1
      have hl1 : w1.heap[w.heap.size + 1]? = some (.loop (rec .ready)) := hb1.holds _ (.head _)
      refine ⟨_, run_beginRound hl1 (by rw [hrec]), ?_⟩
      have hb2 : Own _ R1 (.raw (w.heap.size + 1) (.loop { rec .ready with state := .busy }) :: .raw w.heap.size (.deferred (some [])) :: (GA z cs s ++ G')) := Own.putObj hb1
      refine hbody z (w.heap.size + 1) R1 s x cs _ _ (hle0.trans hle1) (κ.mono _ _ _ _ hle1 hr) (fun a2 w2 R2 hle2 ho2 => ?_) _ _ he1 (hb2.perm (perm2 _ _ _ _))
      have hb3 := hback ho2
      have hl3 : w2.heap[w.heap.size + 1]? = some (.loop { rec .ready with state := .busy }) := hb3.holds _ (.head _)
      refine ⟨_, _, run_endRound none hl3, _, R2, [_], rfl, hle1.trans hle2, ?_, rfl, rfl⟩
      have e4 : ({ { rec .ready with state := .busy } with state := if (none : Option Code).isNone then .ready else .done, pending := none } : Loop) = rec .ready := by rw [hrec]; rfl
      rw [e4]
      have hb4 : Own (w2.putObj (w.heap.size + 1) (.loop (rec .ready))) R2 (.raw (w.heap.size + 1) (.loop (rec .ready)) :: .raw w.heap.size (.deferred (some [])) :: (Gm (visit x s) ++ G')) := Own.putObj hb3
      exact Own.join (L := .raw (w.heap.size + 1) (.loop (rec .ready)) :: .raw w.heap.size (.deferred (some [])) :: Gm (visit x s)) hb4
    refine (hcall (w.heap.size + 1) _ hy W1 (Own.join (L := .raw (w.heap.size + 1) (.loop (rec .ready)) :: .raw w.heap.size (.deferred (some [])) :: Gm s0) h1)).mono ?_
    rintro e w' ⟨v, R', L', rfl, hle, ho, rfl⟩
    have h2 : Own w' R' (.raw (w.heap.size + 1) (.loop (rec .ready)) :: .raw w.heap.size (.deferred (some [])) :: (Gm (fin s0) ++ G0)) := Own.unjoin ho
    have hl : w'.heap[w.heap.size + 1]? = some (.loop (rec .ready)) := h2.holds _ (.head _)
    refine ⟨none, _, by have := run_endLoop (P := P) hl (by rw [hrec]; simp); rw [hrec] at this; exact this, ?_⟩
    exact k _ R' hle _ _ ⟨ha.size, by show _ ++ a.defers = _; rw [ha.defers]; rfl, ha.get⟩ (Own.putObj (o' := _) (by rw [hrec] at h2; exact h2)).tail

/-- A function whose body holds such a statement. -/
theorem fn_enterM {f : FuncId} {fn : Func} {c : Code} {vs : List Value} {w : World} {Rp : Ending → World → Prop} (hf : P.funcs[f]? = some fn) (hb : fn.body = some c) (hn : fn.ntmps = n) (hl : Nat.ble vs.length n = true)
    (h : TC P c (bodyPostM .wide 0 P fn Rp) n [] (args0 0 vs) R G) (hw : Own w R G) : Calls P f vs.toArray w Rp := by
  refine (callsIn_wide (n := 0)).1 (callsIn_of_wp_marks hf hb trivial ((wpIn_wide (n := 0)).2 (h _ w ⟨?_, rfl, fun t v e => ?_⟩ hw)))
  · have := Nat.le_of_ble_eq_true hl
    simp [hn]; omega
  · obtain ⟨j, rfl, hj⟩ := lk_args0 vs 0 t v e
    have hlt : j < vs.length := (List.getElem?_eq_some_iff.1 hj).1
    simp only [Nat.zero_add]
    rw [Array.getElem?_append_left (by simpa using hlt)]
    simpa using hj
theorem tx_ret0M {fn : Func} {Rp : Ending → World → Prop} {B : Nat} {e : Exit} (he : e = .ret ∨ e = .normal) (hr : fn.results = #[]) (h : ∀ w, Own w R G → Rp (.returned (.tuple #[])) w) : TX (bodyPostM .wide 0 P fn Rp) e n [{ target := .collected B, args := #[] }] env R (.raw B (.deferred (some [])) :: G) := by
  intro a w ha hw
  have hb : w.heap[B]? = some (.deferred (some [])) := hw.holds _ (.head _)
  have : LeavesInM .wide 0 P fn a.tmps Rp a.defers .returning w := by
    rw [ha.defers]
    refine ⟨by simp, .inl ⟨B, _, rfl, run_takeDeferred hb, ?_⟩⟩
    exact ⟨_, results_none hr _ _ _, h _ (Own.putObj (o' := .deferred none) hw).tail⟩
  rcases he with rfl | rfl <;> exact this
theorem tx_ret4 {fn : Func} {Rp : Ending → World → Prop} {t u x y : Nat} {v v' v'' v3 : Value} {e : Exit} (he : e = .ret ∨ e = .normal) (hr : fn.results = #[.tmp t, .tmp u, .tmp x, .tmp y]) (hv : lk env t = some v) (hv' : lk env u = some v') (hv'' : lk env x = some v'') (hv3 : lk env y = some v3) (h : ∀ w, Own w R G → Rp (.returned (.tuple #[v, v', v'', v3])) w) : TX (bodyPost P fn Rp) e n [] env R G := by
  intro a w ha hw
  have : (results fn a.tmps).run P w = .ok (.tuple #[v, v', v'', v3]) w := by
    simp [results, hr, ha.get _ _ hv, ha.get _ _ hv', ha.get _ _ hv'', ha.get _ _ hv3]
  rcases he with rfl | rfl <;> exact ⟨ha.defers, _, this, h w hw⟩
end
end Go.Proofs.YtcbcdlajnmkioaaGreatDoor
