/- Proved here: code, rounds, frames, deferred calls and calls run as the abstract machine says, where it answers. -/
import Derived.Test.YtnlccebemhloeaaGreatAbD
import Derived.AtR
import Derived.Laws.LoneSync
set_option linter.all false
set_option linter.unusedSimpArgs false
set_option linter.unusedVariables false
namespace Go.Ab

section
variable {C : Ctx} {μ : Mu} {s : AS} {w : World} {b : Frame} {a : Act} {cs : List Frame} {cu : CU} {k : List Item}
variable {call : UM → AV → List AV → AHeap → CR} {inv : AV → String → Option AV}

/-- What is no normal end goes out of an item that neither exits nor jumps end at. -/
theorem ExR.out {H : AHeap} {m : Machine} {k' : List Item} {r : AR} (h : ExR C μ H w b m k' cs cu r) (hn : ∀ s, r ≠ .ok .normal s) (he : ∀ n s, r = .ok (.exit n) s → exitTo n k' = exitTo n k)
    (hg : ∀ n s, r = .ok (.goto n) s → gotoIn n k' = gotoIn n k) : ExR C μ H w b m k cs cu r := by
  cases r with
  | need n => trivial
  | bad why => trivial
  | ok e s' =>
    obtain ⟨μ', ce, cu', a', w', h1, h2, h3, h4, h5⟩ := h
    refine ⟨μ', ce, cu', a', w', h1, h2, h3, h4, ?_⟩
    cases e with
    | normal => exact absurd rfl (hn s')
    | exit n =>
      cases ce <;> simp only [EvRel] at h1
      subst h1
      obtain ⟨k1, q1, q2⟩ := h5
      exact ⟨k1, q1.trans (he n s' rfl), q2⟩
    | goto n =>
      cases ce <;> simp only [EvRel] at h1
      subst h1
      obtain ⟨k1, q1, q2⟩ := h5
      exact ⟨k1, q1.trans (hg n s' rfl), q2⟩
    | ret => cases ce <;> simp only [EvRel] at h1; exact h5
    | panic l => cases ce <;> simp only [EvRel] at h1; exact h5

/-- One behind the other. -/
theorem then_run {g : List Nat → AR} {f : AS → AR} {ω : List Nat} {R : AR} {H : AHeap} {m : Machine} {k' : List Item} (h1 : Orac AR.wo AR.nd g ω R) (h2 : ExR C μ H w b m k' cs cu R)
    (hf : ∀ μ1 s1 w1 a1 cu1, SR C μ1 s1 b cu1 a1 w1 → (cu = none ↔ cu1 = none) → ∃ ω R, Orac AR.wo AR.nd (fun x => f (s1.wo x)) ω R ∧ ExR C μ1 s1.H w1 b (lone (fat b a1 k') (callersOf cs cu1) w1) k cs cu1 R)
    (he : ∀ n, exitTo n k' = exitTo n k) (hg : ∀ n, gotoIn n k' = gotoIn n k) :
    ∃ ω R, Orac AR.wo AR.nd (fun x => thenA f (g x)) ω R ∧ ExR C μ H w b m k cs cu R := by
  by_cases hn : ∃ s1, R = .ok .normal s1
  · obtain ⟨s1, rfl⟩ := hn
    obtain ⟨μ', ce, cu', a', w', e1, e2, e3, e4, e5⟩ := h2
    cases ce <;> simp only [EvRel] at e1
    obtain ⟨ω2, R2, q1, q2⟩ := hf μ' s1 w' a' cu' e2 e4
    exact ⟨_, R2, h1.seq q1, .of_go e3 e4 (.of_steps e5 q2)⟩
  · have hn' : ∀ s, R ≠ .ok .normal s := fun s h => hn ⟨s, h⟩
    exact ⟨ω, R, h1.stop hn', h2.out hn' (fun n _ _ => he n) (fun n _ _ => hg n)⟩

theorem thenA_eq (f : AS → AR) (r : AR) : (match r with
    | .ok .normal s' => f s'
    | r => r) = thenA f r := by
  cases r with
  | ok e s => cases e <;> rfl
  | need n => rfl
  | bad why => rfl

/-- What a jump comes to in a scope. -/
def scopeStep (from_ : Nat → AS → Option AR) (n : Nat) (r : AR) : AR := scopeA n from_ r

theorem cond_run {c : Operand} (hs : SR C μ s b cu a w) {t : Bool} (h : condA C.ng s.tm c = some t) : a.eval c = .bool t := by
  unfold condA at h
  cases ho : opd C.ng c with
  | none => rw [ho] at h; cases h
  | some x =>
    rw [ho] at h
    simp only at h
    have hv := (Rho.of hs.gl hs.tm) c x ho
    split at h
    · rename_i t' hx
      cases h
      rw [hx] at hv
      exact (bool_rel hv t).1 rfl
    · cases h

/-! ### a range over a function -/

def mkLoop (b : Frame) (a : Act) (ps : Array Tmp) (asg bd : Code) (w : World) : Loop :=
  { state := .ready, pending := none, fn := b.fn, tmps := a.tmps, params := ps, assign := asg, body := bd, defers := w.heap.size }

def loopW (b : Frame) (a : Act) (ps : Array Tmp) (asg bd : Code) (w : World) : World :=
  { w with heap := (w.heap.push (.deferred (some []))).push (.loop (mkLoop b a ps asg bd w)) }

theorem run_enterLoop {P : Program} {ps : Array Tmp} {asg bd : Code} : (Instr.enterLoop b.fn a.tmps ps asg bd none).run P w =
    .ok (w.heap.size + 1, [{ target := .collected w.heap.size, args := #[] }]) (loopW b a ps asg bd w) := by
  simp [Instr.enterLoop, Sem.run_bind, run_newObj, Sem.run_pure, loopW, mkLoop]
  rfl

theorem fstepG_range {P : Program} {f : Operand} {ps : Array Tmp} {asg bd : Code} (hb : b.roundOf = none) {cs' : List Frame} :
    (stepG P true { frame := fat b a (.code (.rangeFunc f ps asg bd) :: k), callers := cs', status := .running, dying := none } w).bare =
      (stepG.apply P true (fat b { a with defers := ⟨.collected w.heap.size, #[]⟩ :: a.defers } (.inRangeFunc (w.heap.size + 1) :: k)) cs' none
        (Deferred.ofValue (a.eval f) #[.func (.yield (w.heap.size + 1)) #[] #[]] >>= fun d => invoke d.target d.args) (loopW b a ps asg bd w)).bare := by
  have hr := run_enterLoop (b := b) (a := a) (w := w) (P := P) (ps := ps) (asg := asg) (bd := bd)
  have he : ({ fn := b.fn, tmps := a.tmps, todo := Item.inRangeFunc (w.heap.size + 1) :: k, defers := [{ target := Target.collected w.heap.size, args := #[] }] ++ a.defers, mode := FrameMode.run, kind := b.kind } : Frame).eval = a.eval := by
    funext x; cases x <;> rfl
  have hq : resolve a.eval { callee := Callee.value f, args := #[Operand.const (Value.func (Fn.yield (w.heap.size + 1)) #[] #[])], argTypes := #[] } 0 = Deferred.ofValue (a.eval f) #[Value.func (Fn.yield (w.heap.size + 1)) #[] #[]] := by
    simp [resolve, Act.eval]
  simp only [stepG, stepG.exec, fat, hb, Sem.runT_eq, hr, GStep.bare_after, he, hq]
  rfl

theorem fstep_endRange {P : Program} {l : Nat} {jump : Option Code} {w' : World} {cs' : List Frame} (h : (Instr.endLoop l).run P w = .ok jump w') :
    step P (lone (fat b a (.endRangeFunc l :: k)) cs' w) = .next (lone (fat b a ((jump.map Item.code).toList ++ k)) cs' w') :=
  step_lone_go (by simp [stepG, stepG.exec, fat, Sem.runT_eq, h])


theorem range_done {f : Operand} {ps : Array Tmp} {asg bd : Code} (hb : b.roundOf = none) {cs' : List Frame} {μ2 : Mu} {H2 : AHeap} {r : CR}
    (hc : CallOk C.P μ2 H2 (loopW b a ps asg bd w) (fat b { a with defers := ⟨.collected w.heap.size, #[]⟩ :: a.defers } (.inRangeFunc (w.heap.size + 1) :: k) :: cs') none r ((Deferred.ofValue (a.eval f) #[.func (.yield (w.heap.size + 1)) #[] #[]] >>= fun d => invoke d.target d.args).run C.P (loopW b a ps asg bd w))) :
    match (generalizing := false) r with
    | .ret _ H' _ => ∃ μ' w', HRel C.P μ' H' w' ∧ Go μ2 H2 (loopW b a ps asg bd w) μ' H' w' ∧
        Steps C.P (lone (fat b a (.code (.rangeFunc f ps asg bd) :: k)) cs' w) (lone (fat b { a with defers := ⟨.collected w.heap.size, #[]⟩ :: a.defers } (.endRangeFunc (w.heap.size + 1) :: k)) cs' w')
    | .pan l H' _ => ∃ ch μ' w', ChRel μ' l ch ∧ HRel C.P μ' H' w' ∧ Go μ2 H2 (loopW b a ps asg bd w) μ' H' w' ∧
        Steps C.P (lone (fat b a (.code (.rangeFunc f ps asg bd) :: k)) cs' w) (lone { fat b { a with defers := ⟨.collected w.heap.size, #[]⟩ :: a.defers } (.inRangeFunc (w.heap.size + 1) :: k) with mode := .panicking ch } cs' w')
    | _ => True := by
  have hg := fstepG_range (b := b) (a := a) (k := k) (w := w) (P := C.P) (f := f) (ps := ps) (asg := asg) (bd := bd) hb (cs' := cs')
  revert hc
  generalize hfr : fat b { a with defers := ⟨.collected w.heap.size, #[]⟩ :: a.defers } (.inRangeFunc (w.heap.size + 1) :: k) = fr at hg ⊢
  intro hc
  have htodo : fr.todo = .inRangeFunc (w.heap.size + 1) :: k := by rw [← hfr]; rfl
  have hfin : ∀ v, fr.finish v = fat b { a with defers := ⟨.collected w.heap.size, #[]⟩ :: a.defers } (.endRangeFunc (w.heap.size + 1) :: k) := by intro v; rw [← hfr]; rfl
  have hraise : ∀ ch, fr.raise ch = { fr with mode := .panicking ch } := by intro ch; rw [← hfr]; rfl
  cases r with
  | need k => trivial
  | bad w => trivial
  | ret v H' up' =>
    simp only [CallOk, DidR] at hc ⊢
    have fin : ∀ {e : Ending} {w' : World}, (∃ v' μ', e = .returned v' ∧ VRel μ' v v' ∧ HRel C.P μ' H' w' ∧ Go μ2 H2 (loopW b a ps asg bd w) μ' H' w' ∧ URel μ' up' none) →
        (∀ v', e = .returned v' → Steps C.P (lone (fat b a (.code (.rangeFunc f ps asg bd) :: k)) cs' w) (lone (fr.finish v') cs' w')) →
        ∃ μ' w', HRel C.P μ' H' w' ∧ Go μ2 H2 (loopW b a ps asg bd w) μ' H' w' ∧
        Steps C.P (lone (fat b a (.code (.rangeFunc f ps asg bd) :: k)) cs' w) (lone (fat b { a with defers := ⟨.collected w.heap.size, #[]⟩ :: a.defers } (.endRangeFunc (w.heap.size + 1) :: k)) cs' w') := by
      rintro e w' ⟨v', μ', rfl, h1, h2, h3, h4⟩ hst
      have := hst v' rfl
      rw [hfin] at this
      exact ⟨μ', w', h2, h3, this⟩
    split at hc
    · rename_i v0 w' hr
      refine fin hc fun v' e => ?_
      cases e
      exact .one (step_lone_go (by rw [hg]; simp [stepG.apply, hr]))
    · rename_i f args w' hr
      obtain ⟨e, w'', fr', hR, hsteps, _, hleave⟩ := hc
      refine fin hR fun v' e' => ?_
      subst e'
      have henter : step C.P (lone (fat b a (.code (.rangeFunc _ ps asg bd) :: k)) cs' w) = .next (lone (Frame.enter C.P f args .normal) (fr :: cs') w') :=
        step_lone_go (by rw [hg]; simp [stepG.apply, hr, htodo])
      exact .head henter (Steps.trans hsteps (.one (step_leave_returned hleave)))
    · rename_i l f t as bs w' hr
      obtain ⟨e, w'', hR, hsteps⟩ := hc _ _ rfl
      refine fin hR fun v' e' => ?_
      subst e'
      have henter : step C.P (lone (fat b a (.code (.rangeFunc _ ps asg bd) :: k)) cs' w) = .next (lone (Frame.round l f t as bs .normal) (fr :: cs') w') :=
        step_lone_go (by rw [hg]; simp [stepG.apply, hr, htodo])
      exact .head henter hsteps
    · obtain ⟨v', μ', h, _⟩ := hc
      cases h
    · exact hc.elim
  | pan l H' up' =>
    simp only [CallOk, DidR] at hc ⊢
    have fin : ∀ {e : Ending} {w' : World}, (∃ ch μ', e = .panicked ch ∧ ChRel μ' l ch ∧ HRel C.P μ' H' w' ∧ Go μ2 H2 (loopW b a ps asg bd w) μ' H' w' ∧ URel μ' up' none) →
        (∀ ch, e = .panicked ch → Steps C.P (lone (fat b a (.code (.rangeFunc f ps asg bd) :: k)) cs' w) (lone (fr.raise ch) cs' w')) →
        ∃ ch μ' w', ChRel μ' l ch ∧ HRel C.P μ' H' w' ∧ Go μ2 H2 (loopW b a ps asg bd w) μ' H' w' ∧
        Steps C.P (lone (fat b a (.code (.rangeFunc f ps asg bd) :: k)) cs' w) (lone { fr with mode := .panicking ch } cs' w') := by
      rintro e w' ⟨ch, μ', rfl, h1, h2, h3, h4⟩ hst
      have := hst ch rfl
      rw [hraise] at this
      exact ⟨ch, μ', w', h1, h2, h3, this⟩
    split at hc
    · obtain ⟨v', μ', h, _⟩ := hc
      cases h
    · rename_i f args w' hr
      obtain ⟨e, w'', fr', hR, hsteps, _, hleave⟩ := hc
      refine fin hR fun v' e' => ?_
      subst e'
      have henter : step C.P (lone (fat b a (.code (.rangeFunc _ ps asg bd) :: k)) cs' w) = .next (lone (Frame.enter C.P f args .normal) (fr :: cs') w') :=
        step_lone_go (by rw [hg]; simp [stepG.apply, hr, htodo])
      exact .head henter (Steps.trans hsteps (.one (step_leave_panicked hleave)))
    · rename_i l f t as bs w' hr
      obtain ⟨e, w'', hR, hsteps⟩ := hc _ _ rfl
      refine fin hR fun v' e' => ?_
      subst e'
      have henter : step C.P (lone (fat b a (.code (.rangeFunc _ ps asg bd) :: k)) cs' w) = .next (lone (Frame.round l f t as bs .normal) (fr :: cs') w') :=
        step_lone_go (by rw [hg]; simp [stepG.apply, hr, htodo])
      exact .head henter hsteps
    · rename_i v0 w' hr
      refine fin hc fun ch e => ?_
      cases e
      exact .one (step_lone_go (by rw [hg]; simp [stepG.apply, hr]))
    · exact hc.elim

/-- How a range over a function ends. -/
def rangeEnd (s : AS) : CR → AR
  | .bad w => .bad w
  | .need k => .need k
  | .pan ch H _ => .ok (.panic ch) { s with H := H, ds := ⟨.func 0, [], [], [], some s.H.nx⟩ :: s.ds }
  | .ret _ H _ => match H.get (s.H.nx + 1) with
    | some (.loop st pend fn tm ps a b d) => match st with
      | .busy => .bad "endLoop"
      | _ => match pend with
        | none => .ok .normal { s with H := H.put (s.H.nx + 1) (.loop .exhausted pend fn tm ps a b d), ds := ⟨.func 0, [], [], [], some s.H.nx⟩ :: s.ds }
        | some (.exit n) => .ok (.exit n) { s with H := H.put (s.H.nx + 1) (.loop .exhausted pend fn tm ps a b d), ds := ⟨.func 0, [], [], [], some s.H.nx⟩ :: s.ds }
        | some .ret => .ok .ret { s with H := H.put (s.H.nx + 1) (.loop .exhausted pend fn tm ps a b d), ds := ⟨.func 0, [], [], [], some s.H.nx⟩ :: s.ds }
        | _ => .bad "endLoop: jump"
    | _ => .bad "endLoop"

theorem range_eq {f : Operand} {ps : Array Tmp} {asg bd : Code} {xo : Opd} (hrd : s.rd = none) (ho : opd C.ng f = some xo) (x : List Nat) :
    rangeA C.ng call f ps asg bd (s.wo x) = rangeEnd s (call .no (xo.ev s.tm) [.func (.yield (s.H.nx + 1)) [] []] (((s.H.new (.dfr false [])).new (.loop .ready none 0 s.tm ps.toList asg bd s.H.nx)).wo x)) := by
  obtain ⟨tm, ds0, H0, up0, rd0⟩ := s
  simp only at hrd
  subst hrd
  simp only [rangeA, AS.wo, ho]
  generalize hq : call .no (xo.ev tm) [.func (.yield (H0.nx + 1)) [] []] (((H0.new (.dfr false [])).new (.loop .ready none 0 tm ps.toList asg bd H0.nx)).wo x) = q
  have hq' : call .no (xo.ev tm) [.func (.yield ((H0.wo x).nx + 1)) [] []] ((((H0.wo x).new (.dfr false [])).new (.loop .ready none 0 tm ps.toList asg bd (H0.wo x).nx))) = q := hq
  rw [hq']
  cases q <;> rfl

theorem range_run (hcall : CallSim C call) (hbf : ∃ fn, C.P.funcs[b.fn]? = some fn) (f : Operand) (ps : Array Tmp) (asg bd : Code) (hs : SR C μ s b cu a w) (ht : TopOk b cu cs) :
    ∃ ω R, Orac AR.wo AR.nd (fun x => rangeA C.ng call f ps asg bd (s.wo x)) ω R ∧ ExR C μ s.H w b (lone (fat b a (.code (.rangeFunc f ps asg bd) :: k)) (callersOf cs cu) w) k cs cu R := by
  cases hrd : s.rd with
  | some l => exact ⟨[], .bad "range over a function in a round", .pure (fun x => by simp only [rangeA, AS.wo, hrd]; rfl) rfl, trivial⟩
  | none =>
    have hb : b.roundOf = none := by
      have := hs.rd
      rw [hrd] at this
      cases hb : b.roundOf with
      | none => rfl
      | some l => rw [hb] at this; exact this.elim
    cases ho : opd C.ng f with
    | none => exact ⟨[], .bad "operand", .pure (fun x => by simp only [rangeA, AS.wo, hrd, ho]; rfl) rfl, trivial⟩
    | some xo =>
      obtain ⟨h1, g1⟩ := hs.hp.alloc (.dfr false []) (.deferred (some [])) 0 ⟨rfl, rfl, rfl⟩ (fun _ _ _ _ h => by cases h)
      have hnx2 : (s.H.new (.dfr false [])).nx = s.H.nx + 1 := rfl
      have hself : (μ.upd s.H.nx ⟨w.heap.size, 0, 0⟩) s.H.nx = some ⟨w.heap.size, 0, 0⟩ := Mu.upd_self _ _ _
      obtain ⟨h2, g2⟩ := h1.alloc (.loop .ready none 0 s.tm ps.toList asg bd s.H.nx) (.loop (mkLoop b a ps asg bd w)) 0
        ⟨mkLoop b a ps asg bd w, ⟨w.heap.size, 0, 0⟩, rfl, rfl, rfl, rfl, (hs.tm.mono g1.ext).mono (Mu.upd_le _ h1.none_nx), rfl, rfl, rfl, Mu.upd_le _ h1.none_nx _ _ hself, rfl, hbf⟩ (fun _ _ _ _ h => by cases h)
      have hsz : ({ w with heap := w.heap.push (Obj.deferred (some [])) } : World).heap.size = w.heap.size + 1 := by simp
      have hw2 : ({ ({ w with heap := w.heap.push (Obj.deferred (some [])) } : World) with heap := ({ w with heap := w.heap.push (Obj.deferred (some [])) } : World).heap.push (.loop (mkLoop b a ps asg bd w)) } : World) = loopW b a ps asg bd w := rfl
      rw [hw2, hsz, hnx2] at h2 g2
      have g := g1.trans g2
      have hv := ((Rho.of hs.gl hs.tm) f xo ho).mono g.ext
      have harg : VRel (((μ.upd s.H.nx ⟨w.heap.size, 0, 0⟩).upd (s.H.nx + 1) ⟨w.heap.size + 1, 0, 0⟩)) (.func (.yield (s.H.nx + 1)) [] []) (.func (.yield (w.heap.size + 1)) #[] #[]) :=
        .func _ _ [] [] #[] #[] ⟨_, Mu.upd_self _ _ _, rfl⟩ rfl rfl (fun i h => absurd h (by simp)) (fun i h => absurd h (by simp))
      obtain ⟨ω, r, q1, q2⟩ := hcall _ _ _ .no none (xo.ev s.tm) [.func (.yield (s.H.nx + 1)) [] []] (a.eval f) [.func (.yield (w.heap.size + 1)) #[] #[]] (fat b { a with defers := ⟨.collected w.heap.size, #[]⟩ :: a.defers } (.inRangeFunc (w.heap.size + 1) :: k) :: callersOf cs cu) (hs.gl.mono g.ext) hv (.cons harg (.nil _)) h2 .no
      have hd := range_done (k := k) (cs' := callersOf cs cu) hb q2
      have hfun : ∀ x, rangeA C.ng call f ps asg bd (s.wo x) = rangeEnd s (call .no (xo.ev s.tm) [.func (.yield (s.H.nx + 1)) [] []] (((s.H.new (.dfr false [])).new (.loop .ready none 0 s.tm ps.toList asg bd s.H.nx)).wo x)) := by
        exact fun x => range_eq hrd ho x
      have hbind : ∀ R, (∀ x, rangeEnd s (CR.wo x r) = AR.wo x R) → AR.nd R = none → Orac AR.wo AR.nd (fun x => rangeA C.ng call f ps asg bd (s.wo x)) ω R := by
        intro R hx hn
        have := Orac.bind (K := fun _ q => rangeEnd s q) (ω' := []) (wo' := AR.wo) (nd' := AR.nd) (r' := R) q1 (fun x q n hq => by cases q <;> simp [CR.nd] at hq; subst hq; rfl) (fun _ => rfl) (.pure hx hn)
        rw [List.append_nil] at this
        have he : (fun x => rangeA C.ng call f ps asg bd (s.wo x)) = _ := funext hfun
        rw [he]
        exact this
      have hds2 : ∀ {μ' : Mu}, MuLe ((μ.upd s.H.nx ⟨w.heap.size, 0, 0⟩).upd (s.H.nx + 1) ⟨w.heap.size + 1, 0, 0⟩) μ' → DsRel μ' (⟨.func 0, [], [], [], some s.H.nx⟩ :: s.ds) (⟨.collected w.heap.size, #[]⟩ :: a.defers) := by
        intro μ' hm
        refine .cons (.coll (l := ⟨w.heap.size, 0, 0⟩) (hm _ _ ?_)) ((hs.ds.mono g.ext).mono hm)
        exact Mu.upd_le _ h1.none_nx _ _ hself
      cases r with
      | need n => exact absurd q1.fine (by simp [CR.nd])
      | bad why => exact ⟨ω, .bad why, hbind _ (fun x => rfl) rfl, trivial⟩
      | pan ch H' u' =>
        obtain ⟨ch', μ', w', r1, r2, r3, r4⟩ := hd
        refine ⟨ω, .ok (.panic ch) { s with H := H', ds := ⟨.func 0, [], [], [], some s.H.nx⟩ :: s.ds }, hbind _ (fun x => rfl) rfl, μ', .panic ch', cu, { a with defers := ⟨.collected w.heap.size, #[]⟩ :: a.defers }, w', r1, ?_, g.trans r3, Iff.rfl, _, r4⟩
        exact ⟨(hs.gl.mono g.ext).mono r3.ext, (hs.tm.mono g.ext).mono r3.ext, hds2 r3.ext, r2, (hs.up.mono g.ext).mono r3.ext, (hs.rd.mono g.ext).mono r3.ext⟩
      | ret v H' u' =>
        obtain ⟨μ', w', r2, r3, r4⟩ := hd
        have hml : μ' (s.H.nx + 1) = some ⟨w.heap.size + 1, 0, 0⟩ := r3.ext _ _ (Mu.upd_self _ _ _)
        have hbad : ∀ why, (∀ x, rangeEnd s (CR.wo x (.ret v H' u')) = .bad why) → ∃ ω R, Orac AR.wo AR.nd (fun x => rangeA C.ng call f ps asg bd (s.wo x)) ω R ∧ ExR C μ s.H w b (lone (fat b a (.code (.rangeFunc f ps asg bd) :: k)) (callersOf cs cu) w) k cs cu R :=
          fun why hx => ⟨ω, .bad why, hbind _ hx rfl, trivial⟩
        have hget : ∀ x, (H'.wo x).get (s.H.nx + 1) = H'.get (s.H.nx + 1) := fun x => rfl
        cases hg : H'.get (s.H.nx + 1) with
        | none => exact hbad "endLoop" fun x => by simp only [rangeEnd, CR.wo, hget, hg]
        | some o =>
          cases o with
          | loop st pend fn tm ps' a' b' d =>
            obtain ⟨o', ho', L, ld, e1, e2, e3, e4, e5, e6, e7, e8, e9, e10, e11⟩ := r2.obj _ _ _ hml hg (by simp)
            subst e1
            have hend : L.state ≠ .busy → (Instr.endLoop (w.heap.size + 1)).run C.P w' = .ok L.pending { w' with heap := w'.heap.setIfInBounds (w.heap.size + 1) (.loop { L with state := .exhausted }) } := by
              intro hb'
              have hb2 : (L.state == LoopState.busy) = false := by cases hq : L.state <;> first | rfl | exact absurd hq hb'
              have hl : (getObj (w.heap.size + 1)).run C.P w' = .ok (.loop L) w' := by simp only [getObj, Sem.run]; rw [show w'.heap[w.heap.size + 1]? = some (.loop L) from ho']
              have hset : ∀ o, (setObj (w.heap.size + 1) o).run C.P w' = .ok () { w' with heap := w'.heap.setIfInBounds (w.heap.size + 1) o } := by
                intro o
                simp only [setObj, Sem.run]; rw [show w'.heap[w.heap.size + 1]? = some (.loop L) from ho']
              simp only [Instr.endLoop, Instr.getLoop, Sem.run_bind, hl, Result.andThen_ok, Sem.run_pure, hb2, Bool.false_eq_true, if_false, hset]
            cases st with
            | busy => exact hbad "endLoop" fun x => by simp only [rangeEnd, CR.wo, hget, hg]
            | _ =>
              all_goals
                have hstep0 := fstep_endRange (b := b) (a := { a with defers := ⟨.collected w.heap.size, #[]⟩ :: a.defers }) (k := k) (cs' := callersOf cs cu) (hend (by rw [e3]; simp))
                have hstep : ∀ j, L.pending = j → step C.P (lone (fat b { a with defers := ⟨.collected w.heap.size, #[]⟩ :: a.defers } (.endRangeFunc (w.heap.size + 1) :: k)) (callersOf cs cu) w') =
                    .next (lone (fat b { a with defers := ⟨.collected w.heap.size, #[]⟩ :: a.defers } ((j.map Item.code).toList ++ k)) (callersOf cs cu) { w' with heap := w'.heap.setIfInBounds (w.heap.size + 1) (.loop { L with state := .exhausted }) }) := by
                  intro j hj; subst hj; exact hstep0
                clear hstep0
                obtain ⟨t1, t2⟩ := r2.upd hml ⟨_, hg, by simp⟩ (.loop .exhausted pend fn tm ps' a' b' d) (.loop { L with state := .exhausted }) ⟨_, ld, rfl, rfl, rfl, e4, e5, e6, e7, e8, e9, e10, e11⟩ trivial (fun es v h => by cases h)
                have hsr : SR C μ' { s with H := H'.put (s.H.nx + 1) (.loop .exhausted pend fn tm ps' a' b' d), ds := ⟨.func 0, [], [], [], some s.H.nx⟩ :: s.ds } b cu { a with defers := ⟨.collected w.heap.size, #[]⟩ :: a.defers } _ :=
                  ⟨(hs.gl.mono g.ext).mono r3.ext, (hs.tm.mono g.ext).mono r3.ext, hds2 r3.ext, t1, (hs.up.mono g.ext).mono r3.ext, (hs.rd.mono g.ext).mono r3.ext⟩
                cases pend with
                | none =>
                  exact ⟨ω, .ok .normal _, hbind _ (fun x => by simp only [rangeEnd, CR.wo, hget, hg]; rfl) rfl, μ', .normal, cu, _, _, trivial, hsr, (g.trans r3).trans t2, Iff.rfl, r4.trans (.one (hstep _ e4))⟩
                | some c =>
                  cases c with
                  | exit n => exact ⟨ω, .ok (.exit n) _, hbind _ (fun x => by simp only [rangeEnd, CR.wo, hget, hg]; rfl) rfl, μ', .exit n, cu, _, _, rfl, hsr, (g.trans r3).trans t2, Iff.rfl, k, rfl, r4.trans (.one (hstep _ e4))⟩
                  | ret => exact ⟨ω, .ok .ret _, hbind _ (fun x => by simp only [rangeEnd, CR.wo, hget, hg]; rfl) rfl, μ', .ret, cu, _, _, trivial, hsr, (g.trans r3).trans t2, Iff.rfl, k, r4.trans (.one (hstep _ e4))⟩
                  | _ => exact hbad "endLoop: jump" fun x => by simp only [rangeEnd, CR.wo, hget, hg]
          | _ => exact hbad "endLoop" fun x => by simp only [rangeEnd, CR.wo, hget, hg]
end
end Go.Ab

set_option linter.unusedSimpArgs false
set_option linter.unusedVariables false
namespace Go.Ab

section
variable {C : Ctx} {b : Frame} {cs : List Frame}
variable {call : UM → AV → List AV → AHeap → CR} {inv : AV → String → Option AV}

/-- What code does, from its beginning on. -/
def RunOk (C : Ctx) (b : Frame) (cs : List Frame) (f : AS → AR) (items : List Item → List Item) : Prop :=
  ∀ (μ : Mu) (s : AS) (w : World) (a : Act) (cu : CU) (k : List Item), SR C μ s b cu a w → TopOk b cu cs →
    ∃ ω R, Orac AR.wo AR.nd (fun x => f (s.wo x)) ω R ∧ ExR C μ s.H w b (lone (fat b a (items k)) (callersOf cs cu) w) k cs cu R

def FromOk (C : Ctx) (b : Frame) (cs : List Frame) (from_ : Nat → AS → Option AR) (c : Code) : Prop :=
  (∀ l rest, findLabel c l = some rest → ∃ g : AS → AR, (∀ s, from_ l s = some (g s)) ∧ RunOk C b cs g (fun k => .code rest :: k)) ∧
  (∀ l, findLabel c l = none → ∀ s, from_ l s = none)

theorem RunOk.seq {f g : AS → AR} {i1 : List Item → List Item} {it : Item} {c : Code} (h1 : RunOk C b cs f i1) (h2 : RunOk C b cs g (fun k => .code c :: k)) :
    RunOk C b cs (fun s => thenA g (f s)) (fun k => i1 (.code c :: k)) := by
  intro μ s w a cu k hs ht
  obtain ⟨ω, R, q1, q2⟩ := h1 μ s w a cu (.code c :: k) hs ht
  exact then_run q1 q2 (fun μ1 s1 w1 a1 cu1 hs1 hk => h2 μ1 s1 w1 a1 cu1 k hs1 (ht.kin hk)) (fun _ => rfl) (fun _ => rfl)

theorem RunOk.by_step {f : AS → AR} {i1 i2 : List Item → List Item} (h : RunOk C b cs f i2) (hst : ∀ (k : List Item) (a : Act) (cs' : List Frame) (w : World), step C.P (lone (fat b a (i1 k)) cs' w) = .next (lone (fat b a (i2 k)) cs' w)) : RunOk C b cs f i1 := by
  intro μ s w a cu k hs ht
  obtain ⟨ω, R, q1, q2⟩ := h μ s w a cu k hs ht
  exact ⟨ω, R, q1, .of_steps (.one (hst k a _ w)) q2⟩

theorem RunOk.eq {f g : AS → AR} {i1 : List Item → List Item} (h : RunOk C b cs f i1) (e : ∀ s, g s = f s) : RunOk C b cs g i1 := by
  have : g = f := funext e
  rw [this]; exact h

theorem RunOk.done {f : AS → AR} {i1 : List Item → List Item} (e : ∀ s, f s = .ok .normal s) (hst : ∀ (k : List Item) (a : Act) (cs' : List Frame) (w : World), step C.P (lone (fat b a (i1 k)) cs' w) = .next (lone (fat b a k) cs' w)) : RunOk C b cs f i1 := by
  intro μ s w a cu k hs ht
  exact ⟨[], .ok .normal s, .pure (fun x => by rw [e]; rfl) rfl, μ, .normal, cu, a, w, trivial, hs, Go.refl _ _ _, Iff.rfl, .one (hst k a _ w)⟩

theorem RunOk.bad {f : AS → AR} {i1 : List Item → List Item} {why : String} (e : ∀ s, f s = .bad why) : RunOk C b cs f i1 :=
  fun μ s w a cu k hs ht => ⟨[], .bad why, .pure (fun x => by rw [e]; rfl) rfl, trivial⟩

theorem RunOk.loop {f : AS → AR} {c : Code} (h : RunOk C b cs f (fun k => .code c :: k)) : ∀ n, RunOk C b cs (loopA n f) (fun k => .code c :: .inLoop c :: k) := by
  intro n
  induction n with
  | zero => exact RunOk.bad (why := "loop: out of fuel") fun s => rfl
  | succ n ih =>
    have e : ∀ s, loopA (n + 1) f s = thenA (loopA n f) (f s) := by
      intro s
      simp only [loopA]
      cases f s with
      | ok e s => cases e <;> rfl
      | need n => rfl
      | bad why => rfl
    refine RunOk.eq ?_ e
    have h2 : RunOk C b cs (loopA n f) (fun k => .inLoop c :: k) := ih.by_step fun k a cs' w => fstep_inLoop
    intro μ s w a cu k hs ht
    obtain ⟨ω, R, q1, q2⟩ := h μ s w a cu (.inLoop c :: k) hs ht
    exact then_run q1 q2 (fun μ1 s1 w1 a1 cu1 hs1 hk => h2 μ1 s1 w1 a1 cu1 k hs1 (ht.kin hk)) (fun _ => rfl) (fun _ => rfl)

/-- A scope. -/
theorem scope_run {from_ : Nat → AS → Option AR} {c : Code} (hf : FromOk C b cs from_ c) {k : List Item} : ∀ (n : Nat) {g : List Nat → AR} {ω : List Nat} {R : AR} {μ : Mu} {H : AHeap} {w : World} {m : Machine} {cu : CU},
    TopOk b cu cs → Orac AR.wo AR.nd g ω R → ExR C μ H w b m (.inScope c :: k) cs cu R →
    ∃ ω R, Orac AR.wo AR.nd (fun x => scopeA n from_ (g x)) ω R ∧ ExR C μ H w b m k cs cu R := by
  intro n
  induction n with
  | zero =>
    intro g ω R μ H w m cu ht h1 h2
    exact ⟨[], .bad "scope: out of fuel", .pure (fun x => rfl) rfl, trivial⟩
  | succ n ih =>
    intro g ω R μ H w m cu ht h1 h2
    have hneed : ∀ (x : List Nat) q n', AR.nd q = some n' → AR.nd (scopeA (n + 1) from_ q) = some n' := by
      intro x q n' hq
      cases q <;> simp [AR.nd] at hq
      subst hq; rfl
    have hstay : ∀ R', (∀ x, scopeA (n + 1) from_ (AR.wo x R) = AR.wo x R') → AR.nd R' = none → Orac AR.wo AR.nd (fun x => scopeA (n + 1) from_ (g x)) ω R' := by
      intro R' hx hn
      have := Orac.bind (K := fun _ q => scopeA (n + 1) from_ q) (ω' := []) (wo' := AR.wo) (nd' := AR.nd) (r' := R') h1 hneed (fun _ => rfl) (.pure hx hn)
      rwa [List.append_nil] at this
    cases R with
    | need n' => exact absurd h1.fine (by simp [AR.nd])
    | bad why => exact ⟨ω, .bad why, hstay _ (fun x => rfl) rfl, trivial⟩
    | ok e s1 =>
      cases e with
      | goto l =>
        obtain ⟨μ', ce, cu', a', w', e1, e2, e3, e4, e5⟩ := h2
        cases ce <;> simp only [EvRel] at e1
        subst e1
        obtain ⟨k1, r1, r2⟩ := e5
        cases hl : findLabel c l with
        | some rest =>
          obtain ⟨g2, p1, p2⟩ := hf.1 l rest hl
          obtain ⟨ω2, R2, p3, p4⟩ := p2 μ' s1 w' a' cu' (.inScope c :: k) e2 (ht.kin e4)
          obtain ⟨ω3, R3, p5, p6⟩ := ih (ht.kin e4) p3 p4
          have hx : (fun x => scopeA (n + 1) from_ (AR.wo x (.ok (.goto l) s1))) = fun x => scopeA n from_ (g2 (s1.wo x)) := by
            funext x
            simp only [AR.wo, scopeA, p1]
          have hgo : gotoIn l (.inScope c :: k) = some (.code rest :: .inScope c :: k) := by simp only [gotoIn, hl]
          rw [hgo] at r1
          refine ⟨ω ++ ω3, R3, ?_, .of_go e3 e4 (.of_steps (r2.trans (.one (fstep_goto r1))) p6)⟩
          exact Orac.bind (K := fun _ q => scopeA (n + 1) from_ q) h1 hneed (fun _ => rfl) (by rw [hx]; exact p5)
        | none =>
          refine ⟨ω, .ok (.goto l) s1, hstay _ (fun x => ?_) rfl, μ', .goto l, cu', a', w', rfl, e2, e3, e4, k1, ?_, r2⟩
          · simp only [AR.wo, scopeA, hf.2 l hl]
          · rw [r1]; simp only [gotoIn, hl]
      | normal =>
        obtain ⟨μ', ce, cu', a', w', e1, e2, e3, e4, e5⟩ := h2
        cases ce <;> simp only [EvRel] at e1
        exact ⟨ω, .ok .normal s1, hstay _ (fun x => rfl) rfl, μ', .normal, cu', a', w', trivial, e2, e3, e4, Steps.trans e5 (.one fstep_inScope)⟩
      | exit n' => exact ⟨ω, _, hstay _ (fun x => rfl) rfl, h2.out (fun s h => by cases h) (fun _ _ _ => rfl) (fun _ _ h => by cases h)⟩
      | ret => exact ⟨ω, _, hstay _ (fun x => rfl) rfl, h2.out (fun s h => by cases h) (fun _ _ _ => rfl) (fun _ _ h => by cases h)⟩
      | panic l => exact ⟨ω, _, hstay _ (fun x => rfl) rfl, h2.out (fun s h => by cases h) (fun _ _ _ => rfl) (fun _ _ h => by cases h)⟩

theorem no_from {from_ : Nat → AS → Option AR} {c : Code} (h : ∀ l, findLabel c l = none) (h2 : ∀ l s, from_ l s = none) : FromOk C b cs from_ c :=
  ⟨fun l rest hl => (by rw [h] at hl; cases hl), fun l _ s => h2 l s⟩

/-- Code. -/
theorem exec_run (hC : CtxOk C) (hcall : CallSim C call) (hinv : InvSim C inv) (K : Nat) (hbf : ∃ fn, C.P.funcs[b.fn]? = some fn) : ∀ c : Code,
    RunOk C b cs (exec2 C call inv K c).1 (fun k => .code c :: k) ∧ FromOk C b cs (exec2 C call inv K c).2 c := by
  intro c
  induction c with
  | skip => exact ⟨RunOk.done (fun s => rfl) fun k a cs' w => fstep_skip, no_from (fun l => rfl) fun l s => rfl⟩
  | label l0 =>
    refine ⟨RunOk.done (fun s => rfl) fun k a cs' w => fstep_label, ⟨fun l rest hl => ?_, fun l hl s => ?_⟩⟩
    · simp only [findLabel] at hl
      by_cases e : (l0 == l) = true
      · rw [if_pos e] at hl; cases hl
        refine ⟨fun s => .ok .normal s, fun s => ?_, RunOk.done (fun s => rfl) fun k a cs' w => fstep_skip⟩
        have : Nat.beq l0 l = true := by rw [eq_of_beq e]; exact Nat.beq_refl l
        simp only [exec2, this, cond_true]
      · rw [if_neg e] at hl; cases hl
    · simp only [findLabel] at hl
      have e : ¬ (l0 == l) = true := by
        intro e; rw [if_pos e] at hl; cases hl
      have : Nat.beq l0 l = false := by
        cases hb : Nat.beq l0 l
        · rfl
        · exact absurd (by rw [Nat.eq_of_beq_eq_true hb]; exact beq_self_eq_true l) e
      simp only [exec2, this, cond_false]
  | region id ops draw =>
    refine ⟨fun μ s w a cu k hs ht => ?_, no_from (fun l => rfl) fun l s => rfl⟩
    exact region_run hC hcall hinv id ops draw hs ht
  | seq x y ihx ihy =>
    obtain ⟨x1, x2⟩ := ihx
    obtain ⟨y1, y2⟩ := ihy
    have hseq : ∀ {f : AS → AR} {c : Code}, RunOk C b cs f (fun k => .code c :: k) → RunOk C b cs (fun s => thenA (exec2 C call inv K y).1 (f s)) (fun k => .code (.seq c y) :: k) := by
      intro f c hf
      exact (RunOk.seq (it := .beginRound) hf y1).by_step fun k a cs' w => fstep_seq
    refine ⟨(hseq x1).eq fun s => ?_, ⟨fun l rest hl => ?_, fun l hl s => ?_⟩⟩
    · exact thenA_eq _ _
    · simp only [findLabel] at hl
      cases hx : findLabel x l with
      | some r =>
        rw [hx] at hl
        cases hl
        obtain ⟨g, p1, p2⟩ := x2.1 l r hx
        refine ⟨_, fun s => ?_, hseq p2⟩
        simp only [exec2, p1]
        cases g s with
        | ok e s => cases e <;> rfl
        | need n => rfl
        | bad why => rfl
      | none =>
        rw [hx] at hl
        obtain ⟨g, p1, p2⟩ := y2.1 l rest hl
        refine ⟨g, fun s => ?_, p2⟩
        simp only [exec2, x2.2 l hx, p1]
    · simp only [findLabel] at hl
      cases hx : findLabel x l with
      | some r => rw [hx] at hl; cases hl
      | none =>
        rw [hx] at hl
        simp only [exec2, x2.2 l hx, y2.2 l hl]
  | cond c x y ihx ihy =>
    refine ⟨fun μ s w a cu k hs ht => ?_, no_from (fun l => rfl) fun l s => rfl⟩
    have e : ∀ x', (s.wo x').tm = s.tm := fun _ => rfl
    cases hc : condA C.ng s.tm c with
    | none => exact ⟨[], .bad "cond", .pure (fun x => by simp only [exec2, e, hc]; rfl) rfl, trivial⟩
    | some t =>
      have hv := cond_run hs hc
      cases t with
      | true =>
        obtain ⟨ω, R, q1, q2⟩ := ihx.1 μ s w a cu k hs ht
        refine ⟨ω, R, ?_, .of_steps (.one (fstep_cond hv)) q2⟩
        have : (fun x' => (exec2 C call inv K (.cond c x y)).1 (s.wo x')) = fun x' => (exec2 C call inv K x).1 (s.wo x') := by
          funext x'; simp only [exec2, e, hc]
        rw [this]; exact q1
      | false =>
        obtain ⟨ω, R, q1, q2⟩ := ihy.1 μ s w a cu k hs ht
        refine ⟨ω, R, ?_, .of_steps (.one (fstep_cond hv)) q2⟩
        have : (fun x' => (exec2 C call inv K (.cond c x y)).1 (s.wo x')) = fun x' => (exec2 C call inv K y).1 (s.wo x') := by
          funext x'; simp only [exec2, e, hc]
        rw [this]; exact q1
  | block id x ih =>
    refine ⟨fun μ s w a cu k hs ht => ?_, no_from (fun l => rfl) fun l s => rfl⟩
    obtain ⟨ω, R, q1, q2⟩ := ih.1 μ s w a cu (.inBlock id :: k) hs ht
    let F : AR → AR := fun r => match r with
      | .ok (.exit n) s' => cond (Nat.beq n id) (.ok .normal s') (.ok (.exit n) s')
      | r => r
    have hF : (fun x' => (exec2 C call inv K (.block id x)).1 (s.wo x')) = fun x' => F ((exec2 C call inv K x).1 (s.wo x')) := by
      funext x'; rfl
    rw [hF]
    have hneed : ∀ (x : List Nat) q n', AR.nd q = some n' → AR.nd (F q) = some n' := by
      intro x q n' hq
      cases q <;> simp [AR.nd] at hq
      subst hq; rfl
    have hstay : ∀ R', (∀ x, F (AR.wo x R) = AR.wo x R') → AR.nd R' = none → Orac AR.wo AR.nd (fun x' => F ((exec2 C call inv K x).1 (s.wo x'))) ω R' := by
      intro R' hx hn
      have := Orac.bind (K := fun _ q => F q) (ω' := []) (wo' := AR.wo) (nd' := AR.nd) (r' := R') q1 hneed (fun _ => rfl) (.pure hx hn)
      rwa [List.append_nil] at this
    have q2 := ExR.of_steps (.one fstep_block) q2
    cases R with
    | need n' => exact absurd q1.fine (by simp [AR.nd])
    | bad why => exact ⟨ω, .bad why, hstay _ (fun x => rfl) rfl, trivial⟩
    | ok e s1 =>
      cases e with
      | normal =>
        obtain ⟨μ', ce, cu', a', w', e1, e2, e3, e4, e5⟩ := q2
        cases ce <;> simp only [EvRel] at e1
        exact ⟨ω, .ok .normal s1, hstay _ (fun x => rfl) rfl, μ', .normal, cu', a', w', trivial, e2, e3, e4, Steps.trans e5 (.one fstep_inBlock)⟩
      | exit n =>
        cases hb : Nat.beq n id with
        | true =>
          have hn := Nat.eq_of_beq_eq_true hb
          subst hn
          obtain ⟨μ', ce, cu', a', w', e1, e2, e3, e4, e5⟩ := q2
          cases ce <;> simp only [EvRel] at e1
          subst e1
          obtain ⟨k1, r1, r2⟩ := e5
          have he : exitTo n k1 = some k := by rw [r1]; simp [exitTo]
          refine ⟨ω, .ok .normal s1, hstay _ (fun x => ?_) rfl, μ', .normal, cu', a', w', trivial, e2, e3, e4, r2.trans (.one (fstep_exit he))⟩
          show F (.ok (.exit n) (s1.wo x)) = .ok .normal (s1.wo x)
          simp only [F, hb, cond_true]
        | false =>
          refine ⟨ω, .ok (.exit n) s1, hstay _ (fun x => ?_) rfl, q2.out (fun s h => by cases h) (fun n' s' h => ?_) (fun _ _ h => by cases h)⟩
          · show F (.ok (.exit n) (s1.wo x)) = .ok (.exit n) (s1.wo x)
            simp only [F, hb, cond_false]
          · cases h
            have : ¬ (id == n) = true := by
              intro e
              rw [eq_of_beq e, Nat.beq_refl] at hb; cases hb
            simp only [exitTo, if_neg this]
      | goto n => exact ⟨ω, _, hstay _ (fun x => rfl) rfl, q2.out (fun s h => by cases h) (fun _ _ h => by cases h) (fun _ _ _ => rfl)⟩
      | ret => exact ⟨ω, _, hstay _ (fun x => rfl) rfl, q2.out (fun s h => by cases h) (fun _ _ h => by cases h) (fun _ _ h => by cases h)⟩
      | panic l => exact ⟨ω, _, hstay _ (fun x => rfl) rfl, q2.out (fun s h => by cases h) (fun _ _ h => by cases h) (fun _ _ h => by cases h)⟩
  | loop x ih => exact ⟨(RunOk.loop ih.1 K).by_step fun k a cs' w => fstep_loop, no_from (fun l => rfl) fun l s => rfl⟩
  | rangeFunc f ps asg bd _ _ => exact ⟨fun μ s w a cu k hs ht => range_run hcall hbf f ps asg bd hs ht, no_from (fun l => rfl) fun l s => rfl⟩
  | exit n =>
    refine ⟨fun μ s w a cu k hs ht => ?_, no_from (fun l => rfl) fun l s => rfl⟩
    exact ⟨[], .ok (.exit n) s, .pure (fun x => rfl) rfl, μ, .exit n, cu, a, w, rfl, hs, Go.refl _ _ _, Iff.rfl, k, rfl, .refl _ _⟩
  | scope x ih =>
    refine ⟨fun μ s w a cu k hs ht => ?_, no_from (fun l => rfl) fun l s => rfl⟩
    obtain ⟨ω, R, q1, q2⟩ := ih.1 μ s w a cu (.inScope x :: k) hs ht
    exact scope_run ih.2 K ht q1 (.of_steps (.one fstep_scope) q2)
  | goto n =>
    refine ⟨fun μ s w a cu k hs ht => ?_, no_from (fun l => rfl) fun l s => rfl⟩
    exact ⟨[], .ok (.goto n) s, .pure (fun x => rfl) rfl, μ, .goto n, cu, a, w, rfl, hs, Go.refl _ _ _, Iff.rfl, k, rfl, .refl _ _⟩
  | ret =>
    refine ⟨fun μ s w a cu k hs ht => ?_, no_from (fun l => rfl) fun l s => rfl⟩
    exact ⟨[], .ok .ret s, .pure (fun x => rfl) rfl, μ, .ret, cu, a, w, trivial, hs, Go.refl _ _ _, Iff.rfl, k, .refl _ _⟩
  | refuse why => exact ⟨RunOk.bad (why := why) fun s => rfl, no_from (fun l => rfl) fun l s => rfl⟩
end
end Go.Ab

set_option linter.unusedSimpArgs false
set_option linter.unusedVariables false
namespace Go.Ab

section
variable {C : Ctx}

def resF (tmps : Array Value) : ResultVar → Sem Value
  | .tmp t => pure (tmps.getD t undef)
  | .cell a t => do loadVar t (← asAddr (tmps.getD a undef))

theorem result_list (hC : CtxOk C) {μ : Mu} {H : AHeap} {w : World} {tm : List AV} {tmps : Array Value} (hh : HRel C.P μ H w) (ht : LRel μ tm tmps.toList) : ∀ (l : List ResultVar) (r : List AV), resultA H tm C l = some r →
    ∃ vs, (l.mapM (resF tmps)).run C.P w = .ok vs w ∧ LRel μ r vs := by
  intro l
  induction l with
  | nil => intro r h; simp only [resultA] at h; cases h; exact ⟨[], by simp [List.mapM_nil], .nil μ⟩
  | cons x l ih =>
    intro r h
    have hget : ∀ t, VRel μ ((tm[t]?).getD undefA) (tmps.getD t undef) := by
      intro t
      have := ht.getD t
      simpa [Array.getD_eq_getD_getElem?] using this
    have hcons : ∀ {v : AV} {v' : Value} {r' : List AV}, (resF tmps x).run C.P w = .ok v' w → VRel μ v v' → resultA H tm C l = some r' → ∃ vs, ((x :: l).mapM (resF tmps)).run C.P w = .ok vs w ∧ LRel μ (v :: r') vs := by
      intro v v' r' h1 h2 h3
      obtain ⟨vs, q1, q2⟩ := ih r' h3
      exact ⟨v' :: vs, by simp only [List.mapM_cons, Sem.run_bind, h1, Result.andThen_ok, q1, Sem.run_pure], .cons h2 q2⟩
    cases x with
    | tmp t =>
      simp only [resultA] at h
      cases hr : resultA H tm C l with
      | none => rw [hr] at h; cases h
      | some r' =>
        rw [hr] at h; cases h
        exact hcons (by simp [resF]) (hget t) hr
    | cell a t =>
      simp only [resultA] at h
      have hv := hget a
      split at h
      · rename_i bk o hp
        rw [hp] at hv
        obtain ⟨lc, hl, hv'⟩ := hv.ptr_inv
        cases hz : C.aggSize t with
        | none => rw [hz] at h; cases h
        | some ag =>
          rw [hz] at h
          cases ag with
          | none =>
            simp only at h
            cases hq : load1 H bk o with
            | none => rw [hq] at h; cases h
            | some v =>
              rw [hq] at h
              simp only at h
              cases hr : resultA H tm C l with
              | none => rw [hr] at h; cases h
              | some r' =>
                rw [hr] at h; cases h
                obtain ⟨v1, b1, b2, b3⟩ := load1_spec hh hl hq
                obtain ⟨h1, _⟩ := hC.aggSize hz w
                refine hcons ?_ b1 hr
                simp only [resF, hv', Sem.run_bind]
                simp [asAddr, loadVar, h1, b3]
          | some n =>
            simp only at h
            cases hq : load H bk o n with
            | none => rw [hq] at h; cases h
            | some v =>
              rw [hq] at h
              simp only at h
              cases hr : resultA H tm C l with
              | none => rw [hr] at h; cases h
              | some r' =>
                rw [hr] at h; cases h
                obtain ⟨ys, b1, b2, b3, b4⟩ := load_spec hh hl hq
                obtain ⟨h1, h2⟩ := hC.aggSize hz w
                have := run_loadL (P := C.P) (w := w) (k := lc.blk) (off := lc.base + o) ys b4 n b2
                refine hcons ?_ (VRel.agg_of b1) hr
                simp only [resF, hv', Sem.run_bind]
                simp [asAddr, loadVar, h1, h2 n rfl, this]
      · cases h

theorem result_run (hC : CtxOk C) {μ : Mu} {H : AHeap} {w : World} {tm : List AV} {tmps : Array Value} (hh : HRel C.P μ H w) (ht : LRel μ tm tmps.toList) {fn : Func} {r : List AV} (h : resultA H tm C fn.results.toList = some r) :
    ∃ v', (results fn tmps).run C.P w = .ok v' w ∧ VRel μ (tupled r) v' := by
  obtain ⟨vs, h1, h2⟩ := result_list hC hh ht _ _ h
  refine ⟨if h : vs.toArray.size = 1 then vs.toArray[0] else .tuple vs.toArray, ?_, ?_⟩
  · have e : results fn tmps = (do
      let vs ← fn.results.mapM (resF tmps)
      pure (if h : vs.size = 1 then vs[0] else .tuple vs)) := rfl
    rw [e, Array.mapM_eq_mapM_toList]
    simp only [Sem.run_bind, map_eq_pure_bind, h1, Result.andThen_ok, Sem.run_pure]
  · cases h2' : r with
    | nil =>
      rw [h2'] at h2
      have := h2.nil_inv
      subst this
      simp only [tupled]
      simp
      exact VRel.tup_of (.nil μ)
    | cons a r' =>
      rw [h2'] at h2
      obtain ⟨v, y, rfl, q1, q2⟩ := h2.uncons
      cases r' with
      | nil =>
        have := q2.nil_inv
        subst this
        simp only [tupled]
        simpa using q1
      | cons a2 r2 =>
        obtain ⟨v2, y2, rfl, q3, q4⟩ := q2.uncons
        simp only [tupled]
        simp
        have := VRel.tup_of (LRel.cons q1 (LRel.cons q3 q4))
        simpa using this

theorem step_defer' {P : Program} {fr : Frame} {cs : List Frame} {w w' : World} {d : Deferred} {ds : List Deferred} {fv : Fn} {cap : Array Value} {f : FuncId} {args : Array Value} (hm : fr.mode ≠ .run) (hd : fr.defers = d :: ds)
    (ht : d.target = .fn fv cap) (hi : (invoke d.target d.args).run P w = .ok (.enter f args) w') :
    step P (lone fr cs w) = .next (lone (Frame.enter P f args .deferred) ({ fr with defers := ds } :: cs) w') := by
  obtain ⟨t, a⟩ := d
  simp only at ht hi
  subst ht
  refine step_lone_go ?_
  cases hmode : fr.mode with
  | run => exact absurd hmode hm
  | returning => simp [stepG, unwind, callDeferred, hmode, hd, hi]
  | panicking chain => simp [stepG, unwind, callDeferred, hmode, hd, hi]

theorem step_collected {P : Program} {fr : Frame} {cs : List Frame} {w w' : World} {blk : Nat} {ar : Array Value} {ds calls : List Deferred} (hm : fr.mode ≠ .run) (hd : fr.defers = ⟨.collected blk, ar⟩ :: ds)
    (hi : (Instr.takeDeferred blk).run P w = .ok calls w') : step P (lone fr cs w) = .next (lone { fr with defers := calls ++ ds } cs w') := by
  refine step_lone_go ?_
  cases hmode : fr.mode with
  | run => exact absurd hmode hm
  | returning => simp [stepG, unwind, hmode, hd, Sem.runT_eq, hi]
  | panicking chain => simp [stepG, unwind, hmode, hd, Sem.runT_eq, hi]

theorem URel.some_inv {μ : Mu} {u : UM} {m : FrameMode} (h : URel μ u (some m)) : (u = .ret ∧ m = .returning) ∨ ∃ l ch, u = .pan l ∧ m = .panicking ch ∧ ChRel μ l ch := by
  cases h with
  | ret => exact .inl ⟨rfl, rfl⟩
  | pan h => exact .inr ⟨_, _, rfl, rfl, h⟩

theorem ChRel.noexit {μ : Mu} {l : List APanic} {ch : List PanicEntry} (h : ChRel μ l ch) : ch.dropWhile (fun e => !e.goexit) = [] := by
  induction h with
  | nil => rfl
  | cons r h t ih => simpa using ih

theorem settle_rel {μ : Mu} {u : UM} {m : FrameMode} (h : URel μ u (some m)) : URel μ (settleA u) (some (settle m)) := by
  rcases h.some_inv with ⟨rfl, rfl⟩ | ⟨l, ch, rfl, rfl, hc⟩
  · exact .ret
  · cases hc with
    | nil => exact .pan .nil
    | cons r hv t =>
      cases r with
      | false => exact .pan (.cons false hv t)
      | true =>
        have := t.noexit
        simp only [settleA, settle, this]
        exact .ret

theorem ChRel.append {μ : Mu} {l l2 : List APanic} {c c2 : List PanicEntry} (h : ChRel μ l c) (h2 : ChRel μ l2 c2) : ChRel μ (l ++ l2) (c ++ c2) := by
  induction h with
  | nil => exact h2
  | cons r h _ ih => exact .cons r h ih

theorem raised_rel {μ : Mu} {u : UM} {m : FrameMode} (h : URel μ u (some m)) {l : List APanic} {ch : List PanicEntry} (hc : ChRel μ l ch) : URel μ (raisedA u l) (some (raised m ch)) := by
  rcases h.some_inv with ⟨rfl, rfl⟩ | ⟨l', ch', rfl, rfl, hc'⟩
  · exact .pan hc
  · exact .pan (hc.append hc')

theorem URel.not_run {μ : Mu} {u : UM} {m : FrameMode} (h : URel μ u (some m)) : m ≠ .run := by
  rcases h.some_inv with ⟨_, rfl⟩ | ⟨l', ch', _, rfl, _⟩ <;> intro e <;> cases e

/-- How a frame leaves. -/
def LeftOk (C : Ctx) (μ : Mu) (H : AHeap) (w : World) (fn : Func) (up : UM) (m : Machine) (kind : CallKind) (f : Nat) (cs : List Frame) : CR → Prop
  | .ret v H' up' => up' = up ∧ ∃ v' μ' w' fr', VRel μ' v v' ∧ HRel C.P μ' H' w' ∧ Go μ H w μ' H' w' ∧ Steps C.P m (lone fr' cs w') ∧ fr'.mode = .returning ∧ fr'.defers = [] ∧ fr'.kind = kind ∧ fr'.fn = f ∧ (results fn fr'.tmps).run C.P w' = .ok v' w'
  | .pan l H' up' => up' = up ∧ ∃ ch μ' w' fr', ChRel μ' l ch ∧ HRel C.P μ' H' w' ∧ Go μ H w μ' H' w' ∧ Steps C.P m (lone fr' cs w') ∧ fr'.mode = .panicking ch ∧ fr'.defers = [] ∧ fr'.kind = kind ∧ fr'.fn = f
  | _ => True

theorem LeftOk.after {μ μ1 : Mu} {H H1 : AHeap} {w w1 : World} {fn : Func} {up : UM} {m m1 : Machine} {kind : CallKind} {f : Nat} {cs : List Frame} {r : CR} (hg : Go μ H w μ1 H1 w1) (hst : Steps C.P m m1)
    (h : LeftOk C μ1 H1 w1 fn up m1 kind f cs r) : LeftOk C μ H w fn up m kind f cs r := by
  cases r with
  | need n => trivial
  | bad why => trivial
  | ret v H' up' =>
    obtain ⟨h0, v', μ', w', fr', h1, h2, h3, h4, h5⟩ := h
    exact ⟨h0, v', μ', w', fr', h1, h2, hg.trans h3, hst.trans h4, h5⟩
  | pan l H' up' =>
    obtain ⟨h0, v', μ', w', fr', h1, h2, h3, h4, h5⟩ := h
    exact ⟨h0, v', μ', w', fr', h1, h2, hg.trans h3, hst.trans h4, h5⟩

theorem leave_run {call : UM → AV → List AV → AHeap → CR} (hC : CtxOk C) (hcall : CallSim C call) (fn : Func) (up : UM) : ∀ (n : Nat) (tm : List AV) (ds : List ADef) (u : UM) (H : AHeap) (μ : Mu) (w : World) (fr : Frame) (cs : List Frame),
    Gl C.ng μ → LRel μ tm fr.tmps.toList → DsRel μ ds fr.defers → URel μ u (some fr.mode) → HRel C.P μ H w →
    ∃ ω r, Orac CR.wo CR.nd (fun x => leaveA C call fn tm up n ds u (H.wo x)) ω r ∧ LeftOk C μ H w fn up (lone fr cs w) fr.kind fr.fn cs r := by
  intro n
  induction n with
  | zero => intro tm ds u H μ w fr cs _ _ _ _ _; exact ⟨[], .bad "defers", .pure (fun x => rfl) rfl, trivial⟩
  | succ n ih =>
    intro tm ds u H μ w fr cs hgl htm hds hu hh
    cases ds with
    | nil =>
      have hd0 : fr.defers = [] := by cases hd : fr.defers with
        | nil => rfl
        | cons d l => rw [hd] at hds; cases hds
      rcases hu.some_inv with ⟨rfl, hm⟩ | ⟨l, ch, rfl, hm, hc⟩
      · have hx : ∀ x, leaveA C call fn tm up (n + 1) [] .ret (H.wo x) = (match resultA H tm C fn.results.toList with
          | some l => .ret (tupled l) (H.wo x) up
          | none => .bad "results") := by
          intro x
          have : ∀ l, resultA (H.wo x) tm C l = resultA H tm C l := by
            intro l
            induction l with
            | nil => rfl
            | cons y l ih =>
              cases y <;> simp only [resultA, ih]
              rfl
          simp only [leaveA, this]
          cases resultA H tm C fn.results.toList <;> rfl
        cases hr : resultA H tm C fn.results.toList with
        | none => exact ⟨[], .bad "results", .pure (fun x => by rw [hx, hr]; rfl) rfl, trivial⟩
        | some l =>
          obtain ⟨v', q1, q2⟩ := result_run hC hh htm hr
          exact ⟨[], .ret (tupled l) H up, .pure (fun x => by rw [hx, hr]; rfl) rfl, rfl, v', μ, w, fr, q2, hh, Go.refl _ _ _, .refl _ _, hm, hd0, rfl, rfl, q1⟩
      · exact ⟨[], .pan l H up, .pure (fun x => rfl) rfl, rfl, ch, μ, w, fr, hc, hh, Go.refl _ _ _, .refl _ _, hm, hd0, rfl, rfl⟩
    | cons d ds =>
      cases hfd : fr.defers with
      | nil => rw [hfd] at hds; cases hds
      | cons d' ds' =>
        rw [hfd] at hds
        cases hds with
        | cons hd ht =>
          cases hd with
          | fn hf h1 h2 h3 =>
            rename_i fnA first cap args fn' first' cap' args'
            have hv : VRel μ (.func fnA first cap) (.func fn' first'.toArray cap'.toArray) := .func _ _ _ _ _ _ hf h1.toArr.1 h2.toArr.1 h1.toArr.2 h2.toArr.2
            obtain ⟨ω, r, q1, q2⟩ := hcall μ H w u (some fr.mode) (.func fnA first cap) args _ args' ({ fr with defers := ds' } :: cs) hgl hv h3 hh hu
            have hrun : ((Deferred.ofValue (.func fn' first'.toArray cap'.toArray) args'.toArray >>= fun d => invoke d.target d.args).run C.P w) = (invoke (.fn fn' cap'.toArray) (first' ++ args').toArray).run C.P w := by
              simp [Deferred.ofValue, Sem.run_bind]
            rw [hrun] at q2
            let G : CR → CR := fun r => match r with
              | .ret _ H' u' => leaveA C call fn tm up n ds (settleA u') H'
              | .pan l H' u' => leaveA C call fn tm up n ds (raisedA u' l) H'
              | .need k => .need k
              | .bad w => .bad w
            have hG : (fun x => leaveA C call fn tm up (n + 1) (⟨fnA, first, cap, args, none⟩ :: ds) u (H.wo x)) = fun x => G (call u (.func fnA first cap) args (H.wo x)) := by
              funext x
              simp only [leaveA]
              rfl
            rw [hG]
            have hneed : ∀ (x : List Nat) q n', CR.nd q = some n' → CR.nd (G q) = some n' := by
              intro x q n' hq
              cases q <;> simp [CR.nd] at hq
              subst hq; rfl
            cases r with
            | need k => exact absurd q1.fine (by simp [CR.nd])
            | bad why =>
              refine ⟨ω, .bad why, ?_, trivial⟩
              have := Orac.bind (K := fun _ q => G q) (ω' := []) (wo' := CR.wo) (nd' := CR.nd) (r' := .bad why) q1 hneed (fun _ => rfl) (.pure (fun x => rfl) rfl)
              rwa [List.append_nil] at this
            | ret v H' u' =>
              simp only [CallOk, DidR] at q2
              split at q2
              · rename_i f args0 w1 hinv
                obtain ⟨e, m', w2, frX, ⟨v', μ', rfl, r1, r2, r3, r4⟩, hcomes, hk, hgo⟩ := q2 _ _ rfl rfl
                have hst : Steps C.P (lone fr cs w) (lone { ({ { fr with defers := ds' } with mode := m' } : Frame) with mode := settle m' } cs w2) :=
                  .head (step_defer' hu.not_run hfd rfl hinv) (Steps.trans hcomes (.one (step_going_returned hk hgo)))
                obtain ⟨ω2, R2, t1, t2⟩ := ih tm ds (settleA u') H' μ' w2 { ({ { fr with defers := ds' } with mode := m' } : Frame) with mode := settle m' } cs (hgl.mono r3.ext) (htm.mono r3.ext) (ht.mono r3.ext) (settle_rel r4) r2
                exact ⟨ω ++ ω2, R2, Orac.bind (K := fun _ q => G q) q1 hneed (fun _ => rfl) t1, t2.after r3 hst⟩
              · exact q2.elim
            | pan l H' u' =>
              simp only [CallOk, DidR] at q2
              split at q2
              · rename_i f args0 w1 hinv
                obtain ⟨e, m', w2, frX, ⟨ch, μ', rfl, r1, r2, r3, r4⟩, hcomes, hk, hgo⟩ := q2 _ _ rfl rfl
                have hst : Steps C.P (lone fr cs w) (lone { ({ { fr with defers := ds' } with mode := m' } : Frame) with mode := raised m' ch } cs w2) :=
                  .head (step_defer' hu.not_run hfd rfl hinv) (Steps.trans hcomes (.one (step_going_panicked hgo)))
                obtain ⟨ω2, R2, t1, t2⟩ := ih tm ds (raisedA u' l) H' μ' w2 { ({ { fr with defers := ds' } with mode := m' } : Frame) with mode := raised m' ch } cs (hgl.mono r3.ext) (htm.mono r3.ext) (ht.mono r3.ext) (raised_rel r4 r1) r2
                exact ⟨ω ++ ω2, R2, Orac.bind (K := fun _ q => G q) q1 hneed (fun _ => rfl) t1, t2.after r3 hst⟩
              · exact q2.elim
          | coll hr =>
            rename_i rb lc f1 f2 f3 f4
            have hbad : (∀ x, leaveA C call fn tm up (n + 1) (⟨f1, f2, f3, f4, some rb⟩ :: ds) u (H.wo x) = .bad "collected") → ∃ ω r, Orac CR.wo CR.nd (fun x => leaveA C call fn tm up (n + 1) (⟨f1, f2, f3, f4, some rb⟩ :: ds) u (H.wo x)) ω r ∧ LeftOk C μ H w fn up (lone fr cs w) fr.kind fr.fn cs r :=
              fun hx => ⟨[], .bad "collected", .pure (fun x => by rw [hx]; rfl) rfl, trivial⟩
            have hget : ∀ x, (H.wo x).get rb = H.get rb := fun x => rfl
            cases hg : H.get rb with
            | none => exact hbad fun x => by simp only [leaveA, hget, hg]
            | some o =>
              cases o with
              | dfr t l =>
                cases t with
                | true => exact hbad fun x => by simp only [leaveA, hget, hg]
                | false =>
                  obtain ⟨o', ho', e1, e2, e3⟩ := hh.obj _ _ _ hr hg (by simp)
                  subst e1
                  simp only [Bool.false_eq_true, if_false] at e3
                  subst e3
                  have htake : (Instr.takeDeferred lc.blk).run C.P w = .ok [] { w with heap := w.heap.setIfInBounds lc.blk (.deferred none) } := by
                    have hl : (getObj lc.blk).run C.P w = .ok (.deferred (some [])) w := by simp only [getObj, Sem.run]; rw [ho']
                    have hset : ∀ o, (setObj lc.blk o).run C.P w = .ok () { w with heap := w.heap.setIfInBounds lc.blk o } := by
                      intro o
                      simp only [setObj, Sem.run]; rw [ho']
                    simp only [Instr.takeDeferred, Sem.run_bind, hl, Result.andThen_ok, hset, Sem.run_pure]
                  obtain ⟨t1, t2⟩ := hh.upd hr ⟨_, hg, by simp⟩ (.dfr true []) (.deferred none) ⟨rfl, e2, rfl⟩ trivial (fun es v h => by cases h)
                  obtain ⟨ω, R, p1, p2⟩ := ih tm ds u (H.put rb (.dfr true [])) μ _ { fr with defers := [] ++ ds' } cs hgl htm ht hu t1
                  refine ⟨ω, R, ?_, p2.after t2 (.one (step_collected hu.not_run hfd htake))⟩
                  have : (fun x => leaveA C call fn tm up (n + 1) (⟨f1, f2, f3, f4, some rb⟩ :: ds) u (H.wo x)) = fun x => leaveA C call fn tm up n ds u ((H.put rb (.dfr true [])).wo x) := by
                    funext x
                    simp only [leaveA, hget, hg, List.nil_append]
                    rfl
                  rw [this]
                  exact p1
              | _ => exact hbad fun x => by simp only [leaveA, hget, hg]
end
end Go.Ab

set_option linter.unusedSimpArgs false
set_option linter.unusedVariables false
namespace Go.Ab

section
variable {C : Ctx} {call : UM → AV → List AV → AHeap → CR}

/-- How a body ends. -/
def BodyOk (C : Ctx) (μ : Mu) (H : AHeap) (w : World) (fn : Func) (m : Machine) (kind : CallKind) (f : Nat) (cs : List Frame) (cu : CU) : CR → Prop
  | .ret v H' up' => ∃ v' μ' w' fr' cu', VRel μ' v v' ∧ HRel C.P μ' H' w' ∧ Go μ H w μ' H' w' ∧ URel μ' up' cu' ∧ (cu = none ↔ cu' = none) ∧ Steps C.P m (lone fr' (callersOf cs cu') w') ∧ fr'.mode = .returning ∧ fr'.defers = [] ∧ fr'.kind = kind ∧ fr'.fn = f ∧ (results fn fr'.tmps).run C.P w' = .ok v' w'
  | .pan l H' up' => ∃ ch μ' w' fr' cu', ChRel μ' l ch ∧ HRel C.P μ' H' w' ∧ Go μ H w μ' H' w' ∧ URel μ' up' cu' ∧ (cu = none ↔ cu' = none) ∧ Steps C.P m (lone fr' (callersOf cs cu') w') ∧ fr'.mode = .panicking ch ∧ fr'.defers = [] ∧ fr'.kind = kind ∧ fr'.fn = f
  | _ => True

theorem body_run (hC : CtxOk C) (hcall : CallSim C call) (hinv : InvSim C (invA C)) (K : Nat) {i : Nat} {fn : Func} {c : Code} (hf : C.P.funcs[i]? = some fn) (hb : fn.body = some c)
    {μ : Mu} {H : AHeap} {w : World} {up : UM} {cu : CU} {args : List AV} {args' : List Value} {kind : CallKind} {cs : List Frame} (hgl : Gl C.ng μ) (ha : LRel μ args args') (hh : HRel C.P μ H w) (hu : URel μ up cu)
    (hk : ∀ m, cu = some m → kind = .deferred ∧ ∃ c r, cs = c :: r) :
    ∃ ω r, Orac CR.wo CR.nd (fun x => bodyA C K call up fn c args (H.wo x)) ω r ∧ BodyOk C μ H w fn (lone (Frame.enter C.P i args'.toArray kind) (callersOf cs cu) w) kind i cs cu r := by
  let b : Frame := { (default : Frame) with fn := i, kind := kind }
  let a0 : Act := { tmps := args'.toArray ++ Array.replicate (fn.ntmps - args'.toArray.size) undef, defers := [] }
  let s0 : AS := ⟨args ++ List.replicate (fn.ntmps - args.length) undefA, [], H, up, none⟩
  have henter : Frame.enter C.P i args'.toArray kind = fat b a0 [.code c] := by
    simp [Frame.enter, fat, hf, hb, b, a0]
    rfl
  have htm : LRel μ s0.tm a0.tmps.toList := by
    have h1 : args.length = args'.length := ha.1
    simp only [s0, a0, Array.toList_append, Array.toList_replicate, List.size_toArray, h1]
    exact ha.append (LRel.replicate (.undef μ) _)
  have hsr : SR C μ s0 b cu a0 w := ⟨hgl, htm, .nil, hh, hu, trivial⟩
  have htop : TopOk b cu cs := fun m hm => ⟨(hk m hm).1, rfl, (hk m hm).2⟩
  obtain ⟨ω, R, q1, q2⟩ := (exec_run (b := b) (cs := cs) hC hcall hinv K ⟨fn, hf⟩ c).1 μ s0 w a0 cu [] hsr htop
  rw [henter]
  let G : AR → CR := fun q => match q with
    | .ok .normal s => leaveA C call fn s.tm s.up 20 s.ds .ret s.H
    | .ok .ret s => leaveA C call fn s.tm s.up 20 s.ds .ret s.H
    | .ok (.panic l) s => leaveA C call fn s.tm s.up 20 s.ds (.pan l) s.H
    | .ok (.exit _) _ => .bad "exit"
    | .ok (.goto _) _ => .bad "goto"
    | .need k => .need k
    | .bad w => .bad (w ++ " < " ++ fn.name)
  have hG : (fun x => bodyA C K call up fn c args (H.wo x)) = fun x => G ((exec2 C call (invA C) K c).1 (s0.wo x)) := by
    funext x
    rfl
  rw [hG]
  have hneed : ∀ (x : List Nat) q n', AR.nd q = some n' → CR.nd (G q) = some n' := by
    intro x q n' hq
    cases q <;> simp [AR.nd] at hq
    subst hq; rfl
  have hbad : ∀ why, (∀ x, G (AR.wo x R) = .bad why) → ∃ ω r, Orac CR.wo CR.nd (fun x => G ((exec2 C call (invA C) K c).1 (s0.wo x))) ω r ∧ BodyOk C μ H w fn (lone (fat b a0 [.code c]) (callersOf cs cu) w) kind i cs cu r := by
    intro why hx
    refine ⟨ω, .bad why, ?_, trivial⟩
    have := Orac.bind (K := fun _ q => G q) (ω' := []) (wo' := CR.wo) (nd' := CR.nd) (r' := .bad why) q1 hneed (fun _ => rfl) (.pure (fun x => by rw [hx]; rfl) rfl)
    rwa [List.append_nil] at this
  -- how it leaves
  have hleave : ∀ (s1 : AS) (u : UM) (fr : Frame) (μ' : Mu) (cu' : CU) (a' : Act) (w' : World), SR C μ' s1 b cu' a' w' → Go μ H w μ' s1.H w' → (cu = none ↔ cu' = none) → fr.tmps = a'.tmps → fr.defers = a'.defers → fr.kind = kind → fr.fn = i → URel μ' u (some fr.mode) →
      Steps C.P (lone (fat b a0 [.code c]) (callersOf cs cu) w) (lone fr (callersOf cs cu') w') →
      ∃ ω2 r, Orac CR.wo CR.nd (fun x => leaveA C call fn s1.tm s1.up 20 s1.ds u (s1.H.wo x)) ω2 r ∧ BodyOk C μ H w fn (lone (fat b a0 [.code c]) (callersOf cs cu) w) kind i cs cu r := by
    intro s1 u fr μ' cu' a' w' hs hg hkk h1 h2 h3 h4 hu' hst
    obtain ⟨ω2, r, t1, t2⟩ := leave_run hC hcall fn s1.up 20 s1.tm s1.ds u s1.H μ' w' fr (callersOf cs cu') hs.gl (by rw [h1]; exact hs.tm) (by rw [h2]; exact hs.ds) hu' hs.hp
    refine ⟨ω2, r, t1, ?_⟩
    cases r with
    | need n => trivial
    | bad why => trivial
    | ret v H' up' =>
      obtain ⟨rfl, v', μ2, w2, fr', p1, p2, p3, p4, p5, p6, p7, p8, p9⟩ := t2
      exact ⟨v', μ2, w2, fr', cu', p1, p2, hg.trans p3, hs.up.mono p3.ext, hkk, hst.trans p4, p5, p6, p7.trans h3, p8.trans h4, p9⟩
    | pan l H' up' =>
      obtain ⟨rfl, ch, μ2, w2, fr', p1, p2, p3, p4, p5, p6, p7, p8⟩ := t2
      exact ⟨ch, μ2, w2, fr', cu', p1, p2, hg.trans p3, hs.up.mono p3.ext, hkk, hst.trans p4, p5, p6, p7.trans h3, p8.trans h4⟩
  cases R with
  | need n => exact absurd q1.fine (by simp [AR.nd])
  | bad why => exact hbad _ (fun x => rfl)
  | ok e s1 =>
    obtain ⟨μ', ce, cu', a', w', e1, e2, e3, e4, e5⟩ := q2
    cases e with
    | exit n => exact hbad _ (fun x => rfl)
    | goto n => exact hbad _ (fun x => rfl)
    | normal =>
      cases ce <;> simp only [EvRel] at e1
      obtain ⟨ω2, r, t1, t2⟩ := hleave s1 .ret { fat b a' [] with mode := .returning } μ' cu' a' w' e2 e3 e4 rfl rfl rfl rfl .ret (Steps.trans e5 (.one (fstep_end rfl)))
      exact ⟨ω ++ ω2, r, Orac.bind (K := fun _ q => G q) q1 hneed (fun _ => rfl) t1, t2⟩
    | ret =>
      cases ce <;> simp only [EvRel] at e1
      obtain ⟨k1, r2⟩ := e5
      obtain ⟨ω2, r, t1, t2⟩ := hleave s1 .ret { fat b a' (.code .ret :: k1) with mode := .returning } μ' cu' a' w' e2 e3 e4 rfl rfl rfl rfl .ret (Steps.trans r2 (.one (fstep_ret rfl)))
      exact ⟨ω ++ ω2, r, Orac.bind (K := fun _ q => G q) q1 hneed (fun _ => rfl) t1, t2⟩
    | panic l =>
      cases ce <;> simp only [EvRel] at e1
      obtain ⟨k1, r2⟩ := e5
      obtain ⟨ω2, r, t1, t2⟩ := hleave s1 (.pan l) _ μ' cu' a' w' e2 e3 e4 rfl rfl rfl rfl (.pan e1) r2
      exact ⟨ω ++ ω2, r, Orac.bind (K := fun _ q => G q) q1 hneed (fun _ => rfl) t1, t2⟩

/-! ### rounds -/

theorem setParams_rel {μ : Mu} : ∀ (ps : List Nat) (args tm tm' : List AV) (args' : List Value) (tmps : Array Value), setParams ps args tm = some tm' → LRel μ args args' → LRel μ tm tmps.toList →
    ps.length = args'.length ∧ LRel μ tm' ((ps.zip args').foldl (fun t (p : Nat × Value) => t.setIfInBounds p.1 p.2) tmps).toList := by
  intro ps
  induction ps with
  | nil =>
    intro args tm tm' args' tmps h h1 h2
    cases args with
    | nil =>
      simp only [setParams] at h; cases h
      rw [h1.nil_inv]
      exact ⟨rfl, h2⟩
    | cons a args => simp only [setParams] at h; cases h
  | cons p ps ih =>
    intro args tm tm' args' tmps h h1 h2
    cases args with
    | nil => simp only [setParams] at h; cases h
    | cons a args =>
      simp only [setParams] at h
      obtain ⟨v, y, rfl, q1, q2⟩ := h1.uncons
      obtain ⟨r1, r2⟩ := ih args (tm.set p a) tm' y (tmps.setIfInBounds p v) h q2 (by rw [Array.toList_setIfInBounds]; exact h2.set q1 p)
      exact ⟨by simp [r1], by simpa using r2⟩

theorem run_getLoop' {P : Program} {w : World} {l : Nat} {L : Loop} (h : w.heap[l]? = some (.loop L)) : (Instr.getLoop l).run P w = .ok L w := by
  have hl : (getObj l).run P w = .ok (.loop L) w := by simp only [getObj, Sem.run]; rw [h]
  simp only [Instr.getLoop, Sem.run_bind, hl, Result.andThen_ok, Sem.run_pure]
theorem run_setObj' {P : Program} {w : World} {l : Nat} {o0 : Obj} (h : w.heap[l]? = some o0) (hn : ∀ L, o0 = .loop L → True) (hl : ∃ L, o0 = .loop L) (o : Obj) : (setObj l o).run P w = .ok () { w with heap := w.heap.setIfInBounds l o } := by
  obtain ⟨L, rfl⟩ := hl
  simp only [setObj, Sem.run]; rw [h]

theorem run_endRound {P : Program} {w : World} {l : Nat} {L : Loop} (h : w.heap[l]? = some (.loop L)) (j : Option Code) :
    (Instr.endRound l j).run P w = .ok (.bool j.isNone) { w with heap := w.heap.setIfInBounds l (.loop { L with state := if j.isNone then .ready else .done, pending := j }) } := by
  simp only [Instr.endRound, Sem.run_bind, run_getLoop' h, Result.andThen_ok, run_setObj' h (fun _ _ => trivial) ⟨L, rfl⟩, Sem.run_pure]

theorem run_beginRound {P : Program} {w : World} {l : Nat} {L : Loop} (h : w.heap[l]? = some (.loop L)) (hs : L.state = .ready) :
    (Instr.beginRound l).run P w = .ok () { w with heap := w.heap.setIfInBounds l (.loop { L with state := .busy }) } := by
  simp only [Instr.beginRound, Sem.run_bind, run_getLoop' h, Result.andThen_ok, run_setObj' h (fun _ _ => trivial) ⟨L, rfl⟩, hs, Sem.run_pure]

end
end Go.Ab

set_option linter.unusedSimpArgs false
set_option linter.unusedVariables false
namespace Go.Ab

section
variable {C : Ctx} {call : UM → AV → List AV → AHeap → CR}

theorem step_raise {P : Program} {fr c : Frame} {cs : List Frame} {w : World} {ch : List PanicEntry} (hm : fr.mode = .panicking ch) (hd : fr.defers = []) (hf : ∃ fn, P.funcs[fr.fn]? = some fn) :
    step P (lone fr (c :: cs) w) = .next (lone (c.raise ch) cs w) := by
  obtain ⟨fn, hf⟩ := hf
  exact step_lone_go (by simp [stepG, unwind, Frame.catches, hm, hd, hf])

theorem DsRel.nil_inv {μ : Mu} {l : List Deferred} (h : DsRel μ [] l) : l = [] := by cases h; rfl

theorem round_run (hC : CtxOk C) (hcall : CallSim C call) (hinv : InvSim C (invA C)) (K : Nat) {μ : Mu} {H : AHeap} {w : World} {l : Nat} {lc : Loc} {args : List AV} {args' : List Value} (cs : List Frame)
    (hgl : Gl C.ng μ) (ha : LRel μ args args') (hh : HRel C.P μ H w) (hl : μ l = some lc) :
    ∃ ω r, Orac CR.wo CR.nd (fun x => roundA C K call .no l args (H.wo x)) ω r ∧ CallOk C.P μ H w cs none r ((Instr.yield lc.blk args'.toArray).run C.P w) := by
  have hget : ∀ x, (H.wo x).get l = H.get l := fun x => rfl
  have hbad0 : ∀ why, (∀ x, roundA C K call .no l args (H.wo x) = .bad why) → ∃ ω r, Orac CR.wo CR.nd (fun x => roundA C K call .no l args (H.wo x)) ω r ∧ CallOk C.P μ H w cs none r ((Instr.yield lc.blk args'.toArray).run C.P w) :=
    fun why hx => ⟨[], .bad why, .pure (fun x => by rw [hx]; rfl) rfl, trivial⟩
  cases hg : H.get l with
  | none => exact hbad0 "yield" fun x => by simp only [roundA, hget, hg]
  | some o =>
    cases o with
    | loop st pd fnn tm ps a b d =>
      cases st with
      | ready =>
        obtain ⟨o', ho', L, ld, e1, e2, e3, e4, e5, e6, e7, e8, e9, e10, e11⟩ := hh.obj _ _ _ hl hg (by simp)
        subst e1
        subst e7 e8
        cases hset : setParams ps args tm with
        | none => exact hbad0 "yield" fun x => by simp only [roundA, hget, hg, hset]
        | some tm' =>
          obtain ⟨t1, t2⟩ := setParams_rel ps args tm tm' args' L.tmps hset ha e5
          have hrun : (Instr.yield lc.blk args'.toArray).run C.P w = .ok (.round lc.blk L.fn ((ps.zip args').foldl (fun t (p : Nat × Value) => t.setIfInBounds p.1 p.2) L.tmps) L.assign L.body) w := by
            have hsz : args'.toArray.size = L.params.size := by
              have : L.params.size = ps.length := by rw [← e6]; simp
              simp [this, t1]
            have hz : (L.params.zip args'.toArray).foldl (fun tmps (x : Nat × Value) => tmps.setIfInBounds x.1 x.2) L.tmps = (ps.zip args').foldl (fun t (p : Nat × Value) => t.setIfInBounds p.1 p.2) L.tmps := by
              rw [← Array.foldl_toList, Array.toList_zip, e6]
            simp only [Instr.yield, Sem.run_bind, run_getLoop' ho', Result.andThen_ok, hsz, ne_eq, not_true, if_false, Sem.run_pure]
            rw [← hz]
          rw [hrun]
          generalize htmps : (ps.zip args').foldl (fun t (p : Nat × Value) => t.setIfInBounds p.1 p.2) L.tmps = tmps' at t2
          let bf : Frame := { (default : Frame) with fn := L.fn, kind := .normal, roundOf := some lc.blk }
          let a0 : Act := { tmps := tmps', defers := [] }
          let s0 : AS := ⟨tm', [], H, .no, some l⟩
          have hframe : Frame.round lc.blk L.fn tmps' L.assign L.body .normal = fat bf a0 [.code L.assign, .beginRound, .code L.body] := rfl
          have hsr : SR C μ s0 bf none a0 w := ⟨hgl, t2, .nil, hh, .no, ⟨lc, hl, rfl⟩⟩
          have htop : TopOk bf none cs := fun m hm => by cases hm
          obtain ⟨ω1, R1, q1, q2⟩ := (exec_run (b := bf) (cs := cs) hC hcall hinv K e11 L.assign).1 μ s0 w a0 none [.beginRound, .code L.body] hsr htop
          let G : AR → CR := fun q => match q with
            | .ok .normal s => match s.ds with
              | _ :: _ => .bad "defer in a round"
              | [] => match s.H.get l with
                | some (.loop .ready pd fn tm ps a b d) => endRoundA .no l (execA C call (invA C) K L.body { s with H := s.H.put l (.loop .busy pd fn tm ps a b d) })
                | _ => .bad "beginRound"
            | .ok _ _ => .bad "assign"
            | .need k => .need k
            | .bad w => .bad w
          have hG : (fun x => roundA C K call .no l args (H.wo x)) = fun x => G ((exec2 C call (invA C) K L.assign).1 (s0.wo x)) := by
            funext x
            simp only [roundA, hget, hg, hset]
            rfl
          rw [hG]
          have hneed : ∀ (x : List Nat) q n', AR.nd q = some n' → CR.nd (G q) = some n' := by
            intro x q n' hq
            cases q <;> simp [AR.nd] at hq
            subst hq; rfl
          have hbad : ∀ why, (∀ x, G (AR.wo x R1) = .bad why) → ∃ ω r, Orac CR.wo CR.nd (fun x => G ((exec2 C call (invA C) K L.assign).1 (s0.wo x))) ω r ∧ CallOk C.P μ H w cs none r (.ok (.round lc.blk L.fn tmps' L.assign L.body) w) := by
            intro why hx
            refine ⟨ω1, .bad why, ?_, trivial⟩
            have := Orac.bind (K := fun _ q => G q) (ω' := []) (wo' := CR.wo) (nd' := CR.nd) (r' := .bad why) q1 hneed (fun _ => rfl) (.pure (fun x => by rw [hx]; rfl) rfl)
            rwa [List.append_nil] at this
          cases R1 with
          | need n => exact absurd q1.fine (by simp [AR.nd])
          | bad why => exact hbad _ (fun x => rfl)
          | ok e s1 =>
            cases e with
            | exit n => exact hbad _ (fun x => rfl)
            | goto n => exact hbad _ (fun x => rfl)
            | ret => exact hbad _ (fun x => rfl)
            | panic pl => exact hbad _ (fun x => rfl)
            | normal =>
              obtain ⟨μ1, ce, cu1, a1, w1, f1, f2, f3, f4, f5⟩ := q2
              cases ce <;> simp only [EvRel] at f1
              have hcu1 : cu1 = none := f4.1 rfl
              subst hcu1
              have hget1 : ∀ x, (s1.wo x).H.get l = s1.H.get l := fun x => rfl
              have hds1 : ∀ x, (s1.wo x).ds = s1.ds := fun x => rfl
              cases hds : s1.ds with
              | cons d0 ds0 => exact hbad "defer in a round" (fun x => by show G (.ok .normal (s1.wo x)) = _; simp only [G, hds1, hds])
              | nil =>
                have hdef : a1.defers = [] := by have := f2.ds; rw [hds] at this; exact this.nil_inv
                have hl1 := f3.ext _ _ hl
                cases hg1 : s1.H.get l with
                | none => exact hbad "beginRound" (fun x => by show G (.ok .normal (s1.wo x)) = _; simp only [G, hds1, hds, hget1, hg1])
                | some o1 =>
                  cases o1 with
                  | loop st2 pd2 fn2 tm2 ps2 a2 b2 d2 =>
                    cases st2 with
                    | ready =>
                      obtain ⟨o1', ho1, L1, ld1, g1, g2, g3, g4, g5, g6, g7, g8, g9, g10, g11⟩ := f2.hp.obj _ _ _ hl1 hg1 (by simp)
                      subst g1
                      obtain ⟨u1, u2⟩ := f2.hp.upd hl1 ⟨_, hg1, by simp⟩ (.loop .busy pd2 fn2 tm2 ps2 a2 b2 d2) (.loop { L1 with state := .busy }) ⟨_, ld1, rfl, g2, rfl, g4, g5, g6, g7, g8, g9, g10, g11⟩ trivial (fun es v h => by cases h)
                      let s2 : AS := { s1 with H := s1.H.put l (.loop .busy pd2 fn2 tm2 ps2 a2 b2 d2) }
                      have hsr2 : SR C μ1 s2 bf none a1 _ := ⟨f2.gl, f2.tm, f2.ds, u1, f2.up, f2.rd⟩
                      have hbegin : step C.P (lone (fat bf a1 [.beginRound, .code L.body]) cs w1) = .next (lone (fat bf a1 [.code L.body]) cs { w1 with heap := w1.heap.setIfInBounds lc.blk (.loop { L1 with state := .busy }) }) :=
                        stepR_beginRound (b := bf) (l := lc.blk) rfl (run_beginRound ho1 g3)
                      obtain ⟨ω2, R2, p1, p2⟩ := (exec_run (b := bf) (cs := cs) hC hcall hinv K e11 L.body).1 μ1 s2 _ a1 none [] hsr2 htop
                      have hpath : Steps C.P (lone (Frame.round lc.blk L.fn tmps' L.assign L.body .normal) cs w) (lone (fat bf a1 [.code L.body]) cs { w1 with heap := w1.heap.setIfInBounds lc.blk (.loop { L1 with state := .busy }) }) := by
                        rw [hframe]
                        exact Steps.trans f5 (.one hbegin)
                      have hgo : Go μ H w μ1 s2.H _ := f3.trans u2
                      have hG2 : (fun x => G (AR.wo x (.ok .normal s1))) = fun x => endRoundA .no l ((exec2 C call (invA C) K L.body).1 (s2.wo x)) := by
                        funext x
                        show G (.ok .normal (s1.wo x)) = _
                        simp only [G, hds1, hds, hget1, hg1]
                        have e : s2 = ⟨s1.tm, [], s1.H.put l (.loop .busy pd2 fn2 tm2 ps2 a2 b2 d2), s1.up, s1.rd⟩ := by simp only [s2, hds]
                        rw [e]
                        rfl
                      have hneed2 : ∀ (x : List Nat) q n', AR.nd q = some n' → CR.nd (endRoundA .no l q) = some n' := by
                        intro x q n' hq
                        cases q <;> simp [AR.nd] at hq
                        subst hq; rfl
                      have hor : ∀ r, (∀ x, endRoundA .no l (AR.wo x R2) = CR.wo x r) → CR.nd r = none → Orac CR.wo CR.nd (fun x => G ((exec2 C call (invA C) K L.assign).1 (s0.wo x))) (ω1 ++ (ω2 ++ [])) r := by
                        intro r hx hn
                        refine Orac.bind (K := fun _ q => G q) q1 hneed (fun _ => rfl) ?_
                        rw [hG2]
                        exact Orac.bind (K := fun _ q => endRoundA .no l q) p1 hneed2 (fun _ => rfl) (.pure hx hn)
                      have hbad2 : ∀ why, (∀ x, endRoundA .no l (AR.wo x R2) = .bad why) → ∃ ω r, Orac CR.wo CR.nd (fun x => G ((exec2 C call (invA C) K L.assign).1 (s0.wo x))) ω r ∧ CallOk C.P μ H w cs none r (.ok (.round lc.blk L.fn tmps' L.assign L.body) w) :=
                        fun why hx => ⟨_, .bad why, hor _ hx rfl, trivial⟩
                      cases R2 with
                      | need n => exact absurd p1.fine (by simp [AR.nd])
                      | bad why => exact hbad2 why (fun x => rfl)
                      | ok e s3 =>
                        obtain ⟨μ3, ce, cu3, a3, w3, i1, i2, i3, i4, i5⟩ := p2
                        have hcu3 : cu3 = none := i4.1 rfl
                        subst hcu3
                        have hget3 : ∀ x, (s3.wo x).H.get l = s3.H.get l := fun x => rfl
                        have hds3 : ∀ x, (s3.wo x).ds = s3.ds := fun x => rfl
                        cases hd3 : s3.ds with
                        | cons d0 ds0 => exact hbad2 "defer in a round" (fun x => by simp only [AR.wo, endRoundA, hds3, hd3])
                        | nil =>
                          have hdef3 : a3.defers = [] := by have := i2.ds; rw [hd3] at this; exact this.nil_inv
                          have hl3 := i3.ext _ _ hl1
                          cases hg3 : s3.H.get l with
                          | none => exact hbad2 "endRound" (fun x => by simp only [AR.wo, endRoundA, hds3, hd3, hget3, hg3])
                          | some o3 =>
                            cases o3 with
                            | loop st4 pd4 fn4 tm4 ps4 a4 b4 d4 =>
                              obtain ⟨o3', ho3, L3, ld3, j1, j2, j3, j4, j5, j6, j7, j8, j9, j10, j11⟩ := i2.hp.obj _ _ _ hl3 hg3 (by simp)
                              subst j1
                              have hret : ∀ (st : LoopState) (pd : Option Code) (v : Bool), (∀ x, endRoundA .no l (AR.wo x (.ok e s3)) = .ret (.bool v) ((s3.H.put l (.loop st pd fn4 tm4 ps4 a4 b4 d4)).wo x) .no) →
                                  (∀ (c : Frame) (r : List Frame), cs = c :: r → Steps C.P (lone (fat bf a1 [.code L.body]) cs { w1 with heap := w1.heap.setIfInBounds lc.blk (.loop { L1 with state := .busy }) }) (lone (c.finish (.bool v)) r { w3 with heap := w3.heap.setIfInBounds lc.blk (.loop { L3 with state := st, pending := pd }) })) →
                                  ∃ ω r, Orac CR.wo CR.nd (fun x => G ((exec2 C call (invA C) K L.assign).1 (s0.wo x))) ω r ∧ CallOk C.P μ H w cs none r (.ok (.round lc.blk L.fn tmps' L.assign L.body) w) := by
                                intro st pd v hx hst
                                obtain ⟨v1, v2⟩ := i2.hp.upd hl3 ⟨_, hg3, by simp⟩ (.loop st pd fn4 tm4 ps4 a4 b4 d4) (.loop { L3 with state := st, pending := pd }) ⟨_, ld3, rfl, j2, rfl, rfl, j5, j6, j7, j8, j9, j10, j11⟩ trivial (fun es v h => by cases h)
                                refine ⟨_, .ret (.bool v) (s3.H.put l (.loop st pd fn4 tm4 ps4 a4 b4 d4)) .no, hor _ hx rfl, ?_⟩
                                simp only [CallOk, DidR]
                                intro c r hcs
                                have h9 := hst c r hcs
                                subst hcs
                                exact ⟨.returned (.bool v), _, ⟨.bool v, μ3, rfl, .bool v, v1, (hgo.trans i3).trans v2, .no⟩, Steps.trans hpath h9⟩
                              cases e with
                              | goto n => exact hbad2 "goto" (fun x => by simp only [AR.wo, endRoundA, hds3, hd3, hget3, hg3])
                              | normal =>
                                cases ce <;> simp only [EvRel] at i1
                                refine hret .ready none true (fun x => by simp only [AR.wo, endRoundA, hds3, hd3, hget3, hg3]; rfl) fun c r hcs => ?_
                                subst hcs
                                exact Steps.trans i5 (.one (stepR_round_end (b := bf) (a := a3) (c := c) (cs := r) (l := lc.blk) rfl rfl (run_endRound ho3 none)))
                              | exit n =>
                                cases ce <;> simp only [EvRel] at i1
                                subst i1
                                obtain ⟨k1, z1, z2⟩ := i5
                                refine hret .done (some (.exit n)) false (fun x => by simp only [AR.wo, endRoundA, hds3, hd3, hget3, hg3]; rfl) fun c r hcs => ?_
                                subst hcs
                                exact Steps.trans z2 (.one (stepR_round_exit (b := bf) (a := a3) (c := c) (cs := r) (l := lc.blk) (id := n) rfl rfl z1 (run_endRound ho3 (some (.exit n)))))
                              | ret =>
                                cases ce <;> simp only [EvRel] at i1
                                obtain ⟨k1, z2⟩ := i5
                                refine hret .done (some .ret) false (fun x => by simp only [AR.wo, endRoundA, hds3, hd3, hget3, hg3]; rfl) fun c r hcs => ?_
                                subst hcs
                                exact Steps.trans z2 (.one (stepR_round_ret (b := bf) (a := a3) (c := c) (cs := r) (l := lc.blk) rfl rfl (run_endRound ho3 (some .ret))))
                              | panic pl =>
                                cases ce <;> simp only [EvRel] at i1
                                rename_i ch
                                obtain ⟨k1, z2⟩ := i5
                                refine ⟨_, .pan pl s3.H .no, hor _ (fun x => by simp only [AR.wo, endRoundA, hds3, hd3, hget3, hg3]; rfl) rfl, ?_⟩
                                simp only [CallOk, DidR]
                                intro c r hcs
                                subst hcs
                                refine ⟨.panicked ch, _, ⟨ch, μ3, rfl, i1, i2.hp, hgo.trans i3, .no⟩, Steps.trans hpath (Steps.trans z2 (.one (step_raise rfl ?_ ?_)))⟩
                                · exact hdef3
                                · exact e11
                            | _ => exact hbad2 "endRound" (fun x => by simp only [AR.wo, endRoundA, hds3, hd3, hget3, hg3])
                    | _ => exact hbad "beginRound" (fun x => by show G (.ok .normal (s1.wo x)) = _; simp only [G, hds1, hds, hget1, hg1])
                  | _ => exact hbad "beginRound" (fun x => by show G (.ok .normal (s1.wo x)) = _; simp only [G, hds1, hds, hget1, hg1])
      | _ => exact hbad0 "yield" fun x => by simp only [roundA, hget, hg]
    | _ => exact hbad0 "yield" fun x => by simp only [roundA, hget, hg]
end
end Go.Ab

set_option linter.unusedSimpArgs false
set_option linter.unusedVariables false
namespace Go.Ab

theorem beqTr_eq {α : Type} {f : α → α → Bool} (hf : ∀ a b, f a b = true → a = b) : ∀ (x y : Tr α), beqTr f x y = true → x = y := by
  intro x
  induction x with
  | nil => intro y h; cases y <;> first | rfl | (simp only [beqTr] at h; cases h)
  | node l v r ihl ihr =>
    intro y h
    cases y with
    | nil => simp only [beqTr] at h; cases h
    | node l' v' r' =>
      simp only [beqTr, Bool.and_eq_true] at h
      obtain ⟨h1, h2, h3⟩ := h
      rw [ihl _ h2, ihr _ h3]
      cases v with
      | none => cases v' with
        | none => rfl
        | some b => cases h1
      | some a => cases v' with
        | none => cases h1
        | some b => rw [hf _ _ h1]

theorem beqEs_eq : ∀ (x y : List (AV × AV)), beqEs x y = true → x = y := by
  intro x
  induction x with
  | nil => intro y h; cases y <;> first | rfl | (simp only [beqEs] at h; cases h)
  | cons p x ih =>
    intro y h
    cases y with
    | nil => simp only [beqEs] at h; cases h
    | cons q y =>
      obtain ⟨k, v⟩ := p
      obtain ⟨k', v'⟩ := q
      simp only [beqEs, Bool.and_eq_true] at h
      rw [beqA_eq _ _ h.1, beqA_eq _ _ h.2.1, ih _ h.2.2]

theorem beqO_eq : ∀ (x y : AObj), beqO x y = true → x = y := by
  intro x y h
  cases x <;> cases y <;> simp only [beqO, Bool.and_eq_true] at h <;> (try (cases h; done))
  · rw [(natBeq_iff _ _).1 h.1, beqTr_eq beqA_eq _ _ h.2]
  · rw [(natBeq_iff _ _).1 h.1, beqEs_eq _ _ h.2]
  · rw [(strEq_iff _ _).1 h.1, (natBeq_iff _ _).1 h.2]
  · rfl

theorem beqRs_eq : ∀ (x y : List (Nat × AObj)), beqRs x y = true → x = y := by
  intro x
  induction x with
  | nil => intro y h; cases y <;> first | rfl | (simp only [beqRs] at h; cases h)
  | cons p x ih =>
    intro y h
    cases y with
    | nil => simp only [beqRs] at h; cases h
    | cons q y =>
      obtain ⟨k, v⟩ := p
      obtain ⟨k', v'⟩ := q
      simp only [beqRs, Bool.and_eq_true] at h
      rw [(natBeq_iff _ _).1 h.1, beqO_eq _ _ h.2.1, ih _ h.2.2]

theorem joinLR_ok {a b : LR} {v : AV} {l : List (Nat × AObj)} {m : Nat} (h : joinLR a b = .ok v l m) : ∃ n k, a = .ok v l n ∧ b = .ok v l k ∧ n ≤ m ∧ k ≤ m := by
  cases a <;> cases b <;> simp only [joinLR] at h <;> (try (cases h; done))
  rename_i v1 l1 n1 v2 l2 n2
  cases hc : (beqA v1 v2 && beqRs l1 l2) with
  | false => rw [hc] at h; cases h
  | true =>
    rw [hc] at h
    simp only [Bool.and_eq_true] at hc
    have e1 := beqA_eq _ _ hc.1
    have e2 := beqRs_eq _ _ hc.2
    subst e1 e2
    cases hn : Nat.ble n1 n2 with
    | true =>
      rw [hn] at h
      simp only [cond_true] at h
      cases h
      exact ⟨_, _, rfl, rfl, Nat.le_of_ble_eq_true hn, Nat.le_refl _⟩
    | false =>
      rw [hn] at h
      simp only [cond_true, cond_false] at h
      cases h
      refine ⟨_, _, rfl, rfl, Nat.le_refl _, ?_⟩
      have : ¬ m ≤ n2 := fun hle => by rw [Nat.ble_eq_true_of_le hle] at hn; cases hn
      omega

theorem allFrom_ok {f : List Nat → LR} {pre : List Nat} {v : AV} {l : List (Nat × AObj)} : ∀ (k m : Nat), allFrom f pre k = .ok v l m → ∀ c, c < k → ∃ m', f (pre ++ [c]) = .ok v l m' ∧ m' ≤ m := by
  intro k
  induction k with
  | zero => intro m h; simp only [allFrom] at h; cases h
  | succ k ih =>
    intro m h c hc
    cases k with
    | zero =>
      have h : f (pre ++ [0]) = .ok v l m := h
      have : c = 0 := by omega
      subst this
      exact ⟨m, h, Nat.le_refl _⟩
    | succ k =>
      simp only [allFrom] at h
      obtain ⟨n1, n2, h1, h2, h3, h4⟩ := joinLR_ok h
      by_cases e : c = k + 1
      · subst e; exact ⟨n1, h1, h3⟩
      · obtain ⟨m', h5, h6⟩ := ih n2 h2 c (by omega)
        exact ⟨m', h5, Nat.le_trans h6 h4⟩

theorem explore_path {g : List Nat → CR} {nx : Nat} {ω : List Nat} {r : CR} (ho : Orac CR.wo CR.nd g ω r) {v : AV} {l : List (Nat × AObj)} : ∀ (n j m : Nat), j ≤ ω.length →
    explore (fun om => leafA nx (g om)) n (ω.take j) = .ok v l m → ∃ m', leafA nx (CR.wo [] r) = .ok v l m' ∧ m' ≤ m := by
  intro n
  induction n with
  | zero => intro j m _ h; simp only [explore] at h; cases h
  | succ n ih =>
    intro j m hj h
    simp only [explore] at h
    by_cases e : j = ω.length
    · subst e
      rw [List.take_length] at h
      have hd := ho.done []
      rw [List.append_nil] at hd
      rw [hd] at h
      have hn : ∀ k, leafA nx (CR.wo [] r) ≠ .need k := by
        intro k hk
        have hf := ho.fine
        cases r with
        | need k' => simp [CR.nd] at hf
        | ret v H u =>
          cases u <;> simp only [CR.wo, leafA] at hk <;> (try (cases hk; done))
          revert hk
          cases Nat.ble nx (H.wo []).mn <;> simp only [cond]
          · intro hk; cases hk
          · cases reach (H.wo []) nx 100000 (blocksV v) [] <;> intro hk <;> cases hk
        | pan l H u => simp only [CR.wo, leafA] at hk; cases hk
        | bad w => simp only [CR.wo, leafA] at hk; cases hk
      split at h
      · rename_i k hk; exact absurd hk (hn k)
      · exact ⟨m, h, Nat.le_refl _⟩
    · have hlt : j < ω.length := by omega
      obtain ⟨k, h1, h2⟩ := ho.path j hlt
      have hl : leafA nx (g (ω.take j)) = .need k := by
        cases hg : g (ω.take j) <;> rw [hg] at h1 <;> simp [CR.nd] at h1
        subst h1; rfl
      rw [hl] at h
      simp only at h
      obtain ⟨m', h3, h4⟩ := allFrom_ok k m h _ h2
      rw [List.take_append_getElem hlt] at h3
      obtain ⟨m2, h5, h6⟩ := ih (j + 1) m' (by omega) h3
      exact ⟨m2, h5, Nat.le_trans h6 h4⟩

theorem explore_fine {run : List Nat → LR} : ∀ (n : Nat) (pre : List Nat) (k : Nat), explore run n pre ≠ .need k := by
  intro n
  induction n with
  | zero => intro pre k h; simp only [explore] at h; cases h
  | succ n ih =>
    intro pre k h
    simp only [explore] at h
    have hall : ∀ c k, allFrom (explore run n) pre c ≠ .need k := by
      intro c
      induction c with
      | zero => intro k h; simp only [allFrom] at h; cases h
      | succ c ihc =>
        intro k h
        cases c with
        | zero => exact ih _ _ h
        | succ c =>
          simp only [allFrom] at h
          revert h
          generalize explore run n (pre ++ [c + 1]) = p
          generalize allFrom (explore run n) pre (c + 1) = q
          intro h
          cases p <;> cases q <;> simp only [joinLR] at h <;> (try (cases h; done))
          revert h
          rename_i v1 l1 n1 v2 l2 n2
          cases (beqA v1 v2 && beqRs l1 l2) <;> intro h <;> cases h
    split at h
    · exact hall _ _ h
    · rename_i hx; exact hx k h

/-! ### what is reached -/

theorem hasId_iff (b : Nat) : ∀ l : List (Nat × AObj), hasId b l = true ↔ ∃ o, (b, o) ∈ l := by
  intro l
  induction l with
  | nil => simp [hasId]
  | cons p l ih =>
    obtain ⟨c, o⟩ := p
    simp only [hasId, Bool.or_eq_true, ih, List.mem_cons, Prod.mk.injEq]
    constructor
    · rintro (h | ⟨o', h⟩)
      · exact ⟨o, .inl ⟨Nat.eq_of_beq_eq_true h, rfl⟩⟩
      · exact ⟨o', .inr h⟩
    · rintro ⟨o', h | h⟩
      · left; rw [h.1]; exact Nat.beq_refl c
      · exact .inr ⟨o', h⟩

def refs (o : AObj) : List Nat := (blocksO o).getD []

def Ent (μ : Mu) (H : AHeap) (nx : Nat) (p : Nat × AObj) : Prop := nx ≤ p.1 ∧ H.get p.1 = some p.2 ∧ μ p.1 ≠ none ∧ blocksO p.2 ≠ none

theorem blocksO_kind {o : AObj} {bs : List Nat} (h : blocksO o = some bs) : (∃ c n, o = .cells c n) ∨ ∃ es k, o = .map es k := by
  cases o <;> simp only [blocksO] at h <;> first | exact .inl ⟨_, _, rfl⟩ | exact .inr ⟨_, _, rfl⟩ | cases h

theorem shut_refs {μ : Mu} {o : AObj} {bs : List Nat} (h : blocksO o = some bs) (hs : Shut μ o) : ∀ b ∈ bs, μ b ≠ none := by
  rcases blocksO_kind h with ⟨c, n, rfl⟩ | ⟨es, k, rfl⟩
  · simp only [blocksO] at h
    cases ht : c.take 0 n with
    | none => rw [ht] at h; cases h
    | some l =>
      rw [ht] at h; cases h
      obtain ⟨q1, q2⟩ := Tr.take_spec c n 0 l ht
      intro b hb
      obtain ⟨v, hv, hbv⟩ := blocksL_mem.1 hb
      obtain ⟨i, hi, rfl⟩ := List.getElem_of_mem hv
      refine hs i l[i] (by omega) ?_ b hbv
      have := q2 i (by omega)
      rw [Nat.zero_add] at this
      rw [this]; exact List.getElem?_eq_getElem hi
  · simp only [blocksO] at h
    cases h
    intro b hb
    have : ∀ es : List (AV × AV), b ∈ blocksE es → ∃ e ∈ es, b ∈ blocksV e.1 ∨ b ∈ blocksV e.2 := by
      intro es
      induction es with
      | nil => intro h; simp [blocksE] at h
      | cons e es ih =>
        intro h
        simp only [blocksE, List.mem_append] at h
        rcases h with h | h | h
        · exact ⟨e, by simp, .inl h⟩
        · exact ⟨e, by simp, .inr h⟩
        · obtain ⟨e', h1, h2⟩ := ih h
          exact ⟨e', by simp [h1], h2⟩
    obtain ⟨e, he, h1 | h1⟩ := this es hb
    · exact (hs e he).1 b h1
    · exact (hs e he).2 b h1

theorem refs_shut {μ : Mu} {o : AObj} {bs : List Nat} (h : blocksO o = some bs) (hb : ∀ b ∈ bs, μ b ≠ none) : Shut μ o := by
  rcases blocksO_kind h with ⟨c, n, rfl⟩ | ⟨es, k, rfl⟩
  · simp only [blocksO] at h
    cases ht : c.take 0 n with
    | none => rw [ht] at h; cases h
    | some l =>
      rw [ht] at h; cases h
      obtain ⟨q1, q2⟩ := Tr.take_spec c n 0 l ht
      intro i v hi hv b hbv
      refine hb b (blocksL_mem.2 ⟨v, ?_, hbv⟩)
      have := q2 i hi
      rw [Nat.zero_add, hv] at this
      exact List.mem_of_getElem? this.symm
  · simp only [blocksO] at h
    cases h
    have key : ∀ es : List (AV × AV), (∀ b ∈ blocksE es, μ b ≠ none) → ∀ e ∈ es, (∀ b ∈ blocksV e.1, μ b ≠ none) ∧ ∀ b ∈ blocksV e.2, μ b ≠ none := by
      intro es
      induction es with
      | nil => intro _ e he; cases he
      | cons e es ih =>
        intro h e' he
        simp only [blocksE, List.mem_append] at h
        rcases List.mem_cons.1 he with rfl | he
        · exact ⟨fun b hb => h b (.inl hb), fun b hb => h b (.inr (.inl hb))⟩
        · exact ih (fun b hb => h b (.inr (.inr hb))) e' he
    exact key es hb

theorem reach_spec {P : Program} {μ : Mu} {H : AHeap} {w : World} (hh : HRel P μ H w) (nx : Nat) : ∀ (f : Nat) (todo : List Nat) (acc res : List (Nat × AObj)), reach H nx f todo acc = some res → (∀ b ∈ todo, μ b ≠ none) → (∀ p ∈ acc, Ent μ H nx p) →
    (∀ p ∈ acc, ∀ b ∈ refs p.2, b < nx ∨ hasId b acc = true ∨ b ∈ todo) →
    (∀ p ∈ res, Ent μ H nx p) ∧ (∀ b ∈ todo, b < nx ∨ hasId b res = true) ∧ (∀ p ∈ res, ∀ b ∈ refs p.2, b < nx ∨ hasId b res = true) ∧ ∀ p ∈ acc, p ∈ res := by
  intro f
  induction f with
  | zero => intro todo acc res h; simp only [reach] at h; cases h
  | succ f ih =>
    intro todo acc res h h1 h2 h3
    cases todo with
    | nil =>
      simp only [reach] at h
      cases h
      refine ⟨h2, fun b hb => (by cases hb), fun p hp b hb => ?_, fun p hp => hp⟩
      rcases h3 p hp b hb with h | h | h
      · exact .inl h
      · exact .inr h
      · cases h
    | cons b l =>
      simp only [reach] at h
      cases hc : (Nat.blt b nx || hasId b acc) with
      | true =>
        rw [hc] at h
        simp only [cond_true] at h
        simp only [Bool.or_eq_true] at hc
        obtain ⟨q1, q2, q3, q4⟩ := ih l acc res h (fun x hx => h1 x (List.mem_cons_of_mem _ hx)) h2 (fun p hp x hx => by
          rcases h3 p hp x hx with h | h | h
          · exact .inl h
          · exact .inr (.inl h)
          · rcases List.mem_cons.1 h with rfl | h
            · rcases hc with hc | hc
              · exact .inl ((ble_iff _ _).1 hc)
              · exact .inr (.inl hc)
            · exact .inr (.inr h))
        refine ⟨q1, fun x hx => ?_, q3, q4⟩
        rcases List.mem_cons.1 hx with rfl | hx
        · rcases hc with hc | hc
          · exact .inl ((ble_iff _ _).1 hc)
          · obtain ⟨o, ho⟩ := (hasId_iff _ _).1 hc
            exact .inr ((hasId_iff _ _).2 ⟨o, q4 _ ho⟩)
        · exact q2 x hx
      | false =>
        rw [hc] at h
        simp only [cond_false] at h
        simp only [Bool.or_eq_false_iff] at hc
        have hnx : nx ≤ b := by
          rcases Nat.lt_or_ge b nx with hlt | hge
          · have := (ble_iff (b + 1) nx).2 hlt
            have h' : Nat.blt b nx = true := this
            rw [h'] at hc; cases hc.1
          · exact hge
        cases hg : H.get b with
        | none => rw [hg] at h; cases h
        | some o =>
          rw [hg] at h
          simp only at h
          cases hb : blocksO o with
          | none => rw [hb] at h; cases h
          | some bs =>
            rw [hb] at h
            simp only at h
            have hμb := h1 b (by simp)
            have hshut : Shut μ o := by
              cases hl : μ b with
              | none => exact absurd hl hμb
              | some lc =>
                obtain ⟨o', _, hor⟩ := hh.obj b lc o hl hg (by rintro rfl; simp [blocksO] at hb)
                exact hor.shut (blocksO_kind hb)
            have hbs := shut_refs hb hshut
            obtain ⟨q1, q2, q3, q4⟩ := ih (bs ++ l) ((b, o) :: acc) res h
              (fun x hx => by
                rcases List.mem_append.1 hx with hx | hx
                · exact hbs x hx
                · exact h1 x (List.mem_cons_of_mem _ hx))
              (fun p hp => by
                rcases List.mem_cons.1 hp with rfl | hp
                · exact ⟨hnx, hg, hμb, by rw [hb]; simp⟩
                · exact h2 p hp)
              (fun p hp x hx => by
                rcases List.mem_cons.1 hp with rfl | hp
                · simp only [refs, hb, Option.getD_some] at hx
                  exact .inr (.inr (List.mem_append_left _ hx))
                · rcases h3 p hp x hx with h | h | h
                  · exact .inl h
                  · exact .inr (.inl (by simp [hasId, h]))
                  · rcases List.mem_cons.1 h with rfl | h
                    · exact .inr (.inl (by simp [hasId]))
                    · exact .inr (.inr (List.mem_append_right _ h)))
            refine ⟨q1, fun x hx => ?_, q3, fun p hp => q4 p (List.mem_cons_of_mem _ hp)⟩
            rcases List.mem_cons.1 hx with rfl | hx
            · exact .inr ((hasId_iff _ _).2 ⟨o, q4 _ (by simp)⟩)
            · exact q2 x (List.mem_append_right _ hx)

theorem putAllO_get {F : Nat → Option AObj} : ∀ (l : List (Nat × AObj)) (t : Tr AObj) (b : Nat), (∀ p ∈ l, F p.1 = some p.2) → (putAllO t l).get b = if hasId b l = true then F b else t.get b := by
  intro l
  induction l with
  | nil => intro t b _; simp [putAllO, hasId]
  | cons p l ih =>
    intro t b h
    obtain ⟨c, o⟩ := p
    simp only [putAllO]
    rw [ih _ _ (fun p hp => h p (List.mem_cons_of_mem _ hp))]
    simp only [hasId, Bool.or_eq_true]
    by_cases h1 : hasId b l = true
    · rw [if_pos h1, if_pos (.inr h1)]
    · rw [if_neg h1, Tr.get_put]
      by_cases e : b = c
      · subst e
        rw [if_pos rfl, if_pos (.inl (Nat.beq_refl b)), h (b, o) (by simp)]
      · rw [if_neg e, if_neg]
        rintro (h2 | h2)
        · exact e (Nat.eq_of_beq_eq_true h2)
        · exact h1 h2

/-- What cannot be reached is left out. -/
theorem drop_rel {P : Program} {μ μ' : Mu} {H H' : AHeap} {w w' : World} {v : AV} {v' : Value} {om : List Nat} {f : Nat} {l : List (Nat × AObj)} {n : Nat} (hh : HRel P μ H w) (hh' : HRel P μ' H' w') (hg : Go μ { H with om := om, mn := H.nx } w μ' H' w')
    (hv : VRel μ' v v') (hmn : H.nx ≤ H'.mn) (hr : reach H' H.nx f (blocksV v) [] = some l) (hn : H'.nx ≤ n) :
    ∃ μ2, VRel μ2 v v' ∧ HRel P μ2 { H with bs := putAllO H.bs l, nx := n } w' ∧ Go μ H w μ2 { H with bs := putAllO H.bs l, nx := n } w' := by
  obtain ⟨r1, r2, r3, _⟩ := reach_spec hh' H.nx f (blocksV v) [] l hr hv.blocks (fun p hp => (by cases hp)) (fun p hp => (by cases hp))
  let μ2 : Mu := fun b => if b < H.nx ∨ hasId b l = true then μ' b else none
  let H2 : AHeap := { H with bs := putAllO H.bs l, nx := n }
  have hnx1 : H.nx ≤ H'.nx := hg.nx
  have hμ2 : ∀ b, b < H.nx ∨ hasId b l = true → μ2 b = μ' b := fun b hb => if_pos hb
  have hμ2' : ∀ b lc, μ2 b = some lc → (b < H.nx ∨ hasId b l = true) ∧ μ' b = some lc := by
    intro b lc h
    by_cases hb : b < H.nx ∨ hasId b l = true
    · rw [hμ2 b hb] at h; exact ⟨hb, h⟩
    · have : μ2 b = none := if_neg hb
      rw [this] at h; cases h
  have hlow : ∀ b, b < H.nx → μ' b = μ b := by
    intro b hb
    cases hm : μ b with
    | some lc => exact hg.ext b lc hm
    | none =>
      cases hm' : μ' b with
      | none => rfl
      | some lc => have := hg.dom b lc hm' hm; simp only at this; omega
  have hle : MuLe μ μ2 := by
    intro b lc hb
    have hlt := (hh.lt b lc hb).1
    rw [hμ2 b (.inl hlt)]; exact hg.ext b lc hb
  have hget2 : ∀ b, H2.get b = if hasId b l = true then H'.get b else H.get b := fun b => putAllO_get l H.bs b (F := H'.get) fun p hp => (r1 p hp).2.1
  have hidge : ∀ b, hasId b l = true → H.nx ≤ b := by
    intro b hb
    obtain ⟨o, ho⟩ := (hasId_iff _ _).1 hb
    exact (r1 _ ho).1
  have hgetlow : ∀ b, b < H.nx → H2.get b = H.get b := by
    intro b hb
    rw [hget2, if_neg]
    intro h; have := hidge b h; omega
  have hgetlow' : ∀ b, b < H.nx → H'.get b = H.get b := fun b hb => hg.low b hb (by omega)
  have hwsame : ∀ k, k < w.heap.size → w'.heap[k]? = w.heap[k]? := by
    intro k hk
    refine hg.frame k hk fun b lc hb hm => ?_
    have := (hh.lt b lc hb).1
    omega
  have hsame : ∀ b, b < H.nx ∨ hasId b l = true → H2.get b = H'.get b := by
    intro b hb
    rcases hb with hb | hb
    · rw [hgetlow b hb, hgetlow' b hb]
    · rw [hget2, if_pos hb]
  refine ⟨μ2, hv.keep fun b hb => hμ2 b (r2 b hb), ⟨?_, ?_, ?_, ?_, ?_, ?_⟩, ⟨hle, ?_, ?_, hg.size, ?_, Nat.le_refl _, ?_, ?_, ?_, hg.tape, hg.os, hg.output⟩⟩
  · intro b lc hb
    obtain ⟨_, h2⟩ := hμ2' b lc hb
    have := hh'.lt b lc h2
    exact ⟨by show b < n; omega, this.2⟩
  · intro b lc o hb hgo hd
    obtain ⟨h1, h2⟩ := hμ2' b lc hb
    change H2.get b = some o at hgo
    rcases h1 with h1 | h1
    · rw [hlow b h1] at h2
      rw [hgetlow b h1] at hgo
      obtain ⟨o', q1, q2⟩ := hh.obj b lc o h2 hgo hd
      exact ⟨o', by rw [hwsame _ (hh.lt b lc h2).2]; exact q1, q2.mono hle⟩
    · rw [hsame b (.inr h1)] at hgo
      obtain ⟨o', q1, q2⟩ := hh'.obj b lc o h2 hgo hd
      refine ⟨o', q1, ?_⟩
      obtain ⟨o2, ho2⟩ := (hasId_iff _ _).1 h1
      have he := r1 _ ho2
      have : o2 = o := by have := he.2.1; rw [hgo] at this; cases this; rfl
      subst this
      cases hbs : blocksO o2 with
      | none => exact absurd hbs he.2.2.2
      | some bs =>
        have hin : ∀ x ∈ bs, x < H.nx ∨ hasId x l = true := fun x hx => r3 _ ho2 x (by simp only [refs, hbs, Option.getD_some]; exact hx)
        have hsh : Shut μ2 o2 := refs_shut hbs fun x hx => by rw [hμ2 x (hin x hx)]; exact shut_refs hbs (q2.shut (blocksO_kind hbs)) x hx
        refine q2.keep hsh fun x hx => ?_
        cases hx2 : μ2 x with
        | none => exact absurd hx2 hx
        | some lx => exact ((hμ2' x lx hx2).2).symm
  · intro b b' lc lc' hb hb' hne hl hl'
    obtain ⟨h1, h2⟩ := hμ2' b lc hb
    obtain ⟨h3, h4⟩ := hμ2' b' lc' hb'
    have lv : ∀ x, (x < H.nx ∨ hasId x l = true) → live H2 x → live H' x := by
      rintro x hx ⟨o, q1, q2⟩
      exact ⟨o, by rw [← hsame x hx]; exact q1, q2⟩
    exact hh'.inj b b' lc lc' h2 h4 hne (lv _ h1 hl) (lv _ h3 hl')
  · intro b lc m ver left last hb hgo
    obtain ⟨h1, h2⟩ := hμ2' b lc hb
    change H2.get b = _ at hgo
    rcases h1 with h1 | h1
    · rw [hlow b h1] at h2
      rw [hgetlow b h1] at hgo
      refine (hh.it b lc m ver left last h2 hgo).mono hle (hwsame _ (hh.lt b lc h2).2) fun xs vv hm lm hlm => ?_
      have hmlt := (hh.lt m lm hlm).1
      change H2.get m = _ at hm
      rw [hgetlow m hmlt] at hm
      exact ⟨xs, vv, hm, Nat.le_refl _, fun _ => hwsame _ (hh.lt m lm hlm).2⟩
    · rw [hsame b (.inr h1)] at hgo
      obtain ⟨o2, ho2⟩ := (hasId_iff _ _).1 h1
      have he := r1 _ ho2
      have hx := he.2.1
      simp only at hx
      rw [hgo] at hx; cases hx
      exact absurd rfl he.2.2.2
  · show H.mn ≤ n
    have := hh.mn
    omega
  · intro b o hgo
    show b < n
    change H2.get b = _ at hgo
    by_cases hb : hasId b l = true
    · rw [hsame b (.inr hb)] at hgo
      have := hh'.wf b o hgo
      omega
    · rw [hget2, if_neg hb] at hgo
      have := hh.wf b o hgo
      omega
  · intro b lc hb hn0
    obtain ⟨_, h2⟩ := hμ2' b lc hb
    exact hg.dom b lc h2 hn0
  · intro b lc hb hn0
    obtain ⟨_, h2⟩ := hμ2' b lc hb
    rcases hg.new b lc h2 hn0 with h | ⟨b0, l0, q1, q2, q3⟩
    · exact .inl h
    · have := (hh.lt b0 l0 q1).1
      omega
  · intro k hk _
    exact hwsame k hk
  · show H.nx ≤ n
    omega
  · intro b hb _
    exact hgetlow b hb
  · intro b hb _
    exact hgetlow b hb
end Go.Ab

set_option linter.unusedSimpArgs false
set_option linter.unusedVariables false
namespace Go.Ab

def ExtRow : EK → (Array Value → Sem Value) → Prop
  | .load k, r => r = Extern.Atomic.loadT (.int k)
  | .store, r => r = Extern.Atomic.storeT
  | .add k, r => r = Extern.Atomic.update (Op.intArith .add) k true
  | .cas k, r => r = Extern.Atomic.casT (.int k)
  | .mark, r => ∃ m, r = Extern.Race.marked m
  | .none, r => ∃ m : Mark, r = fun _ => do mark m; pure Extern.Race.none_

/-- What a summary says. -/
structure SumOk (C : Ctx) (i : Nat) (g : List AV → AHeap → Option (AV × AHeap)) : Prop where
  wo : ∀ args H x, g args (H.wo x) = (g args H).map fun p => (p.1, p.2.wo x)
  body : ∃ fn c, C.P.funcs[i]? = some fn ∧ fn.body = some c
  runs : ∀ (μ : Mu) (H : AHeap) (w : World) (args : List AV) (args' : List Value) (cs : List Frame) (v : AV) (H' : AHeap), Gl C.ng μ → LRel μ args args' → HRel C.P μ H w → g args H = some (v, H') →
    CallsAt C.P i args'.toArray w cs fun e w' => ∃ v' μ', e = .returned v' ∧ VRel μ' v v' ∧ HRel C.P μ' H' w' ∧ Go μ H w μ' H' w'

structure CtxFull (C : Ctx) : Prop where
  ok : CtxOk C
  names : ∀ (f : Nat) (fn : Func), C.P.funcs[f]? = some fn → (fn.name == "runtime.NumGoroutine") = false
  ext : ∀ i e, C.ext i = some e → ∃ fn row, C.P.funcs[i]? = some fn ∧ fn.body.isNone = true ∧ Extern.findNext fn = none ∧ Extern.find fn = some row ∧ ExtRow e row
  sum : ∀ i g, C.sum i = some g → SumOk C i g

section
variable {C : Ctx}

theorem inv_sim (hF : CtxFull C) : InvSim C (invA C) := by
  intro μ w r r' name f hr h
  unfold invA at h
  split at h
  · rename_i t v
    obtain ⟨v', rfl, hv⟩ := hr.iface_inv
    cases ht : C.ty t with
    | none => rw [ht] at h; cases h
    | some i =>
      rw [ht] at h
      simp only at h
      cases hm : i.methods.toList.find? (fun m => m.name == name) with
      | none => rw [hm] at h; cases h
      | some m =>
        rw [hm] at h
        simp only at h
        cases hp : m.path.toList with
        | cons a l => rw [hp] at h; cases h
        | nil =>
          rw [hp] at h
          simp only at h
          cases hfn : m.func with
          | none => rw [hfn] at h; cases h
          | some q =>
            obtain ⟨g, p⟩ := q
            rw [hfn] at h
            simp only at h
            have hi := hF.ok.ty t i ht
            cases hd : C.und t with
            | none => rw [hd] at h; cases h
            | some d =>
              have hu := hF.ok.und hd
              rw [hd] at h
              have hfind : i.methods.find? (fun m => m.name == name) = some m := by rw [← hm]; exact (Array.find?_toList).symm
              have hfol : ∀ x, (follow m.path.toList t x).run C.P w = .ok (t, x) w := by intro x; rw [hp]; simp [follow]
              obtain ⟨n, hn⟩ : ∃ n, C.P.types.size + Made.depth = n + 1 := by
                refine ⟨C.P.types.size + Made.depth - 1, ?_⟩
                have hd : 0 < Made.depth := by decide
                omega
              have hok : (∀ nm, (receiverAt t (.val v') p nm).run C.P w = .ok v' w) → ∃ f', VRel μ (.func (.func g) [v] []) f' ∧ ∀ args' : List Value, (callMethod (.iface t v') name args'.toArray).run C.P w = (Deferred.ofValue f' args'.toArray >>= fun d => invoke d.target d.args).run C.P w := by
                intro hrec
                refine ⟨.func (.func g) #[v'] #[], .func _ _ _ _ _ _ rfl rfl rfl (fun i h1 h2 => ?_) (fun i h1 h2 => absurd h1 (by simp)), fun args' => ?_⟩
                · have : i = 0 := by simp at h1; omega
                  subst this; exact hv
                · have hmeth : (method (C.P.types.size + Made.depth) t v' name).run C.P w = .ok (g, v') w := by
                    rw [hn]
                    simp only [method, Sem.run_bind, run_typeInfo' hi, Result.andThen_ok, hfind, hfol, hfn, hrec, Sem.run_pure]
                  simp only [callMethod, Sem.run_bind, run_program, Result.andThen_ok, hmeth, Deferred.ofValue, Sem.run_pure, invoke]
                  simp
              cases d with
              | pointer e =>
                simp only at h
                cases p with
                | false => cases h
                | true =>
                  cases h
                  exact hok fun nm => by simp only [receiverAt, Sem.run_bind, run_underlying' hu, Result.andThen_ok, Place.get, Sem.run_pure]
              | _ =>
                all_goals
                  simp only at h
                  cases p with
                  | true => cases h
                  | false =>
                    cases h
                    exact hok fun nm => by simp only [receiverAt, Sem.run_bind, run_underlying' hu, Result.andThen_ok, Place.get, Sem.run_pure]
  · cases h

variable {μ : Mu} {H : AHeap} {w : World}

theorem one_store {b o : Nat} {x : AV} {x' : Value} {l : Loc} {H' : AHeap} (hh : HRel C.P μ H w) (hb : μ b = some l) (hx : VRel μ x x') (h : storeL H b o [x] = some H') :
    (∃ u, w.cell? ⟨l.blk, l.base + o, none⟩ = some u) ∧ w.frozen? ⟨l.blk, l.base + o, none⟩ = false ∧ HRel C.P μ H' (w.setCell ⟨l.blk, l.base + o, none⟩ x') ∧ Go μ H w μ H' (w.setCell ⟨l.blk, l.base + o, none⟩ x') := by
  obtain ⟨w', h1, h2, h3⟩ := store_spec hh hb (LRel.cons hx (.nil μ)) h
  have h0 := h
  unfold storeL at h0
  split at h0
  · rename_i c N hg
    cases hle : (Nat.ble (o + [x].length) N && [x].all AV.one) with
    | false => rw [hle] at h0; cases h0
    | true =>
      simp only [Bool.and_eq_true] at hle
      have hle1 := Nat.le_of_ble_eq_true hle.1
      simp only [List.length_singleton] at hle1
      obtain ⟨Cs, elem, fr, c1, c2, c3, c4, c5⟩ := hh.cells hb hg
      have hlt : l.base + o < Cs.size := by omega
      have hcell : w.cell? ⟨l.blk, l.base + o, none⟩ = some Cs[l.base + o] := by rw [cell_of c1]; simp [hlt]
      have hfz := frozen_of c1 c4 hlt
      have hone : x'.oneCell' = true := cellV_one (hx.one (by simpa using hle.2))
      have hrun : (storeCells ⟨l.blk, l.base + o, none⟩ [x']).run C.P w = .ok () (w.setCell ⟨l.blk, l.base + o, none⟩ x') := by
        simp only [storeCells, Sem.run_bind, Addr.add_none, Nat.add_zero]
        rw [run_store C.P w _ x' .plain hone]
        simp only [hcell, hfz, Bool.false_eq_true, if_false, Result.andThen_ok, Sem.run_pure]
      rw [hrun] at h1
      cases h1
      exact ⟨⟨_, hcell⟩, hfz, h2, h3⟩
  · cases h0

theorem storeL_wo (H : AHeap) (b o : Nat) (l : List AV) (x : List Nat) : storeL (H.wo x) b o l = (storeL H b o l).map fun H' => H'.wo x := by
  have hg : (H.wo x).get b = H.get b := rfl
  unfold storeL
  rw [hg]
  cases H.get b with
  | none => rfl
  | some ob =>
    cases ob <;> try rfl
    rename_i c N
    simp only
    cases (Nat.ble (o + l.length) N && l.all AV.one) <;> rfl

theorem extA_wo (e : EK) (args : List AV) (H : AHeap) (x : List Nat) : extA e args (H.wo x) = (extA e args H).map fun p => (p.1, p.2.wo x) := by
  have hl : ∀ b o, load1 (H.wo x) b o = load1 H b o := fun _ _ => rfl
  cases e with
  | load k =>
    unfold extA; simp only [hl]
    split
    · split
      · rename_i k' n _; cases kindEq k k' <;> rfl
      · rfl
    · rfl
  | store =>
    unfold extA; simp only [storeL_wo]
    split
    · rename_i b o k y
      cases storeL H b o [.int k y] <;> rfl
    · rfl
  | add k =>
    unfold extA; simp only [hl, storeL_wo]
    split
    · rename_i b o k1 y
      split
      · rename_i k' n _
        cases (kindEq k k' && kindEq k k1) <;> cases storeL H b o [.int k (wrapA k (Int.add n y))] <;> rfl
      · rfl
    · rfl
  | cas k =>
    unfold extA; simp only [hl, storeL_wo]
    split
    · rename_i b o k1 y k2 z
      split
      · rename_i k' n _
        cases (kindEq k k' && (kindEq k k1 && kindEq k k2)) <;> cases eqb n y <;> cases storeL H b o [.int k z] <;> rfl
      · rfl
    · rfl
  | mark =>
    unfold extA
    simp only
    split <;> rfl
  | none => rfl

theorem ext_run (hF : CtxFull C) {i : Nat} {e : EK} (he : C.ext i = some e) {args : List AV} {args' : List Value} {v : AV} {H' : AHeap} (hx : extA e args H = some (v, H')) (ha : LRel μ args args') (hh : HRel C.P μ H w) :
    ∃ v' w', (callFunc i args'.toArray).run C.P w = .ok (.value v') w' ∧ VRel μ v v' ∧ HRel C.P μ H' w' ∧ Go μ H w μ H' w' := by
  obtain ⟨fn, row, hf, hb, hn, hr, hrow⟩ := hF.ext i e he
  have hname := hF.names i fn hf
  cases e with
  | load k =>
    simp only [ExtRow] at hrow
    subst hrow
    unfold extA at hx
    simp only at hx
    split at hx
    · rename_i b o
      obtain ⟨v1, y, rfl, q1, q2⟩ := ha.uncons
      have := q2.nil_inv
      subst this
      obtain ⟨l, hl, rfl⟩ := q1.ptr_inv
      split at hx
      · rename_i k' n hld
        obtain ⟨u, b1, b2, b3⟩ := load1_spec hh hl hld
        have := b1.int_inv
        subst this
        cases hk : kindEq k k' with
        | false => rw [hk] at hx; cases hx
        | true =>
          rw [hk] at hx; cases hx
          have := (kindEq_iff _ _).1 hk
          subst this
          exact ⟨_, w, run_call_load hf hname hb hn k hr b3, .int _ _, hh, Go.refl _ _ _⟩
      · cases hx
    · cases hx
  | store =>
    simp only [ExtRow] at hrow
    subst hrow
    unfold extA at hx
    simp only at hx
    split at hx
    · rename_i b o k y
      obtain ⟨v1, z, rfl, q1, q2⟩ := ha.uncons
      obtain ⟨v2, z2, rfl, q3, q4⟩ := q2.uncons
      have := q4.nil_inv
      subst this
      obtain ⟨l, hl, rfl⟩ := q1.ptr_inv
      have := q3.int_inv
      subst this
      split at hx
      · rename_i H1 hst
        cases hx
        obtain ⟨⟨u, c1⟩, c2, c3, c4⟩ := one_store (x' := .int k y) hh hl (.int k y) hst
        exact ⟨_, _, run_call_store hf hname hb hn hr c1 c2, VRel.undef μ, c3, c4⟩
      · cases hx
    · cases hx
  | add k =>
    simp only [ExtRow] at hrow
    subst hrow
    unfold extA at hx
    simp only at hx
    split at hx
    · rename_i b o k1 y
      obtain ⟨v1, z, rfl, q1, q2⟩ := ha.uncons
      obtain ⟨v2, z2, rfl, q3, q4⟩ := q2.uncons
      have := q4.nil_inv
      subst this
      obtain ⟨l, hl, rfl⟩ := q1.ptr_inv
      have := q3.int_inv
      subst this
      split at hx
      · rename_i k' n hld
        obtain ⟨u, b1, b2, b3⟩ := load1_spec hh hl hld
        have := b1.int_inv
        subst this
        cases hk : (kindEq k k' && kindEq k k1) with
        | false => rw [hk] at hx; cases hx
        | true =>
          rw [hk] at hx
          simp only [cond_true] at hx
          simp only [Bool.and_eq_true] at hk
          have e1 := (kindEq_iff _ _).1 hk.1
          have e2 := (kindEq_iff _ _).1 hk.2
          subst e1 e2
          split at hx
          · rename_i H1 hst
            cases hx
            rw [wrapA_eq] at hst ⊢
            obtain ⟨_, c2, c3, c4⟩ := one_store (x' := .int k (k.wrap (Int.add n y))) hh hl (.int k _) hst
            exact ⟨_, _, run_call_add hf hname hb hn k hr b3 c2 (by simp [Op.intArith]), .int _ _, c3, c4⟩
          · cases hx
      · cases hx
    · cases hx
  | cas k =>
    simp only [ExtRow] at hrow
    subst hrow
    unfold extA at hx
    simp only at hx
    split at hx
    · rename_i b o k1 y k2 z
      obtain ⟨v1, z1, rfl, q1, q2⟩ := ha.uncons
      obtain ⟨v2, z2, rfl, q3, q4⟩ := q2.uncons
      obtain ⟨v3, z3, rfl, q5, q6⟩ := q4.uncons
      have := q6.nil_inv
      subst this
      obtain ⟨l, hl, rfl⟩ := q1.ptr_inv
      have := q3.int_inv
      subst this
      have := q5.int_inv
      subst this
      split at hx
      · rename_i k' n hld
        obtain ⟨u, b1, b2, b3⟩ := load1_spec hh hl hld
        have := b1.int_inv
        subst this
        cases hk : (kindEq k k' && (kindEq k k1 && kindEq k k2)) with
        | false => rw [hk] at hx; cases hx
        | true =>
          rw [hk] at hx
          simp only [cond_true] at hx
          simp only [Bool.and_eq_true] at hk
          have e1 := (kindEq_iff _ _).1 hk.1
          have e2 := (kindEq_iff _ _).1 hk.2.1
          have e3 := (kindEq_iff _ _).1 hk.2.2
          subst e1 e2 e3
          have hfz : w.frozen? ⟨l.blk, l.base + o, none⟩ = false := by
            have h0 := hld
            unfold load1 at h0
            split at h0
            · rename_i c N hg
              cases hle : Nat.blt o N with
              | false => rw [hle] at h0; cases h0
              | true =>
                have hle1 : o < N := (ble_iff _ _).1 hle
                obtain ⟨Cs, elem, fr, c1, c2, c3, c4, c5⟩ := hh.cells hl hg
                exact frozen_of c1 c4 (by omega)
            · cases h0
          cases hq : eqb n y with
          | true =>
            rw [hq] at hx
            simp only [cond_true] at hx
            have := (eqb_iff _ _).1 hq
            subst this
            split at hx
            · rename_i H1 hst
              cases hx
              obtain ⟨_, c2, c3, c4⟩ := one_store (x' := .int k z) hh hl (.int k _) hst
              exact ⟨_, _, run_call_cas_hit hf hname hb hn k hr b3 c2, .bool _, c3, c4⟩
            · cases hx
          | false =>
            rw [hq] at hx
            simp only [cond_false] at hx
            cases hx
            have hne : ¬ n = y := fun h => by rw [(eqb_iff _ _).2 h] at hq; cases hq
            exact ⟨_, w, run_call_cas_miss hf hname hb hn k hr b3 hfz hne, .bool _, hh, Go.refl _ _ _⟩
      · cases hx
    · cases hx
  | mark =>
    obtain ⟨m, rfl⟩ := hrow
    unfold extA at hx
    simp only at hx
    split at hx
    · rename_i b o rest
      cases hx
      obtain ⟨v1, y, rfl, q1, q2⟩ := ha.uncons
      obtain ⟨l, hl, rfl⟩ := q1.ptr_inv
      refine ⟨undef, w, ?_, VRel.undef μ, hh, Go.refl _ _ _⟩
      rw [run_callFunc_extern hf hname hb hn hr]
      simp [Extern.Race.marked, Extern.Race.at_, Extern.Race.none_, undef]
    · cases hx
  | none =>
    obtain ⟨m, rfl⟩ := hrow
    unfold extA at hx
    cases hx
    refine ⟨undef, w, ?_, VRel.undef μ, hh, Go.refl _ _ _⟩
    rw [run_callFunc_extern hf hname hb hn hr]
    simp [Extern.Race.none_, undef]
end
end Go.Ab

set_option linter.unusedSimpArgs false
set_option linter.unusedVariables false
namespace Go.Ab

section
variable {C : Ctx} {μ : Mu} {H : AHeap} {w : World}

theorem body_call {fn : Func} {i : Nat} {args : Array Value} {cs : List Frame} {r : CR} (hf : C.P.funcs[i]? = some fn) (h : BodyOk C μ H w fn (lone (Frame.enter C.P i args .normal) (callersOf cs none) w) .normal i cs none r) :
    CallOk C.P μ H w cs none r (.ok (.enter i args) w) := by
  cases r with
  | need n => trivial
  | bad why => trivial
  | ret v H' up' =>
    obtain ⟨v', μ', w', fr', cu', h1, h2, h3, h4, h5, h6, h7, h8, h9, h10, h11⟩ := h
    have : cu' = none := h5.1 rfl
    subst this
    exact ⟨.returned v', w', fr', ⟨v', μ', rfl, h1, h2, h3, h4⟩, h6, h10, h7, h8, h9, fn, by rw [h10]; exact hf, h11⟩
  | pan l H' up' =>
    obtain ⟨ch, μ', w', fr', cu', h1, h2, h3, h4, h5, h6, h7, h8, h9, h10⟩ := h
    have : cu' = none := h5.1 rfl
    subst this
    exact ⟨.panicked ch, w', fr', ⟨ch, μ', rfl, h1, h2, h3, h4⟩, h6, h10, h7, h8, fn, by rw [h10]; exact hf⟩

theorem body_callD {fn : Func} {i : Nat} {args : Array Value} {c0 : Frame} {r0 : List Frame} {m : FrameMode} {r : CR} (hf : C.P.funcs[i]? = some fn) (h : BodyOk C μ H w fn (lone (Frame.enter C.P i args .deferred) (callersOf (c0 :: r0) (some m)) w) .deferred i (c0 :: r0) (some m) r) :
    CallOk C.P μ H w (c0 :: r0) (some m) r (.ok (.enter i args) w) := by
  cases r with
  | need n => trivial
  | bad why => trivial
  | ret v H' up' =>
    obtain ⟨v', μ', w', fr', cu', h1, h2, h3, h4, h5, h6, h7, h8, h9, h10, h11⟩ := h
    cases cu' with
    | none => have := h5.2 rfl; cases this
    | some m' =>
      intro c r hcs hm
      cases hcs
      subst hm
      exact ⟨.returned v', m', w', fr', ⟨v', μ', rfl, h1, h2, h3, h4⟩, h6, h9, h7, h8, fn, by rw [h10]; exact hf, h11⟩
  | pan l H' up' =>
    obtain ⟨ch, μ', w', fr', cu', h1, h2, h3, h4, h5, h6, h7, h8, h9, h10⟩ := h
    cases cu' with
    | none => have := h5.2 rfl; cases this
    | some m' =>
      intro c r hcs hm
      cases hcs
      subst hm
      exact ⟨.panicked ch, m', w', fr', ⟨ch, μ', rfl, h1, h2, h3, h4⟩, h6, h9, h7, h8, fn, by rw [h10]; exact hf⟩

theorem run_callFunc_enter {P : Program} {w : World} {f : FuncId} {fn : Func} {c : Code} (hf : P.funcs[f]? = some fn) (hname : (fn.name == "runtime.NumGoroutine") = false) (hb : fn.body = some c) (args : Array Value) :
    (callFunc f args).run P w = .ok (.enter f args) w := by
  have h1 : fn.name ≠ "runtime.NumGoroutine" := by simpa using hname
  simp [callFunc, hf, h1, hb]

theorem reach_wo (x : List Nat) (nx : Nat) : ∀ (f : Nat) (todo : List Nat) (acc : List (Nat × AObj)), reach (H.wo x) nx f todo acc = reach H nx f todo acc := by
  intro f
  induction f with
  | zero => intro todo acc; rfl
  | succ f ih =>
    intro todo acc
    have hg : ∀ b, (H.wo x).get b = H.get b := fun _ => rfl
    cases todo with
    | nil => rfl
    | cons b l => simp only [reach, ih, hg]

theorem callA_sim (hF : CtxFull C) (K : Nat) : ∀ n, CallSim C (callA C K n) := by
  intro n
  induction n with
  | zero =>
    intro μ H w up cu f args f' args' cs _ _ _ _ _
    exact ⟨[], .bad "calls: out of fuel", .pure (fun x => rfl) rfl, trivial⟩
  | succ n ih =>
    intro μ H w up cu f args f' args' cs hgl hf ha hh hu
    have hbad : ∀ why, (∀ x, callA C K (n + 1) up f args (H.wo x) = .bad why) → ∃ ω r, Orac CR.wo CR.nd (fun x => callA C K (n + 1) up f args (H.wo x)) ω r ∧
        CallOk C.P μ H w cs cu r ((Deferred.ofValue f' args'.toArray >>= fun d => invoke d.target d.args).run C.P w) :=
      fun why hx => ⟨[], .bad why, .pure (fun x => by rw [hx]; rfl) rfl, trivial⟩
    have hsame : ∀ {g : List Nat → CR}, (∀ x, callA C K (n + 1) up f args (H.wo x) = g x) → (∃ ω r, Orac CR.wo CR.nd g ω r ∧
        CallOk C.P μ H w cs cu r ((Deferred.ofValue f' args'.toArray >>= fun d => invoke d.target d.args).run C.P w)) → ∃ ω r, Orac CR.wo CR.nd (fun x => callA C K (n + 1) up f args (H.wo x)) ω r ∧
        CallOk C.P μ H w cs cu r ((Deferred.ofValue f' args'.toArray >>= fun d => invoke d.target d.args).run C.P w) := by
      intro g hg h
      have : (fun x => callA C K (n + 1) up f args (H.wo x)) = g := funext hg
      rw [this]; exact h
    cases f with
    | func fn first cap =>
      obtain ⟨fn', x', y', rfl, q1, q2, q3⟩ := hf.func_inv
      have hrun : (Deferred.ofValue (.func fn' x'.toArray y'.toArray) args'.toArray >>= fun d => invoke d.target d.args).run C.P w = (invoke (.fn fn' y'.toArray) (x' ++ args').toArray).run C.P w := by
        simp [Deferred.ofValue, Sem.run_bind]
      rw [hrun] at hbad hsame ⊢
      cases fn with
      | func i =>
        have q1 : fn' = .func i := q1
        subst q1
        have hargs : LRel μ (first ++ (args ++ cap)) (x' ++ (args' ++ y')) := q2.append (ha.append q3)
        have hinv : (invoke (.fn (.func i) y'.toArray) (x' ++ args').toArray).run C.P w = (callFunc i (x' ++ (args' ++ y')).toArray).run C.P w := by
          simp [invoke]
        rw [hinv] at hbad hsame ⊢
        cases hsum : C.sum i with
        | some g =>
          have hS := hF.sum i g hsum
          cases hu with
          | no =>
            refine hsame (g := fun x => match g (first ++ (args ++ cap)) (H.wo x) with
              | some (v, H') => .ret v H' .no
              | none => .bad "summary") (fun x => by
              simp only [callA, hsum]
              cases g (first ++ (args ++ cap)) (H.wo x) <;> rfl) ?_
            cases hg : g (first ++ (args ++ cap)) H with
            | none => exact ⟨[], .bad "summary", .pure (fun x => by rw [hS.wo, hg]; rfl) rfl, trivial⟩
            | some p =>
              obtain ⟨v, H'⟩ := p
              refine ⟨[], .ret v H' .no, .pure (fun x => by rw [hS.wo, hg]; rfl) rfl, ?_⟩
              obtain ⟨fn, c, hf1, hf2⟩ := hS.body
              rw [run_callFunc_enter hf1 (hF.names i fn hf1) hf2]
              obtain ⟨e, w', fr, ⟨v', μ', rfl, r1, r2, r3⟩, r4⟩ := hS.runs μ H w _ _ cs v H' hgl hargs hh hg
              exact ⟨.returned v', w', fr, ⟨v', μ', rfl, r1, r2, r3, .no⟩, r4⟩
          | ret => exact hbad "summary: deferred" fun x => by simp only [callA, hsum]
          | pan _ => exact hbad "summary: deferred" fun x => by simp only [callA, hsum]
        | none =>
          cases hfg : C.funcs.get i with
          | none => exact hbad "no such function" fun x => by simp only [callA, hsum, hfg]
          | some fn =>
            have hfn := hF.ok.fn i fn hfg
            cases hbody : fn.body with
            | some c =>
              rw [run_callFunc_enter hfn (hF.names i fn hfn) hbody] at hbad hsame ⊢
              cases hall : C.all i with
              | false =>
                refine hsame (g := fun x => bodyA C K (callA C K n) up fn c (first ++ (args ++ cap)) (H.wo x)) (fun x => by simp only [callA, hsum, hfg, hbody, hall, cond_false]) ?_
                cases cu with
                | none =>
                  obtain ⟨ω, r, p1, p2⟩ := body_run (cs := cs) (kind := .normal) hF.ok ih (inv_sim hF) K hfn hbody hgl hargs hh hu (fun m hm => by cases hm)
                  exact ⟨ω, r, p1, body_call hfn p2⟩
                | some m =>
                  cases cs with
                  | nil =>
                    obtain ⟨ω, r, p1, p2⟩ := body_run (cs := [default]) (kind := .deferred) hF.ok ih (inv_sim hF) K hfn hbody hgl hargs hh hu (fun m hm => ⟨rfl, _, _, rfl⟩)
                    refine ⟨ω, r, p1, ?_⟩
                    cases r <;> first | trivial | (intro c r hcs; cases hcs)
                  | cons c0 r0 =>
                    obtain ⟨ω, r, p1, p2⟩ := body_run (cs := c0 :: r0) (kind := .deferred) hF.ok ih (inv_sim hF) K hfn hbody hgl hargs hh hu (fun m hm => ⟨rfl, _, _, rfl⟩)
                    exact ⟨ω, r, p1, body_callD hfn p2⟩
              | true =>
                cases hu with
                | ret => exact hbad "all orders: deferred" fun x => by simp only [callA, hsum, hfg, hbody, hall, cond_true]
                | pan _ => exact hbad "all orders: deferred" fun x => by simp only [callA, hsum, hfg, hbody, hall, cond_true]
                | no =>
                  have hx0 : ∀ x, callA C K (n + 1) .no (.func (.func i) first cap) args (H.wo x) = CR.wo x (wholeA H (explore (fun om => leafA H.nx (bodyA C K (callA C K n) .no fn c (first ++ (args ++ cap)) { H with om := om, mn := H.nx })) 20 [])) := by
                    intro x
                    simp only [callA, hsum, hfg, hbody, hall, cond_true]
                    have e2 : (H.wo x).nx = H.nx := rfl
                    have e3 : (H.wo x).bs = H.bs := rfl
                    simp only [e2, e3]
                    cases hq : explore (fun om => leafA H.nx (bodyA C K (callA C K n) .no fn c (first ++ (args ++ cap)) { H with om := om, mn := H.nx })) 20 [] with
                    | need k => exact absurd hq (explore_fine _ _ _)
                    | bad why => rfl
                    | ok v l m => rfl
                  cases hq : explore (fun om => leafA H.nx (bodyA C K (callA C K n) .no fn c (first ++ (args ++ cap)) { H with om := om, mn := H.nx })) 20 [] with
                  | need k => exact absurd hq (explore_fine _ _ _)
                  | bad why => exact hbad why fun x => by rw [hx0, hq]; rfl
                  | ok v l m =>
                    refine ⟨[], .ret v { H with bs := putAllO H.bs l, nx := m } .no, .pure (fun x => by rw [hx0, hq]; rfl) rfl, ?_⟩
                    have hh1 : HRel C.P μ { H with om := [], mn := H.nx } w := ⟨hh.lt, hh.obj, hh.inj, hh.it, Nat.le_refl _, hh.wf⟩
                    obtain ⟨ω, r, p1, p2⟩ := body_run (cs := cs) (kind := .normal) hF.ok ih (inv_sim hF) K hfn hbody hgl hargs hh1 .no (fun m hm => by cases hm)
                    obtain ⟨m', e1, e2⟩ := explore_path (nx := H.nx) p1 20 0 m (Nat.zero_le _) hq
                    cases r with
                    | need k => cases e1
                    | bad why => cases e1
                    | pan l H' u => cases e1
                    | ret v1 H' u =>
                      cases u with
                      | ret => cases e1
                      | pan l => cases e1
                      | no =>
                        simp only [CR.wo, leafA] at e1
                        cases hble : Nat.ble H.nx (H'.wo []).mn with
                        | false => rw [hble] at e1; cases e1
                        | true =>
                          rw [hble] at e1
                          simp only [cond_true] at e1
                          cases hre : reach (H'.wo []) H.nx 100000 (blocksV v1) [] with
                          | none => rw [hre] at e1; cases e1
                          | some l1 =>
                            rw [hre] at e1
                            cases e1
                            rw [reach_wo] at hre
                            obtain ⟨v', μ', w', fr', cu', h1, h2, h3, h4, h5, h6, h7, h8, h9, h10, h11⟩ := p2
                            have : cu' = none := h5.1 rfl
                            subst this
                            obtain ⟨μ2, d1, d2, d3⟩ := drop_rel hh h2 h3 h1 (Nat.le_of_ble_eq_true hble) hre e2
                            exact ⟨.returned v', w', fr', ⟨v', μ2, rfl, d1, d2, d3, .no⟩, h6, h10, h7, h8, h9, fn, by rw [h10]; exact hfn, h11⟩
            | none =>
              cases hext : C.ext i with
              | none => exact hbad ("no extern " ++ fn.name) fun x => by simp only [callA, hsum, hfg, hbody, hext]
              | some e =>
                cases hxa : extA e (first ++ (args ++ cap)) H with
                | none => exact hbad "extern" fun x => by simp only [callA, hsum, hfg, hbody, hext, extA_wo, hxa, Option.map_none]
                | some p =>
                  obtain ⟨v, H'⟩ := p
                  cases hu with
                  | ret => exact hbad "extern: deferred" fun x => by simp only [callA, hsum, hfg, hbody, hext, extA_wo, hxa, Option.map_some]
                  | pan _ => exact hbad "extern: deferred" fun x => by simp only [callA, hsum, hfg, hbody, hext, extA_wo, hxa, Option.map_some]
                  | no =>
                    refine ⟨[], .ret v H' .no, .pure (fun x => by simp only [callA, hsum, hfg, hbody, hext, extA_wo, hxa, Option.map_some]; rfl) rfl, ?_⟩
                    obtain ⟨v', w', e1, e2, e3, e4⟩ := ext_run hF hext hxa hargs hh
                    rw [e1]
                    exact ⟨v', μ, rfl, e2, e3, e4, .no⟩
      | yield l =>
        obtain ⟨lc, hl, rfl⟩ := q1
        cases first with
        | cons a0 l0 => exact hbad "yield" fun x => by simp only [callA]
        | nil =>
          have := q2.nil_inv
          subst this
          cases hu with
          | ret => exact hbad "yield: deferred" fun x => by simp only [callA]
          | pan _ => exact hbad "yield: deferred" fun x => by simp only [callA]
          | no =>
            refine hsame (g := fun x => roundA C K (callA C K n) .no l args (H.wo x)) (fun x => by simp only [callA]) ?_
            have hinv : (invoke (.fn (.yield lc.blk) y'.toArray) ([] ++ args').toArray).run C.P w = (Instr.yield lc.blk args'.toArray).run C.P w := by simp [invoke]
            rw [hinv]
            exact round_run hF.ok ih (inv_sim hF) K cs hgl ha hh hl
      | via t p i b =>
        have q1 : fn' = .via t p.toArray i b := q1
        subst q1
        cases p with
        | cons a0 l0 => exact hbad "call" fun x => by simp only [callA]
        | nil =>
          cases cap with
          | cons a0 l0 => exact hbad "via" fun x => by simp only [callA]
          | nil =>
            have := q3.nil_inv
            subst this
            have hfa := q2.append ha
            cases hfl : first ++ args with
            | nil => exact hbad "via" fun x => by simp only [callA, hfl]
            | cons a0 l0 =>
              rw [hfl] at hfa
              obtain ⟨v0, z, hz, z1, z2⟩ := hfa.uncons
              cases hd : C.und t with
              | none => exact hbad "via" fun x => by simp only [callA, hfl, hd]
              | some d =>
                have hudr := run_underlying' (hF.ok.und hd) w
                have go : (∀ x, callA C K (n + 1) up (.func (.via t [] i b) first []) args (H.wo x) = callA C K n up (.func (.func i) first []) args (H.wo x)) → ((receiverAt t (.val v0) b none).run C.P w = .ok v0 w) →
                    ∃ ω r, Orac CR.wo CR.nd (fun x => callA C K (n + 1) up (.func (.via t [] i b) first []) args (H.wo x)) ω r ∧ CallOk C.P μ H w cs cu r ((invoke (.fn (.via t #[] i b) #[]) (x' ++ args').toArray).run C.P w) := by
                  intro hx hrec
                  have hv2 : VRel μ (.func (.func i) first []) (.func (.func i) x'.toArray #[]) := .func _ _ _ _ _ _ rfl q2.toArr.1 rfl q2.toArr.2 (fun i h => absurd h (by simp))
                  obtain ⟨ω, r, p1, p2⟩ := ih μ H w up cu (.func (.func i) first []) args _ args' cs hgl hv2 ha hh hu
                  have he : (fun x => callA C K (n + 1) up (.func (.via t [] i b) first []) args (H.wo x)) = _ := funext hx
                  rw [he]
                  refine ⟨ω, r, p1, ?_⟩
                  have hr2 : (Deferred.ofValue (.func (.func i) x'.toArray #[]) args'.toArray >>= fun d => invoke d.target d.args).run C.P w = (invoke (.fn (.via t #[] i b) #[]) (x' ++ args').toArray).run C.P w := by
                    simp only [Deferred.ofValue, Sem.run_bind, Sem.run_pure, Result.andThen_ok, invoke]
                    rw [hz]
                    have hx2 : x'.toArray ++ args'.toArray = (v0 :: z).toArray := by rw [← hz]; simp
                    rw [hx2]
                    simp only [receiverVia, follow, Sem.run_bind, Sem.run_pure, Result.andThen_ok, hrec]
                    simp [Sem.run_bind, follow, hrec]
                  rw [← hr2]; exact p2
                cases d with
                | pointer e =>
                  cases b with
                  | false => exact hbad "via" fun x => by simp only [callA, hfl, hd, cond_false]
                  | true => exact go (fun x => by simp only [callA, hfl, hd, cond_true]) (by simp only [receiverAt, Sem.run_bind, hudr, Result.andThen_ok, Place.get, Sem.run_pure])
                | _ =>
                  all_goals
                    cases b with
                    | true => exact hbad "via" fun x => by simp only [callA, hfl, hd, cond_true]
                    | false => exact go (fun x => by simp only [callA, hfl, hd, cond_false]) (by simp only [receiverAt, Sem.run_bind, hudr, Result.andThen_ok, Place.get, Sem.run_pure])
      | method name =>
        have q1 : fn' = .method name := q1
        subst q1
        have hfa := q2.append ha
        cases hfl : first ++ args with
        | nil => exact hbad "method" fun x => by simp only [callA, hfl]
        | cons a0 l0 =>
          rw [hfl] at hfa
          obtain ⟨v0, z, hz, z1, z2⟩ := hfa.uncons
          cases hi : invA C a0 name with
          | none => exact hbad "method" fun x => by simp only [callA, hfl, hi]
          | some g =>
            obtain ⟨g', hg', hcm⟩ := inv_sim hF μ w a0 v0 name g z1 hi
            obtain ⟨ω, r, p1, p2⟩ := ih μ H w up cu g l0 g' z cs hgl hg' z2 hh hu
            refine hsame (g := fun x => callA C K n up g l0 (H.wo x)) (fun x => by simp only [callA, hfl, hi]) ⟨ω, r, p1, ?_⟩
            rw [← hcm] at p2
            have : (invoke (.fn (.method name) y'.toArray) (x' ++ args').toArray).run C.P w = (callMethod v0 name z.toArray).run C.P w := by
              rw [hz]
              simp [invoke]
            rw [this]
            exact p2
    | nilFunc => exact hbad "call of nil" fun x => by simp only [callA]
    | _ => exact hbad "call" fun x => by simp only [callA]
end
end Go.Ab
