/- Proved here: one operation runs, a region in the order of the text runs, a region that draws its order runs: as the abstract machine says, where it answers. -/
import Derived.Test.YtnlccebemhloeaaGreatAbC
set_option linter.all false
set_option linter.unusedSimpArgs false
set_option linter.unusedVariables false
namespace Go.Ab

/-! ### frames, rounds of loops among them -/

def fat (b : Frame) (a : Act) (todo : List Item) : Frame :=
  { fn := b.fn, tmps := a.tmps, todo, defers := a.defers, mode := .run, kind := b.kind, roundOf := b.roundOf }

theorem fat_eval (b : Frame) (a : Act) (todo : List Item) : (fat b a todo).eval = a.eval := by
  funext x; cases x <;> rfl

section moves
variable {P : Program} {b : Frame} {a : Act} {k : List Item} {cs : List Frame} {w : World}

theorem fstep_skip : step P (lone (fat b a (.code .skip :: k)) cs w) = .next (lone (fat b a k) cs w) :=
  step_lone_go (by simp [stepG, stepG.exec, fat])
theorem fstep_label {l : Nat} : step P (lone (fat b a (.code (.label l) :: k)) cs w) = .next (lone (fat b a k) cs w) :=
  step_lone_go (by simp [stepG, stepG.exec, fat])
theorem fstep_inBlock {id : Nat} : step P (lone (fat b a (.inBlock id :: k)) cs w) = .next (lone (fat b a k) cs w) :=
  step_lone_go (by simp [stepG, stepG.exec, fat])
theorem fstep_inScope {c : Code} : step P (lone (fat b a (.inScope c :: k)) cs w) = .next (lone (fat b a k) cs w) :=
  step_lone_go (by simp [stepG, stepG.exec, fat])
theorem fstep_seq {x y : Code} : step P (lone (fat b a (.code (.seq x y) :: k)) cs w) = .next (lone (fat b a (.code x :: .code y :: k)) cs w) :=
  step_lone_go (by simp [stepG, stepG.exec, fat])
theorem fstep_cond {c : Operand} {x y : Code} {t : Bool} (h : a.eval c = .bool t) :
    step P (lone (fat b a (.code (.cond c x y) :: k)) cs w) = .next (lone (fat b a (.code (if t then x else y) :: k)) cs w) :=
  step_lone_go (by
    have := fat_eval b a (.code (.cond c x y) :: k)
    simp only [fat] at this
    simp [stepG, stepG.exec, fat, this, h])
theorem fstep_block {id : Nat} {c : Code} : step P (lone (fat b a (.code (.block id c) :: k)) cs w) = .next (lone (fat b a (.code c :: .inBlock id :: k)) cs w) :=
  step_lone_go (by simp [stepG, stepG.exec, fat])
theorem fstep_loop {c : Code} : step P (lone (fat b a (.code (.loop c) :: k)) cs w) = .next (lone (fat b a (.code c :: .inLoop c :: k)) cs w) :=
  step_lone_go (by simp [stepG, stepG.exec, fat])
theorem fstep_inLoop {c : Code} : step P (lone (fat b a (.inLoop c :: k)) cs w) = .next (lone (fat b a (.code c :: .inLoop c :: k)) cs w) :=
  step_lone_go (by simp [stepG, stepG.exec, fat])
theorem fstep_scope {c : Code} : step P (lone (fat b a (.code (.scope c) :: k)) cs w) = .next (lone (fat b a (.code c :: .inScope c :: k)) cs w) :=
  step_lone_go (by simp [stepG, stepG.exec, fat])
theorem fstep_exit {id : Nat} {k' : List Item} (h : exitTo id k = some k') :
    step P (lone (fat b a (.code (.exit id) :: k)) cs w) = .next (lone (fat b a k') cs w) :=
  step_lone_go (by simp [stepG, stepG.exec, fat, h])
theorem fstep_goto {l : Nat} {k' : List Item} (h : gotoIn l k = some k') :
    step P (lone (fat b a (.code (.goto l) :: k)) cs w) = .next (lone (fat b a k') cs w) :=
  step_lone_go (by simp [stepG, stepG.exec, fat, h])
theorem fstep_ret (hb : b.roundOf = none) :
    step P (lone (fat b a (.code .ret :: k)) cs w) = .next (lone { fat b a (.code .ret :: k) with mode := .returning } cs w) :=
  step_lone_go (by simp [stepG, stepG.exec, fat, hb])
theorem fstep_end (hb : b.roundOf = none) : step P (lone (fat b a []) cs w) = .next (lone { fat b a [] with mode := .returning } cs w) :=
  step_lone_go (by simp [stepG, stepG.exec, fat, hb])
theorem fstep_region {id : Nat} {ops : Array Oper} :
    step P (lone (fat b a (.code (.region id ops false) :: k)) cs w) = .next (lone (fat b a (.inRegion ops (List.range ops.size) :: k)) cs w) :=
  step_lone_go (by simp [stepG, stepG.exec, fat])
theorem fstep_region_draw {id : Nat} {ops : Array Oper} :
    step P (lone (fat b a (.code (.region id ops true) :: k)) cs w) =
      .next (lone (fat b a (.inRegion ops (Region.schedule (P.follows .mixedOrders) ops (w.tape w.drawn (.order b.fn id))) :: k)) cs w.drew) :=
  step_lone_go (by simp [stepG, stepG.exec, fat, choose, Sem.run, Question.forced, Question.cut])
theorem fstep_region_end {ops : Array Oper} : step P (lone (fat b a (.inRegion ops [] :: k)) cs w) = .next (lone (fat b a k) cs w) :=
  step_lone_go (by simp [stepG, stepG.exec, fat])

theorem fat_finish (ops : Array Oper) (i : Nat) (rest : List Nat) (v : Value) :
    (fat b a (.inRegion ops (i :: rest) :: k)).finish v = fat b (a.put ((ops[i]?).bind (·.dst)) v) (.inRegion ops rest :: k) := by
  cases h : (ops[i]?).bind (·.dst) <;> simp [Frame.finish, fat, Act.put, h]

theorem fstep_op_skip {ops : Array Oper} {i : Nat} {rest : List Nat} (h : ((ops[i]?).map (Region.wanted · (yielded ops a.tmps))).getD false = false) :
    step P (lone (fat b a (.inRegion ops (i :: rest) :: k)) cs w) =
      .next (lone (fat b (a.put ((ops[i]?).bind (·.dst)) undef) (.inRegion ops rest :: k)) cs w) := by
  rw [← fat_finish]
  exact step_lone_go (by
    have h' := h
    simp only [fat] at *
    simp [stepG, stepG.exec, h'])

/-- An operation that is no deferring in a round. -/
theorem fstepG_op {ops : Array Oper} {i : Nat} {rest : List Nat} {o : Oper} (ho : ops[i]? = some o) (hw : Region.wanted o (yielded ops a.tmps) = true) (hd : b.roundOf = none ∨ ∀ c, o.op ≠ .defer c) :
    stepG P true { frame := fat b a (.inRegion ops (i :: rest) :: k), callers := cs, status := .running, dying := none } w =
      stepG.apply P true (fat b a (.inRegion ops (i :: rest) :: k)) cs none (execOp a.eval o) w := by
  have he := fat_eval b a (.inRegion ops (i :: rest) :: k)
  simp only [fat] at he
  rcases hd with hd | hd
  · rw [hd] at he
    simp [stepG, stepG.exec, stepG.oper, Frame.oper?, fat, ho, hw, he, hd]
  · simp only [stepG, stepG.exec, stepG.oper, Frame.oper?, fat, ho, hw, he]
    simp only [Option.map_some, hw, Option.getD_some, if_true]
    cases hr : b.roundOf with
    | none => rfl
    | some l =>
      cases hop : o.op <;> simp only
      exact absurd hop (hd _)
end moves
end Go.Ab

set_option linter.unusedSimpArgs false
set_option linter.unusedVariables false
namespace Go.Ab

/-! ### what runs: relations -/

abbrev CU := Option FrameMode

def setTop (m : FrameMode) : List Frame → List Frame
  | c :: r => { c with mode := m } :: r
  | [] => []

/-- The callers; behind a deferred call the first one's mode is kept apart. -/
def callersOf (cs : List Frame) : CU → List Frame
  | none => cs
  | some m => setTop m cs

inductive ChRel (μ : Mu) : List APanic → List PanicEntry → Prop
  | nil : ChRel μ [] []
  | cons {a : AV} {v : Value} {l : List APanic} {c : List PanicEntry} (r : Bool) (h : VRel μ a v) (t : ChRel μ l c) : ChRel μ (⟨a, r⟩ :: l) (⟨v, r, false⟩ :: c)

inductive URel (μ : Mu) : UM → CU → Prop
  | no : URel μ .no none
  | ret : URel μ .ret (some .returning)
  | pan {l : List APanic} {c : List PanicEntry} (h : ChRel μ l c) : URel μ (.pan l) (some (.panicking c))

inductive DRel (μ : Mu) : ADef → Deferred → Prop
  | fn {fn : AFn} {first cap args : List AV} {fn' : Fn} {first' cap' args' : List Value} (hf : FRel μ fn fn') (h1 : LRel μ first first') (h2 : LRel μ cap cap') (h3 : LRel μ args args') :
      DRel μ ⟨fn, first, cap, args, none⟩ ⟨.fn fn' cap'.toArray, (first' ++ args').toArray⟩
  | coll {r : Nat} {l : Loc} {f1 : AFn} {f2 f3 f4 : List AV} (h : μ r = some l) : DRel μ ⟨f1, f2, f3, f4, some r⟩ ⟨.collected l.blk, #[]⟩

inductive DsRel (μ : Mu) : List ADef → List Deferred → Prop
  | nil : DsRel μ [] []
  | cons {d : ADef} {d' : Deferred} {l : List ADef} {l' : List Deferred} (h : DRel μ d d') (t : DsRel μ l l') : DsRel μ (d :: l) (d' :: l')

def RdRel (μ : Mu) : Option Nat → Option Nat → Prop
  | none, none => True
  | some l, some k => ∃ x, μ l = some x ∧ x.blk = k
  | _, _ => False

theorem ChRel.mono {μ μ' : Mu} (hm : MuLe μ μ') {l : List APanic} {c : List PanicEntry} (h : ChRel μ l c) : ChRel μ' l c := by
  induction h with
  | nil => exact .nil
  | cons r h _ ih => exact .cons r (h.mono hm) ih
theorem URel.mono {μ μ' : Mu} (hm : MuLe μ μ') {u : UM} {c : CU} (h : URel μ u c) : URel μ' u c := by
  cases h with
  | no => exact .no
  | ret => exact .ret
  | pan h => exact .pan (h.mono hm)
theorem DRel.mono {μ μ' : Mu} (hm : MuLe μ μ') {d : ADef} {d' : Deferred} (h : DRel μ d d') : DRel μ' d d' := by
  cases h with
  | fn hf h1 h2 h3 => exact .fn (hf.mono hm) (h1.mono hm) (h2.mono hm) (h3.mono hm)
  | coll h => exact .coll (hm _ _ h)
theorem DsRel.mono {μ μ' : Mu} (hm : MuLe μ μ') {l : List ADef} {c : List Deferred} (h : DsRel μ l c) : DsRel μ' l c := by
  induction h with
  | nil => exact .nil
  | cons h _ ih => exact .cons (h.mono hm) ih
theorem DsRel.append {μ : Mu} {l l2 : List ADef} {c c2 : List Deferred} (h : DsRel μ l c) (h2 : DsRel μ l2 c2) : DsRel μ (l ++ l2) (c ++ c2) := by
  induction h with
  | nil => exact h2
  | cons h _ ih => exact .cons h ih
theorem RdRel.mono {μ μ' : Mu} (hm : MuLe μ μ') {l : Option Nat} {c : Option Nat} (h : RdRel μ l c) : RdRel μ' l c := by
  cases l <;> cases c <;> first | exact h | (obtain ⟨x, h1, h2⟩ := h; exact ⟨x, hm _ _ h1, h2⟩)

/-! ### choices -/

structure Orac {R : Type} (wo : List Nat → R → R) (nd : R → Option Nat) (g : List Nat → R) (ω : List Nat) (r : R) : Prop where
  done : ∀ rest, g (ω ++ rest) = wo rest r
  path : ∀ i (h : i < ω.length), ∃ k, nd (g (ω.take i)) = some k ∧ ω[i] < k
  fine : nd r = none

theorem Orac.pure {R : Type} {wo : List Nat → R → R} {nd : R → Option Nat} {g : List Nat → R} {r : R} (h : ∀ x, g x = wo x r) (hr : nd r = none) : Orac wo nd g [] r :=
  ⟨fun rest => by simpa using h rest, fun i h => absurd h (by simp), hr⟩

theorem Orac.bind {R R' : Type} {wo : List Nat → R → R} {nd : R → Option Nat} {wo' : List Nat → R' → R'} {nd' : R' → Option Nat} {g : List Nat → R} {ω ω' : List Nat} {r : R} {r' : R'} {K : List Nat → R → R'}
    (h : Orac wo nd g ω r) (hK : ∀ x q k, nd q = some k → nd' (K x q) = some k) (hω : ∀ x, K (ω ++ x) (wo x r) = K x (wo x r)) (h' : Orac wo' nd' (fun x => K x (wo x r)) ω' r') :
    Orac wo' nd' (fun x => K x (g x)) (ω ++ ω') r' := by
  refine ⟨fun rest => ?_, fun i hi => ?_, h'.fine⟩
  · simp only [List.append_assoc]
    rw [h.done, hω]
    exact h'.done rest
  · by_cases hlt : i < ω.length
    · obtain ⟨k, h1, h2⟩ := h.path i hlt
      refine ⟨k, ?_, ?_⟩
      · rw [List.take_append_of_le_length (by omega)]
        exact hK _ _ _ h1
      · rw [List.getElem_append_left hlt]; exact h2
    · have hi' : i - ω.length < ω'.length := by simp at hi; omega
      obtain ⟨k, h1, h2⟩ := h'.path (i - ω.length) hi'
      refine ⟨k, ?_, ?_⟩
      · rw [List.take_append, List.take_of_length_le (by omega), h.done, hω]
        exact h1
      · rw [List.getElem_append_right (by omega)]; exact h2

def AS.wo (s : AS) (x : List Nat) : AS := { s with H := s.H.wo x }
def AR.wo (x : List Nat) : AR → AR
  | .ok e s => .ok e (s.wo x)
  | r => r
def AR.nd : AR → Option Nat
  | .need k => some k
  | _ => none
def CR.wo (x : List Nat) : CR → CR
  | .ret v H u => .ret v (H.wo x) u
  | .pan l H u => .pan l (H.wo x) u
  | r => r
def CR.nd : CR → Option Nat
  | .need k => some k
  | _ => none
def OR.nd : OR → Option Nat
  | .need k => some k
  | _ => none

/-! ### calls -/

/-- A call, over these callers. -/
def CallsAt (P : Program) (f : FuncId) (args : Array Value) (w : World) (cs : List Frame) (R : Ending → World → Prop) : Prop :=
  ∃ e w' fr, R e w' ∧ Comes P (lone (Frame.enter P f args .normal) cs w) (lone fr cs w') e ∧ fr.fn = f ∧ fr.leaving P w' e

def CallsDAt (P : Program) (f : FuncId) (args : Array Value) (u : FrameMode) (w : World) (cs : List Frame) (R : Ending → FrameMode → World → Prop) : Prop :=
  ∀ c r, cs = c :: r → c.mode = u → ∃ e u' w' fr, R e u' w' ∧ Comes P (lone (Frame.enter P f args .deferred) (c :: r) w) (lone fr ({ c with mode := u' } :: r) w') e ∧ fr.kind = .deferred ∧ fr.going P w' e

def RoundsAt (P : Program) (fr : Frame) (w : World) (cs : List Frame) (R : Ending → World → Prop) : Prop :=
  ∀ c r, cs = c :: r → ∃ e w', R e w' ∧ match e with
    | .returned v => Steps P (lone fr (c :: r) w) (lone (c.finish v) r w')
    | .panicked ch => Steps P (lone fr (c :: r) w) (lone (c.raise ch) r w')
    | .outgrown => False

def DidR (P : Program) (cs : List Frame) (cu : CU) (R : Ending → CU → World → Prop) (res : Result Next) : Prop :=
  match cu with
  | none => match res with
    | .ok (.value v) w' => R (.returned v) none w'
    | .ok (.enter f args) w' => CallsAt P f args w' cs fun e w'' => R e none w''
    | .ok (.round l f t a b) w' => RoundsAt P (Frame.round l f t a b .normal) w' cs fun e w'' => R e none w''
    | .halt (.panic v) w' => R (.panicked [⟨v, false, false⟩]) none w'
    | _ => False
  | some u => match res with
    | .ok (.enter f args) w' => CallsDAt P f args u w' cs fun e u' w'' => R e (some u') w''
    | _ => False

def CallOk (P : Program) (μ : Mu) (H : AHeap) (w : World) (cs : List Frame) (cu : CU) (r : CR) (res : Result Next) : Prop :=
  match r with
  | .ret v H' up' => DidR P cs cu (fun e cu' w' => ∃ v' μ', e = .returned v' ∧ VRel μ' v v' ∧ HRel P μ' H' w' ∧ Go μ H w μ' H' w' ∧ URel μ' up' cu') res
  | .pan l H' up' => DidR P cs cu (fun e cu' w' => ∃ ch μ', e = .panicked ch ∧ ChRel μ' l ch ∧ HRel P μ' H' w' ∧ Go μ H w μ' H' w' ∧ URel μ' up' cu') res
  | _ => True

def CallSim (C : Ctx) (call : UM → AV → List AV → AHeap → CR) : Prop :=
  ∀ (μ : Mu) (H : AHeap) (w : World) (up : UM) (cu : CU) (f : AV) (args : List AV) (f' : Value) (args' : List Value) (cs : List Frame),
    Gl C.ng μ → VRel μ f f' → LRel μ args args' → HRel C.P μ H w → URel μ up cu →
    ∃ ω r, Orac CR.wo CR.nd (fun x => call up f args (H.wo x)) ω r ∧
      CallOk C.P μ H w cs cu r ((Deferred.ofValue f' args'.toArray >>= fun d => invoke d.target d.args).run C.P w)

/-- A method behind an interface's value. -/
def InvSim (C : Ctx) (inv : AV → String → Option AV) : Prop :=
  ∀ (μ : Mu) (w : World) (r : AV) (r' : Value) (name : String) (f : AV), VRel μ r r' → inv r name = some f →
    ∃ f', VRel μ f f' ∧ ∀ args' : List Value, (callMethod r' name args'.toArray).run C.P w = (Deferred.ofValue f' args'.toArray >>= fun d => invoke d.target d.args).run C.P w

/-! ### one operation -/

def OpDone (P : Program) (μ : Mu) (s : AS) (w : World) (b : Frame) (a : Act) (cs : List Frame) (cu : CU) (m : Machine) (dst : Option Nat) (todo : List Item) : AR → Prop
  | .ok .normal s' => ∃ μ' v v' D' cu' w', s' = AS.put { s with H := s'.H, ds := s'.ds, up := s'.up } dst v ∧ VRel μ' v v' ∧ HRel P μ' s'.H w' ∧ Go μ s.H w μ' s'.H w' ∧
      DsRel μ' s'.ds D' ∧ URel μ' s'.up cu' ∧ (cu = none ↔ cu' = none) ∧ Steps P m (lone (fat b (({ a with defers := D' } : Act).put dst v') todo) (callersOf cs cu') w')
  | .ok (.panic l) s' => ∃ μ' ch w' todo', s' = { s with H := s'.H } ∧ ChRel μ' l ch ∧ HRel P μ' s'.H w' ∧ Go μ s.H w μ' s'.H w' ∧
      Steps P m (lone { fat b a todo' with mode := .panicking ch } (callersOf cs cu) w')
  | .ok _ _ => False
  | _ => True

def TopOk (b : Frame) (cu : CU) (cs : List Frame) : Prop := ∀ m, cu = some m → b.kind = .deferred ∧ b.roundOf = none ∧ ∃ c r, cs = c :: r

theorem TopOk.kin {b : Frame} {cu cu' : CU} {cs : List Frame} (h : TopOk b cu cs) (hk : cu = none ↔ cu' = none) : TopOk b cu' cs := by
  intro m hm
  cases hc : cu with
  | none => rw [hk.1 hc] at hm; cases hm
  | some m0 => exact h m0 hc

theorem fat_raise (b : Frame) (a : Act) (todo : List Item) (ch : List PanicEntry) : (fat b a todo).raise ch = { fat b a todo with mode := .panicking ch } := rfl

section
variable {C : Ctx} {call : UM → AV → List AV → AHeap → CR} {inv : AV → String → Option AV}
variable {μ : Mu} {s : AS} {w : World} {b : Frame} {a : Act} {cs : List Frame} {cu : CU} {k : List Item} {ops : Array Oper} {i : Nat} {rest : List Nat} {o : Oper}

/-- A call, and how it ends. -/
theorem call_done (hcu : URel μ s.up cu) (hds : DsRel μ s.ds a.defers) (ho : ops[i]? = some o) (hw : Region.wanted o (yielded ops a.tmps) = true) (hd : ∀ c, o.op ≠ .defer c)
    {r : CR} (hc : CallOk C.P μ s.H w (fat b a (.inRegion ops (i :: rest) :: k) :: callersOf cs cu) none r ((execOp a.eval o).run C.P w)) :
    OpDone C.P μ s w b a cs cu (lone (fat b a (.inRegion ops (i :: rest) :: k)) (callersOf cs cu) w) o.dst (.inRegion ops rest :: k) (match r with
      | .ret v H _ => .ok .normal (AS.put { s with H := H } o.dst v)
      | .pan l H _ => .ok (.panic l) { s with H := H }
      | .need k => .need k
      | .bad w => .bad w) := by
  have hg : ∀ cs, stepG C.P true { frame := fat b a (.inRegion ops (i :: rest) :: k), callers := cs, status := .running, dying := none } w =
      stepG.apply C.P true (fat b a (.inRegion ops (i :: rest) :: k)) cs none (execOp a.eval o) w := fun cs => fstepG_op ho hw (.inr hd)
  have hfin : ∀ v, (fat b a (.inRegion ops (i :: rest) :: k)).finish v = fat b (a.put o.dst v) (.inRegion ops rest :: k) := by
    intro v; rw [fat_finish, ho]; rfl
  have hput : ∀ (H : AHeap) (v : AV), (AS.put { s with H := H } o.dst v).H = H ∧ (AS.put { s with H := H } o.dst v).ds = s.ds ∧ (AS.put { s with H := H } o.dst v).up = s.up := by
    intro H v; cases o.dst <;> exact ⟨rfl, rfl, rfl⟩
  cases r with
  | need k => trivial
  | bad w => trivial
  | ret v H' up' =>
    simp only [CallOk, DidR] at hc
    have fin : ∀ {e : Ending} {w' : World}, (∃ v' μ', e = .returned v' ∧ VRel μ' v v' ∧ HRel C.P μ' H' w' ∧ Go μ s.H w μ' H' w' ∧ URel μ' up' none) →
        (∀ v', e = .returned v' → Steps C.P (lone (fat b a (.inRegion ops (i :: rest) :: k)) (callersOf cs cu) w) (lone ((fat b a (.inRegion ops (i :: rest) :: k)).finish v') (callersOf cs cu) w')) →
        OpDone C.P μ s w b a cs cu (lone (fat b a (.inRegion ops (i :: rest) :: k)) (callersOf cs cu) w) o.dst (.inRegion ops rest :: k) (.ok .normal (AS.put { s with H := H' } o.dst v)) := by
      rintro e w' ⟨v', μ', rfl, h1, h2, h3, h4⟩ hst
      refine ⟨μ', v, v', a.defers, cu, w', ?_, h1, by rw [(hput H' v).1]; exact h2, by rw [(hput H' v).1]; exact h3, by rw [(hput H' v).2.1]; exact hds.mono h3.ext, by rw [(hput H' v).2.2]; exact hcu.mono h3.ext, Iff.rfl, ?_⟩
      · rw [(hput H' v).1, (hput H' v).2.1, (hput H' v).2.2]
      · have := hst v' rfl
        rw [hfin] at this
        exact this
    split at hc
    · rename_i v0 w' hr
      refine fin hc fun v' e => ?_
      cases e
      exact .one (step_lone_go (by rw [hg]; simp [stepG.apply, hr]))
    · rename_i f args w' hr
      obtain ⟨e, w'', fr, hR, hsteps, _, hleave⟩ := hc
      refine fin hR fun v' e' => ?_
      subst e'
      have henter : step C.P (lone (fat b a (.inRegion ops (i :: rest) :: k)) (callersOf cs cu) w) =
          .next (lone (Frame.enter C.P f args .normal) (fat b a (.inRegion ops (i :: rest) :: k) :: callersOf cs cu) w') :=
        step_lone_go (by rw [hg]; simp [stepG.apply, hr, fat])
      exact .head henter (Steps.trans hsteps (.one (step_leave_returned hleave)))
    · rename_i l f t as bs w' hr
      obtain ⟨e, w'', hR, hsteps⟩ := hc _ _ rfl
      refine fin hR fun v' e' => ?_
      subst e'
      have henter : step C.P (lone (fat b a (.inRegion ops (i :: rest) :: k)) (callersOf cs cu) w) =
          .next (lone (Frame.round l f t as bs .normal) (fat b a (.inRegion ops (i :: rest) :: k) :: callersOf cs cu) w') :=
        step_lone_go (by rw [hg]; simp [stepG.apply, hr, fat])
      exact .head henter hsteps
    · obtain ⟨v', μ', h, _⟩ := hc
      cases h
    · exact hc.elim
  | pan l H' up' =>
    simp only [CallOk, DidR] at hc
    have fin : ∀ {e : Ending} {w' : World}, (∃ ch μ', e = .panicked ch ∧ ChRel μ' l ch ∧ HRel C.P μ' H' w' ∧ Go μ s.H w μ' H' w' ∧ URel μ' up' none) →
        (∀ ch, e = .panicked ch → Steps C.P (lone (fat b a (.inRegion ops (i :: rest) :: k)) (callersOf cs cu) w) (lone ((fat b a (.inRegion ops (i :: rest) :: k)).raise ch) (callersOf cs cu) w')) →
        OpDone C.P μ s w b a cs cu (lone (fat b a (.inRegion ops (i :: rest) :: k)) (callersOf cs cu) w) o.dst (.inRegion ops rest :: k) (.ok (.panic l) { s with H := H' }) := by
      rintro e w' ⟨ch, μ', rfl, h1, h2, h3, h4⟩ hst
      exact ⟨μ', ch, w', _, rfl, h1, h2, h3, hst ch rfl⟩
    split at hc
    · obtain ⟨v', μ', h, _⟩ := hc
      cases h
    · rename_i f args w' hr
      obtain ⟨e, w'', fr, hR, hsteps, _, hleave⟩ := hc
      refine fin hR fun v' e' => ?_
      subst e'
      have henter : step C.P (lone (fat b a (.inRegion ops (i :: rest) :: k)) (callersOf cs cu) w) =
          .next (lone (Frame.enter C.P f args .normal) (fat b a (.inRegion ops (i :: rest) :: k) :: callersOf cs cu) w') :=
        step_lone_go (by rw [hg]; simp [stepG.apply, hr, fat])
      exact .head henter (Steps.trans hsteps (.one (step_leave_panicked hleave)))
    · rename_i l f t as bs w' hr
      obtain ⟨e, w'', hR, hsteps⟩ := hc _ _ rfl
      refine fin hR fun v' e' => ?_
      subst e'
      have henter : step C.P (lone (fat b a (.inRegion ops (i :: rest) :: k)) (callersOf cs cu) w) =
          .next (lone (Frame.round l f t as bs .normal) (fat b a (.inRegion ops (i :: rest) :: k) :: callersOf cs cu) w') :=
        step_lone_go (by rw [hg]; simp [stepG.apply, hr, fat])
      exact .head henter hsteps
    · rename_i v0 w' hr
      refine fin hc fun ch e => ?_
      cases e
      exact .one (step_lone_go (by rw [hg]; simp [stepG.apply, hr]))
    · exact hc.elim
end
end Go.Ab

set_option linter.unusedSimpArgs false
set_option linter.unusedVariables false
namespace Go.Ab

section
variable {C : Ctx} {call : UM → AV → List AV → AHeap → CR} {inv : AV → String → Option AV}
variable {μ : Mu} {s : AS} {w : World} {b : Frame} {a : Act} {cs : List Frame} {cu : CU} {k : List Item} {ops : Array Oper} {i : Nat} {rest : List Nat} {o : Oper}

theorem AS.put_wo (s : AS) (x : List Nat) (d : Option Nat) (v : AV) : (s.wo x).put d v = (s.put d v).wo x := by cases d <;> rfl

theorem AS.put_parts (s : AS) (d : Option Nat) (v : AV) : (s.put d v).H = s.H ∧ (s.put d v).ds = s.ds ∧ (s.put d v).up = s.up ∧ (s.put d v).rd = s.rd := by
  cases d <;> exact ⟨rfl, rfl, rfl, rfl⟩

theorem AS.put_self (s : AS) (d : Option Nat) (v : AV) : s.put d v = AS.put { s with H := (s.put d v).H, ds := (s.put d v).ds, up := (s.put d v).up } d v := by
  obtain ⟨h1, h2, h3, _⟩ := AS.put_parts s d v
  rw [h1, h2, h3]

theorem defer_one {o : Oper} (h : ∀ f args, C.op o ≠ .dfr f args) : True := trivial

/-- What the result of an operation tells about it: whether it defers. -/
theorem op_dfr {ρ : Operand → Value} {c : Call} (ho : o.op = .defer c) : ∀ (P : Program) (μ : Mu) (H : AHeap) (w : World) (r : OR), OpOk P μ H w r ((execOp ρ o).run P w) →
    (∃ f args, r = .dfr f args) ∨ (∃ why, r = .bad why) ∨ (∃ k, r = .need k) ∨ ((∃ v H', r = .panic v H') ∧ ∃ v, (execOp ρ o).run P w = .halt (.panic v) w) ∨ ((∃ f args, r = .call f args) ∨ ∃ f n args, r = .invoke f n args) := by
  intro P μ H w r h
  have hrun : ∀ x w', (execOp ρ o).run P w = .ok x w' → ∃ d, x = .defer d := by
    intro x w' hx
    simp only [execOp, ho, Sem.run_bind, Sem.run_pure] at hx
    cases hq : (resolve ρ c o.type).run P w with
    | ok d w1 => rw [hq] at hx; simp only [Result.andThen_ok] at hx; cases hx; exact ⟨_, rfl⟩
    | halt e w1 => rw [hq] at hx; cases hx
  cases r with
  | val v H' =>
    obtain ⟨μ', v', w', hr, _⟩ := h
    rcases hr with hr | ⟨hr, _⟩
    · obtain ⟨d, hd⟩ := hrun _ _ hr; cases hd
    · obtain ⟨d, hd⟩ := hrun _ _ hr; cases hd
  | panic v H' =>
    obtain ⟨_, v', _, hr⟩ := h
    exact .inr (.inr (.inr (.inl ⟨⟨_, _, rfl⟩, _, hr⟩)))
  | call f args => exact .inr (.inr (.inr (.inr (.inl ⟨_, _, rfl⟩))))
  | invoke f n args => exact .inr (.inr (.inr (.inr (.inr ⟨_, _, _, rfl⟩))))
  | dfr f args => exact .inl ⟨_, _, rfl⟩
  | recover => obtain ⟨d, hd⟩ := hrun _ _ h; cases hd
  | need k => exact .inr (.inr (.inl ⟨_, rfl⟩))
  | bad why => exact .inr (.inl ⟨_, rfl⟩)

/-- One operation that is wanted: whatever it is. -/
theorem op_done (hcall : CallSim C call) (hinv : InvSim C inv) (hgl : Gl C.ng μ) (hh : HRel C.P μ s.H w) (hcu : URel μ s.up cu) (hds : DsRel μ s.ds a.defers) (hrd : RdRel μ s.rd b.roundOf) (htop : TopOk b cu cs)
    (ho : ops[i]? = some o) (hw : Region.wanted o (yielded ops a.tmps) = true) {r : OR} {ω : List Nat} {g : List Nat → OR} (hg0 : Orac OR.wo OR.nd g ω r) (hω : ω = [] ∨ ∃ v H', r = .val v H')
    (hdf : ∀ c, o.op = .defer c → ∃ f args, r = .dfr f args ∨ (∃ why, r = .bad why))
    (hdf2 : ∀ f args, r = .dfr f args → ∃ c, o.op = .defer c) (hok : OpOk C.P μ s.H w r ((execOp a.eval o).run C.P w)) :
    ∃ ω R, Orac AR.wo AR.nd (fun x => runOp call (s.wo x) o.dst (g x) inv) ω R ∧
      OpDone C.P μ s w b a cs cu (lone (fat b a (.inRegion ops (i :: rest) :: k)) (callersOf cs cu) w) o.dst (.inRegion ops rest :: k) R := by
  have hfin : ∀ v, (fat b a (.inRegion ops (i :: rest) :: k)).finish v = fat b (a.put o.dst v) (.inRegion ops rest :: k) := by
    intro v; rw [fat_finish, ho]; rfl
  by_cases hdfr : ∃ c, o.op = .defer c
  · -- a deferred call
    obtain ⟨c, hc⟩ := hdfr
    obtain ⟨f, args, h | ⟨why, h⟩⟩ := hdf c hc
    · subst h
      have hω' : ω = [] := by
        rcases hω with h | ⟨v, H', h⟩
        · exact h
        · cases h
      subst hω'
      have hgx : ∀ x, g x = .dfr f args := fun x => by have := hg0.done x; simpa [OR.wo] using this
      cases hrd0 : s.rd with
      | some l => exact ⟨[], .bad "defer in a round", .pure (fun x => by simp only [hgx, runOp, AS.wo, hrd0]; rfl) rfl, trivial⟩
      | none =>
        have hb : b.roundOf = none := by
          rw [hrd0] at hrd
          cases hb : b.roundOf with
          | none => rfl
          | some l => rw [hb] at hrd; exact hrd.elim
        obtain ⟨f', args', h1, h2, h3⟩ := hok
        cases f with
        | func fn first cap =>
          obtain ⟨fn', x', y', rfl, q1, q2, q3⟩ := h1.func_inv
          refine ⟨[], .ok .normal (AS.put { s with ds := ⟨fn, first, cap, args, none⟩ :: s.ds } o.dst undefA), .pure (fun x => ?_) rfl, ?_⟩
          · simp only [hgx, runOp, AS.wo, hrd0]
            cases o.dst <;> simp [AS.put, AR.wo, AS.wo, hrd0]
          · obtain ⟨p1, p2, p3, p4⟩ := AS.put_parts { s with ds := ⟨fn, first, cap, args, none⟩ :: s.ds } o.dst undefA
            have hd' : DsRel μ (⟨fn, first, cap, args, none⟩ :: s.ds) (⟨.fn fn' y'.toArray, (x' ++ args').toArray⟩ :: a.defers) := .cons (.fn q1 q2 q3 h2) hds
            refine ⟨μ, undefA, undef, _, cu, w, AS.put_self _ _ _, .undef μ, by rw [p1]; exact hh, by rw [p1]; exact Go.refl _ _ _, by rw [p2]; exact hd', by rw [p3]; exact hcu, Iff.rfl, .one (step_lone_go ?_)⟩
            rw [fstepG_op ho hw (.inl hb)]
            have hrun : (execOp a.eval o).run C.P w = .ok (.defer ⟨.fn fn' y'.toArray, (x' ++ args').toArray⟩) w := by
              rw [h3]; simp [Deferred.ofValue]
            have hf := fat_finish (b := b) (a := ({ a with defers := ⟨.fn fn' y'.toArray, (x' ++ args').toArray⟩ :: a.defers } : Act)) (k := k) ops i rest undef
            rw [ho] at hf
            simp only [stepG.apply, Sem.runT_eq, hrun, GStep.bare_after]
            exact congrArg (fun fr => GStep.go { frame := fr, callers := callersOf cs cu, status := .running, dying := none } w) hf
        | _ => exact ⟨[], .bad "defer", .pure (fun x => by simp only [hgx, runOp, AS.wo, hrd0]; rfl) rfl, trivial⟩
    · subst h
      have hω' : ω = [] := by
        rcases hω with h | ⟨v, H', h⟩
        · exact h
        · cases h
      subst hω'
      have hgx : ∀ x, g x = .bad why := fun x => by have := hg0.done x; simpa [OR.wo] using this
      exact ⟨[], .bad why, .pure (fun x => by simp only [hgx, runOp]; rfl) rfl, trivial⟩
  have hd : ∀ c, o.op ≠ .defer c := fun c hc => hdfr ⟨c, hc⟩
  have hg : ∀ cs, stepG C.P true { frame := fat b a (.inRegion ops (i :: rest) :: k), callers := cs, status := .running, dying := none } w =
      stepG.apply C.P true (fat b a (.inRegion ops (i :: rest) :: k)) cs none (execOp a.eval o) w := fun cs => fstepG_op ho hw (.inr hd)
  cases r with
  | bad why =>
    have hω' : ω = [] := by
      rcases hω with h | ⟨v, H', h⟩
      · exact h
      · cases h
    subst hω'
    have hgx : ∀ x, g x = .bad why := fun x => by have := hg0.done x; simpa [OR.wo] using this
    exact ⟨[], .bad why, .pure (fun x => by simp only [hgx, runOp]; rfl) rfl, trivial⟩
  | need n => exact absurd hg0.fine (by simp [OR.nd])
  | val v H' =>
    obtain ⟨μ', v', w', hrun, h1, h2, h3⟩ := hok
    refine ⟨ω, .ok .normal (AS.put { s with H := H' } o.dst v), ⟨fun rest => ?_, fun i hi => ?_, rfl⟩, ?_⟩
    · rw [hg0.done]
      simp only [OR.wo, runOp, AR.wo]
      rw [← AS.put_wo]
      rfl
    · obtain ⟨n, p1, p2⟩ := hg0.path i hi
      refine ⟨n, ?_, p2⟩
      cases hq : g (ω.take i) <;> rw [hq] at p1 <;> simp [OR.nd] at p1
      subst p1
      rfl
    · obtain ⟨p1, p2, p3, p4⟩ := AS.put_parts { s with H := H' } o.dst v
      refine ⟨μ', v, v', a.defers, cu, w', AS.put_self _ _ _, h1, by rw [p1]; exact h2, by rw [p1]; exact h3, by rw [p2]; exact hds.mono h3.ext, by rw [p3]; exact hcu.mono h3.ext, Iff.rfl, .one (step_lone_go ?_)⟩
      rw [hg]
      rcases hrun with hrun | ⟨hrun, hv⟩
      · rw [← hfin]; simp [stepG.apply, hrun]
      · rw [← hfin]; subst hv; simp [stepG.apply, hrun]
  | panic v H' =>
    have hω' : ω = [] := by
      rcases hω with h | ⟨v, H', h⟩
      · exact h
      · cases h
    subst hω'
    have hgx : ∀ x, g x = .panic v (H'.wo x) := fun x => by have := hg0.done x; simpa [OR.wo] using this
    obtain ⟨rfl, v', h1, hrun⟩ := hok
    refine ⟨[], .ok (.panic [⟨v, false⟩]) { s with H := s.H }, .pure (fun x => by simp only [hgx, runOp]; rfl) rfl, μ, [⟨v', false, false⟩], w, .inRegion ops (i :: rest) :: k, rfl, .cons false h1 .nil, hh, Go.refl _ _ _, .one (step_lone_go ?_)⟩
    rw [hg, ← fat_raise]; simp [stepG.apply, hrun]
  | call f args =>
    have hω' : ω = [] := by
      rcases hω with h | ⟨v, H', h⟩
      · exact h
      · cases h
    subst hω'
    have hgx : ∀ x, g x = .call f args := fun x => by have := hg0.done x; simpa [OR.wo] using this
    obtain ⟨f', args', h1, h2, h3⟩ := hok
    obtain ⟨ω, r, hr1, hr2⟩ := hcall μ s.H w .no none f args f' args' (fat b a (.inRegion ops (i :: rest) :: k) :: callersOf cs cu) hgl h1 h2 hh .no
    rw [← h3] at hr2
    refine ⟨ω, _, ⟨fun rest => ?_, fun i hi => ?_, ?_⟩, call_done hcu hds ho hw hd hr2⟩
    · simp only [hgx, runOp, AS.wo]
      rw [hr1.done]
      cases r <;> simp only [CR.wo, AR.wo] <;> first | rfl | (rw [← AS.put_wo]; rfl)
    · obtain ⟨n, p1, p2⟩ := hr1.path i hi
      refine ⟨n, ?_, p2⟩
      simp only [hgx, runOp, AS.wo]
      cases hq : call .no f args (s.H.wo (ω.take i)) <;> rw [hq] at p1 <;> simp [CR.nd] at p1
      subst p1
      rfl
    · have := hr1.fine
      cases r <;> first | rfl | (simp [CR.nd] at this)
  | invoke rv name args =>
    have hω' : ω = [] := by
      rcases hω with h | ⟨v, H', h⟩
      · exact h
      · cases h
    subst hω'
    have hgx : ∀ x, g x = .invoke rv name args := fun x => by have := hg0.done x; simpa [OR.wo] using this
    obtain ⟨r', args', h1, h2, h3⟩ := hok
    cases hi : inv rv name with
    | none => exact ⟨[], .bad "invoke", .pure (fun x => by simp only [hgx, runOp, hi]; rfl) rfl, trivial⟩
    | some f =>
      obtain ⟨f', hf', hcm⟩ := hinv μ w rv r' name f h1 hi
      obtain ⟨ω, r, hr1, hr2⟩ := hcall μ s.H w .no none f args f' args' (fat b a (.inRegion ops (i :: rest) :: k) :: callersOf cs cu) hgl hf' h2 hh .no
      rw [← hcm, ← h3] at hr2
      refine ⟨ω, _, ⟨fun rest => ?_, fun i hi' => ?_, ?_⟩, call_done hcu hds ho hw hd hr2⟩
      · simp only [hgx, runOp, AS.wo, hi]
        rw [hr1.done]
        cases r <;> simp only [CR.wo, AR.wo] <;> first | rfl | (rw [← AS.put_wo]; rfl)
      · obtain ⟨n, p1, p2⟩ := hr1.path i hi'
        refine ⟨n, ?_, p2⟩
        simp only [hgx, runOp, AS.wo, hi]
        cases hq : call .no f args (s.H.wo (ω.take i)) <;> rw [hq] at p1 <;> simp [CR.nd] at p1
        subst p1
        rfl
      · have := hr1.fine
        cases r <;> first | rfl | (simp [CR.nd] at this)
  | dfr f args =>
    exact absurd (hdf2 f args rfl) hdfr
  | recover =>
    have hω' : ω = [] := by
      rcases hω with h | ⟨v, H', h⟩
      · exact h
      · cases h
    subst hω'
    have hgx : ∀ x, g x = .recover := fun x => by have := hg0.done x; simpa [OR.wo] using this
    cases hrd0 : s.rd with
    | some l => exact ⟨[], .bad "recover in a round", .pure (fun x => by simp only [hgx, runOp, AS.wo, hrd0]; rfl) rfl, trivial⟩
    | none =>
      have hb : b.roundOf = none := by
        rw [hrd0] at hrd
        cases hb : b.roundOf with
        | none => rfl
        | some l => rw [hb] at hrd; exact hrd.elim
      have hrun : (execOp a.eval o).run C.P w = .ok .recover w := hok
      have hnone : tryRecover (fat b a (.inRegion ops (i :: rest) :: k)) (callersOf cs cu) = none →
          step C.P (lone (fat b a (.inRegion ops (i :: rest) :: k)) (callersOf cs cu) w) = .next (lone (fat b (a.put o.dst .nilIface) (.inRegion ops rest :: k)) (callersOf cs cu) w) := by
        intro ht
        refine step_lone_go ?_
        rw [hg, ← hfin]
        have hr : (fat b a (.inRegion ops (i :: rest) :: k)).roundOf = none := hb
        simp [stepG.apply, hrun, hr, ht]
      have hbad : s.up = .no → ∃ ω R, Orac AR.wo AR.nd (fun x => runOp call (s.wo x) o.dst (g x) inv) ω R ∧
          OpDone C.P μ s w b a cs cu (lone (fat b a (.inRegion ops (i :: rest) :: k)) (callersOf cs cu) w) o.dst (.inRegion ops rest :: k) R := by
        intro hu
        exact ⟨[], .bad "recover in a plain frame", .pure (fun x => by simp only [hgx, runOp, AS.wo, hrd0, hu]; rfl) rfl, trivial⟩
      have hplain : (∀ x, runOp call (s.wo x) o.dst (g x) inv = .ok .normal (AS.put (s.wo x) o.dst .nilIface)) → tryRecover (fat b a (.inRegion ops (i :: rest) :: k)) (callersOf cs cu) = none →
          ∃ ω R, Orac AR.wo AR.nd (fun x => runOp call (s.wo x) o.dst (g x) inv) ω R ∧
          OpDone C.P μ s w b a cs cu (lone (fat b a (.inRegion ops (i :: rest) :: k)) (callersOf cs cu) w) o.dst (.inRegion ops rest :: k) R := by
        intro hx ht
        refine ⟨[], .ok .normal (s.put o.dst .nilIface), .pure (fun x => by rw [hx, AS.put_wo]; rfl) rfl, ?_⟩
        obtain ⟨p1, p2, p3, p4⟩ := AS.put_parts s o.dst .nilIface
        exact ⟨μ, .nilIface, .nilIface, a.defers, cu, w, AS.put_self _ _ _, .nilIface, by rw [p1]; exact hh, by rw [p1]; exact Go.refl _ _ _, by rw [p2]; exact hds, by rw [p3]; exact hcu, Iff.rfl, .one (hnone ht)⟩
      cases hup : s.up with
      | no => exact hbad hup
      | ret =>
        rw [hup] at hcu
        cases hcu
        obtain ⟨t1, t2, c, r, rfl⟩ := htop _ rfl
        refine hplain (fun x => ?_) ?_
        · simp only [hgx, runOp, AS.wo, hrd0, hup]
        · simp [tryRecover, fat, t1, callersOf, setTop]
      | pan l =>
        rw [hup] at hcu
        cases hcu
        rename_i chain hch
        obtain ⟨t1, t2, c, r, rfl⟩ := htop _ rfl
        cases hch with
        | nil =>
          refine hplain (fun x => ?_) ?_
          · simp only [hgx, runOp, AS.wo, hrd0, hup]
          · simp [tryRecover, fat, t1, callersOf, setTop]
        | cons rc h t =>
          rename_i v v' older older'
          cases rc with
          | true =>
            refine hplain (fun x => ?_) ?_
            · simp only [hgx, runOp, AS.wo, hrd0, hup]
            · simp [tryRecover, fat, t1, callersOf, setTop]
          | false =>
            refine ⟨[], .ok .normal (AS.put { s with up := .pan (⟨v, true⟩ :: older) } o.dst v), .pure (fun x => ?_) rfl, ?_⟩
            · simp only [hgx, runOp, AS.wo, hrd0, hup]
              cases o.dst <;> simp [AS.put, AR.wo, AS.wo, hrd0]
            · obtain ⟨p1, p2, p3, p4⟩ := AS.put_parts { s with up := .pan (⟨v, true⟩ :: older) } o.dst v
              refine ⟨μ, v, v', a.defers, some (.panicking (⟨v', true, false⟩ :: older')), w, AS.put_self _ _ _, h, by rw [p1]; exact hh, by rw [p1]; exact Go.refl _ _ _, by rw [p2]; exact hds, by rw [p3]; exact .pan (.cons true h t), by simp, .one (step_lone_go ?_)⟩
              rw [hg, ← hfin]
              have hr : (fat b a (.inRegion ops (i :: rest) :: k)).roundOf = none := hb
              have ht : tryRecover (fat b a (.inRegion ops (i :: rest) :: k)) (callersOf (c :: r) (some (.panicking (⟨v', false, false⟩ :: older')))) =
                  some (v', callersOf (c :: r) (some (.panicking (⟨v', true, false⟩ :: older')))) := by
                simp [tryRecover, fat, t1, callersOf, setTop]
              simp only [stepG.apply, Sem.runT_eq, hrun, GStep.bare_after, hr, ht]
              rfl
end
end Go.Ab

set_option linter.unusedSimpArgs false
set_option linter.unusedVariables false
namespace Go.Ab

theorem dfr_op {C : Ctx} {tm : List AV} {H : AHeap} {o : Oper} :
    (∀ c, o.op = .defer c → ∃ f args, step1 tm H (C.op o) = .dfr f args ∨ (∃ why, step1 tm H (C.op o) = .bad why)) ∧
    (∀ f args, step1 tm H (C.op o) = .dfr f args → ∃ c, o.op = .defer c) := by
  constructor
  · intro c hc
    obtain ⟨callee, args, ats⟩ := c
    cases callee with
    | value f =>
      simp only [Ctx.op, hc, w1, wL]
      cases opd C.ng f with
      | none => exact ⟨.nilPtr, [], .inr ⟨_, rfl⟩⟩
      | some a =>
        cases opds C.ng args.toList with
        | none => exact ⟨.nilPtr, [], .inr ⟨_, rfl⟩⟩
        | some l => exact ⟨_, _, .inl rfl⟩
    | invoke r n => simp only [Ctx.op, hc]; exact ⟨.nilPtr, [], .inr ⟨_, rfl⟩⟩
    | builtin b => simp only [Ctx.op, hc]; exact ⟨.nilPtr, [], .inr ⟨_, rfl⟩⟩
  · intro f args h
    -- only 'dfr' defers
    have key : ∀ aop, step1 tm H aop = .dfr f args → ∃ g l, aop = .dfr g l := by
      intro aop h
      cases aop
      case dfr g l => exact ⟨g, l, rfl⟩
      case append es bytes s x =>
        simp only [step1, appendA] at h
        try simp only [cond] at h
        repeat' (first | (cases h; done) | split at h)
      all_goals
        simp only [step1] at h
        try simp only [cond] at h
        repeat' (first | (cases h; done) | split at h)
    obtain ⟨g, l, hop⟩ := key _ h
    obtain ⟨dst, op, type, pos, after, guard⟩ := o
    cases op
    case defer c => exact ⟨c, rfl⟩
    case call c =>
      exfalso
      obtain ⟨callee, ats, args⟩ := c
      cases callee with
      | value f => simp only [Ctx.op, w1, wL] at hop; repeat' (first | (cases hop; done) | split at hop)
      | invoke r n => simp only [Ctx.op, w1, wL] at hop; repeat' (first | (cases hop; done) | split at hop)
      | builtin b =>
        cases b <;> simp only [Ctx.op, Ctx.builtin, w1, w2, wL, Ctx.elemInfo] at hop <;> (try simp only [cond] at hop) <;> repeat' (first | (cases hop; done) | split at hop)
    all_goals
      exfalso
      simp only [Ctx.op, w1, w2, wL, wO, Ctx.elemInfo, Ctx.binop, Ctx.conv] at hop
      try simp only [cond] at hop
      repeat' (first | (cases hop; done) | split at hop)

section
variable {C : Ctx} {call : UM → AV → List AV → AHeap → CR} {inv : AV → String → Option AV}
variable {μ : Mu} {s : AS} {w : World} {b : Frame} {a : Act} {cs : List Frame} {cu : CU} {k : List Item} {ops : Array Oper} {i : Nat} {rest : List Nat} {o : Oper}

theorem op_run (hC : CtxOk C) (hcall : CallSim C call) (hinv : InvSim C inv) (hgl : Gl C.ng μ) (hh : HRel C.P μ s.H w) (hcu : URel μ s.up cu) (hds : DsRel μ s.ds a.defers) (hrd : RdRel μ s.rd b.roundOf) (htop : TopOk b cu cs)
    (ho : ops[i]? = some o) (hw : Region.wanted o (yielded ops a.tmps) = true) {tm1 : List AV} {ρ1 : Operand → Value} (hr : Rho C.ng μ tm1 ρ1) (hst : ∀ H, step1 s.tm H (C.op o) = step1 tm1 H (C.op o))
    (hex : execOp a.eval o = execOp ρ1 o) :
    ∃ ω R, Orac AR.wo AR.nd (fun x => runOp call (s.wo x) o.dst (step1 s.tm (s.H.wo x) (C.op o)) inv) ω R ∧
      OpDone C.P μ s w b a cs cu (lone (fat b a (.inRegion ops (i :: rest) :: k)) (callersOf cs cu) w) o.dst (.inRegion ops rest :: k) R := by
  obtain ⟨ω, r, h1, h2, h3, h4, h5⟩ := sim_op hC hr hh o
  rw [← hex] at h5
  have hor : Orac OR.wo OR.nd (fun x => step1 s.tm (s.H.wo x) (C.op o)) ω r := by
    refine ⟨fun rest => by rw [hst]; exact h1 rest, fun i hi => ?_, ?_⟩
    · obtain ⟨n, q1, q2⟩ := h2 i hi
      exact ⟨n, by rw [hst, q1]; rfl, q2⟩
    · cases r <;> first | rfl | exact absurd rfl (h3 _)
  have hd0 := dfr_op (C := C) (tm := s.tm) (H := s.H.wo ω) (o := o)
  have hr0 : step1 s.tm (s.H.wo ω) (C.op o) = r.wo [] := by have := hor.done []; simpa using this
  refine op_done hcall hinv hgl hh hcu hds hrd htop ho hw hor h4 ?_ ?_ h5
  · intro c hc
    obtain ⟨f, args, q⟩ := hd0.1 c hc
    rw [hr0] at q
    refine ⟨f, args, ?_⟩
    rcases q with q | ⟨why, q⟩
    · left; cases r <;> simp [OR.wo] at q ⊢ <;> exact q
    · right; refine ⟨why, ?_⟩; cases r <;> simp [OR.wo] at q ⊢ <;> exact q
  · intro f args q
    refine hd0.2 f args ?_
    rw [hr0, q]
    rfl

/-- What the abstract machine keeps, and what runs. -/
structure SR (C : Ctx) (μ : Mu) (s : AS) (b : Frame) (cu : CU) (a : Act) (w : World) : Prop where
  gl : Gl C.ng μ
  tm : LRel μ s.tm a.tmps.toList
  ds : DsRel μ s.ds a.defers
  hp : HRel C.P μ s.H w
  up : URel μ s.up cu
  rd : RdRel μ s.rd b.roundOf

inductive CE where
  | normal
  | exit (n : Nat)
  | goto (n : Nat)
  | ret
  | panic (ch : List PanicEntry)

def EvRel (μ : Mu) : AEx → CE → Prop
  | .normal, .normal => True
  | .exit n, .exit m => n = m
  | .goto n, .goto m => n = m
  | .ret, .ret => True
  | .panic l, .panic ch => ChRel μ l ch
  | _, _ => False

def ArrAt (P : Program) (m : Machine) (b : Frame) (k : List Item) (cs : List Frame) (a : Act) (cu : CU) (w : World) : CE → Prop
  | .normal => Steps P m (lone (fat b a k) (callersOf cs cu) w)
  | .exit n => ∃ k1, exitTo n k1 = exitTo n k ∧ Steps P m (lone (fat b a (.code (.exit n) :: k1)) (callersOf cs cu) w)
  | .goto l => ∃ k1, gotoIn l k1 = gotoIn l k ∧ Steps P m (lone (fat b a (.code (.goto l) :: k1)) (callersOf cs cu) w)
  | .ret => ∃ k1, Steps P m (lone (fat b a (.code .ret :: k1)) (callersOf cs cu) w)
  | .panic ch => ∃ todo, Steps P m (lone { fat b a todo with mode := .panicking ch } (callersOf cs cu) w)

def ExR (C : Ctx) (μ : Mu) (H : AHeap) (w : World) (b : Frame) (m : Machine) (k : List Item) (cs : List Frame) (cu : CU) : AR → Prop
  | .ok e s' => ∃ μ' ce cu' a' w', EvRel μ' e ce ∧ SR C μ' s' b cu' a' w' ∧ Go μ H w μ' s'.H w' ∧ (cu = none ↔ cu' = none) ∧ ArrAt C.P m b k cs a' cu' w' ce
  | _ => True

theorem ArrAt.of_steps {P : Program} {m m₁ : Machine} {e : CE} (h : Steps P m m₁) (h' : ArrAt P m₁ b k cs a cu w e) : ArrAt P m b k cs a cu w e := by
  cases e with
  | normal => exact h.trans h'
  | exit n => obtain ⟨k1, h1, h2⟩ := h'; exact ⟨k1, h1, h.trans h2⟩
  | goto n => obtain ⟨k1, h1, h2⟩ := h'; exact ⟨k1, h1, h.trans h2⟩
  | ret => obtain ⟨k1, h2⟩ := h'; exact ⟨k1, h.trans h2⟩
  | panic ch => obtain ⟨k1, h2⟩ := h'; exact ⟨k1, h.trans h2⟩

theorem ExR.of_steps {H : AHeap} {m m₁ : Machine} {r : AR} (h : Steps C.P m m₁) (h' : ExR C μ H w b m₁ k cs cu r) : ExR C μ H w b m k cs cu r := by
  cases r with
  | ok e s' =>
    obtain ⟨μ', ce, cu', a', w', h1, h2, h3, h5, h4⟩ := h'
    exact ⟨μ', ce, cu', a', w', h1, h2, h3, h5, .of_steps h h4⟩
  | need k => trivial
  | bad w => trivial

theorem ExR.of_go {H H1 : AHeap} {μ1 : Mu} {w1 : World} {cu1 : CU} {m : Machine} {r : AR} (hg : Go μ H w μ1 H1 w1) (hk : cu = none ↔ cu1 = none) (h' : ExR C μ1 H1 w1 b m k cs cu1 r) : ExR C μ H w b m k cs cu r := by
  cases r with
  | ok e s' =>
    obtain ⟨μ', ce, cu', a', w', h1, h2, h3, h5, h4⟩ := h'
    exact ⟨μ', ce, cu', a', w', h1, h2, hg.trans h3, hk.trans h5, h4⟩
  | need k => trivial
  | bad w => trivial

theorem LRel.put {tm : List AV} {x : List Value} (h : LRel μ tm x) {v : AV} {v' : Value} (hv : VRel μ v v') (d : Nat) : LRel μ (tm.set d v) (x.set d v') := h.set hv d

theorem act_put_tmps (a : Act) (d : Option Nat) (v : Value) : (a.put d v).tmps.toList = match d with
    | some d => a.tmps.toList.set d v
    | none => a.tmps.toList := by
  cases d <;> simp [Act.put]

theorem put_rel {tm : List AV} {x : Array Value} (h : LRel μ tm x.toList) {v : AV} {v' : Value} (hv : VRel μ v v') (s : AS) (hs : s.tm = tm) (a : Act) (ha : a.tmps = x) (d : Option Nat) :
    LRel μ (s.put d v).tm (a.put d v').tmps.toList := by
  rw [act_put_tmps]
  cases d with
  | none => simp only [AS.put]; rw [hs, ha]; exact h
  | some d => simp only [AS.put]; rw [hs, ha]; exact h.set hv d

theorem bool_rel {v : AV} {v' : Value} (h : VRel μ v v') : ∀ c, v = .bool c ↔ v' = .bool c := by
  intro c
  cases h <;> simp
  rename_i h1 h2 h3
  exact h3 c

/-- The same is wanted. -/
theorem wanted_rel {tm : List AV} {tmps : Array Value} (h : ∀ j g d, o.guard.map (·.1) = some j → ops[j]? = some g → g.dst = some d → (tm[d]? = none ∧ tmps[d]? = none) ∨ ∃ v v', tm[d]? = some v ∧ tmps[d]? = some v' ∧ VRel μ v v') :
    wantedA tm (Ctx.guardOf ops o) = Region.wanted o (yielded ops tmps) := by
  unfold Ctx.guardOf Region.wanted
  cases hg : o.guard with
  | none => rfl
  | some p =>
    obtain ⟨j, want⟩ := p
    simp only [yielded]
    cases hj : ops[j]? with
    | none => simp [wantedA]
    | some g =>
      simp only [Option.bind_some]
      cases hd : g.dst with
      | none => simp [wantedA]
      | some d =>
        simp only [Option.bind_some, wantedA]
        rcases h j g d (by simp [hg]) hj hd with ⟨h1, h2⟩ | ⟨v, v', h1, h2, h3⟩
        · rw [h1, h2]; simp
        · rw [h1, h2]
          cases h3 <;> first
            | (rename_i c; cases c <;> cases want <;> rfl)
            | rfl
            | (rename_i _ _ h3; cases v' <;> first | rfl | exact absurd rfl (h3 _))

theorem wanted_full {tm : List AV} {tmps : Array Value} (h : LRel μ tm tmps.toList) : wantedA tm (Ctx.guardOf ops o) = Region.wanted o (yielded ops tmps) := by
  refine wanted_rel (μ := μ) fun j g d _ _ _ => ?_
  cases ht : tm[d]? with
  | none =>
    left
    refine ⟨rfl, ?_⟩
    have := List.getElem?_eq_none_iff.1 ht
    rw [h.1] at this
    simpa using this
  | some v =>
    right
    obtain ⟨v', h1, h2⟩ := h.get ht
    exact ⟨v, v', rfl, by simpa using h1, h2⟩

/-- What goes on behind a normal end. -/
def thenA (f : AS → AR) (r : AR) : AR := match r with
  | .ok .normal s => f s
  | r => r

theorem Orac.seq {g : List Nat → AR} {f : AS → AR} {ω ω' : List Nat} {s1 : AS} {r : AR} (h : Orac AR.wo AR.nd g ω (.ok .normal s1)) (h' : Orac AR.wo AR.nd (fun x => f (s1.wo x)) ω' r) :
    Orac AR.wo AR.nd (fun x => thenA f (g x)) (ω ++ ω') r :=
  Orac.bind (K := fun _ q => thenA f q) h (fun x q n hq => by cases q <;> simp [AR.nd] at hq; subst hq; rfl) (fun _ => rfl) h'

theorem Orac.stop {g : List Nat → AR} {f : AS → AR} {ω : List Nat} {r : AR} (h : Orac AR.wo AR.nd g ω r) (hr : ∀ s, r ≠ .ok .normal s) : Orac AR.wo AR.nd (fun x => thenA f (g x)) ω r := by
  have hx : ∀ x, thenA f (AR.wo x r) = AR.wo x r := by
    intro x
    cases r with
    | ok e s => cases e <;> first | rfl | exact absurd rfl (hr s)
    | need n => rfl
    | bad why => rfl
  have := Orac.bind (K := fun _ q => thenA f q) (ω' := []) (r' := r) h (fun x q n hq => by cases q <;> simp [AR.nd] at hq; subst hq; rfl) (fun _ => rfl) (.pure hx h.fine)
  simpa using this

theorem filterMap_range {f : Oper → RStep} (ops : Array Oper) : (List.range ops.size).filterMap (fun j => (ops[j]?).map f) = ops.toList.map f := by
  apply List.ext_getElem?
  intro n
  have h : ∀ l : List Nat, (∀ j ∈ l, j < ops.size) → l.filterMap (fun j => (ops[j]?).map f) = l.map (fun j => f (ops[j]?.getD default)) := by
    intro l
    induction l with
    | nil => intro _; rfl
    | cons j l ih =>
      intro hl
      have hj := hl j (by simp)
      simp only [List.filterMap_cons, List.map_cons, Array.getElem?_eq_getElem hj, Option.map_some, Option.getD_some]
      rw [ih fun x hx => hl x (by simp [hx])]
  rw [h _ fun j hj => by simpa using hj]
  simp only [List.getElem?_map, List.getElem?_range]
  by_cases hn : n < ops.size
  · simp [hn]
  · simp [hn, Array.getElem?_eq_none (by omega : ops.size ≤ n)]

/-- A region in the text's order. -/
theorem plain_steps (hC : CtxOk C) (hcall : CallSim C call) (hinv : InvSim C inv) : ∀ (l : List Nat) (μ : Mu) (s : AS) (w : World) (a : Act) (cu : CU), SR C μ s b cu a w → TopOk b cu cs →
    ∃ ω R, Orac AR.wo AR.nd (fun x => stepsA call inv (l.filterMap fun j => (ops[j]?).map (C.stepOf ops)) (s.wo x)) ω R ∧
      ExR C μ s.H w b (lone (fat b a (.inRegion ops l :: k)) (callersOf cs cu) w) k cs cu R := by
  intro l
  induction l with
  | nil =>
    intro μ s w a cu hs ht
    exact ⟨[], .ok .normal s, .pure (fun x => rfl) rfl, μ, .normal, cu, a, w, trivial, hs, Go.refl _ _ _, Iff.rfl, .one fstep_region_end⟩
  | cons i rest ih =>
    intro μ s w a cu hs ht
    cases ho : ops[i]? with
    | none =>
      have hstep := fstep_op_skip (P := C.P) (b := b) (a := a) (k := k) (cs := callersOf cs cu) (w := w) (ops := ops) (i := i) (rest := rest) (by simp [ho])
      simp only [ho, Option.bind_none, Act.put] at hstep
      obtain ⟨ω, R, h1, h2⟩ := ih μ s w a cu hs ht
      refine ⟨ω, R, ?_, .of_steps (.one hstep) h2⟩
      simpa only [List.filterMap_cons, ho, Option.map_none] using h1
    | some o =>
      have hwr : wantedA s.tm (Ctx.guardOf ops o) = Region.wanted o (yielded ops a.tmps) := wanted_full hs.tm
      simp only [List.filterMap_cons, ho, Option.map_some]
      cases hw : Region.wanted o (yielded ops a.tmps) with
      | false =>
        have hstep := fstep_op_skip (P := C.P) (b := b) (a := a) (k := k) (cs := callersOf cs cu) (w := w) (ops := ops) (i := i) (rest := rest) (by simp [ho, hw])
        simp only [ho, Option.bind_some] at hstep
        obtain ⟨p1, p2, p3, p4⟩ := AS.put_parts s o.dst undefA
        have hs' : SR C μ (s.put o.dst undefA) b cu (a.put o.dst undef) w :=
          ⟨hs.gl, put_rel hs.tm (.undef μ) s rfl a rfl o.dst, by rw [p2]; have := hs.ds; cases o.dst <;> exact this, by rw [p1]; exact hs.hp, by rw [p3]; exact hs.up, by rw [p4]; exact hs.rd⟩
        obtain ⟨ω, R, h1, h2⟩ := ih μ _ w _ cu hs' ht
        rw [p1] at h2
        refine ⟨ω, R, ?_, .of_steps (.one hstep) h2⟩
        have hfun : (fun x => stepsA call inv (C.stepOf ops o :: rest.filterMap fun j => (ops[j]?).map (C.stepOf ops)) (s.wo x)) =
            fun x => stepsA call inv (rest.filterMap fun j => (ops[j]?).map (C.stepOf ops)) ((s.put o.dst undefA).wo x) := by
          funext x
          have e := AS.put_wo s x o.dst undefA
          simp only [AS.wo] at e
          simp only [stepsA, Ctx.stepOf, AS.wo, hwr, hw, cond, e]
        rw [hfun]
        exact h1
      | true =>
        obtain ⟨ω1, R1, h1, h2⟩ := op_run (k := k) (rest := rest) hC hcall hinv hs.gl hs.hp hs.up hs.ds hs.rd ht ho hw (Rho.of hs.gl hs.tm) (fun H => rfl) rfl
        have hfun : (fun x => stepsA call inv (C.stepOf ops o :: rest.filterMap fun j => (ops[j]?).map (C.stepOf ops)) (s.wo x)) =
            fun x => thenA (stepsA call inv (rest.filterMap fun j => (ops[j]?).map (C.stepOf ops))) (runOp call (s.wo x) o.dst (step1 s.tm (s.H.wo x) (C.op o)) inv) := by
          funext x
          have hg : (C.stepOf ops o).guard = Ctx.guardOf ops o := rfl
          have hop : (C.stepOf ops o).op = C.op o := rfl
          have hdst : (C.stepOf ops o).dst = o.dst := rfl
          have hchk : (C.stepOf ops o).chk = false := rfl
          have e1 : wantedA (s.wo x).tm (Ctx.guardOf ops o) = true := by rw [← hw, ← hwr]; rfl
          have e2 : step1 (s.wo x).tm (s.wo x).H (C.op o) = step1 s.tm (s.H.wo x) (C.op o) := rfl
          simp only [stepsA, hg, hop, hdst, hchk, e1, cond_true, cond_false, e2]
          generalize runOp call (s.wo x) o.dst (step1 s.tm (s.H.wo x) (C.op o)) inv = q
          cases q with
          | ok e s => cases e <;> rfl
          | need n => rfl
          | bad why => rfl
        rw [hfun]
        cases R1 with
        | need n => exact absurd h1.fine (by simp [AR.nd])
        | bad why => exact ⟨ω1, .bad why, h1.stop (fun s h => by cases h), trivial⟩
        | ok e s1 =>
          cases e with
          | normal =>
            obtain ⟨μ', v, v', D', cu', w', q1, q2, q3, q4, q5, q6, q7, q8⟩ := h2
            have hs1 : SR C μ' s1 b cu' (({ a with defers := D' } : Act).put o.dst v') w' := by
              have htm := put_rel (hs.tm.mono q4.ext) q2 { s with H := s1.H, ds := s1.ds, up := s1.up } rfl { a with defers := D' } rfl o.dst
              rw [← q1] at htm
              have hrd : s1.rd = s.rd := by rw [q1, (AS.put_parts _ _ _).2.2.2]
              refine ⟨hs.gl.mono q4.ext, htm, ?_, q3, q6, by rw [hrd]; exact hs.rd.mono q4.ext⟩
              cases o.dst <;> exact q5
            obtain ⟨ω2, R2, h3, h4⟩ := ih μ' s1 w' _ cu' hs1 (ht.kin q7)
            exact ⟨ω1 ++ ω2, R2, h1.seq h3, .of_go q4 q7 (.of_steps q8 h4)⟩
          | panic l =>
            obtain ⟨μ', ch, w', todo', q1, q2, q3, q4, q5⟩ := h2
            refine ⟨ω1, _, h1.stop (fun s h => by cases h), μ', .panic ch, cu, a, w', q2, ?_, q4, Iff.rfl, todo', q5⟩
            rw [q1]
            exact ⟨hs.gl.mono q4.ext, hs.tm.mono q4.ext, hs.ds.mono q4.ext, q3, hs.up.mono q4.ext, hs.rd.mono q4.ext⟩
          | exit n => exact h2.elim
          | goto n => exact h2.elim
          | ret => exact h2.elim
end
end Go.Ab

set_option linter.unusedSimpArgs false
set_option linter.unusedVariables false
namespace Go.Ab

/-! ### regions that draw: what is there -/

/-- What is read is read as well when more is there. -/
theorem read_more (tm : List AV) (H H' : AHeap) (aop : AOp) (hk : kd aop = .read) (v : AV) (h : step1 tm H aop = .val v H) (hm : ∀ b o, H.get b = some o → H'.get b = some o) :
    step1 tm H' aop = .val v H' := by
  have hl1 : ∀ b o v, load1 H b o = some v → load1 H' b o = some v := by
    intro b o v hv
    unfold load1 at hv ⊢
    cases hg : H.get b with
    | none => rw [hg] at hv; cases hv
    | some ob => rw [hm b ob hg]; rw [hg] at hv; exact hv
  have hl : ∀ b o n v, load H b o n = some v → load H' b o n = some v := by
    intro b o n v hv
    unfold load at hv ⊢
    cases hg : H.get b with
    | none => rw [hg] at hv; cases hv
    | some ob => rw [hm b ob hg]; rw [hg] at hv; exact hv
  cases aop <;> (try (cases hk; done)) <;> simp only [step1] at h ⊢
  case load1 a =>
    split at h
    · split at h
      · rename_i u hu
        cases h
        rw [hl1 _ _ _ hu]
      · cases h
    · cases h
  case loadN n a =>
    split at h
    · split at h
      · rename_i u hu
        cases h
        rw [hl _ _ _ _ hu]
      · cases h
    · cases h
  case toStr x =>
    split at h
    · cases h; rfl
    · split at h
      · rename_i u hu
        rw [hl _ _ _ _ hu]
        simp only
        split at h
        · cases h; rfl
        · cases h
      · cases h
    · cases h
  case lookup e z ok x k' =>
    split at h
    · split at h
      · cases h; rfl
      · cases h
    · rename_i b _
      cases hg : H.get b with
      | none => rw [hg] at h; cases h
      | some ob =>
        rw [hg] at h
        rw [hm b ob hg]
        cases ob <;> simp only at h ⊢ <;> try (cases h; done)
        split at h
        · split at h
          · cases h; rfl
          · cases h
        · cases h; rfl
        · cases h
    · cases h
  case entry x =>
    split at h
    · rename_i r _
      cases hg : H.get r with
      | none => rw [hg] at h; cases h
      | some ob =>
        rw [hg] at h
        rw [hm r ob hg]
        split at h
        · rename_i m ver left e heq
          cases heq
          cases hg2 : H.get m with
          | none => rw [hg2] at h; cases h
          | some ob2 =>
            rw [hg2] at h
            rw [hm m ob2 hg2]
            cases ob2 <;> simp only at h ⊢ <;> try (cases h; done)
            rename_i xs clock
            cases hb : Nat.beq clock ver <;> rw [hb] at h <;> simp only [cond] at h ⊢ <;> first | (cases h; done) | (cases h; rfl)
        · cases h
    · cases h
  case len n x =>
    split at h
    · split at h
      · cases h; rfl
      · cases h
    · split at h
      · cases h; rfl
      · cases h
    · split at h
      · cases h; rfl
      · cases h
    · split at h
      · cases h; rfl
      · cases h
    · split at h
      · rename_i b _ _
        cases hg : H.get b with
        | none => rw [hg] at h; cases h
        | some ob =>
          rw [hg] at h
          rw [hm b ob hg]
          cases ob <;> simp only at h ⊢ <;> first | (cases h; done) | (cases h; rfl)
      · cases h
    · cases h

theorem HRel.more {P : Program} {μ : Mu} {H : AHeap} {w : World} (h : HRel P μ H w) (o : AObj) : HRel P μ (H.new o) w := by
  have hn := h.none_nx
  have hne : ∀ c lc, μ c = some lc → c ≠ H.nx := fun c lc hc e => by rw [e, hn] at hc; cases hc
  have hg : ∀ c lc, μ c = some lc → (H.new o).get c = H.get c := fun c lc hc => by rw [AHeap.get_new, if_neg (hne c lc hc)]
  refine ⟨fun c lc hc => ⟨Nat.lt_succ_of_lt (h.lt c lc hc).1, (h.lt c lc hc).2⟩, ?_, ?_, ?_, Nat.le_succ_of_le h.mn, ?_⟩
  · intro c lc oc hc hgc hd
    rw [hg c lc hc] at hgc
    exact h.obj c lc oc hc hgc hd
  · intro c c' lc lc' hc hc' hn' hl hl'
    have lv : ∀ x lx, μ x = some lx → live (H.new o) x → live H x := by
      rintro x lx hx ⟨ox, h1, h2⟩
      rw [hg x lx hx] at h1
      exact ⟨ox, h1, h2⟩
    exact h.inj c c' lc lc' hc hc' hn' (lv _ _ hc hl) (lv _ _ hc' hl')
  · intro c lc m ver left last hc hgc
    rw [hg c lc hc] at hgc
    refine (h.it c lc m ver left last hc hgc).mono (MuLe.refl μ) rfl fun xs v hm lm hlm => ⟨xs, v, ?_, Nat.le_refl _, fun _ => rfl⟩
    rw [← hg m lm hlm]; exact hm
  · intro c oc hgc
    rw [AHeap.get_new] at hgc
    rw [AHeap.new_nx]
    by_cases e : c = H.nx
    · omega
    · rw [if_neg e] at hgc; exact Nat.lt_succ_of_lt (h.wf c oc hgc)

theorem HRel.more_get {P : Program} {μ : Mu} {H : AHeap} {w : World} (h : HRel P μ H w) (o : AObj) : ∀ b ob, H.get b = some ob → (H.new o).get b = some ob := by
  intro b ob hb
  have := h.wf b ob hb
  rw [AHeap.get_new, if_neg (by omega)]
  exact hb

theorem Go.more {μ0 μ : Mu} {H0 H : AHeap} {w0 w : World} (g : Go μ0 H0 w0 μ H w) (o : AObj) : Go μ0 H0 w0 μ (H.new o) w := by
  refine ⟨g.ext, g.dom, g.new, g.size, g.frame, g.mn, Nat.le_succ_of_le g.nx, ?_, ?_, g.tape, g.os, g.output⟩
  · intro b hb hm
    have := g.nx
    rw [AHeap.get_new, if_neg (by omega)]
    exact g.low b hb hm
  · intro b hb hm
    have := g.nx
    rw [AHeap.get_new, if_neg (by omega)]
    exact g.out b hb hm

theorem Go.late {μ0 μ : Mu} {H0 H : AHeap} {w0 w w' : World} (g : Go μ0 H0 w0 μ H w) {b : Nat} {l : Loc} (hb : H0.nx ≤ b) (hμ : μ b = none) (hl : LateW w w' l) : Go μ0 H0 w0 (μ.upd b l) H w' := by
  have hle : MuLe μ (μ.upd b l) := Mu.upd_le l hμ
  refine ⟨g.ext.trans hle, ?_, ?_, Nat.le_trans g.size hl.size, ?_, g.mn, g.nx, g.low, g.out, hl.tape.trans g.tape, hl.os.trans g.os, hl.output.trans g.output⟩
  · intro c lc hc hn
    unfold Mu.upd at hc
    by_cases e : c = b
    · subst e; exact hb
    · rw [if_neg e] at hc; exact g.dom c lc hc hn
  · intro c lc hc hn
    unfold Mu.upd at hc
    by_cases e : c = b
    · rw [if_pos e] at hc; cases hc
      exact .inl (Nat.le_trans g.size hl.blk)
    · rw [if_neg e] at hc; exact g.new c lc hc hn
  · intro k hk hall
    rw [hl.old k (Nat.lt_of_lt_of_le hk g.size)]
    exact g.frame k hk hall
end Go.Ab

set_option linter.unusedSimpArgs false
set_option linter.unusedVariables false
namespace Go.Ab

theorem fold_bits (acc : List Nat) : ∀ (es : List Edge) (s j : Nat), (es.foldl (fun s e => cond (Region.binds .any e) (Nat.lor (Nat.lor s (2 ^ e.on)) (acc.getD e.on 0)) s) s).testBit j = true →
    s.testBit j = true ∨ ∃ e ∈ es, Region.binds .any e = true ∧ (j = e.on ∨ (acc.getD e.on 0).testBit j = true) := by
  intro es
  induction es with
  | nil => intro s j h; exact .inl h
  | cons e es ih =>
    intro s j h
    simp only [List.foldl_cons] at h
    rcases ih _ _ h with h | ⟨e', h1, h2, h3⟩
    · cases hb : Region.binds .any e
      · rw [hb] at h; exact .inl h
      · rw [hb] at h
        simp only [cond] at h
        have h' : (s ||| 2 ^ e.on ||| acc.getD e.on 0).testBit j = true := h
        rw [Nat.testBit_or, Nat.testBit_or] at h'
        simp only [Bool.or_eq_true] at h'
        rcases h' with (h' | h') | h'
        · exact .inl h'
        · refine .inr ⟨e, by simp, hb, .inl ?_⟩
          rw [Nat.testBit_two_pow] at h'
          simpa using (of_decide_eq_true h').symm
        · exact .inr ⟨e, by simp, hb, .inr h'⟩
    · exact .inr ⟨e', by simp [h1], h2, h3⟩

theorem before_spec : ∀ (l : List Oper) (acc : List Nat), (beforeOf l acc).length = acc.length + l.length ∧ (∀ i, i < acc.length → (beforeOf l acc)[i]? = acc[i]?) ∧
    ∀ i o, l[i]? = some o → ∃ m, (beforeOf l acc)[acc.length + i]? = some m ∧ ∀ j, m.testBit j = true →
      ∃ e ∈ o.after.toList, Region.binds .any e = true ∧ (j = e.on ∨ ((beforeOf l acc).getD e.on 0).testBit j = true) := by
  intro l
  induction l with
  | nil => intro acc; exact ⟨by simp [beforeOf], fun i hi => rfl, fun i o h => by simp at h⟩
  | cons o l ih =>
    intro acc
    simp only [beforeOf]
    obtain ⟨h1, h2, h3⟩ := ih (acc ++ [o.after.toList.foldl (fun s e => cond (Region.binds .any e) (Nat.lor (Nat.lor s (2 ^ e.on)) (acc.getD e.on 0)) s) 0])
    refine ⟨by rw [h1]; simp; omega, fun i hi => ?_, fun i o' ho => ?_⟩
    · rw [h2 i (by simp; omega), List.getElem?_append_left hi]
    · cases i with
      | zero =>
        simp at ho; subst ho
        refine ⟨o.after.toList.foldl (fun s e => cond (Region.binds .any e) (Nat.lor (Nat.lor s (2 ^ e.on)) (acc.getD e.on 0)) s) 0, ?_, fun j hj => ?_⟩
        · rw [h2 _ (by simp)]; simp
        · rcases fold_bits acc _ _ _ hj with h | ⟨e, q1, q2, q3⟩
          · simp at h
          · refine ⟨e, q1, q2, ?_⟩
            rcases q3 with q3 | q3
            · exact .inl q3
            · right
              by_cases hlt : e.on < acc.length
              · rw [List.getD_eq_getElem?_getD, h2 _ (by simp; omega), List.getElem?_append_left hlt, ← List.getD_eq_getElem?_getD]
                exact q3
              · rw [List.getD_eq_getElem?_getD, List.getElem?_eq_none (by omega)] at q3
                simp at q3
      | succ i =>
        have := h3 i o' (by simpa using ho)
        rw [List.length_append, List.length_singleton, show acc.length + 1 + i = acc.length + (i + 1) from by omega] at this
        exact this

theorem mkD_mem (C : Ctx) (ops : Array Oper) : ∀ (l : List Oper) (bs : List Nat) (i0 : Nat) (d : DOp), d ∈ mkD C ops i0 l bs ↔
    ∃ n o m, l[n]? = some o ∧ bs[n]? = some m ∧ d = ⟨i0 + n, m, C.stepOf ops o, Oper.looksAt ops o ++ (C.op o).tmps, isEff (C.op o)⟩ := by
  intro l
  induction l with
  | nil => intro bs i0 d; simp [mkD]
  | cons o l ih =>
    intro bs i0 d
    cases bs with
    | nil => simp [mkD]
    | cons m bs =>
      simp only [mkD, List.mem_cons, ih]
      constructor
      · rintro (h | ⟨n, o', m', h1, h2, h3⟩)
        · exact ⟨0, o, m, rfl, rfl, h⟩
        · exact ⟨n + 1, o', m', by simpa using h1, by simpa using h2, by rw [h3]; congr 1; omega⟩
      · rintro ⟨n, o', m', h1, h2, h3⟩
        cases n with
        | zero => simp at h1 h2; subst h1 h2; exact .inl h3
        | succ n => exact .inr ⟨n, o', m', by simpa using h1, by simpa using h2, by rw [h3]; congr 1; omega⟩

/-- What is known of a region's operations. -/
structure DFacts (C : Ctx) (ops : Array Oper) (ds : List DOp) : Prop where
  op : ∀ d ∈ ds, ∃ o, ops[d.i]? = some o ∧ d.s = C.stepOf ops o ∧ d.looks = Oper.looksAt ops o ++ (C.op o).tmps ∧ (isEff (C.op o) = true → d.eff = true)
  all : ∀ i, i < ops.size → ∃ d ∈ ds, d.i = i
  one : ∀ d ∈ ds, ∀ e ∈ ds, d.i = e.i → d = e
  bits : ∀ d ∈ ds, ∀ o, ops[d.i]? = some o → ∀ j, d.b.testBit j = true → ∃ e ∈ o.after.toList, Region.binds .any e = true ∧ (j = e.on ∨ ∃ d' ∈ ds, d'.i = e.on ∧ d'.b.testBit j = true)
  over : ∀ d ∈ ds, ∀ e ∈ ds, ∀ t, d.s.dst = some t → t ∈ e.looks → d.b.testBit e.i = true → d.eff = true
  pair : ∀ d ∈ ds, ∀ e ∈ ds, pairOk d e = true
  back : ∀ i o, ops[i]? = some o → ∀ e ∈ o.after.toList, Region.binds .any e = true → e.on < i

theorem back_spec : ∀ (l : List Oper) (i0 : Nat), backOk i0 l = true → ∀ i o, l[i]? = some o → ∀ e ∈ o.after.toList, Region.binds .any e = true → e.on < i0 + i := by
  intro l
  induction l with
  | nil => intro i0 _ i o h; simp at h
  | cons o l ih =>
    intro i0 h i o' ho e he hb
    simp only [backOk, Bool.and_eq_true, List.all_eq_true] at h
    cases i with
    | zero =>
      simp at ho; subst ho
      have := h.1 e he
      rw [hb] at this
      exact (ble_iff _ _).1 this
    | succ i =>
      have := ih (i0 + 1) h.2 i o' (by simpa using ho) e he hb
      omega

theorem dops_facts (C : Ctx) (ops : Array Oper) (h1 : backOk 0 ops.toList = true) (h2 : regionOk (C.dops ops) = true) : DFacts C ops (C.dops ops) := by
  obtain ⟨b1, b2, b3⟩ := before_spec ops.toList []
  simp only [List.length_nil, Nat.zero_add] at b1 b3
  let base := mkD C ops 0 ops.toList (beforeOf ops.toList [])
  have hmem : ∀ d, d ∈ C.dops ops ↔ ∃ d0 ∈ base, d = cond (over d0 base) { d0 with eff := true } d0 := by
    intro d
    simp only [Ctx.dops, markD, List.mem_map]
    constructor
    · rintro ⟨d0, p, q⟩; exact ⟨d0, p, q.symm⟩
    · rintro ⟨d0, p, q⟩; exact ⟨d0, p, q.symm⟩
  have hsame : ∀ d0 : DOp, ∀ c : Bool, (cond c { d0 with eff := true } d0).i = d0.i ∧ (cond c { d0 with eff := true } d0).b = d0.b ∧ (cond c { d0 with eff := true } d0).s = d0.s ∧ (cond c { d0 with eff := true } d0).looks = d0.looks := by
    intro d0 c; cases c <;> exact ⟨rfl, rfl, rfl, rfl⟩
  have hbase : ∀ d0, d0 ∈ base ↔ ∃ n o m, ops.toList[n]? = some o ∧ (beforeOf ops.toList [])[n]? = some m ∧ d0 = ⟨n, m, C.stepOf ops o, Oper.looksAt ops o ++ (C.op o).tmps, isEff (C.op o)⟩ := by
    intro d0
    have := mkD_mem C ops ops.toList (beforeOf ops.toList []) 0 d0
    simpa using this
  have hone0 : ∀ d0 ∈ base, ∀ e0 ∈ base, d0.i = e0.i → d0 = e0 := by
    intro d0 hd e0 he hi
    obtain ⟨n, o, m, q1, q2, rfl⟩ := (hbase d0).1 hd
    obtain ⟨n', o', m', p1, p2, rfl⟩ := (hbase e0).1 he
    simp only at hi
    subst hi
    rw [q1] at p1; rw [q2] at p2
    cases p1; cases p2; rfl
  refine ⟨?_, ?_, ?_, ?_, ?_, ?_, ?_⟩
  · intro d hd
    obtain ⟨d0, h0, rfl⟩ := (hmem d).1 hd
    obtain ⟨s1, s2, s3, s4⟩ := hsame d0 (over d0 base)
    obtain ⟨n, o, m, q1, q2, hq⟩ := (hbase d0).1 h0
    refine ⟨o, ?_, ?_, ?_, ?_⟩
    · rw [s1, hq]; simpa using q1
    · rw [s3, hq]
    · rw [s4, hq]
    · intro he
      cases hov : over d0 base
      · show d0.eff = true; rw [hq]; exact he
      · rfl
  · intro i hi
    obtain ⟨m, p1, _⟩ := b3 i ops[i] (by simp [hi])
    have hb : (⟨i, m, C.stepOf ops ops[i], Oper.looksAt ops ops[i] ++ (C.op ops[i]).tmps, isEff (C.op ops[i])⟩ : DOp) ∈ base := (hbase _).2 ⟨i, ops[i], m, by simp [hi], p1, rfl⟩
    refine ⟨_, (hmem _).2 ⟨_, hb, rfl⟩, ?_⟩
    rw [(hsame _ _).1]
  · intro d hd e he hi
    obtain ⟨d0, h0, rfl⟩ := (hmem d).1 hd
    obtain ⟨e0, g0, rfl⟩ := (hmem e).1 he
    rw [(hsame _ _).1, (hsame _ _).1] at hi
    rw [hone0 d0 h0 e0 g0 hi]
  · intro d hd o ho j hj
    obtain ⟨d0, h0, rfl⟩ := (hmem d).1 hd
    obtain ⟨s1, s2, s3, s4⟩ := hsame d0 (over d0 base)
    rw [s1] at ho
    rw [s2] at hj
    obtain ⟨n, o', m, q1, q2, hq⟩ := (hbase d0).1 h0
    have hi : d0.i = n := by rw [hq]
    have hbm : d0.b = m := by rw [hq]
    rw [hi] at ho
    have ho' : ops.toList[n]? = some o := by simpa using ho
    obtain ⟨m', p1, p2⟩ := b3 n o ho'
    rw [q2] at p1; cases p1
    rw [hbm] at hj
    obtain ⟨e, e1, e2, e3⟩ := p2 j hj
    refine ⟨e, e1, e2, ?_⟩
    rcases e3 with e3 | e3
    · exact .inl e3
    · right
      by_cases hlt : e.on < ops.size
      · have hlt' : e.on < ops.toList.length := by simpa using hlt
        obtain ⟨m2, r1, _⟩ := b3 e.on ops[e.on] (by simp [hlt])
        rw [List.getD_eq_getElem?_getD, r1] at e3
        have hb : (⟨e.on, m2, C.stepOf ops ops[e.on], Oper.looksAt ops ops[e.on] ++ (C.op ops[e.on]).tmps, isEff (C.op ops[e.on])⟩ : DOp) ∈ base := (hbase _).2 ⟨e.on, ops[e.on], m2, by simp [hlt], r1, rfl⟩
        refine ⟨_, (hmem _).2 ⟨_, hb, rfl⟩, ?_, ?_⟩
        · rw [(hsame _ _).1]
        · rw [(hsame _ _).2.1]; simpa using e3
      · rw [List.getD_eq_getElem?_getD, List.getElem?_eq_none (by rw [b1]; simp; omega)] at e3
        simp at e3
  · intro d hd e he t ht hl hb
    obtain ⟨d0, h0, rfl⟩ := (hmem d).1 hd
    obtain ⟨e0, g0, rfl⟩ := (hmem e).1 he
    obtain ⟨s1, s2, s3, s4⟩ := hsame d0 (over d0 base)
    obtain ⟨t1, t2, t3, t4⟩ := hsame e0 (over e0 base)
    rw [s3] at ht
    rw [t4] at hl
    rw [s2, t1] at hb
    have : over d0 base = true := by
      unfold over
      rw [ht]
      simp only [List.any_eq_true, Bool.and_eq_true]
      exact ⟨e0, g0, by simpa using hl, hb⟩
    rw [this]
    rfl
  · intro d hd e he
    unfold regionOk at h2
    rw [List.all_eq_true] at h2
    have := h2 d hd
    rw [List.all_eq_true] at this
    exact this e he
  · intro i o ho e he hb
    have := back_spec ops.toList 0 h1 i o (by simpa using ho) e he hb
    simpa using this
end Go.Ab

set_option linter.unusedSimpArgs false
set_option linter.unusedVariables false
namespace Go.Ab

/-- What an operation that was done there, and not here, will give. -/
def PendOk (s : AS) (μ : Mu) (n0 : Nat) (B : Nat → Nat) (old : DOp → Prop) (d : DOp) : Prop :=
  (wantedA s.tm d.s.guard = false → ∀ t v, d.s.dst = some t → s.tm[t]? = some v → v = undefA) ∧
  (wantedA s.tm d.s.guard = true → match kd d.s.op with
    | .pure => ∃ v, (∀ H, step1 s.tm H d.s.op = .val v H) ∧ ∀ t u, d.s.dst = some t → s.tm[t]? = some u → u = v
    | .read => old d ∨ ∃ v, step1 s.tm s.H d.s.op = .val v s.H ∧ ∀ t u, d.s.dst = some t → s.tm[t]? = some u → u = v
    | .float => ∃ obj f, floatOf s.tm d.s.op = some (obj, f) ∧ s.H.get (B d.i) = some obj ∧ μ (B d.i) = none ∧ n0 ≤ B d.i ∧ B d.i < s.H.nx ∧ ∀ t u, d.s.dst = some t → s.tm[t]? = some u → u = f (B d.i)
    | .effect => False)

def Pend (ds : List DOp) (done : Nat) (D : Nat → Bool) (d : DOp) : Prop := d ∈ ds ∧ done.testBit d.i = true ∧ D d.i = false ∧ d.eff = false

structure Inv (C : Ctx) (ds : List DOp) (D : Nat → Bool) (done : Nat) (l : List DOp) (old : DOp → Prop) (μ0 : Mu) (H0 : AHeap) (w0 : World) (cu0 : CU)
    (μ : Mu) (s : AS) (b : Frame) (cu : CU) (a : Act) (w : World) (B : Nat → Nat) : Prop where
  rem : ∀ d, d ∈ l ↔ d ∈ ds ∧ done.testBit d.i = false
  sub : ∀ d ∈ ds, D d.i = true → done.testBit d.i = true
  effs : ∀ d ∈ ds, d.eff = true → done.testBit d.i = true → D d.i = true
  closed : ∀ d ∈ ds, done.testBit d.i = true → ∀ j, d.b.testBit j = true → done.testBit j = true
  closedD : ∀ d ∈ ds, D d.i = true → ∀ j, d.b.testBit j = true → D j = true
  gl : Gl C.ng μ
  dfs : DsRel μ s.ds a.defers
  hp : HRel C.P μ s.H w
  up : URel μ s.up cu
  rd : RdRel μ s.rd b.roundOf
  go : Go μ0 H0 w0 μ s.H w
  kin : cu0 = none ↔ cu = none
  len : s.tm.length = a.tmps.size
  tm : ∀ t v v', s.tm[t]? = some v → a.tmps[t]? = some v' → (∃ d, Pend ds done D d ∧ d.s.dst = some t) ∨ VRel μ v v'
  pend : ∀ d, Pend ds done D d → PendOk s μ H0.nx B old d
  inj : ∀ d e, Pend ds done D d → Pend ds done D e → kd d.s.op = .float → kd e.s.op = .float → wantedA s.tm d.s.guard = true → wantedA s.tm e.s.guard = true → B d.i = B e.i → d = e

theorem floatOf_same {tm tm' : List AV} (aop : AOp) (h : Same tm tm' aop.tmps) : floatOf tm aop = floatOf tm' aop := by
  cases aop <;> simp only [AOp.tmps] at h <;> simp only [floatOf]
  case box n x => rw [ev_same h]
  case buildSlice z n es len ps => rw [evParts_same h]
  case mkSlice z es bytes l c => rw [ev_same h.left, ev_same h.right]
  case toBytes x => rw [ev_same h]

section
variable {C : Ctx} {ops : Array Oper} {ds : List DOp}

theorem kd_eff {o : AOp} (h : kd o = .effect) : isEff o = true := by unfold isEff; rw [h]
theorem kd_not {o : AOp} (h : isEff o = false) : kd o ≠ .effect := fun e => by rw [kd_eff e] at h; cases h

/-- What an operation looks at, when it runs, is no pending one's place: it has run here as well. -/
theorem looks_clear (hF : DFacts C ops ds) {D : Nat → Bool} {done : Nat}
    {d : DOp} (hd : d ∈ ds) (hready : ∀ j, d.b.testBit j = true → D j = true) (p : DOp) (hp : Pend ds done D p)
    (t : Nat) (ht : p.s.dst = some t) : t ∉ d.looks := by
  intro hl
  have hpair := hF.pair d hd p hp.1
  unfold pairOk at hpair
  rw [ht] at hpair
  have hc : d.looks.contains t = true := by simpa using hl
  simp only [hc, cond, Bool.and_eq_true, Bool.or_eq_true] at hpair
  rcases hpair.1 with h | h
  · have := hready _ h
    rw [hp.2.2.1] at this; cases this
  · have := hF.over p hp.1 d hd t ht hl h
    rw [hp.2.2.2] at this; cases this

def unstale {α : Type} (f : Nat → Bool) (l : List α) (z : α) : List α := l.mapIdx fun t v => cond (f t) z v

theorem unstale_get {α : Type} (f : Nat → Bool) (l : List α) (z : α) (t : Nat) (h : f t = false) : (unstale f l z)[t]? = l[t]? := by
  simp only [unstale, List.getElem?_mapIdx, h, cond]
  simp

def staleB (ds : List DOp) (done : Nat) (D : Nat → Bool) (t : Nat) : Bool := ds.any fun d => done.testBit d.i && (!D d.i && (!d.eff && (match d.s.dst with
  | some u => Nat.beq u t
  | none => false)))

theorem stale_iff (ds : List DOp) (done : Nat) (D : Nat → Bool) (t : Nat) : staleB ds done D t = true ↔ ∃ d, Pend ds done D d ∧ d.s.dst = some t := by
  simp only [staleB, List.any_eq_true, Bool.and_eq_true, Bool.not_eq_true']
  constructor
  · rintro ⟨d, h1, h2, h3, h4, h5⟩
    refine ⟨d, ⟨h1, h2, h3, h4⟩, ?_⟩
    cases hd : d.s.dst with
    | none => rw [hd] at h5; cases h5
    | some u => rw [hd] at h5; rw [Nat.eq_of_beq_eq_true h5]
  · rintro ⟨d, ⟨h1, h2, h3, h4⟩, h5⟩
    refine ⟨d, h1, h2, h3, h4, ?_⟩
    rw [h5]
    exact Nat.beq_refl t

variable {D : Nat → Bool} {done : Nat} {l : List DOp} {old : DOp → Prop} {μ0 μ : Mu} {H0 : AHeap} {w0 w : World} {cu0 cu : CU} {s : AS} {b : Frame} {a : Act} {B : Nat → Nat}

theorem Inv.clean (h : Inv C ds D done l old μ0 H0 w0 cu0 μ s b cu a w B) : LRel μ (unstale (staleB ds done D) s.tm undefA) (unstale (staleB ds done D) a.tmps.toList undef) := by
  refine ⟨by simp [unstale, h.len], fun t h1 h2 => ?_⟩
  simp only [unstale, List.getElem_mapIdx]
  cases hf : staleB ds done D t with
  | true => exact .undef μ
  | false =>
    simp only [cond]
    have l1 : t < s.tm.length := by simpa [unstale] using h1
    have l2 : t < a.tmps.size := by simpa [unstale] using h2
    rcases h.tm t s.tm[t] a.tmps[t] (List.getElem?_eq_getElem l1) (by simp [l2]) with hp | hv
    · have := (stale_iff ds done D t).2 hp
      rw [hf] at this; cases this
    · simpa using hv

/-- The same operation on what is not stale. -/
theorem Inv.ctx (hF : DFacts C ops ds) (h : Inv C ds D done l old μ0 H0 w0 cu0 μ s b cu a w B) {d : DOp} (hd : d ∈ ds) {o : Oper} (ho : ops[d.i]? = some o) (hs : ∀ cs b, o.op ≠ .select cs b)
    (hready : ∀ j, d.b.testBit j = true → D j = true) :
    ∃ (tm1 : List AV) (a1 : Act), Rho C.ng μ tm1 a1.eval ∧ (∀ H, step1 s.tm H (C.op o) = step1 tm1 H (C.op o)) ∧ execOp a.eval o = execOp a1.eval o ∧
      (isFloat (C.op o) = true → floatOf s.tm (C.op o) = floatOf tm1 (C.op o)) ∧ wantedA s.tm d.s.guard = Region.wanted o (yielded ops a.tmps) := by
  obtain ⟨o', ho', hs1, hl1, _⟩ := hF.op d hd
  rw [ho] at ho'; cases ho'
  have hns : ∀ t, t ∈ d.looks → staleB ds done D t = false := by
    intro t ht
    cases hf : staleB ds done D t with
    | false => rfl
    | true =>
      obtain ⟨p, hp, hpd⟩ := (stale_iff ds done D t).1 hf
      exact absurd ht (looks_clear hF hd hready p hp t hpd)
  have hstep : ∀ H, step1 s.tm H (C.op o) = step1 (unstale (staleB ds done D) s.tm undefA) H (C.op o) := by
    intro H
    refine step1_same H _ fun t ht => ?_
    exact (unstale_get _ _ _ _ (hns t (by rw [hl1]; exact List.mem_append_right _ ht))).symm
  refine ⟨unstale (staleB ds done D) s.tm undefA, { a with tmps := (unstale (staleB ds done D) a.tmps.toList undef).toArray }, Rho.of h.gl (by simpa using h.clean), hstep, ?_, ?_, ?_⟩
  · refine execOp_congr o hs fun x hx => ?_
    cases x with
    | tmp t =>
      have ht : t ∈ Oper.looksAt ops o := List.mem_append_left _ (List.mem_filterMap.2 ⟨.tmp t, by simpa using hx, rfl⟩)
      have := unstale_get (staleB ds done D) a.tmps.toList undef t (hns t (by rw [hl1]; exact List.mem_append_left _ ht))
      simp only [Act.eval, Array.getD_eq_getD_getElem?]
      simp only [List.getElem?_toArray, this]
      simp
    | const v => rfl
    | global g => rfl
    | func f => rfl
  · intro _
    refine floatOf_same _ fun t ht => ?_
    exact (unstale_get _ _ _ _ (hns t (by rw [hl1]; exact List.mem_append_right _ ht))).symm
  · rw [hs1]
    refine wanted_rel (μ := μ) fun j g d' hj hg hd' => ?_
    have ht : d' ∈ Oper.looksAt ops o := by
      refine List.mem_append_right _ ?_
      cases hgd : o.guard with
      | none => rw [hgd] at hj; cases hj
      | some p =>
        obtain ⟨j', want⟩ := p
        rw [hgd] at hj
        cases hj
        simp [hg, hd']
    have hn := hns d' (by rw [hl1]; exact List.mem_append_left _ ht)
    cases ht1 : s.tm[d']? with
    | none =>
      left
      refine ⟨rfl, ?_⟩
      have := List.getElem?_eq_none_iff.1 ht1
      rw [h.len] at this
      simpa using this
    | some v =>
      right
      have l1 : d' < a.tmps.size := by rw [← h.len]; exact (List.getElem?_eq_some_iff.1 ht1).1
      refine ⟨v, a.tmps[d'], rfl, by simp [l1], ?_⟩
      rcases h.tm d' v a.tmps[d'] ht1 (by simp [l1]) with hp | hv
      · rw [(stale_iff ds done D d').2 hp] at hn; cases hn
      · exact hv
end
end Go.Ab

set_option linter.unusedSimpArgs false
set_option linter.unusedVariables false
namespace Go.Ab

def updD (D : Nat → Bool) (i : Nat) : Nat → Bool := fun j => cond (Nat.beq j i) true (D j)
theorem updD_self (D : Nat → Bool) (i : Nat) : updD D i i = true := by simp [updD]
theorem updD_ne (D : Nat → Bool) {i j : Nat} (h : j ≠ i) : updD D i j = D j := by
  have : Nat.beq j i = false := by
    cases hb : Nat.beq j i
    · rfl
    · exact absurd (Nat.eq_of_beq_eq_true hb) h
  simp only [updD, this, cond]
theorem updD_mono (D : Nat → Bool) (i j : Nat) (h : D j = true) : updD D i j = true := by
  by_cases e : j = i
  · subst e; exact updD_self D j
  · rw [updD_ne D e]; exact h

theorem pend_updD {ds : List DOp} {done : Nat} {D : Nat → Bool} {i : Nat} {e : DOp} (h : Pend ds done (updD D i) e) : Pend ds done D e ∧ e.i ≠ i := by
  obtain ⟨h1, h2, h3, h4⟩ := h
  have hne : e.i ≠ i := fun he => by rw [he, updD_self] at h3; cases h3
  rw [updD_ne D hne] at h3
  exact ⟨⟨h1, h2, h3, h4⟩, hne⟩

theorem act_put_get (a : Act) (d : Option Nat) (v : Value) (t : Nat) (u : Value) (h : (a.put d v).tmps[t]? = some u) : (d = some t ∧ u = v ∧ t < a.tmps.size) ∨ (d ≠ some t ∧ a.tmps[t]? = some u) := by
  cases d with
  | none => exact .inr ⟨by simp, h⟩
  | some d =>
    simp only [Act.put] at h
    by_cases e : d = t
    · subst e
      rw [Array.getElem?_setIfInBounds_self] at h
      split at h
      · cases h; exact .inl ⟨rfl, rfl, by assumption⟩
      · cases h
    · rw [Array.getElem?_setIfInBounds_ne e] at h
      exact .inr ⟨by simpa using e, h⟩

section
variable {C : Ctx} {ops : Array Oper} {ds : List DOp}
variable {D : Nat → Bool} {done : Nat} {l : List DOp} {old : DOp → Prop} {μ0 μ : Mu} {H0 : AHeap} {w0 w : World} {cu0 cu : CU} {s : AS} {b : Frame} {a : Act} {B : Nat → Nat}

/-- An operation that was done there is done here. -/
theorem Inv.put (hF : DFacts C ops ds) (h : Inv C ds D done l old μ0 H0 w0 cu0 μ s b cu a w B) {d : DOp} (hp : Pend ds done D d) (hready : ∀ j, d.b.testBit j = true → D j = true) {μ' : Mu} {w' : World} {v' : Value}
    (hm : MuLe μ μ') (hh : HRel C.P μ' s.H w') (hg : Go μ0 H0 w0 μ' s.H w') (hfl : ∀ e, Pend ds done D e → e ≠ d → kd e.s.op = .float → wantedA s.tm e.s.guard = true → μ' (B e.i) = none)
    (hv : ∀ t u, d.s.dst = some t → s.tm[t]? = some u → VRel μ' u v') : Inv C ds (updD D d.i) done l old μ0 H0 w0 cu0 μ' s b cu (a.put d.s.dst v') w' B := by
  refine ⟨h.rem, ?_, ?_, h.closed, ?_, h.gl.mono hm, ?_, hh, h.up.mono hm, h.rd.mono hm, hg, h.kin, ?_, ?_, ?_, ?_⟩
  · intro e he hD
    by_cases hi : e.i = d.i
    · rw [hi]; exact hp.2.1
    · rw [updD_ne D hi] at hD; exact h.sub e he hD
  · intro e he h1 h2
    exact updD_mono D _ _ (h.effs e he h1 h2)
  · intro e he hD j hj
    by_cases hi : e.i = d.i
    · have := hF.one e he d hp.1 hi
      subst this
      exact updD_mono D _ _ (hready j hj)
    · rw [updD_ne D hi] at hD
      exact updD_mono D _ _ (h.closedD e he hD j hj)
  · have : (a.put d.s.dst v').defers = a.defers := by cases d.s.dst <;> rfl
    rw [this]; exact h.dfs.mono hm
  · rw [h.len]; cases d.s.dst <;> simp [Act.put]
  · intro t v u h1 h2
    rcases act_put_get a d.s.dst v' t u h2 with ⟨q1, q2, q3⟩ | ⟨q1, q2⟩
    · subst q2
      exact .inr (hv t v q1 h1)
    · rcases h.tm t v u h1 q2 with ⟨e, he, het⟩ | hvr
      · left
        have hne : e.i ≠ d.i := by
          intro hi
          have := hF.one e he.1 d hp.1 hi
          subst this
          exact q1 het
        exact ⟨e, ⟨he.1, he.2.1, by rw [updD_ne D hne]; exact he.2.2.1, he.2.2.2⟩, het⟩
      · exact .inr (hvr.mono hm)
  · intro e he
    obtain ⟨he', hne⟩ := pend_updD he
    have hed : e ≠ d := fun x => hne (by rw [x])
    obtain ⟨p1, p2⟩ := h.pend e he'
    refine ⟨p1, fun hw => ?_⟩
    have := p2 hw
    split at this
    · rename_i hk; exact this
    · exact this
    · rename_i hk
      obtain ⟨obj, f, q1, q2, q3, q4, q5, q6⟩ := this
      exact ⟨obj, f, q1, q2, hfl e he' hed hk hw, q4, q5, q6⟩
    · exact this.elim
  · intro d1 d2 h1 h2
    exact h.inj d1 d2 (pend_updD h1).1 (pend_updD h2).1

theorem eff_sel {o : Oper} {cs : Array SelectCase} {bl : Bool} (h : o.op = .select cs bl) : isEff (C.op o) = true := by
  simp only [Ctx.op, h]; rfl
theorem eff_dfr {o : Oper} {c : Call} (h : o.op = .defer c) : isEff (C.op o) = true := by
  obtain ⟨callee, args, ats⟩ := c
  cases callee with
  | value f =>
    simp only [Ctx.op, h, w1, wL]
    cases opd C.ng f with
    | none => rfl
    | some a =>
      cases opds C.ng args.toList with
      | none => rfl
      | some l => rfl
  | invoke r n => simp only [Ctx.op, h]; rfl
  | builtin b => simp only [Ctx.op, h]; rfl

theorem inv_late (hC : CtxOk C) (hF : DFacts C ops ds) (h : Inv C ds D done l (fun _ => False) μ0 H0 w0 cu0 μ s b cu a w B) {d : DOp} (hp : Pend ds done D d) (hready : ∀ j, d.b.testBit j = true → D j = true)
    (rest : List Nat) (k : List Item) (cs : List Frame) :
    ∃ μ' a' w', Inv C ds (updD D d.i) done l (fun _ => False) μ0 H0 w0 cu0 μ' s b cu a' w' B ∧
      Steps C.P (lone (fat b a (.inRegion ops (d.i :: rest) :: k)) (callersOf cs cu) w) (lone (fat b a' (.inRegion ops rest :: k)) (callersOf cs cu) w') := by
  obtain ⟨o, ho, hs1, hl1, heff⟩ := hF.op d hp.1
  have hne : isEff (C.op o) = false := by
    cases he : isEff (C.op o) with
    | false => rfl
    | true => have := heff he; rw [hp.2.2.2] at this; cases this
  have hsel : ∀ cs b, o.op ≠ .select cs b := fun cs b hx => by rw [eff_sel hx] at hne; cases hne
  have hdfr : ∀ c, o.op ≠ .defer c := fun c hx => by rw [eff_dfr hx] at hne; cases hne
  have hop : d.s.op = C.op o := by rw [hs1]; rfl
  have hdst : d.s.dst = o.dst := by rw [hs1]; rfl
  obtain ⟨tm1, a1, hrho, hst, hex, hflt, hwt⟩ := h.ctx hF hp.1 ho hsel hready
  obtain ⟨p1, p2⟩ := h.pend d hp
  cases hw : Region.wanted o (yielded ops a.tmps) with
  | false =>
    rw [hw] at hwt
    have hstep := fstep_op_skip (P := C.P) (b := b) (a := a) (k := k) (cs := callersOf cs cu) (w := w) (ops := ops) (i := d.i) (rest := rest) (by simp [ho, hw])
    simp only [ho, Option.bind_some] at hstep
    refine ⟨μ, a.put d.s.dst undef, w, h.put hF hp hready (MuLe.refl μ) h.hp h.go (fun e he _ hk hw' => ?_) (fun t u ht hu => ?_), by rw [hdst]; exact .one hstep⟩
    · have := (h.pend e he).2 hw'
      rw [hk] at this
      obtain ⟨obj, f, q1, q2, q3, _⟩ := this
      exact q3
    · rw [p1 hwt t u ht hu]; exact .undef μ
  | true =>
    rw [hw] at hwt
    have hrun : ∀ {v' : Value} {w' : World}, ((execOp a.eval o).run C.P w = .ok (.value v') w' ∨ ((execOp a.eval o).run C.P w = .ok .skip w' ∧ v' = undef)) →
        Steps C.P (lone (fat b a (.inRegion ops (d.i :: rest) :: k)) (callersOf cs cu) w) (lone (fat b (a.put d.s.dst v') (.inRegion ops rest :: k)) (callersOf cs cu) w') := by
      intro v' w' hr
      refine .one (step_lone_go ?_)
      have hfin : ∀ v, (fat b a (.inRegion ops (d.i :: rest) :: k)).finish v = fat b (a.put o.dst v) (.inRegion ops rest :: k) := by
        intro v; rw [fat_finish, ho]; rfl
      rw [fstepG_op ho hw (.inr hdfr), hdst, ← hfin]
      rcases hr with hr | ⟨hr, hv⟩
      · simp [stepG.apply, hr]
      · subst hv; simp [stepG.apply, hr]
    have hfree : ∀ {μ' : Mu} {w' : World}, Go μ s.H w μ' s.H w' → ∀ e, Pend ds done D e → e ≠ d → kd e.s.op = .float → wantedA s.tm e.s.guard = true → μ' (B e.i) = none := by
      intro μ' w' hg e he _ hk hw'
      have := (h.pend e he).2 hw'
      rw [hk] at this
      obtain ⟨obj, f, q1, q2, q3, q4, q5, _⟩ := this
      cases hx : μ' (B e.i) with
      | none => rfl
      | some lc => have := hg.dom _ _ hx q3; omega
    have hsame : ∀ v, step1 s.tm s.H (C.op o) = .val v s.H → (∀ t u, d.s.dst = some t → s.tm[t]? = some u → u = v) → ∃ μ' a' w', Inv C ds (updD D d.i) done l (fun _ => False) μ0 H0 w0 cu0 μ' s b cu a' w' B ∧
        Steps C.P (lone (fat b a (.inRegion ops (d.i :: rest) :: k)) (callersOf cs cu) w) (lone (fat b a' (.inRegion ops rest :: k)) (callersOf cs cu) w') := by
      intro v hv hu
      have hn : isNext (C.op o) = false := by
        cases hc : C.op o <;> rw [hc] at hne <;> first | rfl | cases hne
      have hsim := sim_op1 hC hrho h.hp o hn
      rw [← hst, hv, ← hex] at hsim
      obtain ⟨μ', v', w', hr, q1, q2, q3⟩ := hsim
      exact ⟨μ', a.put d.s.dst v', w', h.put hF hp hready q3.ext q2 (h.go.trans q3) (hfree q3) (fun t u ht hx => by rw [hu t u ht hx]; exact q1), hrun hr⟩
    have := p2 hwt
    split at this
    · obtain ⟨v, hv, hu⟩ := this
      rw [hop] at hv
      exact hsame v (hv s.H) hu
    · rcases this with this | ⟨v, hv, hu⟩
      · exact this.elim
      · rw [hop] at hv
        exact hsame v hv hu
    · rename_i hk
      obtain ⟨obj, f, q1, q2, q3, q4, q5, q6⟩ := this
      rw [hop] at q1 hk
      have hkf : isFloat (C.op o) = true := by unfold isFloat; rw [hk]
      rw [hflt hkf] at q1
      obtain ⟨lc, v', w', r1, r2, r3, r4⟩ := late hC hrho h.hp o hkf q1 (B d.i) q2 q3 q5
      rw [← hex] at r1
      refine ⟨_, a.put d.s.dst v', w', h.put hF hp hready (Mu.upd_le lc q3) r3 (h.go.late q4 q3 r4) (fun e he hed hk' hw' => ?_) (fun t u ht hx => by rw [q6 t u ht hx]; exact r2), hrun (.inl r1)⟩
      have hthis := (h.pend e he).2 hw'
      rw [hk'] at hthis
      obtain ⟨obj', f', t1, t2, t3, _⟩ := hthis
      have hbne : B e.i ≠ B d.i := fun hb => hed (h.inj e d he hp hk' (by rw [hop]; exact hk) hw' hwt hb)
      unfold Mu.upd
      rw [if_neg hbne]
      exact t3
    · exact this.elim
end
end Go.Ab

set_option linter.unusedSimpArgs false
set_option linter.unusedVariables false
namespace Go.Ab

theorem first_some {done : Nat} {eff : Bool} : ∀ {l : List DOp} {d : DOp} {r : List DOp}, firstReady done eff l = some (d, r) →
    d ∈ l ∧ d.eff = eff ∧ sub d.b done = true ∧ ∃ pre post, l = pre ++ d :: post ∧ r = pre ++ post := by
  intro l
  induction l with
  | nil => intro d r h; cases h
  | cons e l ih =>
    intro d r h
    simp only [firstReady] at h
    cases hc : (boolEq e.eff eff && sub e.b done) with
    | true =>
      rw [hc] at h
      simp only [cond] at h
      cases h
      simp only [Bool.and_eq_true] at hc
      refine ⟨by simp, ?_, hc.2, [], l, rfl, rfl⟩
      have := hc.1
      revert this
      cases e.eff <;> cases eff <;> simp [boolEq]
    | false =>
      rw [hc] at h
      simp only [cond] at h
      cases hf : firstReady done eff l with
      | none => rw [hf] at h; cases h
      | some p =>
        obtain ⟨x, q⟩ := p
        rw [hf] at h
        cases h
        obtain ⟨h1, h2, h3, pre, post, h4, h5⟩ := ih hf
        exact ⟨by simp [h1], h2, h3, e :: pre, post, by simp [h4], by simp [h5]⟩

theorem first_none {done : Nat} {eff : Bool} : ∀ {l : List DOp}, firstReady done eff l = none → ∀ d ∈ l, d.eff = eff → sub d.b done = false := by
  intro l
  induction l with
  | nil => intro _ d hd; cases hd
  | cons e l ih =>
    intro h d hd he
    simp only [firstReady] at h
    cases hc : (boolEq e.eff eff && sub e.b done) with
    | true => rw [hc] at h; cases h
    | false =>
      rw [hc] at h
      simp only [cond] at h
      have hf : firstReady done eff l = none := by
        cases hf : firstReady done eff l with
        | none => rfl
        | some p => rw [hf] at h; cases h
      rcases List.mem_cons.1 hd with rfl | hd
      · have hb : boolEq d.eff eff = true := by rw [he]; cases eff <;> rfl
        rw [hb] at hc
        simpa using hc
      · exact ih hf d hd he

theorem sub_spec {a b : Nat} : sub a b = true ↔ ∀ j, a.testBit j = true → b.testBit j = true := by
  unfold sub
  constructor
  · intro h j hj
    have e := Nat.eq_of_beq_eq_true h
    have : (a &&& b).testBit j = a.testBit j := by show (Nat.land a b).testBit j = _; rw [e]
    rw [Nat.testBit_and, hj] at this
    simpa using this
  · intro h
    have : Nat.land a b = a := by
      apply Nat.eq_of_testBit_eq
      intro j
      show (a &&& b).testBit j = _
      rw [Nat.testBit_and]
      cases ha : a.testBit j with
      | false => rfl
      | true => rw [h j ha]; rfl
    rw [this]
    exact Nat.beq_refl a

theorem bit_add (done i j : Nat) : (Nat.lor done (2 ^ i)).testBit j = (done.testBit j || decide (i = j)) := by
  show (done ||| 2 ^ i).testBit j = _
  rw [Nat.testBit_or, Nat.testBit_two_pow]

/-- What is left behind one of them. -/
theorem rem_step {ds : List DOp} {done : Nat} {l r : List DOp} {d : DOp} {pre post : List DOp} (hone : ∀ d ∈ ds, ∀ e ∈ ds, d.i = e.i → d = e) (hrem : ∀ e, e ∈ l ↔ e ∈ ds ∧ done.testBit e.i = false)
    (hn : (l.map (·.i)).Nodup) (hl : l = pre ++ d :: post) (hr : r = pre ++ post) :
    (∀ e, e ∈ r ↔ e ∈ ds ∧ (Nat.lor done (2 ^ d.i)).testBit e.i = false) ∧ (r.map (·.i)).Nodup := by
  have hd : d ∈ ds := ((hrem d).1 (by rw [hl]; simp)).1
  have hnd : d ∉ pre ++ post := by
    intro hmem
    rw [hl] at hn
    simp only [List.map_append, List.map_cons] at hn
    have h1 := List.nodup_append.1 hn
    rcases List.mem_append.1 hmem with hm | hm
    · exact h1.2.2 _ (List.mem_map_of_mem hm) _ (by simp) rfl
    · exact (List.nodup_cons.1 h1.2.1).1 (List.mem_map_of_mem hm)
  constructor
  · intro e
    rw [bit_add, hr]
    constructor
    · intro he
      have hel : e ∈ l := by
        rw [hl]; simp at he ⊢
        rcases he with h | h
        · exact .inl h
        · exact .inr (.inr h)
      obtain ⟨q1, q2⟩ := (hrem e).1 hel
      refine ⟨q1, ?_⟩
      have hne : d.i ≠ e.i := fun hi => hnd (by rw [hone d hd e q1 hi]; exact he)
      simp [q2, hne]
    · rintro ⟨q1, q2⟩
      simp only [Bool.or_eq_false_iff, decide_eq_false_iff_not] at q2
      have hel := (hrem e).2 ⟨q1, q2.1⟩
      rw [hl] at hel
      simp at hel ⊢
      rcases hel with h | h | h
      · exact .inl h
      · exact absurd (by rw [h]) q2.2
      · exact .inr h
  · rw [hr]
    rw [hl] at hn
    refine hn.sublist ?_
    simp
end Go.Ab

set_option linter.unusedSimpArgs false
set_option linter.unusedVariables false
namespace Go.Ab

theorem put_get (s : AS) (d : Option Nat) (v : AV) (t : Nat) : (s.put d v).tm[t]? = if d = some t ∧ t < s.tm.length then some v else s.tm[t]? := by
  cases d with
  | none => simp [AS.put]
  | some d =>
    simp only [AS.put, List.getElem?_set]
    by_cases e : d = t
    · subst e
      by_cases hl : d < s.tm.length
      · simp [hl]
      · simp [hl, List.getElem?_eq_none (by omega : s.tm.length ≤ d)]
    · simp [e]

section
variable {C : Ctx} {ops : Array Oper} {ds : List DOp}

theorem guard_look (hF : DFacts C ops ds) {d : DOp} (hd : d ∈ ds) {t : Nat} {c : Bool} (hg : d.s.guard = .is t c) : t ∈ d.looks := by
  obtain ⟨o, ho, hs, hl, _⟩ := hF.op d hd
  rw [hs] at hg
  have hg' : Ctx.guardOf ops o = .is t c := hg
  rw [hl]
  refine List.mem_append_left _ (List.mem_append_right _ ?_)
  unfold Ctx.guardOf at hg'
  cases h1 : o.guard with
  | none => rw [h1] at hg'; cases hg'
  | some p =>
    obtain ⟨j, b⟩ := p
    rw [h1] at hg'
    simp only at hg'
    cases h2 : ops[j]? with
    | none => rw [h2] at hg'; cases hg'
    | some g =>
      rw [h2] at hg'
      simp only at hg'
      cases h3 : g.dst with
      | none => rw [h3] at hg'; cases hg'
      | some u =>
        rw [h3] at hg'
        cases hg'
        simp [h2, h3]

theorem op_look (hF : DFacts C ops ds) {d : DOp} (hd : d ∈ ds) {t : Nat} (h : t ∈ d.s.op.tmps) : t ∈ d.looks := by
  obtain ⟨o, ho, hs, hl, _⟩ := hF.op d hd
  rw [hl]
  rw [hs] at h
  exact List.mem_append_right _ h

theorem wanted_same (hF : DFacts C ops ds) {d : DOp} (hd : d ∈ ds) {tm tm' : List AV} (h : ∀ t ∈ d.looks, tm[t]? = tm'[t]?) : wantedA tm d.s.guard = wantedA tm' d.s.guard := by
  cases hg : d.s.guard with
  | no => rfl
  | never => rfl
  | is t c =>
    simp only [wantedA]
    rw [h t (guard_look hF hd hg)]

variable {D : Nat → Bool} {done : Nat} {l : List DOp} {old : DOp → Prop} {μ0 μ : Mu} {H0 : AHeap} {w0 w : World} {cu0 cu : CU} {s : AS} {b : Frame} {a : Act} {B : Nat → Nat}

/-- What one pending knows stays, when something else is done. -/
theorem PendOk.stay (hF : DFacts C ops ds) {e : DOp} (he : e ∈ ds) {s' : AS} {μ' : Mu} {n0 : Nat} {B' : Nat → Nat} {old' : DOp → Prop} (h : PendOk s μ n0 B old e) (hlook : ∀ t ∈ e.looks, s'.tm[t]? = s.tm[t]?)
    (hdst : ∀ t, e.s.dst = some t → s'.tm[t]? = s.tm[t]?) (hB : B' e.i = B e.i)
    (hread : kd e.s.op = .read → old' e ∨ (¬ old e ∧ ∀ b o, s.H.get b = some o → s'.H.get b = some o))
    (hfl : kd e.s.op = .float → wantedA s.tm e.s.guard = true → μ (B e.i) = none → B e.i < s.H.nx → μ' (B e.i) = none ∧ B e.i < s'.H.nx ∧ s'.H.get (B e.i) = s.H.get (B e.i)) : PendOk s' μ' n0 B' old' e := by
  have hw : wantedA s'.tm e.s.guard = wantedA s.tm e.s.guard := wanted_same hF he hlook
  have hstep : ∀ H, step1 s'.tm H e.s.op = step1 s.tm H e.s.op := fun H => step1_same H _ fun t ht => hlook t (op_look hF he ht)
  have hflo : floatOf s'.tm e.s.op = floatOf s.tm e.s.op := floatOf_same _ fun t ht => hlook t (op_look hF he ht)
  obtain ⟨h1, h2⟩ := h
  refine ⟨fun hn t v ht hv => ?_, fun hn => ?_⟩
  · rw [hdst t ht] at hv
    exact h1 (by rw [← hw]; exact hn) t v ht hv
  · have := h2 (by rw [← hw]; exact hn)
    split at this
    · rename_i hk
      obtain ⟨v, q1, q2⟩ := this
      exact ⟨v, fun H => by rw [hstep]; exact q1 H, fun t u ht hu => q2 t u ht (by rw [← hdst t ht]; exact hu)⟩
    · rename_i hk
      rcases hread hk with hr | ⟨hno, hr⟩
      · exact .inl hr
      · rcases this with this | ⟨v, q1, q2⟩
        · exact absurd this hno
        · exact .inr ⟨v, by rw [hstep]; exact read_more _ _ _ _ hk _ q1 hr, fun t u ht hu => q2 t u ht (by rw [← hdst t ht]; exact hu)⟩
    · rename_i hk
      obtain ⟨obj, f, q1, q2, q3, q4, q5, q6⟩ := this
      obtain ⟨r1, r2, r3⟩ := hfl hk (by rw [← hw]; exact hn) q3 q5
      exact ⟨obj, f, by rw [hflo]; exact q1, by rw [hB, r3]; exact q2, by rw [hB]; exact r1, by rw [hB]; exact q4, by rw [hB]; exact r2, fun t u ht hu => by rw [hB]; exact q6 t u ht (by rw [← hdst t ht]; exact hu)⟩
    · exact this.elim

/-- One more is done there. -/
theorem Inv.add (hF : DFacts C ops ds) (h : Inv C ds D done l old μ0 H0 w0 cu0 μ s b cu a w B) (hn : (l.map (·.i)).Nodup) {d : DOp} {r : List DOp} (hf : firstReady done false l = some (d, r))
    {H' : AHeap} {v : AV} {B' : Nat → Nat} (hB : ∀ i, i ≠ d.i → B' i = B i) (hH : HRel C.P μ H' w) (hgo : Go μ0 H0 w0 μ H' w) (hmore : ∀ b o, s.H.get b = some o → H'.get b = some o) (hnx : s.H.nx ≤ H'.nx)
    (hok : PendOk (AS.put { s with H := H' } d.s.dst v) μ H0.nx B' old d) (hfresh : kd d.s.op = .float → wantedA s.tm d.s.guard = true → s.H.nx ≤ B' d.i) :
    Inv C ds D (Nat.lor done (2 ^ d.i)) r old μ0 H0 w0 cu0 μ (AS.put { s with H := H' } d.s.dst v) b cu a w B' ∧ (r.map (·.i)).Nodup := by
  obtain ⟨hd, heff, hsub, pre, post, hl, hr⟩ := first_some hf
  obtain ⟨hrem, hn'⟩ := rem_step hF.one h.rem hn hl hr
  have hds := ((h.rem d).1 hd).1
  have hdn := ((h.rem d).1 hd).2
  have hdD : D d.i = false := by
    cases hc : D d.i with
    | false => rfl
    | true => rw [h.sub d hds hc] at hdn; cases hdn
  have hsb := sub_spec.1 hsub
  obtain ⟨p1, p2, p3, p4⟩ := AS.put_parts { s with H := H' } d.s.dst v
  have hpend : ∀ e, Pend ds (Nat.lor done (2 ^ d.i)) D e → e = d ∨ (e.i ≠ d.i ∧ Pend ds done D e) := by
    intro e he
    by_cases hi : e.i = d.i
    · exact .inl (hF.one e he.1 d hds hi)
    · right
      refine ⟨hi, he.1, ?_, he.2.2⟩
      have := he.2.1
      rw [bit_add] at this
      have hne : ¬ d.i = e.i := fun x => hi x.symm
      simpa [hne] using this
  -- nobody else looks at the place
  have hlooks : ∀ e, Pend ds done D e → ∀ t ∈ e.looks, (AS.put { s with H := H' } d.s.dst v).tm[t]? = s.tm[t]? := by
    intro e he t ht
    rw [put_get]
    rw [if_neg]
    rintro ⟨q1, _⟩
    have hpair := hF.pair e he.1 d hds
    unfold pairOk at hpair
    rw [q1] at hpair
    have hc : e.looks.contains t = true := by simpa using ht
    simp only [hc, cond, Bool.and_eq_true, Bool.or_eq_true] at hpair
    rcases hpair.1 with hb | hb
    · have := h.closed e he.1 he.2.1 _ hb
      rw [hdn] at this; cases this
    · have := hF.over d hds e he.1 t q1 ht hb
      rw [heff] at this; cases this
  have hdsts : ∀ e, Pend ds done D e → ∀ t, e.s.dst = some t → (AS.put { s with H := H' } d.s.dst v).tm[t]? = s.tm[t]? := by
    intro e he t ht
    rw [put_get]
    rw [if_neg]
    rintro ⟨q1, _⟩
    have hpair := hF.pair e he.1 d hds
    unfold pairOk at hpair
    rw [q1, ht] at hpair
    simp only [Nat.beq_refl, cond, Bool.and_eq_true] at hpair
    have := Nat.eq_of_beq_eq_true hpair.2.1
    have h2 := he.2.1
    rw [this, hdn] at h2
    cases h2
  refine ⟨⟨hrem, ?_, ?_, ?_, h.closedD, h.gl, by rw [p2]; exact h.dfs, by rw [p1]; exact hH, by rw [p3]; exact h.up, by rw [p4]; exact h.rd, by rw [p1]; exact hgo, h.kin, ?_, ?_, ?_, ?_⟩, hn'⟩
  · intro e he hD
    rw [bit_add, h.sub e he hD]; rfl
  · intro e he h1 h2
    by_cases hi : e.i = d.i
    · have := hF.one e he d hds hi
      rw [this, heff] at h1; cases h1
    · rw [bit_add] at h2
      have hne : ¬ d.i = e.i := fun x => hi x.symm
      exact h.effs e he h1 (by simpa [hne] using h2)
  · intro e he h2 j hj
    rw [bit_add]
    by_cases hi : e.i = d.i
    · have := hF.one e he d hds hi
      rw [this] at hj
      rw [hsb j hj]; rfl
    · rw [bit_add] at h2
      have hne : ¬ d.i = e.i := fun x => hi x.symm
      rw [h.closed e he (by simpa [hne] using h2) j hj]; rfl
  · rw [← h.len]; cases d.s.dst <;> simp [AS.put]
  · intro t u u' h1 h2
    rw [put_get] at h1
    by_cases hc : d.s.dst = some t ∧ t < s.tm.length
    · exact .inl ⟨d, ⟨hds, by rw [bit_add]; simp, hdD, heff⟩, hc.1⟩
    · rw [if_neg hc] at h1
      rcases h.tm t u u' h1 h2 with ⟨e, he, het⟩ | hv
      · exact .inl ⟨e, ⟨he.1, by rw [bit_add, he.2.1]; rfl, he.2.2⟩, het⟩
      · exact .inr hv
  · intro e he
    rcases hpend e he with rfl | ⟨hi, he'⟩
    · exact hok
    · refine (h.pend e he').stay hF he.1 (hlooks e he') (hdsts e he') (hB _ hi) (fun hk => ?_) (fun hk hw hμ hlt => ?_)
      · by_cases ho : old e
        · exact .inl ho
        · exact .inr ⟨ho, by rw [p1]; exact hmore⟩
      · refine ⟨hμ, by rw [p1]; exact Nat.lt_of_lt_of_le hlt hnx, ?_⟩
        have := (h.pend e he').2 hw
        rw [hk] at this
        obtain ⟨obj, f, _, q2, _⟩ := this
        rw [p1, q2]
        exact hmore _ _ q2
  · intro e1 e2 h1 h2 k1 k2 w1 w2 hBB
    have hwd : wantedA (AS.put { s with H := H' } d.s.dst v).tm d.s.guard = wantedA s.tm d.s.guard := by
      refine wanted_same hF hds fun t ht => ?_
      rw [put_get, if_neg]
      rintro ⟨q1, _⟩
      have hpair := hF.pair d hds d hds
      unfold pairOk at hpair
      rw [q1] at hpair
      have hc : d.looks.contains t = true := by simpa using ht
      simp only [hc, cond, Bool.and_eq_true, Bool.or_self] at hpair
      have := hsb _ hpair.1
      rw [hdn] at this; cases this
    have low : ∀ e, Pend ds done D e → kd e.s.op = .float → wantedA (AS.put { s with H := H' } d.s.dst v).tm e.s.guard = true → e.i ≠ d.i → B' e.i < s.H.nx ∧ wantedA s.tm e.s.guard = true := by
      intro e he hk hw hi
      have hwe : wantedA (AS.put { s with H := H' } d.s.dst v).tm e.s.guard = wantedA s.tm e.s.guard := wanted_same hF he.1 (hlooks e he)
      rw [hwe] at hw
      have := (h.pend e he).2 hw
      rw [hk] at this
      obtain ⟨obj, f, _, _, _, _, q5, _⟩ := this
      rw [hB _ hi]
      exact ⟨q5, hw⟩
    rcases hpend e1 h1 with rfl | ⟨i1, g1⟩ <;> rcases hpend e2 h2 with rfl | ⟨i2, g2⟩
    · rfl
    · have q1 := hfresh k1 (by rw [← hwd]; exact w1)
      have q2 := (low e2 g2 k2 w2 i2).1
      omega
    · have q1 := hfresh k2 (by rw [← hwd]; exact w2)
      have q2 := (low e1 g1 k1 w1 i1).1
      omega
    · exact h.inj e1 e2 g1 g2 k1 k2 (low e1 g1 k1 w1 i1).2 (low e2 g2 k2 w2 i2).2 (by rw [← hB _ i1, ← hB _ i2]; exact hBB)
end
end Go.Ab

set_option linter.unusedSimpArgs false
set_option linter.unusedVariables false
namespace Go.Ab

section
variable {C : Ctx} {ops : Array Oper} {ds : List DOp}
variable {D : Nat → Bool} {done : Nat} {l : List DOp} {old : DOp → Prop} {μ0 μ : Mu} {H0 : AHeap} {w0 w : World} {cu0 cu : CU} {s : AS} {b : Frame} {a : Act} {B : Nat → Nat}

/-- A step that is no check: what it does. -/
theorem stepsA_cons (call : UM → AV → List AV → AHeap → CR) (inv : AV → String → Option AV) (r : RStep) (tail : List RStep) (s : AS) (hc : r.chk = false) :
    stepsA call inv (r :: tail) s = cond (wantedA s.tm r.guard) (thenA (stepsA call inv tail) (runOp call s r.dst (step1 s.tm s.H r.op) inv)) (stepsA call inv tail (s.put r.dst undefA)) := by
  simp only [stepsA, hc, cond_false]
  cases wantedA s.tm r.guard with
  | false => rfl
  | true =>
    simp only [cond_true]
    generalize runOp call s r.dst (step1 s.tm s.H r.op) inv = q
    cases q with
    | ok e s => cases e <;> rfl
    | need n => rfl
    | bad why => rfl

theorem adv_one (hF : DFacts C ops ds) (h : Inv C ds D done l old μ0 H0 w0 cu0 μ s b cu a w B) (hn : (l.map (·.i)).Nodup) {d : DOp} {r : List DOp} (hf : firstReady done false l = some (d, r))
    (call : UM → AV → List AV → AHeap → CR) (inv : AV → String → Option AV) (tail : List RStep) :
    (∃ why, ∀ x, stepsA call inv (d.s :: tail) (s.wo x) = .bad why) ∨
    ∃ s' B', Inv C ds D (Nat.lor done (2 ^ d.i)) r old μ0 H0 w0 cu0 μ s' b cu a w B' ∧ (r.map (·.i)).Nodup ∧ ∀ x, stepsA call inv (d.s :: tail) (s.wo x) = stepsA call inv tail (s'.wo x) := by
  obtain ⟨hd, heff, hsub, pre, post, hl, hr⟩ := first_some hf
  have hds := ((h.rem d).1 hd).1
  have hdn := ((h.rem d).1 hd).2
  have hsb := sub_spec.1 hsub
  obtain ⟨o, ho, hs, hlk, hef⟩ := hF.op d hds
  have hchk : d.s.chk = false := by rw [hs]; rfl
  have hne : isEff d.s.op = false := by
    cases he : isEff d.s.op with
    | false => rfl
    | true =>
      rw [hs] at he
      have := hef he
      rw [heff] at this; cases this
  have hown : ∀ (H' : AHeap) (v : AV), ∀ t ∈ d.looks, (AS.put { s with H := H' } d.s.dst v).tm[t]? = s.tm[t]? := by
    intro H' v t ht
    rw [put_get, if_neg]
    rintro ⟨q1, _⟩
    have hpair := hF.pair d hds d hds
    unfold pairOk at hpair
    rw [q1] at hpair
    have hc : d.looks.contains t = true := by simpa using ht
    simp only [hc, cond, Bool.and_eq_true, Bool.or_self] at hpair
    have := hsb _ hpair.1
    rw [hdn] at this; cases this
  have hgot : ∀ (H' : AHeap) (v : AV) t u, d.s.dst = some t → (AS.put { s with H := H' } d.s.dst v).tm[t]? = some u → u = v := by
    intro H' v t u ht hu
    rw [put_get] at hu
    by_cases hlt : t < s.tm.length
    · rw [if_pos ⟨ht, hlt⟩] at hu; cases hu; rfl
    · rw [if_neg (fun x => hlt x.2)] at hu
      exact absurd (List.getElem?_eq_some_iff.1 hu).1 hlt
  have hwd : ∀ (H' : AHeap) (v : AV), wantedA (AS.put { s with H := H' } d.s.dst v).tm d.s.guard = wantedA s.tm d.s.guard := fun H' v => wanted_same hF hds (hown H' v)
  have hst : ∀ (H' : AHeap) (v : AV) H, step1 (AS.put { s with H := H' } d.s.dst v).tm H d.s.op = step1 s.tm H d.s.op := fun H' v H => step1_same H _ fun t ht => hown H' v t (op_look hF hds ht)
  have hfl : ∀ (H' : AHeap) (v : AV), floatOf (AS.put { s with H := H' } d.s.dst v).tm d.s.op = floatOf s.tm d.s.op := fun H' v => floatOf_same _ fun t ht => hown H' v t (op_look hF hds ht)
  cases hw : wantedA s.tm d.s.guard with
  | false =>
    right
    obtain ⟨q1, q2⟩ := h.add hF hn hf (H' := s.H) (v := undefA) (B' := B) (fun _ _ => rfl) h.hp h.go (fun _ _ x => x) (Nat.le_refl _)
      ⟨fun _ t u ht hu => hgot _ _ t u ht hu, fun hx => (by rw [hwd, hw] at hx; cases hx)⟩ (fun _ hx => by rw [hw] at hx; cases hx)
    refine ⟨_, B, q1, q2, fun x => ?_⟩
    rw [stepsA_cons _ _ _ _ _ hchk]
    have e1 : wantedA (s.wo x).tm d.s.guard = false := hw
    rw [e1, cond_false, AS.put_wo]
  | true =>
    have hcons : ∀ x, stepsA call inv (d.s :: tail) (s.wo x) = thenA (stepsA call inv tail) (runOp call (s.wo x) d.s.dst (step1 s.tm (s.H.wo x) d.s.op) inv) := by
      intro x
      rw [stepsA_cons _ _ _ _ _ hchk]
      have e1 : wantedA (s.wo x).tm d.s.guard = true := hw
      rw [e1, cond_true]
      rfl
    have hval : ∀ (H' : AHeap) (v : AV), (∀ x, step1 s.tm (s.H.wo x) d.s.op = .val v (H'.wo x)) → ∀ x, stepsA call inv (d.s :: tail) (s.wo x) = stepsA call inv tail ((AS.put { s with H := H' } d.s.dst v).wo x) := by
      intro H' v hv x
      rw [hcons, hv]
      simp only [runOp, thenA]
      rw [← AS.put_wo]
      rfl
    cases hk : kd d.s.op with
    | effect => rw [kd_eff hk] at hne; cases hne
    | pure =>
      rcases step1_pure s.tm d.s.op hk with ⟨v, hv⟩ | ⟨why, hv⟩
      · right
        have hpo : PendOk (AS.put { s with H := s.H } d.s.dst v) μ H0.nx B old d := by
          refine ⟨fun hx => (by rw [hwd, hw] at hx; cases hx), fun _ => ?_⟩
          rw [hk]
          exact ⟨v, fun H => by rw [hst]; exact hv H, hgot _ _⟩
        obtain ⟨q1, q2⟩ := h.add hF hn hf (H' := s.H) (v := v) (B' := B) (fun _ _ => rfl) h.hp h.go (fun _ _ x => x) (Nat.le_refl _) hpo (fun hx => by rw [hk] at hx; cases hx)
        exact ⟨_, B, q1, q2, hval s.H v fun x => hv _⟩
      · exact .inl ⟨why, fun x => by rw [hcons, hv]; rfl⟩
    | read =>
      rcases step1_read s.tm s.H d.s.op hk with ⟨v, hv⟩ | ⟨why, hv⟩
      · right
        have hnx : isNext d.s.op = false := by cases hc : d.s.op <;> rw [hc] at hk <;> first | rfl | cases hk
        have hpo : PendOk (AS.put { s with H := s.H } d.s.dst v) μ H0.nx B old d := by
          refine ⟨fun hx => (by rw [hwd, hw] at hx; cases hx), fun _ => ?_⟩
          rw [hk]
          refine .inr ⟨v, ?_, hgot _ _⟩
          rw [(AS.put_parts _ _ _).1, hst]
          exact hv
        obtain ⟨q1, q2⟩ := h.add hF hn hf (H' := s.H) (v := v) (B' := B) (fun _ _ => rfl) h.hp h.go (fun _ _ x => x) (Nat.le_refl _) hpo (fun hx => by rw [hk] at hx; cases hx)
        exact ⟨_, B, q1, q2, hval s.H v fun x => by rw [(step1_wo _ _ x _ hnx).1, hv]; rfl⟩
      · have hnx : isNext d.s.op = false := by cases hc : d.s.op <;> rw [hc] at hk <;> first | rfl | cases hk
        exact .inl ⟨why, fun x => by rw [hcons, (step1_wo _ _ x _ hnx).1, hv]; rfl⟩
    | float =>
      have hkf : isFloat d.s.op = true := by unfold isFloat; rw [hk]
      have hnx : isNext d.s.op = false := by cases hc : d.s.op <;> rw [hc] at hk <;> first | rfl | cases hk
      rcases step1_float s.tm s.H d.s.op hkf with ⟨obj, f, h1, h2⟩ | ⟨_, why, hv⟩
      · right
        have hpo : PendOk (AS.put { s with H := s.H.new obj } d.s.dst (f s.H.nx)) μ H0.nx (fun i => cond (Nat.beq i d.i) s.H.nx (B i)) old d := by
          refine ⟨fun hx => (by rw [hwd, hw] at hx; cases hx), fun _ => ?_⟩
          rw [hk]
          simp only [Nat.beq_refl, cond_true]
          refine ⟨obj, f, by rw [hfl]; exact h1, ?_, h.hp.none_nx, h.go.nx, ?_, hgot _ _⟩
          · rw [(AS.put_parts _ _ _).1]; simp [AHeap.get_new]
          · rw [(AS.put_parts _ _ _).1]; exact Nat.lt_succ_self _
        obtain ⟨q1, q2⟩ := h.add hF hn hf (H' := s.H.new obj) (v := f s.H.nx) (B' := fun i => cond (Nat.beq i d.i) s.H.nx (B i)) (fun i hi => by
            have : Nat.beq i d.i = false := by
              cases hb : Nat.beq i d.i
              · rfl
              · exact absurd (Nat.eq_of_beq_eq_true hb) hi
            simp only [this, cond_false]) (h.hp.more obj) (h.go.more obj) (h.hp.more_get obj) (Nat.le_succ _) hpo (fun _ _ => by simp [Nat.beq_refl])
        exact ⟨_, _, q1, q2, hval (s.H.new obj) (f s.H.nx) fun x => by rw [(step1_wo _ _ x _ hnx).1, h2]; rfl⟩
      · exact .inl ⟨why, fun x => by rw [hcons, (step1_wo _ _ x _ hnx).1, hv]; rfl⟩
end
end Go.Ab

set_option linter.unusedSimpArgs false
set_option linter.unusedVariables false
namespace Go.Ab

section
variable {C : Ctx} {ops : Array Oper} {ds : List DOp}
variable {D : Nat → Bool} {done : Nat} {l : List DOp} {old : DOp → Prop} {μ0 μ : Mu} {H0 : AHeap} {w0 w : World} {cu0 cu : CU} {s : AS} {b : Frame} {a : Act} {B : Nat → Nat}
variable {call : UM → AV → List AV → AHeap → CR} {inv : AV → String → Option AV}

/-- What a read gives now is what lies there. -/
def Good (s : AS) (d : DOp) : Prop := wantedA s.tm d.s.guard = true → ∃ v, step1 s.tm s.H d.s.op = .val v s.H ∧ ∀ t u, d.s.dst = some t → s.tm[t]? = some u → u = v

theorem chk_one (tail : List RStep) (p : DOp) (hk : kd p.s.op = .read) :
    (∃ why, ∀ x, stepsA call inv ({ p.s with chk := true } :: tail) (s.wo x) = .bad why) ∨
    (Good s p ∧ ∀ x, stepsA call inv ({ p.s with chk := true } :: tail) (s.wo x) = stepsA call inv tail (s.wo x)) := by
  have hnx : isNext p.s.op = false := by cases hc : p.s.op <;> rw [hc] at hk <;> first | rfl | cases hk
  cases hw : wantedA s.tm p.s.guard with
  | false =>
    right
    refine ⟨fun h => (by rw [hw] at h; cases h), fun x => ?_⟩
    have e1 : wantedA (s.wo x).tm p.s.guard = false := hw
    simp only [stepsA, e1, cond_false, cond_true]
  | true =>
    have e1 : ∀ x, wantedA (s.wo x).tm p.s.guard = true := fun x => hw
    have e2 : ∀ x, (s.wo x).tm = s.tm := fun x => rfl
    have e3 : ∀ x, (s.wo x).H = s.H.wo x := fun x => rfl
    rcases step1_read s.tm s.H p.s.op hk with ⟨v, hv⟩ | ⟨why, hv⟩
    · have hx : ∀ x, step1 (s.wo x).tm (s.wo x).H p.s.op = .val v (s.H.wo x) := fun x => by rw [e2, e3, (step1_wo _ _ x _ hnx).1, hv]; rfl
      cases hd : p.s.dst with
      | none =>
        left
        refine ⟨ "check", fun x => ?_⟩
        simp only [stepsA, e1, cond_true, hx, hd]
      | some t =>
        cases ht : s.tm[t]? with
        | none =>
          left
          refine ⟨ "the order matters", fun x => ?_⟩
          have e5 : (s.wo x).tm[t]? = none := ht
          simp only [stepsA, e1, cond_true, hx, hd, e5, cond_false]
        | some v' =>
          cases hb : beqA v v' with
          | false =>
            left
            refine ⟨ "the order matters", fun x => ?_⟩
            have e5 : (s.wo x).tm[t]? = some v' := ht
            simp only [stepsA, e1, cond_true, hx, hd, e5, hb, cond_false]
          | true =>
            right
            refine ⟨fun _ => ⟨v, hv, fun t' u ht' hu => ?_⟩, fun x => ?_⟩
            · rw [hd] at ht'; cases ht'
              rw [ht] at hu; cases hu
              exact (beqA_eq _ _ hb).symm
            · have e5 : (s.wo x).tm[t]? = some v' := ht
              simp only [stepsA, e1, cond_true, hx, hd, e5, hb]
    · left
      have hx : ∀ x, step1 (s.wo x).tm (s.wo x).H p.s.op = .bad why := fun x => by rw [e2, e3, (step1_wo _ _ x _ hnx).1, hv]; rfl
      refine ⟨ "check", fun x => ?_⟩
      simp only [stepsA, e1, cond_true, hx]

theorem chk_all (tail : List RStep) (e : DOp) : ∀ (past : List DOp), (∀ p ∈ past, kd p.s.op = .read) →
    (∃ why, ∀ x, stepsA call inv (checks e past ++ tail) (s.wo x) = .bad why) ∨
    ((∀ p ∈ past, e.b.testBit p.i = false → Good s p) ∧ ∀ x, stepsA call inv (checks e past ++ tail) (s.wo x) = stepsA call inv tail (s.wo x)) := by
  intro past
  induction past with
  | nil => intro _; exact .inr ⟨fun p hp => absurd hp (by simp), fun x => rfl⟩
  | cons p past ih =>
    intro hk
    have ih := ih fun q hq => hk q (List.mem_cons_of_mem _ hq)
    simp only [checks]
    cases hb : e.b.testBit p.i with
    | true =>
      simp only [cond_true]
      rcases ih with h | ⟨h1, h2⟩
      · exact .inl h
      · refine .inr ⟨fun q hq hqb => ?_, h2⟩
        rcases List.mem_cons.1 hq with rfl | hq
        · rw [hb] at hqb; cases hqb
        · exact h1 q hq hqb
    | false =>
      simp only [cond_false, List.cons_append]
      rcases chk_one (call := call) (inv := inv) (s := s) (checks e past ++ tail) p (hk p (by simp)) with ⟨why, h⟩ | ⟨h1, h2⟩
      · exact .inl ⟨why, h⟩
      · rcases ih with ⟨why, h⟩ | ⟨h3, h4⟩
        · exact .inl ⟨why, fun x => by rw [h2]; exact h x⟩
        · refine .inr ⟨fun q hq hqb => ?_, fun x => by rw [h2]; exact h4 x⟩
          rcases List.mem_cons.1 hq with rfl | hq
          · exact h1
          · exact h3 q hq hqb

/-- The reads that were done there stand in a list. -/
def Track (ds : List DOp) (done : Nat) (l : List DOp) : Prop := (∀ e ∈ ds, done.testBit e.i = true → e.eff = false → kd e.s.op = .read → e ∈ l) ∧ ∀ e ∈ l, kd e.s.op = .read

def effTail (n done : Nat) (reads l : List DOp) : List RStep := match firstReady done true l with
  | some (d, r) => d.s :: canon n (Nat.lor done (2 ^ d.i)) reads [] (some d) r
  | none => match l with
    | [] => []
    | _ :: _ => [badStep "region: stuck"]

theorem first_len {done : Nat} {eff : Bool} {l : List DOp} {d : DOp} {r : List DOp} (h : firstReady done eff l = some (d, r)) : r.length + 1 = l.length := by
  obtain ⟨_, _, _, pre, post, rfl, rfl⟩ := first_some h
  simp; omega

theorem adv_all (hF : DFacts C ops ds) : ∀ (n done : Nat) (past fresh : List DOp) (last : Option DOp) (l : List DOp) (s : AS) (B : Nat → Nat),
    Inv C ds D done l old μ0 H0 w0 cu0 μ s b cu a w B → (l.map (·.i)).Nodup → l.length < n → Track ds done (fresh ++ past) →
    (∃ why, ∀ x, stepsA call inv (canon n done past fresh last l) (s.wo x) = .bad why) ∨
    ∃ n' done' fresh' l' s' B', Inv C ds D done' l' old μ0 H0 w0 cu0 μ s' b cu a w B' ∧ (l'.map (·.i)).Nodup ∧ l'.length ≤ n' ∧ Track ds done' (fresh' ++ past) ∧ firstReady done' false l' = none ∧
      ∀ x, stepsA call inv (canon n done past fresh last l) (s.wo x) = stepsA call inv (checksO last past ++ effTail n' done' (fresh' ++ past) l') (s'.wo x) := by
  intro n
  induction n with
  | zero => intro done past fresh last l s B _ _ hl; omega
  | succ n ih =>
    intro done past fresh last l s B h hn hl ht
    simp only [canon]
    cases hf : firstReady done false l with
    | none =>
      right
      refine ⟨n, done, fresh, l, s, B, h, hn, by omega, ht, hf, fun x => ?_⟩
      unfold effTail
      cases firstReady done true l with
      | none => cases l <;> rfl
      | some q => rfl
    | some q =>
      obtain ⟨d, r⟩ := q
      simp only
      have hlen := first_len hf
      obtain ⟨hd, heff, hsub, pre, post, hl', hr'⟩ := first_some hf
      rcases adv_one hF h hn hf call inv (canon n (Nat.lor done (2 ^ d.i)) past (cond (isRead d.s.op) (d :: fresh) fresh) last r) with hb | ⟨s', B', h1, h2, h3⟩
      · exact .inl hb
      · have ht' : Track ds (Nat.lor done (2 ^ d.i)) (cond (isRead d.s.op) (d :: fresh) fresh ++ past) := by
          refine ⟨fun e he hdn hef hk => ?_, fun e he => ?_⟩
          · by_cases hi : d.i = e.i
            · have := hF.one d ((h.rem d).1 hd).1 e he hi
              subst this
              have : isRead d.s.op = true := by unfold isRead; rw [hk]
              rw [this]; simp
            · rw [bit_add] at hdn
              have := ht.1 e he (by simpa [hi] using hdn) hef hk
              cases isRead d.s.op
              · exact this
              · exact List.mem_cons_of_mem _ this
          · cases hr : isRead d.s.op with
            | false => rw [hr] at he; exact ht.2 e he
            | true =>
              rw [hr] at he
              rcases List.mem_cons.1 he with rfl | he
              · unfold isRead at hr
                cases hk : kd e.s.op <;> rw [hk] at hr <;> first | rfl | cases hr
              · exact ht.2 e he
        rcases ih (Nat.lor done (2 ^ d.i)) past _ last r s' B' h1 h2 (by omega) ht' with ⟨why, hb⟩ | ⟨n', done', fresh', l', s'', B'', q1, q2, q3, q4, q5, q6⟩
        · exact .inl ⟨why, fun x => by rw [h3]; exact hb x⟩
        · exact .inr ⟨n', done', fresh', l', s'', B'', q1, q2, q3, q4, q5, fun x => by rw [h3]; exact q6 x⟩

theorem Inv.unold (h : Inv C ds D done l old μ0 H0 w0 cu0 μ s b cu a w B) (hg : ∀ e, Pend ds done D e → kd e.s.op = .read → old e → Good s e) : Inv C ds D done l (fun _ => False) μ0 H0 w0 cu0 μ s b cu a w B := by
  refine ⟨h.rem, h.sub, h.effs, h.closed, h.closedD, h.gl, h.dfs, h.hp, h.up, h.rd, h.go, h.kin, h.len, h.tm, fun d hd => ?_, h.inj⟩
  obtain ⟨h1, h2⟩ := h.pend d hd
  refine ⟨h1, fun hw => ?_⟩
  have := h2 hw
  split at this
  · exact this
  · rename_i hk
    rcases this with ho | hv
    · exact .inr (hg d hd hk ho hw)
    · exact .inr hv
  · exact this
  · exact this

end
end Go.Ab

set_option linter.unusedSimpArgs false
set_option linter.unusedVariables false
namespace Go.Ab

section
variable {C : Ctx} {ops : Array Oper} {ds : List DOp}
variable {D : Nat → Bool} {done : Nat} {l : List DOp} {old : DOp → Prop} {μ0 μ : Mu} {H0 : AHeap} {w0 w : World} {cu0 cu : CU} {s : AS} {b : Frame} {a : Act} {B : Nat → Nat}
variable {call : UM → AV → List AV → AHeap → CR} {inv : AV → String → Option AV}

/-- Nobody that is done there, and not here, looks at the place of one that runs here. -/
theorem place_free (hF : DFacts C ops ds) (h : Inv C ds D done l old μ0 H0 w0 cu0 μ s b cu a w B) {d : DOp} (hd : d ∈ ds) (hdn : done.testBit d.i = false) (hready : ∀ j, d.b.testBit j = true → D j = true)
    {e : DOp} (he : Pend ds done D e) {t : Nat} (ht : d.s.dst = some t) : t ∉ e.looks ∧ e.s.dst ≠ some t := by
  constructor
  · intro hl
    have hpair := hF.pair e he.1 d hd
    unfold pairOk at hpair
    rw [ht] at hpair
    have hc : e.looks.contains t = true := by simpa using hl
    simp only [hc, cond, Bool.and_eq_true, Bool.or_eq_true] at hpair
    rcases hpair.1 with hb | hb
    · have := h.closed e he.1 he.2.1 _ hb
      rw [hdn] at this; cases this
    · have := hready _ hb
      rw [he.2.2.1] at this; cases this
  · intro hx
    have hpair := hF.pair e he.1 d hd
    unfold pairOk at hpair
    rw [hx, ht] at hpair
    simp only [Nat.beq_refl, cond, Bool.and_eq_true] at hpair
    have := Nat.eq_of_beq_eq_true hpair.2.1
    have h2 := he.2.1
    rw [this, hdn] at h2
    cases h2

/-- An effect, done here and there. -/
theorem Inv.eff (hF : DFacts C ops ds) (h : Inv C ds D done l (fun _ => False) μ0 H0 w0 cu0 μ s b cu a w B) (hn : (l.map (·.i)).Nodup) {d : DOp} {r : List DOp} (hf : firstReady done true l = some (d, r))
    (hready : ∀ j, d.b.testBit j = true → D j = true) {reads : List DOp} (ht : Track ds done reads) {s' : AS} {μ' : Mu} {D' : List Deferred} {w' : World} {cu' : CU} {v : AV} {v' : Value}
    (hs : s' = AS.put { s with H := s'.H, ds := s'.ds, up := s'.up } d.s.dst v) (hv : VRel μ' v v') (hh : HRel C.P μ' s'.H w') (hg : Go μ s.H w μ' s'.H w') (hds : DsRel μ' s'.ds D') (hup : URel μ' s'.up cu')
    (hk : cu = none ↔ cu' = none) :
    Inv C ds (updD D d.i) (Nat.lor done (2 ^ d.i)) r (fun e => e ∈ reads) μ0 H0 w0 cu0 μ' s' b cu' (({ a with defers := D' } : Act).put d.s.dst v') w' B ∧ (r.map (·.i)).Nodup ∧ Track ds (Nat.lor done (2 ^ d.i)) reads := by
  obtain ⟨hd, heff, hsub, pre, post, hl, hr⟩ := first_some hf
  obtain ⟨hrem, hn'⟩ := rem_step hF.one h.rem hn hl hr
  have hdd := ((h.rem d).1 hd).1
  have hdn := ((h.rem d).1 hd).2
  have hsb := sub_spec.1 hsub
  have hrd : s'.rd = s.rd := by rw [hs, (AS.put_parts _ _ _).2.2.2]
  have htm : ∀ t, s'.tm[t]? = if d.s.dst = some t ∧ t < s.tm.length then some v else s.tm[t]? := by
    intro t
    rw [hs, put_get]
  have hpend : ∀ e, Pend ds (Nat.lor done (2 ^ d.i)) (updD D d.i) e → Pend ds done D e ∧ e.i ≠ d.i := by
    intro e he
    obtain ⟨h1, hne⟩ := pend_updD he
    refine ⟨⟨h1.1, ?_, h1.2.2⟩, hne⟩
    have := h1.2.1
    rw [bit_add] at this
    have hne' : ¬ d.i = e.i := fun x => hne x.symm
    simpa [hne'] using this
  have hlooks : ∀ e, Pend ds done D e → ∀ t ∈ e.looks, s'.tm[t]? = s.tm[t]? := by
    intro e he t hl
    rw [htm, if_neg]
    rintro ⟨q1, _⟩
    exact (place_free hF h hdd hdn hready he q1).1 hl
  have hdsts : ∀ e, Pend ds done D e → ∀ t, e.s.dst = some t → s'.tm[t]? = s.tm[t]? := by
    intro e he t hl
    rw [htm, if_neg]
    rintro ⟨q1, _⟩
    exact (place_free hF h hdd hdn hready he q1).2 hl
  refine ⟨⟨hrem, ?_, ?_, ?_, ?_, h.gl.mono hg.ext, ?_, hh, hup, by rw [hrd]; exact h.rd.mono hg.ext, h.go.trans hg, h.kin.trans hk, ?_, ?_, ?_, ?_⟩, hn', ?_, ht.2⟩
  · intro e he hD
    rw [bit_add]
    by_cases hi : e.i = d.i
    · simp [hi]
    · rw [updD_ne D hi] at hD
      rw [h.sub e he hD]; rfl
  · intro e he h1 h2
    by_cases hi : e.i = d.i
    · rw [hi]; exact updD_self D d.i
    · rw [bit_add] at h2
      have hne : ¬ d.i = e.i := fun x => hi x.symm
      exact updD_mono D _ _ (h.effs e he h1 (by simpa [hne] using h2))
  · intro e he h2 j hj
    rw [bit_add]
    by_cases hi : e.i = d.i
    · have := hF.one e he d hdd hi
      rw [this] at hj
      rw [hsb j hj]; rfl
    · rw [bit_add] at h2
      have hne : ¬ d.i = e.i := fun x => hi x.symm
      rw [h.closed e he (by simpa [hne] using h2) j hj]; rfl
  · intro e he hD j hj
    by_cases hi : e.i = d.i
    · have := hF.one e he d hdd hi
      subst this
      exact updD_mono D _ _ (hready j hj)
    · rw [updD_ne D hi] at hD
      exact updD_mono D _ _ (h.closedD e he hD j hj)
  · have : (({ a with defers := D' } : Act).put d.s.dst v').defers = D' := by cases d.s.dst <;> rfl
    rw [this]; exact hds
  · have : s'.tm.length = s.tm.length := by rw [hs]; cases d.s.dst <;> simp [AS.put]
    rw [this, h.len]; cases d.s.dst <;> simp [Act.put]
  · intro t u u' h1 h2
    rw [htm] at h1
    rcases act_put_get { a with defers := D' } d.s.dst v' t u' h2 with ⟨q1, q2, q3⟩ | ⟨q1, q2⟩
    · subst q2
      have hlt : t < s.tm.length := by rw [h.len]; exact q3
      rw [if_pos ⟨q1, hlt⟩] at h1
      cases h1
      exact .inr hv
    · rw [if_neg (fun x => q1 x.1)] at h1
      rcases h.tm t u u' h1 q2 with ⟨e, he, het⟩ | hvr
      · left
        have hne : e.i ≠ d.i := by
          intro hi
          have := hF.one e he.1 d hdd hi
          subst this
          exact q1 het
        exact ⟨e, ⟨he.1, by rw [bit_add, he.2.1]; rfl, by rw [updD_ne D hne]; exact he.2.2.1, he.2.2.2⟩, het⟩
      · exact .inr (hvr.mono hg.ext)
  · intro e he
    obtain ⟨he', hne⟩ := hpend e he
    refine (h.pend e he').stay hF he.1 (hlooks e he') (hdsts e he') rfl (fun hk => ?_) (fun hk hw hμ hlt => ?_)
    · exact .inl (ht.1 e he'.1 he'.2.1 he'.2.2.2 hk)
    · refine ⟨?_, Nat.lt_of_lt_of_le hlt hg.nx, hg.out _ hlt hμ⟩
      cases hx : μ' (B e.i) with
      | none => rfl
      | some lc => have := hg.dom _ _ hx hμ; omega
  · intro e1 e2 h1 h2 k1 k2 w1 w2 hBB
    obtain ⟨g1, _⟩ := hpend e1 h1
    obtain ⟨g2, _⟩ := hpend e2 h2
    have hwe : ∀ e, Pend ds done D e → wantedA s'.tm e.s.guard = wantedA s.tm e.s.guard := fun e he => wanted_same hF he.1 (hlooks e he)
    rw [hwe e1 g1] at w1
    rw [hwe e2 g2] at w2
    exact h.inj e1 e2 g1 g2 k1 k2 w1 w2 hBB
  · intro e he hdn' hef hk
    by_cases hi : e.i = d.i
    · have := hF.one e he d hdd hi
      rw [this, heff] at hef; cases hef
    · rw [bit_add] at hdn'
      have hne : ¬ d.i = e.i := fun x => hi x.symm
      exact ht.1 e he (by simpa [hne] using hdn') hef hk

/-- The effect that comes next is the same here and there. -/
theorem eff_next (hF : DFacts C ops ds) (h : Inv C ds D done l old μ0 H0 w0 cu0 μ s b cu a w B) {d : DOp} (hd : d ∈ ds) (heff : d.eff = true) (hD : D d.i = false) (hready : ∀ j, d.b.testBit j = true → D j = true) :
    ∃ r, firstReady done true l = some (d, r) := by
  have hdn : done.testBit d.i = false := by
    cases hc : done.testBit d.i with
    | false => rfl
    | true => rw [h.effs d hd heff hc] at hD; cases hD
  have hdl : d ∈ l := (h.rem d).2 ⟨hd, hdn⟩
  have hDd : ∀ j, d.b.testBit j = true → done.testBit j = true → True := fun _ _ _ => trivial
  cases hf : firstReady done true l with
  | none =>
    have hs := first_none hf d hdl heff
    have : Go.Ab.sub d.b done = true := by
      rw [sub_spec]
      intro j hj
      obtain ⟨o, ho, _⟩ := hF.op d hd
      obtain ⟨e, e1, e2, e3⟩ := hF.bits d hd o ho j hj
      have hlt : ∀ j, d.b.testBit j = true → j < ops.size := by
        intro j hj
        cases hjd : D j with
        | false => rw [hready j hj] at hjd; cases hjd
        | true =>
          -- a bit stands for an operation
          have key : ∀ n, ∀ d ∈ ds, d.i ≤ n → ∀ j, d.b.testBit j = true → j < d.i := by
            intro n
            induction n with
            | zero =>
              intro d hd hi j hj
              obtain ⟨o, ho, _⟩ := hF.op d hd
              obtain ⟨e, e1, e2, e3⟩ := hF.bits d hd o ho j hj
              have := hF.back _ o ho e e1 e2
              omega
            | succ n ih =>
              intro d hd hi j hj
              obtain ⟨o, ho, _⟩ := hF.op d hd
              obtain ⟨e, e1, e2, e3⟩ := hF.bits d hd o ho j hj
              have hb := hF.back _ o ho e e1 e2
              rcases e3 with rfl | ⟨d', q1, q2, q3⟩
              · exact hb
              · have := ih d' q1 (by omega) j q3
                omega
          have h1 := key d.i d hd (Nat.le_refl _) j hj
          have h2 : d.i < ops.size := (Array.getElem?_eq_some_iff.1 ho).1
          omega
      obtain ⟨d', hd', hi'⟩ := hF.all j (hlt j hj)
      have := h.sub d' hd' (by rw [hi']; exact hready j hj)
      rw [hi'] at this; exact this
    rw [this] at hs; cases hs
  | some q =>
    obtain ⟨d2, r⟩ := q
    obtain ⟨hd2, heff2, hsub2, _⟩ := first_some hf
    have h2 := (h.rem d2).1 hd2
    have hpair := hF.pair d hd d2 h2.1
    unfold pairOk at hpair
    simp only [heff, heff2, Bool.and_self, cond_true, Bool.and_eq_true, Bool.or_eq_true] at hpair
    rcases hpair.2.2 with hi | hb | hb
    · have := hF.one d hd d2 h2.1 (Nat.eq_of_beq_eq_true hi)
      subst this
      exact ⟨r, rfl⟩
    · have := h.sub d2 h2.1 (hready _ hb)
      rw [h2.2] at this; cases this
    · have := sub_spec.1 hsub2 _ hb
      rw [hdn] at this; cases this

theorem count_set : ∀ (l : List Bool) (i : Nat), l[i]? = some false → (l.set i true).countP (fun x => !x) + 1 = l.countP (fun x => !x) := by
  intro l
  induction l with
  | nil => intro i h; simp at h
  | cons c l ih =>
    intro i h
    cases i with
    | zero => simp at h; subst h; simp
    | succ i =>
      have := ih i (by simpa using h)
      simp only [List.set_cons_succ, List.countP_cons]
      omega
end
end Go.Ab

set_option linter.unusedSimpArgs false
set_option linter.unusedVariables false
namespace Go.Ab

section
variable {C : Ctx} {ops : Array Oper} {ds : List DOp}
variable {μ0 : Mu} {H0 : AHeap} {w0 : World} {cu0 : CU} {b : Frame} {cs : List Frame} {k : List Item}
variable {call : UM → AV → List AV → AHeap → CR} {inv : AV → String → Option AV}

theorem listed_get (listed : Array Bool) (i j : Nat) (h : i < listed.size) : (listed.setIfInBounds i true).getD j false = cond (Nat.beq j i) true (listed.getD j false) := by
  simp only [Array.getD_eq_getD_getElem?]
  by_cases e : j = i
  · subst e
    simp [h]
  · have : Nat.beq j i = false := by
      cases hb : Nat.beq j i
      · rfl
      · exact absurd (Nat.eq_of_beq_eq_true hb) e
    rw [this, Array.getElem?_setIfInBounds_ne (Ne.symm e)]; rfl

theorem Inv.wants {D : Nat → Bool} {done : Nat} {old : DOp → Prop} {l : List DOp} {μ : Mu} {s : AS} {a : Act} {cu : CU} {w : World} {B : Nat → Nat} (hF : DFacts C ops ds)
    (h : Inv C ds D done l old μ0 H0 w0 cu0 μ s b cu a w B) {d : DOp} (hd : d ∈ ds) {o : Oper} (ho : ops[d.i]? = some o) (hready : ∀ j, d.b.testBit j = true → D j = true) :
    wantedA s.tm d.s.guard = Region.wanted o (yielded ops a.tmps) := by
  obtain ⟨o', ho', hs1, hl1, _⟩ := hF.op d hd
  rw [ho] at ho'; cases ho'
  have hns : ∀ t, t ∈ d.looks → staleB ds done D t = false := by
    intro t ht
    cases hf : staleB ds done D t with
    | false => rfl
    | true =>
      obtain ⟨p, hp, hpd⟩ := (stale_iff ds done D t).1 hf
      exact absurd ht (looks_clear hF hd hready p hp t hpd)
  rw [hs1]
  refine wanted_rel (μ := μ) fun j g d' hj hg hd' => ?_
  have ht : d' ∈ Oper.looksAt ops o := by
    refine List.mem_append_right _ ?_
    cases hgd : o.guard with
    | none => rw [hgd] at hj; cases hj
    | some p =>
      obtain ⟨j', want⟩ := p
      rw [hgd] at hj
      cases hj
      simp [hg, hd']
  have hn := hns d' (by rw [hl1]; exact List.mem_append_left _ ht)
  cases ht1 : s.tm[d']? with
  | none =>
    left
    refine ⟨rfl, ?_⟩
    have := List.getElem?_eq_none_iff.1 ht1
    rw [h.len] at this
    simpa using this
  | some v =>
    right
    have l1 : d' < a.tmps.size := by rw [← h.len]; exact (List.getElem?_eq_some_iff.1 ht1).1
    refine ⟨v, a.tmps[d'], rfl, by simp [l1], ?_⟩
    rcases h.tm d' v a.tmps[d'] ht1 (by simp [l1]) with hp | hv
    · rw [(stale_iff ds done D d').2 hp] at hn; cases hn
    · exact hv

/-- All is done. -/
theorem drawn_end {D : Nat → Bool} {done n : Nat} {reads l : List DOp} {μ : Mu} {s : AS} {a : Act} {cu : CU} {w : World} {B : Nat → Nat} (hF : DFacts C ops ds)
    (h : Inv C ds D done l (fun _ => False) μ0 H0 w0 cu0 μ s b cu a w B) (hall : ∀ i, i < ops.size → D i = true) :
    ∃ ω R, Orac AR.wo AR.nd (fun x => calm true (stepsA call inv (effTail n done reads l) (s.wo x))) ω R ∧
      ExR C μ0 H0 w0 b (lone (fat b a (.inRegion ops [] :: k)) (callersOf cs cu) w) k cs cu0 R := by
  have hD : ∀ d ∈ ds, D d.i = true := by
    intro d hd
    obtain ⟨o, ho, _⟩ := hF.op d hd
    exact hall _ (Array.getElem?_eq_some_iff.1 ho).1
  have hl : l = [] := by
    cases l with
    | nil => rfl
    | cons d l =>
      have := (h.rem d).1 (by simp)
      rw [h.sub d this.1 (hD d this.1)] at this
      cases this.2
  subst hl
  refine ⟨[], .ok .normal s, .pure (fun x => rfl) rfl, μ, .normal, cu, a, w, trivial, ⟨h.gl, ?_, h.dfs, h.hp, h.up, h.rd⟩, h.go, h.kin, .one fstep_region_end⟩
  refine ⟨by simpa using h.len, fun t h1 h2 => ?_⟩
  have l2 : t < a.tmps.size := by simpa using h2
  rcases h.tm t s.tm[t] a.tmps[t] (List.getElem?_eq_getElem h1) (by simp [l2]) with ⟨e, he, _⟩ | hv
  · have := hD e he.1
    rw [he.2.2.1] at this; cases this
  · simpa using hv

theorem calm_then {f : AS → AR} {g : List Nat → AR} {ω : List Nat} {r : AR} (h : Orac AR.wo AR.nd g ω r) (hr : ∀ s, r ≠ .ok .normal s) (hok : ∀ e s, r = .ok e s → ∃ l, e = .panic l) :
    ∃ why, Orac AR.wo AR.nd (fun x => calm true (thenA f (g x))) ω (.bad why) := by
  have hx : ∃ why, ∀ x, calm true (thenA f (AR.wo x r)) = .bad why := by
    cases r with
    | need n => exact absurd h.fine (by simp [AR.nd])
    | bad why => exact ⟨why, fun x => rfl⟩
    | ok e s =>
      obtain ⟨l, rfl⟩ := hok e s rfl
      exact ⟨_, fun x => rfl⟩
  obtain ⟨why, hx⟩ := hx
  refine ⟨why, ?_⟩
  have := Orac.bind (K := fun _ q => calm true (thenA f q)) (ω' := []) (wo' := AR.wo) (nd' := AR.nd) (r' := .bad why) h (fun x q n hq => by cases q <;> simp [AR.nd] at hq; subst hq; rfl) (fun _ => rfl) (.pure hx rfl)
  simpa using this

theorem calm_seq {f : AS → AR} {g : List Nat → AR} {ω ω' : List Nat} {s1 : AS} {r : AR} (h : Orac AR.wo AR.nd g ω (.ok .normal s1)) (h' : Orac AR.wo AR.nd (fun x => calm true (f (s1.wo x))) ω' r) :
    Orac AR.wo AR.nd (fun x => calm true (thenA f (g x))) (ω ++ ω') r :=
  Orac.bind (K := fun _ q => calm true (thenA f q)) h (fun x q n hq => by cases q <;> simp [AR.nd] at hq; subst hq; rfl) (fun _ => rfl) h'

theorem drawn_main (hC : CtxOk C) (hcall : CallSim C call) (hinv : InvSim C inv) (hF : DFacts C ops ds) (htop : TopOk b cu0 cs) :
    ∀ (fuel t : Nat) (listed : Array Bool) (D : Nat → Bool) (done n : Nat) (reads l : List DOp) (μ : Mu) (s : AS) (a : Act) (cu : CU) (w : World) (B : Nat → Nat),
      listed.size = ops.size → (∀ i, listed.getD i false = D i) → listed.toList.countP (fun x => !x) ≤ fuel → Inv C ds D done l (fun _ => False) μ0 H0 w0 cu0 μ s b cu a w B → (l.map (·.i)).Nodup →
      l.length ≤ n → Track ds done reads → firstReady done false l = none →
      ∃ ω R, Orac AR.wo AR.nd (fun x => calm true (stepsA call inv (effTail n done reads l) (s.wo x))) ω R ∧
        ExR C μ0 H0 w0 b (lone (fat b a (.inRegion ops (Region.linearise.go .any ops fuel t listed []) :: k)) (callersOf cs cu) w) k cs cu0 R := by
  intro fuel
  induction fuel with
  | zero =>
    intro t listed D done n reads l μ s a cu w B hsz hD hcnt h hn hln ht hrdy
    refine drawn_end hF h fun i hi => ?_
    rw [← hD]
    have h0 : listed.toList.countP (fun x => !x) = 0 := by omega
    rw [List.countP_eq_zero] at h0
    have hlt : i < listed.size := by omega
    have := h0 listed[i] (by simp [Array.getElem_mem])
    simp only [Array.getD_eq_getD_getElem?, Array.getElem?_eq_getElem hlt, Option.getD_some]
    simpa using this
  | succ fuel ih =>
    intro t listed D done n reads l μ s a cu w B hsz hD hcnt h hn hln ht hrdy
    simp only [Region.linearise.go]
    have hready_mem : ∀ i, i ∈ Region.ready .any ops listed → ∃ o, ops[i]? = some o ∧ i < ops.size ∧ listed[i]? = some false ∧ ∀ e ∈ o.after.toList, Region.binds .any e = true → D e.on = true := by
      intro i hi
      unfold Region.ready at hi
      simp only [List.mem_filter, List.mem_range, Bool.and_eq_true, Bool.not_eq_true'] at hi
      obtain ⟨h1, h2, h3⟩ := hi
      refine ⟨ops[i], Array.getElem?_eq_getElem h1, h1, ?_, fun e he hb => ?_⟩
      · have hlt : i < listed.size := by omega
        simp only [Array.getD_eq_getD_getElem?, Array.getElem?_eq_getElem hlt, Option.getD_some] at h2
        rw [Array.getElem?_eq_getElem hlt, h2]
      · rw [Array.getElem?_eq_getElem h1] at h3
        simp only [Option.map_some, Option.getD_some, Array.all_eq_true'] at h3
        have := h3 e (by simpa using he)
        rw [hb] at this
        rw [← hD]
        simpa using this
    change ∃ ω R, _ ∧ ExR C μ0 H0 w0 b (lone (fat b a (.inRegion ops (match (Region.ready .any ops listed)[t % (Region.ready .any ops listed).length]? with
      | some i => Region.linearise.go .any ops fuel (t / (Region.ready .any ops listed).length) (listed.setIfInBounds i true) [i]
      | none => [].reverse) :: k)) (callersOf cs cu) w) k cs cu0 R
    cases hi : (Region.ready .any ops listed)[t % (Region.ready .any ops listed).length]? with
    | none =>
      have hnil : Region.ready .any ops listed = [] := by
        cases hr : Region.ready .any ops listed with
        | nil => rfl
        | cons x xs =>
          rw [hr] at hi
          have hlt : t % (x :: xs).length < (x :: xs).length := Nat.mod_lt _ (by simp)
          simp at hi
          simp at hlt
          omega
      simp only [List.reverse_nil]
      refine drawn_end hF h fun i hi => ?_
      -- the first that is not listed would be ready
      have key : ∀ n i, i ≤ n → i < ops.size → D i = true := by
        intro n
        induction n using Nat.strongRecOn with
        | ind n ihn =>
          intro i hin hi
          cases hDi : D i with
          | true => rfl
          | false =>
            have : i ∈ Region.ready .any ops listed := by
              unfold Region.ready
              simp only [List.mem_filter, List.mem_range, Bool.and_eq_true, Bool.not_eq_true']
              refine ⟨hi, ?_, ?_⟩
              · have hlt : i < listed.size := by omega
                rw [← hD] at hDi
                simp only [Array.getD_eq_getD_getElem?, Array.getElem?_eq_getElem hlt, Option.getD_some] at hDi ⊢
                exact hDi
              · rw [Array.getElem?_eq_getElem hi]
                simp only [Option.map_some, Option.getD_some, Array.all_eq_true']
                intro e he
                cases hb : Region.binds .any e with
                | false => rfl
                | true =>
                  have hlt := hF.back i ops[i] (Array.getElem?_eq_getElem hi) e (by simpa using he) hb
                  have := ihn e.on (by omega) e.on (Nat.le_refl _) (by omega)
                  rw [← hD] at this
                  simp [this]
            rw [hnil] at this
            cases this
      exact key i i (Nat.le_refl _) hi
    | some i =>
      simp only []
      rw [linearise_go_acc, List.reverse_singleton, List.singleton_append]
      obtain ⟨o, ho, hlt, hli, hpre⟩ := hready_mem i (List.mem_of_getElem? hi)
      obtain ⟨d, hdd, hdi⟩ := hF.all i hlt
      subst hdi
      have hDi : D d.i = false := by rw [← hD]; simp [hli]
      have hready : ∀ j, d.b.testBit j = true → D j = true := by
        intro j hj
        obtain ⟨e, e1, e2, e3⟩ := hF.bits d hdd o ho j hj
        rcases e3 with rfl | ⟨d', q1, q2, q3⟩
        · exact hpre e e1 e2
        · exact h.closedD d' q1 (by rw [q2]; exact hpre e e1 e2) j q3
      have hsz' : (listed.setIfInBounds d.i true).size = ops.size := by simpa using hsz
      have hD' : ∀ j, (listed.setIfInBounds d.i true).getD j false = updD D d.i j := by
        intro j
        rw [listed_get _ _ _ (by omega), hD]; rfl
      have hcnt' : (listed.setIfInBounds d.i true).toList.countP (fun x => !x) ≤ fuel := by
        have := count_set listed.toList d.i (by simpa using hli)
        rw [Array.toList_setIfInBounds]
        omega
      cases heff : d.eff with
      | false =>
        have hdone : done.testBit d.i = true := by
          cases hc : done.testBit d.i with
          | true => rfl
          | false =>
            exfalso
            have hs := first_none hrdy d ((h.rem d).2 ⟨hdd, hc⟩) heff
            have hr : Go.Ab.sub d.b done = true := by
              rw [sub_spec]
              intro j hj
              obtain ⟨e, e1, e2, e3⟩ := hF.bits d hdd o ho j hj
              have hjs : j < ops.size := by
                have key : ∀ n, ∀ d ∈ ds, d.i ≤ n → ∀ j, d.b.testBit j = true → j < d.i := by
                  intro n
                  induction n with
                  | zero =>
                    intro d hd hi j hj
                    obtain ⟨o, ho, _⟩ := hF.op d hd
                    obtain ⟨e, e1, e2, e3⟩ := hF.bits d hd o ho j hj
                    have := hF.back _ o ho e e1 e2
                    omega
                  | succ n ih =>
                    intro d hd hi j hj
                    obtain ⟨o, ho, _⟩ := hF.op d hd
                    obtain ⟨e, e1, e2, e3⟩ := hF.bits d hd o ho j hj
                    have hb := hF.back _ o ho e e1 e2
                    rcases e3 with rfl | ⟨d', q1, q2, q3⟩
                    · exact hb
                    · have := ih d' q1 (by omega) j q3
                      omega
                have := key d.i d hdd (Nat.le_refl _) j hj
                omega
              obtain ⟨d', hd', hi'⟩ := hF.all j hjs
              have := h.sub d' hd' (by rw [hi']; exact hready j hj)
              rw [hi'] at this; exact this
            rw [hs] at hr
            cases hr
        obtain ⟨μ', a', w', h', hst⟩ := inv_late hC hF h ⟨hdd, hdone, hDi, heff⟩ hready (Region.linearise.go .any ops fuel (t / (Region.ready .any ops listed).length) (listed.setIfInBounds d.i true) []) k cs
        obtain ⟨ω, R, q1, q2⟩ := ih (t / (Region.ready .any ops listed).length) (listed.setIfInBounds d.i true) _ done n reads l μ' s a' cu w' B hsz' hD' hcnt' h' hn hln ht hrdy
        exact ⟨ω, R, q1, .of_steps hst q2⟩
      | true =>
        obtain ⟨r, hf⟩ := eff_next hF h hdd heff hDi hready
        have hlen := first_len hf
        obtain ⟨o', ho', hs1, hl1, hef⟩ := hF.op d hdd
        rw [ho] at ho'; cases ho'
        have hop : d.s.op = C.op o := by rw [hs1]; rfl
        have hdst : d.s.dst = o.dst := by rw [hs1]; rfl
        have hchk : d.s.chk = false := by rw [hs1]; rfl
        have htl : effTail n done reads l = d.s :: canon n (Nat.lor done (2 ^ d.i)) reads [] (some d) r := by
          unfold effTail; rw [hf]
        -- what goes on behind it
        have rest : ∀ (s1 : AS) (μ1 : Mu) (a1 : Act) (cu1 : CU) (w1 : World), Inv C ds (updD D d.i) (Nat.lor done (2 ^ d.i)) r (fun e => e ∈ reads) μ0 H0 w0 cu0 μ1 s1 b cu1 a1 w1 B → (r.map (·.i)).Nodup → Track ds (Nat.lor done (2 ^ d.i)) reads →
            ∃ ω R, Orac AR.wo AR.nd (fun x => calm true (stepsA call inv (canon n (Nat.lor done (2 ^ d.i)) reads [] (some d) r) (s1.wo x))) ω R ∧
              ExR C μ0 H0 w0 b (lone (fat b a1 (.inRegion ops (Region.linearise.go .any ops fuel (t / (Region.ready .any ops listed).length) (listed.setIfInBounds d.i true) []) :: k)) (callersOf cs cu1) w1) k cs cu0 R := by
          intro s1 μ1 a1 cu1 w1 h1 hn1 ht1
          rcases adv_all (call := call) (inv := inv) hF n _ reads [] (some d) r s1 B h1 hn1 (by omega) (by simpa using ht1) with ⟨why, hb⟩ | ⟨n', done', fresh', l', s2, B2, h2, hn2, hl2, ht2, hr2, hx2⟩
          · exact ⟨[], .bad why, .pure (fun x => by rw [hb]; rfl) rfl, trivial⟩
          · rcases chk_all (call := call) (inv := inv) (s := s2) (effTail n' done' (fresh' ++ reads) l') d reads ht1.2 with ⟨why, hb⟩ | ⟨hg, hx3⟩
            · exact ⟨[], .bad why, .pure (fun x => by rw [hx2]; simp only [checksO]; rw [hb]; rfl) rfl, trivial⟩
            · have h3 : Inv C ds (updD D d.i) done' l' (fun _ => False) μ0 H0 w0 cu0 μ1 s2 b cu1 a1 w1 B2 := by
                refine h2.unold fun e he hk ho => ?_
                cases hb : d.b.testBit e.i with
                | false => exact hg e ho hb
                | true =>
                  have := h2.closedD d hdd (updD_self D d.i) _ hb
                  rw [he.2.2.1] at this; cases this
              obtain ⟨ω, R, q1, q2⟩ := ih (t / (Region.ready .any ops listed).length) (listed.setIfInBounds d.i true) _ done' n' (fresh' ++ reads) l' μ1 s2 a1 cu1 w1 B2 hsz' hD' hcnt' h3 hn2 hl2 ht2 hr2
              refine ⟨ω, R, ?_, q2⟩
              have hfun : (fun x => calm true (stepsA call inv (canon n (Nat.lor done (2 ^ d.i)) reads [] (some d) r) (s1.wo x))) = fun x => calm true (stepsA call inv (effTail n' done' (fresh' ++ reads) l') (s2.wo x)) := by
                funext x
                rw [hx2]
                simp only [checksO]
                rw [hx3]
              rw [hfun]
              exact q1
        rw [htl]
        have hcons : ∀ x, stepsA call inv (d.s :: canon n (Nat.lor done (2 ^ d.i)) reads [] (some d) r) (s.wo x) = cond (wantedA s.tm d.s.guard) (thenA (stepsA call inv (canon n (Nat.lor done (2 ^ d.i)) reads [] (some d) r)) (runOp call (s.wo x) d.s.dst (step1 s.tm (s.H.wo x) d.s.op) inv)) (stepsA call inv (canon n (Nat.lor done (2 ^ d.i)) reads [] (some d) r) ((s.wo x).put d.s.dst undefA)) := fun x => stepsA_cons _ _ _ _ _ hchk
        have hwt := h.wants hF hdd ho hready
        cases hw : Region.wanted o (yielded ops a.tmps) with
        | false =>
          rw [hw] at hwt
          have hstep := fstep_op_skip (P := C.P) (b := b) (a := a) (k := k) (cs := callersOf cs cu) (w := w) (ops := ops) (i := d.i) (rest := Region.linearise.go .any ops fuel (t / (Region.ready .any ops listed).length) (listed.setIfInBounds d.i true) []) (by simp [ho, hw])
          simp only [ho, Option.bind_some] at hstep
          obtain ⟨p1, p2, p3, p4⟩ := AS.put_parts s d.s.dst undefA
          obtain ⟨g1, g2, g3⟩ := h.eff hF hn hf hready ht (s' := s.put d.s.dst undefA) (μ' := μ) (D' := a.defers) (w' := w) (cu' := cu) (v := undefA) (v' := undef) (AS.put_self _ _ _) (.undef μ) (by rw [p1]; exact h.hp) (by rw [p1]; exact Go.refl _ _ _) (by rw [p2]; exact h.dfs) (by rw [p3]; exact h.up) Iff.rfl
          obtain ⟨ω, R, q1, q2⟩ := rest _ _ _ _ _ g1 g2 g3
          refine ⟨ω, R, ?_, .of_steps (.one hstep) (by rw [← hdst]; exact q2)⟩
          have hfun : (fun x => calm true (stepsA call inv (d.s :: canon n (Nat.lor done (2 ^ d.i)) reads [] (some d) r) (s.wo x))) = fun x => calm true (stepsA call inv (canon n (Nat.lor done (2 ^ d.i)) reads [] (some d) r) ((s.put d.s.dst undefA).wo x)) := by
            funext x
            rw [hcons, hwt, cond_false, AS.put_wo]
          rw [hfun]
          exact q1
        | true =>
          rw [hw] at hwt
          by_cases hselq : ∃ sc bl, o.op = .select sc bl
          · obtain ⟨sc, bl, hsel⟩ := hselq
            have hb : d.s.op = .bad "operation" := by rw [hop]; simp only [Ctx.op, hsel]
            refine ⟨[], .bad "operation", .pure (fun x => ?_) rfl, trivial⟩
            rw [hcons, hwt, cond_true, hb]
            rfl
          have hsel : ∀ sc bl, o.op ≠ .select sc bl := fun sc bl hx => hselq ⟨sc, bl, hx⟩
          obtain ⟨tm1, a1, hrho, hst, hex, hflt, _⟩ := h.ctx hF hdd ho hsel hready
          obtain ⟨ω1, R1, h1, h2⟩ := op_run (k := k) (rest := Region.linearise.go .any ops fuel (t / (Region.ready .any ops listed).length) (listed.setIfInBounds d.i true) []) hC hcall hinv h.gl h.hp h.up h.dfs h.rd (htop.kin h.kin) ho hw hrho hst hex
          rw [← hop, ← hdst] at h1
          have hfun : (fun x => calm true (stepsA call inv (d.s :: canon n (Nat.lor done (2 ^ d.i)) reads [] (some d) r) (s.wo x))) = fun x => calm true (thenA (stepsA call inv (canon n (Nat.lor done (2 ^ d.i)) reads [] (some d) r)) (runOp call (s.wo x) d.s.dst (step1 s.tm (s.H.wo x) d.s.op) inv)) := by
            funext x
            rw [hcons, hwt, cond_true]
          rw [hfun]
          cases R1 with
          | need n => exact absurd h1.fine (by simp [AR.nd])
          | bad why =>
            obtain ⟨why', h3⟩ := calm_then (f := stepsA call inv (canon n (Nat.lor done (2 ^ d.i)) reads [] (some d) r)) h1 (fun s hx => by cases hx) (fun e s hx => by cases hx)
            exact ⟨ω1, _, h3, trivial⟩
          | ok e s1 =>
            cases e with
            | normal =>
              obtain ⟨μ', v, v', D', cu', w', q1, q2, q3, q4, q5, q6, q7, q8⟩ := h2
              rw [← hdst] at q1 q8
              obtain ⟨g1, g2, g3⟩ := h.eff hF hn hf hready ht q1 q2 q3 q4 q5 q6 q7
              obtain ⟨ω2, R2, r1, r2⟩ := rest _ _ _ _ _ g1 g2 g3
              exact ⟨ω1 ++ ω2, R2, calm_seq h1 r1, .of_steps q8 r2⟩
            | panic pl =>
              obtain ⟨why', h3⟩ := calm_then (f := stepsA call inv (canon n (Nat.lor done (2 ^ d.i)) reads [] (some d) r)) h1 (fun s hx => by cases hx) (fun e s hx => by cases hx; exact ⟨_, rfl⟩)
              exact ⟨ω1, _, h3, trivial⟩
            | exit n => exact h2.elim
            | goto n => exact h2.elim
            | ret => exact h2.elim
end
end Go.Ab

set_option linter.unusedSimpArgs false
set_option linter.unusedVariables false
namespace Go.Ab

theorem mkD_nums (C : Ctx) (ops : Array Oper) : ∀ (l : List Oper) (bs : List Nat) (i : Nat), ((mkD C ops i l bs).map (·.i)).Nodup ∧ (∀ x ∈ (mkD C ops i l bs).map (·.i), i ≤ x) ∧ (mkD C ops i l bs).length ≤ l.length := by
  intro l
  induction l with
  | nil => intro bs i; simp [mkD]
  | cons o l ih =>
    intro bs i
    cases bs with
    | nil => simp [mkD]
    | cons m bs =>
      obtain ⟨h1, h2, h3⟩ := ih bs (i + 1)
      simp only [mkD, List.map_cons, List.nodup_cons, List.mem_cons, List.length_cons]
      refine ⟨⟨fun hm => ?_, h1⟩, ?_, by omega⟩
      · have := h2 _ hm; omega
      · rintro x (rfl | hx)
        · exact Nat.le_refl _
        · have := h2 x hx; omega

theorem markD_nums (l : List DOp) : (markD l).map (·.i) = l.map (·.i) := by
  unfold markD
  rw [List.map_map]
  apply List.map_congr_left
  intro d _
  simp only [Function.comp]
  cases over d l <;> rfl

theorem dops_nums (C : Ctx) (ops : Array Oper) : ((C.dops ops).map (·.i)).Nodup ∧ (C.dops ops).length ≤ ops.size := by
  obtain ⟨h1, _, h3⟩ := mkD_nums C ops ops.toList (beforeOf ops.toList []) 0
  unfold Ctx.dops
  rw [markD_nums]
  refine ⟨h1, ?_⟩
  simp only [markD, List.length_map]
  simpa using h3

section
variable {C : Ctx} {μ : Mu} {s : AS} {w : World} {b : Frame} {a : Act} {cs : List Frame} {cu : CU} {k : List Item}
variable {call : UM → AV → List AV → AHeap → CR} {inv : AV → String → Option AV}

theorem region_run (hC : CtxOk C) (hcall : CallSim C call) (hinv : InvSim C inv) (id : Nat) (ops : Array Oper) (draw : Bool) (hs : SR C μ s b cu a w) (ht : TopOk b cu cs) :
    ∃ ω R, Orac AR.wo AR.nd (fun x => calm draw (stepsA call inv (C.region ops draw) (s.wo x))) ω R ∧
      ExR C μ s.H w b (lone (fat b a (.code (.region id ops draw) :: k)) (callersOf cs cu) w) k cs cu R := by
  cases draw with
  | false =>
    obtain ⟨ω, R, h1, h2⟩ := plain_steps (k := k) (ops := ops) hC hcall hinv (List.range ops.size) μ s w a cu hs ht
    refine ⟨ω, R, ?_, .of_steps (.one fstep_region) h2⟩
    rw [filterMap_range] at h1
    exact h1
  | true =>
    unfold Ctx.region
    simp only [cond_true]
    cases hb : (backOk 0 ops.toList && regionOk (C.dops ops)) with
    | false => exact ⟨[], .bad "region: unordered", .pure (fun x => rfl) rfl, trivial⟩
    | true =>
      simp only [cond_true]
      simp only [Bool.and_eq_true] at hb
      have hF := dops_facts C ops hb.1 hb.2
      obtain ⟨hn, hlen⟩ := dops_nums C ops
      have hnone : ∀ d, ¬ Pend (C.dops ops) 0 (fun _ => false) d := by
        rintro d ⟨_, h, _⟩
        simp at h
      have h0 : Inv C (C.dops ops) (fun _ => false) 0 (C.dops ops) (fun _ => False) μ s.H w cu μ s b cu a w.drew (fun _ => 0) := by
        refine ⟨fun d => (by simp), fun d _ h => (by cases h), fun d _ _ h => (by simp at h), fun d _ h => (by simp at h), fun d _ h => (by cases h), hs.gl, hs.ds, hs.hp.drew, hs.up, hs.rd, Go.drew (Go.refl _ _ _), Iff.rfl, by simpa using hs.tm.1, ?_, fun d h => absurd h (hnone d), fun d e h => absurd h (hnone d)⟩
        intro t v v' h1 h2
        right
        obtain ⟨v2, q1, q2⟩ := hs.tm.get h1
        have : a.tmps[t]? = some v2 := by simpa using q1
        rw [this] at h2; cases h2
        exact q2
      have hstep := fstep_region_draw (P := C.P) (b := b) (a := a) (k := k) (cs := callersOf cs cu) (w := w) (id := id) (ops := ops)
      have hsch : Region.schedule (C.P.follows .mixedOrders) ops (w.tape w.drawn (.order b.fn id)) = Region.linearise.go .any ops ops.size (w.tape w.drawn (.order b.fn id)) (Array.replicate ops.size false) [] := by
        unfold Region.schedule
        rw [hC.mixed]
        simp only [Bool.true_or, if_true]
        rfl
      rw [hsch] at hstep
      rcases adv_all (call := call) (inv := inv) hF (ops.size + 1) 0 [] [] none (C.dops ops) s (fun _ => 0) h0 hn (by omega) ⟨fun e _ h => (by simp at h), fun e he => (by cases he)⟩ with
        ⟨why, hbad⟩ | ⟨n', done', fresh', l', s', B', h1, h2, h3, h4, h5, h6⟩
      · exact ⟨[], .bad why, .pure (fun x => by rw [hbad]; rfl) rfl, trivial⟩
      · obtain ⟨ω, R, q1, q2⟩ := drawn_main (k := k) hC hcall hinv hF ht ops.size (w.tape w.drawn (.order b.fn id)) (Array.replicate ops.size false) (fun _ => false) done' n' (fresh' ++ []) l' μ s' a cu w.drew B'
          (by simp) (fun i => by simp [Array.getD_eq_getD_getElem?, Array.getElem?_replicate]; split <;> rfl) (by simpa using List.countP_le_length (p := fun x => !x) (l := (Array.replicate ops.size false).toList)) h1 h2 h3 h4 h5
        refine ⟨ω, R, ?_, .of_steps (.one hstep) q2⟩
        have hfun : (fun x => calm true (stepsA call inv (canon (ops.size + 1) 0 [] [] none (C.dops ops)) (s.wo x))) = fun x => calm true (stepsA call inv (effTail n' done' (fresh' ++ []) l') (s'.wo x)) := by
          funext x
          rw [h6]; rfl
        rw [hfun]
        exact q1
end
end Go.Ab
