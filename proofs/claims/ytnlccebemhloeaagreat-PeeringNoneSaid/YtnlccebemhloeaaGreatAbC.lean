/- Proved here: iterators, append, copy, calls: every operation of the abstract machine is one of the model; what is made late: each under the conditions that it states. -/
import Derived.Test.YtnlccebemhloeaaGreatAbB
import Derived.Laws.AppendOwn
set_option linter.all false
set_option linter.unusedSimpArgs false
set_option linter.unusedVariables false
namespace Go.Ab

def AHeap.wo (H : AHeap) (x : List Nat) : AHeap := { H with om := x }
def OR.wo (x : List Nat) : OR → OR
  | .val v H => .val v (H.wo x)
  | .panic v H => .panic v (H.wo x)
  | r => r

section
variable {C : Ctx} {μ : Mu} {H : AHeap} {w : World} {tm : List AV} {ρ : Operand → Value}

/-- An operation, whatever the choices to come behind those that it takes; with fewer of them it asks for the next one. -/
def OpSim (P : Program) (μ : Mu) (H : AHeap) (w : World) (tm : List AV) (aop : AOp) (res : Result Next) : Prop :=
  ∃ ω r, (∀ rest, step1 tm (H.wo (ω ++ rest)) aop = r.wo rest) ∧ (∀ i (h : i < ω.length), ∃ k, step1 tm (H.wo (ω.take i)) aop = .need k ∧ ω[i] < k) ∧
    (∀ k, r ≠ .need k) ∧ (ω = [] ∨ ∃ v H', r = .val v H') ∧ OpOk P μ H w r res

theorem filter_only : ∀ (z : List MapEntry) (c : Nat) (h : c < z.length), (z.map (·.born)).Nodup → z.filter (fun e => e.born ≠ z[c].born) = z.eraseIdx c := by
  intro z
  induction z with
  | nil => intro c h; simp at h
  | cons e z ih =>
    intro c h hn
    simp only [List.map_cons, List.nodup_cons] at hn
    cases c with
    | zero =>
      simp only [List.getElem_cons_zero, List.eraseIdx_cons_zero]
      rw [List.filter_cons_of_neg (by simp)]
      apply List.filter_eq_self.2
      intro x hx
      simp
      intro hb
      exact hn.1 (by rw [← hb]; exact List.mem_map_of_mem hx)
    | succ c =>
      simp only [List.getElem_cons_succ, List.eraseIdx_cons_succ]
      have hc : c < z.length := by simpa using h
      rw [List.filter_cons_of_pos]
      · rw [ih c hc hn.2]
      · simp
        intro hb
        exact hn.1 (by rw [hb]; exact List.mem_map_of_mem (List.getElem_mem hc))

theorem ERel.eraseIdx {x : List (AV × AV)} {y : List MapEntry} (h : ERel μ x y) : ∀ c, ERel μ (x.eraseIdx c) (y.eraseIdx c) := by
  induction x generalizing y with
  | nil => intro c; rw [h.nil_inv]; simpa using h.nil_inv ▸ h
  | cons a x ih =>
    intro c
    obtain ⟨e, z, rfl, h1, h2, h3⟩ := h.cons_inv
    cases c with
    | zero => simpa using h3
    | succ c => simp only [List.eraseIdx_cons_succ]; exact ERel.cons h1 h2 (ih h3 c)

theorem sim_range (hC : CtxOk C) (hr : Rho C.ng μ tm ρ) (hh : HRel C.P μ H w) (t : TypeId) (x : Operand) :
    OpOk C.P μ H w (step1 tm H (match C.und t with
    | some .string => w1 C.ng x (.range true)
    | some (.map _ _) => w1 C.ng x (.range false)
    | _ => .bad "range")) ((do pure (Next.value (← Instr.range t (ρ x))) : Sem Next).run C.P w) := by
  split
  · rename_i ht
    have hu := hC.und ht
    unfold w1
    split
    · rename_i a ha
      have hv := hr _ _ ha
      simp only [step1]
      split
      · rename_i s e
        rw [e] at hv
        obtain ⟨bs, hp, e2⟩ := hv.str_inv
        simp only [cond]
        obtain ⟨h3, h4⟩ := hh.alloc (.siter s 0) (.stringIter bs 0) 0 ⟨bs, rfl, e2, rfl⟩ (fun m ver left last e => by cases e)
        refine ⟨_, .pointer (some ⟨w.heap.size, 0, none⟩), _, .inl (run_v _ ?_), VRel.ptr (μ := μ.upd H.nx ⟨w.heap.size, 0, 0⟩) H.nx 0 _ (Mu.upd_self _ _ _), h3, h4⟩
        rw [hp]
        simp only [Instr.range, Sem.run_bind, run_underlying' hu, Result.andThen_ok, Sem.run_pure]
        rfl
      · simp only [cond]; trivial
      · simp only [cond]; trivial
      · trivial
    · trivial
  · rename_i kt et ht
    have hu := hC.und ht
    unfold w1
    split
    · rename_i a ha
      have hv := hr _ _ ha
      simp only [step1]
      split
      · simp only [cond]; trivial
      · rename_i e
        rw [e] at hv
        simp only [cond]
        obtain ⟨h3, h4⟩ := hh.alloc (.miter none 0 [] none) (.mapIter none 0 #[] 0) 0 ⟨0, #[], 0, rfl, rfl⟩ (fun m ver left last e => by cases e)
        refine ⟨_, .pointer (some ⟨w.heap.size, 0, none⟩), _, .inl (run_v _ ?_), VRel.ptr (μ := μ.upd H.nx ⟨w.heap.size, 0, 0⟩) H.nx 0 _ (Mu.upd_self _ _ _), h3, h4⟩
        rw [hv.nilMap_inv]
        simp only [Instr.range, Sem.run_bind, run_underlying' hu, Result.andThen_ok, Sem.run_pure]
        rfl
      · rename_i bl e
        rw [e] at hv
        obtain ⟨l, hl, hp⟩ := hv.map_inv
        simp only [cond]
        split
        · rename_i es ver hg
          obtain ⟨es', clock, g1, g2, g3, g4⟩ := hh.map hl hg
          have hlt := (hh.lt _ _ hl)
          have hold : ({ w with heap := w.heap.push (.mapIter (some l.blk) clock #[] clock) } : World).heap[l.blk]? = w.heap[l.blk]? := by
            simp only
            rw [Array.getElem?_push, if_neg (by omega)]
          obtain ⟨h3, h4⟩ := hh.alloc (.miter (some bl) ver es none) (.mapIter (some l.blk) clock #[] clock) 0 rfl (fun m ver' left last e => by
            cases e
            refine ⟨l, es', clock, clock, #[], clock, Mu.upd_le _ hh.none_nx _ _ hl, by simp, ?_, g4, rfl, fun h => absurd rfl h, (fun b hb => by simp at hb), (fun e he => by cases he), fun xs v hx => ?_⟩
            · have : (es'.toList.filter fun e => !(#[] : Array Nat).contains e.born) = es'.toList := by
                apply List.filter_eq_self.2
                intro x _
                simp
              rw [this]
              exact g3.mono (Mu.upd_le _ hh.none_nx)
            · rw [AHeap.get_new, if_neg (by omega), hg] at hx
              cases hx
              exact ⟨Nat.le_refl _, fun _ => hold.trans g1⟩)
          refine ⟨_, .pointer (some ⟨w.heap.size, 0, none⟩), _, .inl (run_v _ ?_), VRel.ptr (μ := μ.upd H.nx ⟨w.heap.size, 0, 0⟩) H.nx 0 _ (Mu.upd_self _ _ _), h3, h4⟩
          rw [hp]
          simp only [Instr.range, Sem.run_bind, run_underlying' hu, Result.andThen_ok, run_getObj_map g1, Sem.run_pure]
          rfl
        · trivial
      · trivial
    · trivial
  · trivial

theorem run_getObj_it {P : Program} {k : Nat} {m : Option Nat} {a : Nat} {s : Array Nat} {b : Nat} (h : w.heap[k]? = some (.mapIter m a s b)) : (getObj k).run P w = .ok (.mapIter m a s b) w := by
  simp [getObj, Sem.run, h]
theorem run_setObj_it {P : Program} {k : Nat} {m : Option Nat} {a : Nat} {s : Array Nat} {b : Nat} (h : w.heap[k]? = some (.mapIter m a s b)) (o : Obj) : (setObj k o).run P w = .ok () { w with heap := w.heap.setIfInBounds k o } := by
  simp [setObj, Sem.run, h]
theorem run_getObj_si {P : Program} {k : Nat} {s : ByteArray} {b : Nat} (h : w.heap[k]? = some (.stringIter s b)) : (getObj k).run P w = .ok (.stringIter s b) w := by
  simp [getObj, Sem.run, h]
theorem run_setObj_si {P : Program} {k : Nat} {s : ByteArray} {b : Nat} (h : w.heap[k]? = some (.stringIter s b)) (o : Obj) : (setObj k o).run P w = .ok () { w with heap := w.heap.setIfInBounds k o } := by
  simp [setObj, Sem.run, h]

/-- The step of an iterator over a map. -/
theorem next_map (hh : HRel C.P μ H w) {b : Nat} {l : Loc} {m ver : Nat} {left : List (AV × AV)} {last : Option (AV × AV)} (hb : μ b = some l) (hg : H.get b = some (.miter (some m) ver left last))
    {xs : List (AV × AV)} (hm : H.get m = some (.map xs ver)) (ty : TypeId) :
    (left = [] → (Instr.next (.pointer (some ⟨l.blk, 0, none⟩)) false ty).run C.P w = .ok (.tuple #[.bool false]) w) ∧
    (left ≠ [] → ∃ c p, left[c]? = some p ∧ ∃ (e : MapEntry) (w0 w' : World), w0.heap = w.heap ∧ (Instr.next (.pointer (some ⟨l.blk, 0, none⟩)) false ty).run C.P w = .ok (.tuple #[.bool true, e.key, e.val]) w' ∧
      VRel μ p.1 e.key ∧ VRel μ p.2 e.val ∧ HRel C.P μ (H.put b (.miter (some m) ver (left.eraseIdx c) (some p))) w' ∧ Go μ H w μ (H.put b (.miter (some m) ver (left.eraseIdx c) (some p))) w') := by
  obtain ⟨lm, es, clock, since, seen, stepped, h1, h2, h3, h4, h5, h6, h6b, h7, h8⟩ := hh.it b l m ver left last hb hg
  obtain ⟨_, h9⟩ := h8 xs ver hm
  have hmap := h9 rfl
  subst h5
  obtain ⟨z, hz1, hz2⟩ := h3
  have hchk : (!seen.isEmpty && !es.isEmpty && es.all (fun e => decide (e.born ≥ stepped))) = false := by
    cases hs : seen.isEmpty
    · cases he : es.isEmpty
      · simp only [Bool.not_false, Bool.true_and]
        have hst := h6 (by intro e; rw [e] at hs; simp at hs)
        subst hst
        have hne : 0 < es.size := by
          rcases Nat.eq_zero_or_pos es.size with h | h
          · simp [Array.isEmpty, h] at he
          · exact h
        apply Bool.eq_false_iff.2
        intro hall
        have := Array.all_eq_true.1 hall 0 hne
        have h0 := h4.2 es[0] (by simp)
        simp at this
        omega
      · simp
    · simp
  let lf := es.filter fun e => !seen.contains e.born
  have hlf : lf.toList = es.toList.filter fun e => !seen.contains e.born := by simp [lf]
  have hold : lf.filter (fun e => decide (e.born < since)) = lf := by
    apply Array.filter_eq_self.2
    intro e he
    have : e ∈ es := by
      have := Array.mem_filter.1 he
      exact this.1
    simpa using h4.2 e (by simpa using this)
  have hnew : lf.filter (fun e => decide (e.born ≥ since)) = #[] := by
    apply Array.filter_eq_empty_iff.2
    intro e he
    have : e ∈ es := (Array.mem_filter.1 he).1
    have := h4.2 e (by simpa using this)
    simp; omega
  have hlen : left.length = lf.size := by
    have a1 := hz2.1
    have a2 := hz1.length_eq
    rw [← hlf] at a2
    simp at a2; omega
  have hrun0 : (Instr.next (.pointer (some ⟨l.blk, 0, none⟩)) false ty).run C.P w = ((do
      match ((if lf.isEmpty then #[none] else #[]) ++ (lf ++ #[]).map some)[← choose (.mapNext ((if lf.isEmpty then #[none] else #[]) ++ (lf ++ #[]).map some).size)]? with
      | some (some e) =>
        setObj l.blk (.mapIter (some lm.blk) since (seen.push e.born) since)
        pure (.tuple #[.bool true, e.key, e.val])
      | some none => pure (.tuple #[.bool false])
      | none => stuck "Next: no such candidate" : Sem Value)).run C.P w := by
    simp only [Instr.next, Sem.run_bind, run_getObj_it h2, run_getObj_map hmap, Result.andThen_ok, hchk, Bool.false_eq_true, if_false]
    have e1 : (es.filter fun e => !seen.contains e.born) = lf := rfl
    simp only [e1, hold, hnew, Sem.run_bind]
    rfl
  constructor
  · intro he
    subst he
    have hlf0 : lf = #[] := by
      apply Array.eq_empty_of_size_eq_zero
      simpa using hlen.symm
    rw [hrun0, hlf0]
    simp [Question.forced]
  · intro hne
    have hpos : 0 < lf.size := by
      rw [← hlen]
      exact List.length_pos_iff.2 hne
    have hnemp : lf.isEmpty = false := by
      cases h : lf.isEmpty
      · rfl
      · have := Array.isEmpty_iff.1 h
        rw [this] at hpos; simp at hpos
    have hc2 : ((if lf.isEmpty then #[none] else #[]) ++ (lf ++ #[]).map some : Array (Option MapEntry)) = lf.map some := by
      rw [hnemp]; simp
    -- what is drawn
    obtain ⟨idx, w0, hidx, hw0, hch⟩ : ∃ (idx : Nat) (w0 : World), idx < lf.size ∧ (w0 = w ∨ w0 = { w with drawn := w.drawn + 1 }) ∧ (choose (.mapNext (lf.map some).size)).run C.P w = .ok idx w0 := by
      rw [run_choose]
      cases hf : (Question.mapNext (lf.map some).size).forced
      · refine ⟨_, _, ?_, .inr rfl, rfl⟩
        simp only [Question.cut, Array.size_map]
        exact Nat.mod_lt _ hpos
      · exact ⟨0, w, hpos, .inl rfl, rfl⟩
    have hw0h : w0.heap = w.heap := by rcases hw0 with h | h <;> rw [h]
    have hmem : lf[idx] ∈ z := by
      have : lf[idx] ∈ lf.toList := by simp
      rw [hlf] at this
      exact hz1.symm.subset this
    obtain ⟨c, hc, hce⟩ := List.getElem_of_mem hmem
    have hcl : c < left.length := by rw [hz2.1]; exact hc
    refine ⟨c, left[c], List.getElem?_eq_getElem hcl, lf[idx], w0, { w0 with heap := w0.heap.setIfInBounds l.blk (.mapIter (some lm.blk) since (seen.push lf[idx].born) since) }, hw0h, ?_, ?_, ?_, ?_⟩
    · rw [hrun0, hc2]
      simp only [Sem.run_bind, hch, Result.andThen_ok]
      have : (lf.map some)[idx]? = some (some lf[idx]) := by simp [hidx]
      simp only [this, Sem.run_bind]
      have h2' : w0.heap[l.blk]? = some (.mapIter (some lm.blk) since seen stepped) := by rw [hw0h]; exact h2
      simp only [run_setObj_it h2', Result.andThen_ok, Sem.run_pure]
    · rw [← hce]; exact (hz2.2 c hcl hc).1
    · rw [← hce]; exact (hz2.2 c hcl hc).2
    · have hh0 : HRel C.P μ H w0 := hh.env hw0h
      have hbase : l.base = 0 := by
        obtain ⟨o', _, ho⟩ := hh.obj b l _ hb hg (by simp)
        exact ho
      have hmne : m ≠ b := by intro e; subst e; rw [hg] at hm; cases hm
      have hblk : l.blk ≠ lm.blk := hh.inj b m l lm hb h1 (Ne.symm hmne) ⟨_, hg, by simp⟩ ⟨_, hm, by simp⟩
      have key := hh0.updG hb ⟨_, hg, by simp⟩ (.miter (some m) ver (left.eraseIdx c) (some left[c])) (.mapIter (some lm.blk) since (seen.push lf[idx].born) since) hbase (fun m' ver' left' last' e => by
        cases e
        have hlt := (hh.lt _ _ hb).2
        refine ⟨lm, es, since, since, seen.push lf[idx].born, since, h1, by simp [hw0h, hlt], ?_, h4, rfl, fun _ => rfl, fun x hx => ?_, fun e he => ?_, fun xs' v hx => ?_⟩
        · refine ⟨z.eraseIdx c, ?_, hz2.eraseIdx c⟩
          have hnd : (z.map (·.born)).Nodup := by
            have a1 : ((es.toList.filter fun e => !seen.contains e.born).map (·.born)).Nodup := h4.1.sublist (List.Sublist.map _ List.filter_sublist)
            exact (hz1.map (·.born)).nodup_iff.2 a1
          rw [← filter_only z c hc hnd, hce]
          have a2 := hz1.filter (fun e => decide (e.born ≠ lf[idx].born))
          have a3 : (es.toList.filter fun e => !seen.contains e.born).filter (fun e => decide (e.born ≠ lf[idx].born)) = es.toList.filter fun e => !(seen.push lf[idx].born).contains e.born := by
            rw [List.filter_filter]
            congr 1
            funext e
            rw [Bool.eq_iff_iff]
            simp [Array.contains_push]
            exact And.comm
          rw [a3] at a2
          simpa using a2
        · rcases Array.mem_push.1 hx with h | h
          · exact h6b x h
          · exact ⟨lf[idx], (Array.mem_filter.1 (Array.getElem_mem hidx)).1, h.symm⟩
        · cases he
          refine ⟨lf[idx], (Array.mem_filter.1 (Array.getElem_mem hidx)).1, by simp, ?_, ?_⟩
          · rw [← hce]; exact (hz2.2 c hcl hc).1
          · rw [← hce]; exact (hz2.2 c hcl hc).2
        · rw [AHeap.get_put, if_neg hmne] at hx
          rw [hm] at hx
          cases hx
          refine ⟨Nat.le_refl _, fun _ => ?_⟩
          simp only [hw0h]
          rw [Array.getElem?_setIfInBounds_ne hblk]
          exact hmap) (fun es1 v1 e1 => by cases e1)
      refine ⟨key.1, ?_⟩
      have g := key.2
      rcases hw0 with h | h
      · subst h; exact g
      · subst h
        exact ⟨g.ext, g.dom, g.new, g.size, g.frame, g.mn, g.nx, g.low, g.out, g.tape, g.os, g.output⟩
end
end Go.Ab

set_option linter.unusedSimpArgs false
set_option linter.unusedVariables false
namespace Go.Ab

section
variable {C : Ctx} {μ : Mu} {H : AHeap} {w : World} {tm : List AV} {ρ : Operand → Value}

theorem OpSim.bad (P : Program) (aop : AOp) (why : String) (res : Result Next) (h : ∀ x, step1 tm (H.wo x) aop = .bad why) : OpSim P μ H w tm aop res :=
  ⟨[], .bad why, fun rest => h _, fun i h => absurd h (by simp), fun k e => (by cases e), .inl rfl, trivial⟩

theorem ptr0 {b : Nat} {l : Loc} (h : l.base = 0) : (⟨l.blk, l.base + 0, none⟩ : Addr) = ⟨l.blk, 0, none⟩ := by rw [h]

theorem utf8_ascii (bs : ByteArray) (pos : Nat) {c : Nat} (h : pos < bs.size) (hc : (bs.data.toList.map UInt8.toNat)[pos]? = some c) (hlt : c < 128) : Utf8.decode bs pos = (c, 1) := by
  have e : (bs.get! pos).toNat = c := by
    simp at hc
    obtain ⟨x, hx, rfl⟩ := hc
    have : bs.get! pos = x := by
      show bs.data[pos]! = x
      have hx' : bs.data[pos]? = some x := by simpa using hx
      simp [getElem!_def, hx']
    rw [this]
  unfold Utf8.decode
  simp only [Nat.add_zero, e]
  rw [if_pos hlt]

theorem sim_next (hr : Rho C.ng μ tm ρ) (hh : HRel C.P μ H w) (x : Operand) (isStr : Bool) (ty : TypeId) :
    OpSim C.P μ H w tm (w1 C.ng x (.next isStr)) ((do pure (Next.value (← Instr.next (ρ x) isStr ty)) : Sem Next).run C.P w) := by
  unfold w1
  split
  · rename_i a ha
    have hv := hr _ _ ha
    have hcase : (∃ b o, a.ev tm = .ptr b o) ∨ (∀ x, step1 tm (H.wo x) (.next isStr a) = .bad "next") := by
      simp only [step1]
      cases hav : a.ev tm <;> first
        | exact .inl ⟨_, _, rfl⟩
        | exact .inr fun _ => rfl
    rcases hcase with ⟨b, o, hav⟩ | hbad
    case inr => exact OpSim.bad _ _ "next" _ hbad
    rw [hav] at hv
    obtain ⟨l, hl, hp⟩ := hv.ptr_inv
    cases o with
    | succ o => exact OpSim.bad _ _ "next" _ fun x => by simp only [step1, hav]
    | zero =>
      cases isStr with
      | true =>
        -- a text
        cases hg : H.get b with
        | none =>
          have hg' : ∀ x, (H.wo x).get b = none := fun x => hg
          exact OpSim.bad _ _ "next" _ fun x => by simp only [step1, hav, cond, hg']
        | some ob =>
          have hg' : ∀ x, (H.wo x).get b = some ob := fun x => hg
          have hcase : (∃ s pos, ob = .siter s pos) ∨ (∀ x, step1 tm (H.wo x) (.next true a) = .bad "next") := by
            simp only [step1, hav, cond, hg']
            cases ob <;> first
              | exact .inl ⟨_, _, rfl⟩
              | exact .inr fun _ => rfl
          rcases hcase with ⟨s, pos, rfl⟩ | hbad
          case inr => exact OpSim.bad _ _ "next" _ hbad
          obtain ⟨o', g1, bs, rfl, g2, g3⟩ := hh.obj b l _ hl hg (by simp)
          have hrunget := run_getObj_si (P := C.P) g1
          cases hpos : s[pos]? with
          | none =>
            refine ⟨[], .val (.tup [.bool false]) H, fun rest => by simp only [step1, hav, cond, hg', hpos]; rfl, fun i h => absurd h (by simp), fun k e => (by cases e), .inl rfl, ?_⟩
            refine OpOk.pure hh (VRel.tup_of (LRel.cons (.bool false) (LRel.nil μ))) (run_v _ ?_)
            rw [hp, g3]
            have hnot : ¬ pos < bs.size := by
              have := List.getElem?_eq_none_iff.1 hpos
              rw [g2] at this
              simp at this
              omega
            simp only [Instr.next, Nat.zero_add, Sem.run_bind, hrunget, Result.andThen_ok]
            rw [if_neg hnot]
            rfl
          | some c =>
            cases hlt : Nat.blt c 128 with
            | false => exact OpSim.bad _ _ "next: rune" _ fun x => by simp only [step1, hav, cond, hg', hpos, hlt]
            | true =>
              have hc : c < 128 := (ble_iff _ _).1 hlt
              have hposl : pos < bs.size := by
                have := (List.getElem?_eq_some_iff.1 hpos).1
                rw [g2] at this
                simpa using this
              obtain ⟨u1, u2⟩ := hh.upd hl ⟨_, hg, by simp⟩ (.siter s (pos + 1)) (.stringIter bs (pos + 1)) ⟨bs, rfl, g2, g3⟩ trivial (fun es v e => by cases e)
              refine ⟨[], .val (.tup [.bool true, .int .i64 (.ofNat pos), .int .i32 (.ofNat c)]) (H.put b (.siter s (pos + 1))), fun rest => by simp only [step1, hav, cond, hg', hpos, hlt]; rfl, fun i h => absurd h (by simp), fun k e => (by cases e), .inl rfl, ?_⟩
              refine ⟨μ, _, _, .inl (run_v _ ?_), VRel.tup_of (LRel.cons (.bool true) (LRel.cons (.int _ _) (LRel.cons (.int _ _) (LRel.nil μ)))), u1, u2⟩
              rw [hp, g3]
              have hdec := utf8_ascii bs pos hposl (by rw [← g2]; exact hpos) hc
              simp only [Instr.next, Nat.zero_add, Sem.run_bind, hrunget, Result.andThen_ok]
              rw [if_pos hposl]
              simp only [hdec, Sem.run_bind, run_setObj_si g1, Result.andThen_ok, Sem.run_pure]
              rfl
      | false =>
        cases hg : H.get b with
        | none =>
          have hg' : ∀ x, (H.wo x).get b = none := fun x => hg
          exact OpSim.bad _ _ "next: iterator" _ fun x => by simp only [step1, hav, cond, hg']
        | some ob =>
          have hg' : ∀ x, (H.wo x).get b = some ob := fun x => hg
          have hcase : (∃ m ver left last, ob = .miter m ver left last) ∨ (∀ x, step1 tm (H.wo x) (.next false a) = .bad "next: iterator") := by
            simp only [step1, hav, cond, hg']
            cases ob <;> first
              | exact .inl ⟨_, _, _, _, rfl⟩
              | exact .inr fun _ => rfl
          rcases hcase with ⟨m, ver, left, last, rfl⟩ | hbad
          case inr => exact OpSim.bad _ _ "next: iterator" _ hbad
          cases m with
          | none =>
            obtain ⟨o', g1, a', s', b', rfl, g3⟩ := hh.obj b l _ hl hg (by simp)
            refine ⟨[], .val (.tup [.bool false]) H, fun rest => by simp only [step1, hav, cond, hg']; rfl, fun i h => absurd h (by simp), fun k e => (by cases e), .inl rfl, ?_⟩
            refine OpOk.pure hh (VRel.tup_of (LRel.cons (.bool false) (LRel.nil μ))) (run_v _ ?_)
            rw [hp, g3]
            simp only [Instr.next, Nat.zero_add, Sem.run_bind, run_getObj_it g1, Result.andThen_ok, Sem.run_pure]
          | some m =>
            have hbase : l.base = 0 := by
              obtain ⟨o', _, ho⟩ := hh.obj b l _ hl hg (by simp)
              exact ho
            cases hm : H.get m with
            | none =>
              have hm' : ∀ x, (H.wo x).get m = none := fun x => hm
              exact OpSim.bad _ _ "next: map" _ fun x => by simp only [step1, hav, cond, hg', hm']
            | some om =>
              have hm' : ∀ x, (H.wo x).get m = some om := fun x => hm
              have hcase : (∃ xs v, om = .map xs v) ∨ (∀ x, step1 tm (H.wo x) (.next false a) = .bad "next: map") := by
                simp only [step1, hav, cond, hg', hm']
                cases om <;> first
                  | exact .inl ⟨_, _, rfl⟩
                  | exact .inr fun _ => rfl
              rcases hcase with ⟨xs, v, rfl⟩ | hbad
              case inr => exact OpSim.bad _ _ "next: map" _ hbad
              cases hbv : Nat.beq v ver with
              | false => exact OpSim.bad _ _ "next: the map is another one" _ fun x => by simp only [step1, hav, cond, hg', hm', hbv]
              | true =>
                have hvv := Nat.eq_of_beq_eq_true hbv
                subst hvv
                obtain ⟨n1, n2⟩ := next_map hh hl hg hm ty
                cases left with
                | nil =>
                  refine ⟨[], .val (.tup [.bool false]) (H.put b .dead), fun rest => by simp only [step1, hav, cond, hg', hm', hbv]; rfl, fun i h => absurd h (by simp), fun k e => (by cases e), .inl rfl, ?_⟩
                  refine ⟨μ, _, w, .inl (run_v _ ?_), VRel.tup_of (LRel.cons (.bool false) (LRel.nil μ)), hh.kill b (hh.lt _ _ hl).1, Go.kill hl⟩
                  rw [hp, ptr0 (b := 0) hbase]
                  exact n1 rfl
                | cons e es =>
                  obtain ⟨c, p, hcp, en, w0, w', hw0, hrun, k1, k2, k3, k4⟩ := n2 (by simp)
                  have hfin : OpOk C.P μ H w (.val (.tup [.bool true, p.1, p.2]) (H.put b (.miter (some m) v ((e :: es).eraseIdx c) (some p)))) ((do pure (Next.value (← Instr.next (ρ x) false ty)) : Sem Next).run C.P w) := by
                    refine ⟨μ, _, w', .inl (run_v _ ?_), VRel.tup_of (LRel.cons (.bool true) (LRel.cons k1 (LRel.cons k2 (LRel.nil μ)))), k3, k4⟩
                    rw [hp, ptr0 (b := 0) hbase]
                    exact hrun
                  cases es with
                  | nil =>
                    have hc0 : c = 0 := by
                      have := (List.getElem?_eq_some_iff.1 hcp).1
                      simp at this; exact this
                    subst hc0
                    simp at hcp
                    subst hcp
                    exact ⟨[], _, fun rest => by simp only [step1, hav, cond, hg', hm', hbv]; rfl, fun i h => absurd h (by simp), fun k e => (by cases e), .inl rfl, hfin⟩
                  | cons e2 es =>
                    refine ⟨[c], _, fun rest => ?_, fun i h => ⟨(e2 :: es).length + 1, ?_, ?_⟩, fun k e => (by cases e), .inr ⟨_, _, rfl⟩, hfin⟩
                    rotate_left
                    · have h0 : i = 0 := by simp at h; omega
                      subst h0
                      simp only [step1, hav, cond, hg', hm', hbv]
                      rfl
                    · have h0 : i = 0 := by simp at h; omega
                      subst h0
                      have := (List.getElem?_eq_some_iff.1 hcp).1
                      simpa using this
                    simp only [step1, hav, cond, hg', hm', hbv]
                    have hom : (H.wo ([c] ++ rest)).om = c :: rest := rfl
                    simp only [hom, hcp]
                    rfl
  · exact OpSim.bad _ _ "operand" _ fun x => rfl

theorem sim_entry (hr : Rho C.ng μ tm ρ) (hh : HRel C.P μ H w) (x : Operand) :
    OpOk C.P μ H w (step1 tm H (w1 C.ng x .entry)) ((do pure (Next.value (← Instr.entry (ρ x))) : Sem Next).run C.P w) := by
  unfold w1
  split
  · rename_i a ha
    have hv := hr _ _ ha
    simp only [step1]
    split
    · rename_i r el
      rw [el] at hv
      obtain ⟨l, hl, hp⟩ := hv.ptr_inv
      split
      · rename_i m ver left e hg
        split
        · rename_i xs clock hm
          cases hb : Nat.beq clock ver <;> simp only [cond]
          · trivial
          · have := Nat.eq_of_beq_eq_true hb
            subst this
            obtain ⟨lm, es, clock', since, seen, stepped, h1, h2, h3, h4, h5, h6, h6b, h7, h8⟩ := hh.it r l m _ left (some e) hl hg
            have hmap := (h8 xs _ hm).2 rfl
            obtain ⟨e', he1, he2, he3, he4⟩ := h7 e rfl
            have hbase : l.base = 0 := by
              obtain ⟨o', _, ho⟩ := hh.obj r l _ hl hg (by simp)
              exact ho
            refine OpOk.pure hh (VRel.tup_of (LRel.cons he3 (LRel.cons he4 (LRel.nil μ)))) (run_v _ ?_)
            rw [hp, hbase]
            have hst : stepped = clock' := h6 (by intro e; rw [e] at he2; simp at he2)
            subst hst
            have hfind : es.find? (fun x => x.born == e'.born) = some e' := by
              have hex : (es.find? (fun x => x.born == e'.born)).isSome := by
                rw [Array.find?_isSome]
                exact ⟨e', he1, by simp⟩
              obtain ⟨y, hy⟩ := Option.isSome_iff_exists.1 hex
              have hyb : y.born = e'.born := by simpa using Array.find?_some hy
              have hym : y ∈ es := Array.mem_of_find?_eq_some hy
              have : y = e' := by
                have hnd := h4.1
                obtain ⟨i, hi, hi2⟩ := List.getElem_of_mem (by simpa using hym : y ∈ es.toList)
                obtain ⟨j, hj, hj2⟩ := List.getElem_of_mem (by simpa using he1 : e' ∈ es.toList)
                have : i = j := by
                  refine (List.getElem_inj (i := i) (j := j) (h₀ := by simpa using hi) (h₁ := by simpa using hj) hnd).1 ?_
                  simp only [List.getElem_map, hi2, hj2]
                  exact hyb
                subst this
                rw [← hi2, ← hj2]
              rw [hy, this]
            simp only [Instr.entry, Nat.zero_add, Sem.run_bind, run_getObj_it h2, Result.andThen_ok, he2, run_getObj_map hmap, bne_self_eq_false, Bool.false_eq_true, if_false, hfind, Sem.run_pure]
        · trivial
      · trivial
    · trivial
  · trivial

theorem sim_assert (hC : CtxOk C) (hr : Rho C.ng μ tm ρ) (hh : HRel C.P μ H w) (x : Operand) (xt t : TypeId) (ok : Bool) :
    OpOk C.P μ H w (step1 tm H (match C.und t with
    | some (.interface _) => .bad "assert: interface"
    | some _ => match C.zero t with
      | some z => w1 C.ng x (.assert t z ok)
      | none => .bad "assert"
    | none => .bad "assert")) ((do pure (Next.value (← Instr.typeAssert (ρ x) xt t ok)) : Sem Next).run C.P w) := by
  split
  · trivial
  · rename_i d hd hnd
    have hu := hC.und (by assumption : C.und t = some d)
    split
    · rename_i z hz
      obtain ⟨zv, hz1, hz2⟩ := hC.zero hz w
      unfold w1
      split
      · rename_i a ha
        have hv := hr _ _ ha
        have hni : ∀ ms, d ≠ .interface ms := by
          intro ms e; subst e
          first | exact absurd rfl (hd _) | exact absurd rfl (hnd _)
        simp only [step1]
        split
        · rename_i t' v el
          rw [el] at hv
          obtain ⟨v', hp, hvv⟩ := hv.iface_inv
          cases hb : Nat.beq t t' <;> simp only [cond]
          · have hne : ¬ t' = t := fun e => by subst e; rw [Nat.beq_refl] at hb; cases hb
            cases ok
            · simp only [cond]; trivial
            · simp only [cond]
              refine OpOk.pure hh (VRel.tup_of (LRel.cons (hz2 μ) (LRel.cons (.bool false) (LRel.nil μ)))) (run_v _ ?_)
              rw [hp]
              simp only [Instr.typeAssert, Sem.run_bind, run_underlying' hu, Result.andThen_ok]
              cases d <;> first | exact absurd rfl (hni _) | simp [hne, hz1]
          · have he := Nat.eq_of_beq_eq_true hb
            subst he
            cases ok
            · simp only [cond]
              refine OpOk.pure hh hvv (run_v _ ?_)
              rw [hp]
              simp only [Instr.typeAssert, Sem.run_bind, run_underlying' hu, Result.andThen_ok]
              cases d <;> first | exact absurd rfl (hni _) | simp
            · simp only [cond]
              refine OpOk.pure hh (VRel.tup_of (LRel.cons hvv (LRel.cons (.bool true) (LRel.nil μ)))) (run_v _ ?_)
              rw [hp]
              simp only [Instr.typeAssert, Sem.run_bind, run_underlying' hu, Result.andThen_ok]
              cases d <;> first | exact absurd rfl (hni _) | simp
        · rename_i el
          rw [el] at hv
          cases ok
          · simp only [cond]; trivial
          · simp only [cond]
            refine OpOk.pure hh (VRel.tup_of (LRel.cons (hz2 μ) (LRel.cons (.bool false) (LRel.nil μ)))) (run_v _ ?_)
            rw [hv.nilIface_inv]
            simp only [Instr.typeAssert, Sem.run_bind, run_underlying' hu, Result.andThen_ok]
            cases d <;> first | exact absurd rfl (hni _) | simp [hz1]
        · trivial
      · trivial
    · trivial
  · trivial

theorem sim_extract (hr : Rho C.ng μ tm ρ) (hh : HRel C.P μ H w) (x : Operand) (i : Nat) :
    OpOk C.P μ H w (step1 tm H (w1 C.ng x fun x => .extract x i)) ((do pure (Next.value (← Instr.extract (ρ x) i)) : Sem Next).run C.P w) := by
  unfold w1
  split
  · rename_i a ha
    have hv := hr _ _ ha
    simp only [step1]
    split
    · rename_i vs el
      rw [el] at hv
      obtain ⟨y, hp, hy⟩ := hv.tup_inv
      split
      · rename_i v hv'
        obtain ⟨v', h1, h2⟩ := hy.get hv'
        refine OpOk.pure hh h2 (run_v _ ?_)
        rw [hp]
        simp [Instr.extract, h1]
      · trivial
    · trivial
  · trivial

theorem sim_index (hC : CtxOk C) (hr : Rho C.ng μ tm ρ) (hh : HRel C.P μ H w) (t : TypeId) (x i : Operand) :
    OpOk C.P μ H w (step1 tm H (match C.und t with
    | some (.array n e) => match C.aggSize e with
      | some ag => C.elemInfo e fun sz _ => w2 C.ng x i (.index n sz ag.isSome)
      | none => .bad "index"
    | some .string => w2 C.ng x i .indexStr
    | _ => .bad "index")) ((do pure (Next.value (← Instr.index t (ρ x) (ρ i))) : Sem Next).run C.P w) := by
  split
  · rename_i n e ht
    have hu := hC.und ht
    split
    · rename_i ag hag
      unfold Ctx.elemInfo
      split
      · rename_i ti hti
        have hag2 : (cond ag.isSome (some ti.size) none) = ag := by
          unfold Ctx.aggSize at hag
          rw [hti] at hag
          simp only at hag
          split at hag
          · rename_i d hd
            simp only [Option.some.injEq] at hag
            subst hag
            cases isAggD d <;> rfl
          · cases hag
        unfold w2 w1
        split
        · rename_i a ha
          have hv := hr _ _ ha
          split
          · rename_i b hb
            simp only [step1]
            split
            · trivial
            · rename_i j hj
              obtain ⟨kj, hpj⟩ := natIn_inv hj (hr _ _ hb)
              split
              · rename_i cs el
                rw [el] at hv
                obtain ⟨y, hp, hy⟩ := hv.agg_inv
                cases hlt : Nat.blt j n <;> simp only [cond]
                · trivial
                · have hjn : j < n := (ble_iff _ _).1 hlt
                  simp only [cond] at hag2
                  rw [hag2]
                  split
                  · rename_i v hv'
                    obtain ⟨v', p1, p2⟩ := part_spec (w := w) hC hag hy hv'
                    refine OpOk.pure hh p2 (run_v _ ?_)
                    have hsz : (sizeOf e).run C.P w = .ok ti.size w := by simp [sizeOf, run_typeInfo' (hC.ty e ti hti)]
                    rw [hp, hpj]
                    simp only [Instr.index, Sem.run_bind, asIntOf, Sem.run_pure, Result.andThen_ok, run_underlying' hu]
                    rw [if_pos (by simp; omega)]
                    simp only [Sem.run_bind, hsz, Result.andThen_ok]
                    exact p1
                  · trivial
              · trivial
          · trivial
        · trivial
      · trivial
    · trivial
  · rename_i ht
    have hu := hC.und ht
    unfold w2 w1
    split
    · rename_i a ha
      have hv := hr _ _ ha
      split
      · rename_i b hb
        simp only [step1]
        split
        · trivial
        · rename_i j hj
          obtain ⟨kj, hpj⟩ := natIn_inv hj (hr _ _ hb)
          split
          · rename_i s el
            rw [el] at hv
            obtain ⟨bs, hp, e2⟩ := hv.str_inv
            split
            · rename_i c hc
              refine OpOk.pure hh (.int _ _) (run_v _ ?_)
              rw [e2] at hc
              simp at hc
              obtain ⟨x0, hx0, rfl⟩ := hc
              rw [hp, hpj]
              simp only [Instr.index, Sem.run_bind, asIntOf, Sem.run_pure, Result.andThen_ok, run_underlying' hu]
              rw [if_pos (by simp)]
              have : bs[(Int.ofNat j).toNat]? = some x0 := by
                have hlt := (Array.getElem?_eq_some_iff.1 hx0).1
                have : bs[j]? = some x0 := by
                  rw [getElem?_pos bs j hlt]
                  have := (Array.getElem?_eq_some_iff.1 hx0).2
                  exact congrArg some this
                exact this
              simp only [this]
              rfl
            · trivial
          · trivial
      · trivial
    · trivial
  · trivial
end
end Go.Ab

set_option linter.unusedSimpArgs false
set_option linter.unusedVariables false
namespace Go.Ab

section
variable {C : Ctx} {μ : Mu} {H : AHeap} {w : World} {tm : List AV} {ρ : Operand → Value}

theorem goInt_nat (n : Nat) : goInt n = .int .i64 (Int.ofNat n) := rfl

theorem byteCells_rel (μ : Mu) : ∀ (l : List UInt8), LRel μ (byteCells (l.map UInt8.toNat)) (l.map fun b => Value.int .u8 (b.toNat : Int)) := by
  intro l
  induction l with
  | nil => exact LRel.nil μ
  | cons a l ih => exact LRel.cons (.int _ _) ih

/-- What append and copy read. -/
theorem src_spec {P : Program} {x : AV} {v : Value} {es most n : Nat} {xs : List AV} (hv : VRel μ x v) (h : srcCells H es most x = some (n, xs)) :
    ∃ L, (∀ w1, (Builtin.lenOf v).run P w1 = .ok L w1) ∧ n = min L most ∧ xs.length = n * es ∧
      ∀ w1, HRel P μ H w1 → ∃ ys : List Value, LRel μ xs ys ∧ (Builtin.firstCells es n v).run P w1 = .ok ys.toArray w1 := by
  unfold srcCells at h
  split at h
  · cases h
    rw [hv.nilSlice_inv]
    refine ⟨0, fun _ => by simp [Builtin.lenOf], by simp, by simp, fun w1 _ => ⟨[], LRel.nil μ, by simp [Builtin.firstCells]⟩⟩
  · rename_i b o len cap es' ex
    obtain ⟨l, a', cap', hl, hp, hc, hx, ha', hs, hlen⟩ := hv.slice_inv
    cases hb : Nat.beq es es' <;> simp only [hb, cond] at h
    · cases h
    · have := Nat.eq_of_beq_eq_true hb
      subst this
      split at h
      · rename_i cs hcs
        cases h
        subst hp
        refine ⟨len, fun _ => by simp [Builtin.lenOf], rfl, ?_, fun w1 hh => ?_⟩
        · unfold load at hcs
          split at hcs
          · rename_i c N _
            cases hle : Nat.ble (o + Nat.min len most * es) N <;> simp only [hle, cond] at hcs
            · cases hcs
            · exact (Tr.take_spec _ _ _ _ hcs).1
          · cases hcs
        · obtain ⟨ys, b1, b2, b3, b4⟩ := load_spec hh hl hcs
          refine ⟨ys, b1, ?_⟩
          simp only [Builtin.firstCells]
          rcases ha'.2 with ha' | ha'
          · subst ha'
            exact run_loadL ys b4 _ b2
          · have h0 : len = 0 := by omega
            subst h0
            have e0 : Nat.min 0 most * es = 0 := by simp
            rw [e0] at b2 ⊢
            have : ys = [] := List.eq_nil_of_length_eq_zero b2
            subst this
            simp [loadCells, loadCellsFrom]
      · cases h
  · rename_i s
    obtain ⟨bs, hp, e2⟩ := hv.str_inv
    subst hp
    cases hb : Nat.beq es 1 <;> simp only [hb, cond] at h
    · cases h
    · have := Nat.eq_of_beq_eq_true hb
      subst this
      cases h
      have hsz : s.length = bs.size := by rw [e2]; simp
      refine ⟨bs.size, fun _ => by simp [Builtin.lenOf], by rw [hsz], ?_, fun w1 hh => ?_⟩
      · rw [byteCells_length]
        simp [Nat.min_comm]
      · refine ⟨(bs.data.toList.take most).map fun b => Value.int .u8 (b.toNat : Int), ?_, ?_⟩
        · rw [e2, ← List.map_take]
          exact byteCells_rel μ _
        · simp only [Builtin.firstCells, Sem.run_pure]
          congr 1
          apply Array.ext'
          rw [hsz]
          have : (bs.extract 0 (Nat.min bs.size most)).data.toList = bs.data.toList.take most := by
            simp [ByteArray.data_extract]
            rw [Nat.min_def]
            by_cases hm : bs.size ≤ most
            · rw [if_pos hm]; omega
            · rw [if_neg hm]; omega
          simp only [Array.toList_map, this]
  · cases h

theorem run_app {P : Program} {t u e : TypeId} {ti : TypeInfo} {d : TypeDesc} {zv : Value} {ats : Array TypeId} (ty : TypeId) (ht : P.underlying t = some (.slice e)) (hu : P.underlying u = some d)
    (hd : ∀ k, d ≠ .int k) (hti : P.info? e = some ti) (h0 : ats[0]? = some t) (h1 : ats[1]? = some u) (base : Option Addr) (sLen sCap : Nat) {v : Value} {m : Nat}
    (hl : ∀ w1, (Builtin.lenOf v).run P w1 = .ok m w1) (w : World) :
    (sLen + m ≤ sCap → ∀ ys : List Value, (Builtin.firstCells ti.size m v).run P w = .ok ys.toArray w →
      (Builtin.append_ ats ty #[.slice base sLen sCap, v]).run P w =
        ((match base with
          | some a => storeCells (a.add (sLen * ti.size)) ys
          | none => pure ()) >>= fun _ => (pure (.slice base (sLen + m) sCap) : Sem Value)).run P w) ∧
    (¬ sLen + m ≤ sCap → 0 < ti.bytes → (sLen + m) * ti.bytes ≤ 1099511627776 → (zeroValue e).run P w.drew = .ok zv w.drew → ∀ olds ys : List Value,
      (Builtin.firstCells ti.size sLen (.slice base sLen sCap)).run P w.drew = .ok olds.toArray w.drew →
      (Builtin.firstCells ti.size m v).run P w.drew = .ok ys.toArray w.drew →
      (Builtin.append_ ats ty #[.slice base sLen sCap, v]).run P w =
        .ok (.slice (some ⟨w.heap.size, 0, none⟩) (sLen + m) (grownCap w (sLen + m) sCap e))
          { w.drew with heap := w.heap.push (.cells (olds ++ ys ++ (Builtin.zeroCells zv.cells (grownCap w (sLen + m) sCap e - (sLen + m))).toList).toArray e) }) := by
  have hz : (match (generalizing := false) d with
    | .int _ => true
    | _ => false) = false := by
    cases d <;> first | rfl | exact absurd rfl (hd _)
  have hsz : ∀ w1, (sizeOf e).run P w1 = .ok ti.size w1 := fun w1 => by simp [sizeOf, run_typeInfo' hti]
  constructor
  · intro hroom ys hf
    simp only [Builtin.append_, h0, h1, Sem.run_bind, run_underlying' ht, Result.andThen_ok, hsz, run_underlying' hu, Sem.run_pure]
    simp only [List.getElem?_toArray, List.getElem?_cons_zero, List.getElem?_cons_succ, Sem.run_bind, run_underlying' ht, Result.andThen_ok, hsz, run_underlying' hu, Sem.run_pure, hz, hl, Bool.false_eq_true, if_false, Bool.not_false, if_true, hroom, hf]
    cases base <;> simp only [Sem.run_bind, Sem.run_pure, Result.andThen_ok]
  · intro hroom hb hfit hzv olds ys hfo hf
    have hle : sLen + m ≤ (sLen + m) * ti.bytes := Nat.le_mul_of_pos_right _ hb
    have h63' : ¬ (9223372036854775807 < ((sLen : Int) + (m : Int))) := by omega
    have h48' : ¬ (281474976710656 < Builtin.nextslicecap (sLen + m) sCap * ti.bytes) := by
      have := growslice_fits (need := sLen + m) (old := sCap) (bytes := ti.bytes) (by omega) (by omega)
      omega
    simp only [Builtin.append_, h0, h1, Sem.run_bind, run_underlying' ht, Result.andThen_ok, hsz, run_underlying' hu, Sem.run_pure]
    simp [run_underlying' ht, hsz, run_underlying' hu, hz, hl, hroom, h63', h48', run_typeInfo' hti, Question.forced, hfo, hf, hzv, newRow, grownCap]
    have ea : ∀ (a b : List Value) (c : Array Value), (a ++ (b ++ c.toList)).toArray = a.toArray ++ (b.toArray ++ c) := by
      intro a b c; apply Array.ext'; simp
    rw [ea]
    rfl

theorem HRel.drew {P : Program} (hh : HRel P μ H w) : HRel P μ H w.drew := hh.env rfl
theorem Go.drew {μ' : Mu} {H' : AHeap} {w' : World} (g : Go μ H w.drew μ' H' w') : Go μ H w μ' H' w' :=
  ⟨g.ext, g.dom, g.new, g.size, g.frame, g.mn, g.nx, g.low, g.out, g.tape, g.os, g.output⟩

theorem VRel.slice_one {b o len cap es : Nat} {ex : Bool} {v : Value} (h : VRel μ (.slice b o len cap es ex) v) {m : Nat} (hm : len + m ≤ cap) : ∃ a' cap', v = .slice (some a') len cap' ∧ VRel μ (.slice b o (len + m) cap es ex) (.slice (some a') (len + m) cap') := by
  cases h with
  | slice _ _ _ _ _ _ l a' cap' h hc hx ha hs hl => exact ⟨a', cap', rfl, .slice _ _ _ _ _ _ l a' cap' h hc hx ha hs hm⟩

theorem append_spec (hC : CtxOk C) (hh : HRel C.P μ H w) {t u e : TypeId} {ti : TypeInfo} {d : TypeDesc} {z : AV} {ats : Array TypeId} (ty : TypeId)
    (ht : C.und t = some (.slice e)) (hu : C.und u = some d) (hd : ∀ k, d ≠ .int k) (hti : C.ty e = some ti) (hz : C.zero e = some z) (hzl : z.cells.length = ti.size)
    (h0 : ats[0]? = some t) (h1 : ats[1]? = some u) {s x : AV} {vs vx : Value} (hs : VRel μ s vs) (hx : VRel μ x vx) :
    OpOk C.P μ H w (appendA ti.size ti.bytes H s x) ((do pure (Next.value (← Builtin.append_ ats ty #[vs, vx])) : Sem Next).run C.P w) := by
  have ht' := hC.und ht
  have hu' := hC.und hu
  have hti' := hC.ty e ti hti
  obtain ⟨zv, hz1, hz2⟩ := hC.zero hz w.drew
  have hzs : zv.cells.size = ti.size := by have := (hz2 μ).cells.1; simp at this; omega
  unfold appendA
  split
  · trivial
  · rename_i m xs hsrc
    obtain ⟨L, hl, hm, hxl, hsp⟩ := src_spec (P := C.P) hx hsrc
    split
    · -- nothing is appended
      have hL : L = 0 := by omega
      subst hL
      obtain ⟨ys, hy1, hy2⟩ := hsp w hh
      have hys : ys = [] := by
        have := hy1.1; rw [hxl] at this; simp at this; exact List.eq_nil_of_length_eq_zero this.symm
      subst hys
      have hcommon : ∀ base sLen sCap, sLen ≤ sCap → (Builtin.append_ ats ty #[.slice base sLen sCap, vx]).run C.P w = .ok (.slice base sLen sCap) w := by
        intro base sLen sCap hle
        have := (run_app (P := C.P) (zv := zv) (m := 0) ty ht' hu' hd hti' h0 h1 base sLen sCap hl w).1 (by omega) [] hy2
        rw [this]
        cases base <;> simp [storeCells]
      split
      · refine OpOk.pure hh .nilSlice (run_v _ ?_)
        rw [hs.nilSlice_inv]
        exact hcommon _ _ _ (by omega)
      · obtain ⟨l, a', cap', hl', hp, hc, hx', ha', hs', hlen⟩ := hs.slice_inv
        refine OpOk.pure hh hs (run_v _ ?_)
        rw [hp]
        exact hcommon _ _ _ (by omega)
      · trivial
    · rename_i hm0
      have hm0' : m ≠ 0 := fun e => hm0 e
      split
      · -- to nil
        cases hb : (Nat.blt 0 ti.bytes && (Nat.ble (m * ti.bytes) 1099511627776 && xs.all AV.one)) <;> simp only [cond]
        · trivial
        · simp only [Bool.and_eq_true] at hb
          have hb1 : 0 < ti.bytes := (ble_iff _ _).1 hb.1
          have hb2 := (ble_iff _ _).1 hb.2.1
          have hle : m ≤ m * ti.bytes := Nat.le_mul_of_pos_right _ hb1
          have hL : m = L := by omega
          subst hL
          obtain ⟨ys, hy1, hy2⟩ := hsp w.drew hh.drew
          rw [hs.nilSlice_inv]
          have hrun := (run_app (P := C.P) (zv := zv) (m := m) ty ht' hu' hd hti' h0 h1 none 0 0 hl w).2 (by omega) hb1 (by rw [Nat.zero_add]; exact hb2) hz1 [] ys (by simp [Builtin.firstCells]) hy2
          rw [Nat.zero_add] at hrun
          obtain ⟨g1, g2⟩ := alloc_spec hh.drew hy1 hb.2.2 (Builtin.zeroCells zv.cells (grownCap w m 0 e - m)).toList e (Tr.ofList xs) (m * ti.size) hxl.symm (fun i _ => Tr.get_ofList _ _)
          refine ⟨_, _, _, .inl (run_v _ hrun), ?_, g1, g2.drew⟩
          have hge := grownCap_ge w m 0 e
          refine VRel.slice H.nx 0 m m ti.size false ⟨w.drew.heap.size, 0, _⟩ ⟨w.drew.heap.size, 0, none⟩ _ (Mu.upd_self _ _ _) (by omega) (fun h => by cases h) ⟨rfl, .inl rfl⟩ ?_ (Nat.le_refl _)
          simp only [List.length_append, Array.length_toList, size_zeroCells, ← hy1.1, hxl, hzs]
          rw [← Nat.add_mul]
          rw [show m + (grownCap w m 0 e - m) = grownCap w m 0 e from by omega]
          omega
      · rename_i b o len cap es' ex
        cases hb : (Nat.beq ti.size es' && (Nat.blt 0 ti.bytes && (Nat.ble ((len + m) * ti.bytes) 1099511627776 && xs.all AV.one))) <;> simp only [cond]
        · trivial
        · simp only [Bool.and_eq_true] at hb
          have he := Nat.eq_of_beq_eq_true hb.1
          subst he
          have hb1 : 0 < ti.bytes := (ble_iff _ _).1 hb.2.1
          have hb2 := (ble_iff _ _).1 hb.2.2.1
          have hones := hb.2.2.2
          have hle : len + m ≤ (len + m) * ti.bytes := Nat.le_mul_of_pos_right _ hb1
          have hL : m = L := by omega
          subst hL
          obtain ⟨l, a', cap', hl', hp, hc, hx', ha', hs', hlen⟩ := hs.slice_inv
          cases hroom : Nat.ble (len + m) cap <;> simp only
          · -- a new row, or the old one
            have hroom' : ¬ len + m ≤ cap := fun h => by rw [(ble_iff _ _).2 h] at hroom; cases hroom
            split
            · trivial
            · rename_i old hold
              have hoc : ∃ c N, H.get b = some (.cells c N) ∧ o + len * ti.size ≤ N ∧ c.take o (len * ti.size) = some old := by
                unfold load at hold
                split at hold
                · rename_i c N hg
                  cases hle : Nat.ble (o + len * ti.size) N <;> simp only [hle, cond] at hold
                  · cases hold
                  · exact ⟨c, N, hg, (ble_iff _ _).1 hle, hold⟩
                · cases hold
              obtain ⟨c, N, hg, hN, htake⟩ := hoc
              obtain ⟨hol, hog⟩ := Tr.take_spec _ _ _ _ htake
              have hget : ∀ i, i < (len + m) * ti.size → ((Tr.ofList old).putAll (len * ti.size) xs).get i = (old ++ xs)[i]? := by
                intro i hi
                rw [Nat.add_mul] at hi
                rw [Tr.get_putAll, Tr.get_ofList]
                by_cases h : i < len * ti.size
                · rw [if_neg (by omega), List.getElem?_append_left (by omega)]
                · rw [if_pos (by omega), List.getElem?_append_right (by omega), hol]
              by_cases hgrow : len + m ≤ cap'
              · have hex : ex = false := by
                  cases ex
                  · rfl
                  · have := hx' rfl; omega
                subst hex
                have haddr : a' = ⟨l.blk, l.base + o, none⟩ := by
                  rcases ha'.2 with h | h
                  · exact h
                  · omega
                subst haddr
                obtain ⟨ys, hy1, hy2⟩ := hsp w hh
                have hrun := (run_app (P := C.P) (zv := zv) (m := m) ty ht' hu' hd hti' h0 h1 (some ⟨l.blk, l.base + o, none⟩) len cap' hl w).1 hgrow ys hy2
                obtain ⟨D, elem, fr, q1, q2, q3, q4, q5⟩ := hh.cells hl' hg
                have hmul : (len + m) * ti.size ≤ cap' * ti.size := Nat.mul_le_mul_right _ hgrow
                have hmul2 : (len + m) * ti.size = len * ti.size + m * ti.size := Nat.add_mul _ _ _
                have hyl : ys.length = m * ti.size := by rw [← hy1.1, hxl]
                have hst := run_storeL (P := C.P) ys w l.blk (l.base + o + len * ti.size) 0 D elem fr q1 q4 (by omega) (hy1.ones hones)
                obtain ⟨g1, g2⟩ := hh.grow hl' ⟨_, hg, by simp⟩ o ((Tr.ofList old).putAll (len * ti.size) xs) ((len + m) * ti.size) (wr D (l.base + o + len * ti.size + 0) ys) elem fr (by
                  refine ⟨_, elem, fr, rfl, by rw [wr_size]; exact q2, by rw [wr_size]; simp only; omega, by rw [wr_size]; exact q4, fun i hi => ?_⟩
                  rw [hget i hi, wr_get _ _ _ _ (by simp only; omega)]
                  simp only
                  by_cases h : i < len * ti.size
                  · rw [if_neg (by omega), List.getElem?_append_left (by omega)]
                    obtain ⟨v, v', r1, r2, r3, r4⟩ := q5 (o + i) (by omega)
                    refine ⟨v, v', ?_, ?_, r3, r4⟩
                    · rw [← hog i h]; exact r1
                    · rw [Nat.add_assoc]; exact r2
                  · rw [if_pos (by omega), List.getElem?_append_right (by omega), hol]
                    have e1 : l.base + o + i - (l.base + o + len * ti.size + 0) = i - len * ti.size := by omega
                    rw [e1]
                    have hi1 : i - len * ti.size < xs.length := by omega
                    have hi2 : i - len * ti.size < ys.length := by omega
                    refine ⟨_, _, List.getElem?_eq_getElem hi1, List.getElem?_eq_getElem hi2, hy1.2 _ hi1 hi2, ?_⟩
                    simp at hones
                    exact hones _ (List.getElem_mem hi1))
                refine ⟨_, .slice (some ⟨l.blk, l.base + o, none⟩) (len + m) cap', _, .inl (run_v _ ?_), ?_, g1, g2⟩
                · rw [hp, hrun]
                  simp only [Sem.run_bind, Addr.add_none, hst, Result.andThen_ok, Sem.run_pure]
                · refine VRel.slice H.nx 0 (len + m) (len + m) ti.size false ⟨l.blk, l.base + o, l.csz⟩ ⟨l.blk, l.base + o, none⟩ cap' (Mu.upd_self _ _ _) hgrow (fun h => by cases h) ⟨rfl, .inl rfl⟩ ?_ (Nat.le_refl _)
                  simp only
                  omega
              · obtain ⟨ys, hy1, hy2⟩ := hsp w.drew hh.drew
                obtain ⟨olds, b1, b2, b3, b4⟩ := load_spec hh.drew hl' hold
                have hfo : (Builtin.firstCells ti.size len (.slice (some a') len cap')).run C.P w.drew = .ok olds.toArray w.drew := by
                  simp only [Builtin.firstCells]
                  rcases ha'.2 with ha' | ha'
                  · subst ha'
                    exact run_loadL olds b4 _ b2
                  · have h0 : len = 0 := by omega
                    subst h0
                    have e0 : 0 * ti.size = 0 := by simp
                    rw [e0] at b2 ⊢
                    have : olds = [] := List.eq_nil_of_length_eq_zero b2
                    subst this
                    simp [loadCells, loadCellsFrom]
                have hrun := (run_app (P := C.P) (zv := zv) (m := m) ty ht' hu' hd hti' h0 h1 (some a') len cap' hl w).2 hgrow hb1 hb2 hz1 olds ys hfo hy2
                have hones2 : (old ++ xs).all AV.one = true := by
                  simp only [List.all_append, Bool.and_eq_true]
                  exact ⟨by simp; exact b3, hones⟩
                have hlen2 : (len + m) * ti.size = (old ++ xs).length := by
                  rw [List.length_append, hol, hxl, Nat.add_mul]
                have hge := grownCap_ge w (len + m) cap' e
                have hval : VRel (μ.upd H.nx ⟨w.drew.heap.size, 0, (olds ++ ys ++ (Builtin.zeroCells zv.cells (grownCap w (len + m) cap' e - (len + m))).toList).length⟩)
                    (.slice H.nx 0 (len + m) (len + m) ti.size false) (.slice (some ⟨w.heap.size, 0, none⟩) (len + m) (grownCap w (len + m) cap' e)) := by
                  refine VRel.slice H.nx 0 (len + m) (len + m) ti.size false ⟨w.drew.heap.size, 0, _⟩ ⟨w.drew.heap.size, 0, none⟩ _ (Mu.upd_self _ _ _) hge (fun h => by cases h) ⟨rfl, .inl rfl⟩ ?_ (Nat.le_refl _)
                  simp only [List.length_append, Array.length_toList, size_zeroCells, ← hy1.1, hxl, hzs, b2]
                  rw [← Nat.add_mul, ← Nat.add_mul]
                  rw [show len + m + (grownCap w (len + m) cap' e - (len + m)) = grownCap w (len + m) cap' e from by omega]
                  omega
                rw [hp]
                cases ex <;> simp only
                · obtain ⟨g1, g2⟩ := alloc_spec (hh.drew.kill b (hh.lt _ _ hl').1) (b1.append hy1) hones2 (Builtin.zeroCells zv.cells (grownCap w (len + m) cap' e - (len + m))).toList e ((Tr.ofList old).putAll (len * ti.size) xs) ((len + m) * ti.size) hlen2 hget
                  exact ⟨_, _, _, .inl (run_v _ hrun), hval, g1, ((Go.kill hl').trans g2).drew⟩
                · obtain ⟨g1, g2⟩ := alloc_spec hh.drew (b1.append hy1) hones2 (Builtin.zeroCells zv.cells (grownCap w (len + m) cap' e - (len + m))).toList e ((Tr.ofList old).putAll (len * ti.size) xs) ((len + m) * ti.size) hlen2 hget
                  exact ⟨_, _, _, .inl (run_v _ hrun), hval, g1, g2.drew⟩
          · have hroom' := (ble_iff _ _).1 hroom
            split
            · rename_i H' hst
              obtain ⟨ys, hy1, hy2⟩ := hsp w hh
              have haddr : a' = ⟨l.blk, l.base + o, none⟩ := by
                rcases ha'.2 with h | h
                · exact h
                · omega
              subst haddr
              obtain ⟨w', k1, k2, k3⟩ := store_spec (P := C.P) hh hl' hy1 hst
              have hrun := (run_app (P := C.P) (zv := zv) (m := m) ty ht' hu' hd hti' h0 h1 (some ⟨l.blk, l.base + o, none⟩) len cap' hl w).1 (by omega) ys hy2
              refine ⟨μ, _, w', .inl (run_v _ ?_), .slice b o (len + m) cap ti.size ex l ⟨l.blk, l.base + o, none⟩ cap' hl' hc hx' ha' hs' hroom', k2, k3⟩
              rw [hp, hrun]
              simp only [Sem.run_bind, Addr.add_none]
              rw [show l.base + o + len * ti.size = l.base + (o + len * ti.size) from by omega, k1]
              rfl
            · trivial
      · trivial
end
end Go.Ab

set_option linter.unusedSimpArgs false
set_option linter.unusedVariables false
namespace Go.Ab

section
variable {C : Ctx} {μ : Mu} {H : AHeap} {w : World} {tm : List AV} {ρ : Operand → Value}

theorem exec_builtin {P : Program} {o : Oper} {c : Call} {b : Builtin} (ho : o.op = .call c) (hcb : c.callee = .builtin b) :
    (Go.execOp ρ o).run P w = (builtin b c.argTypes o.type (c.args.map fun | .const _ => true | _ => false) (c.args.map ρ)).run P w := by
  simp only [Go.execOp, ho, resolve, hcb, Sem.run_bind, Sem.run_pure, Result.andThen_ok, invoke]
  rfl

theorem arr1 {c : Call} {x : Operand} (h : c.args.toList = [x]) : c.args.map ρ = #[ρ x] := by apply Array.ext'; simp [h]
theorem arr2 {c : Call} {x y : Operand} (h : c.args.toList = [x, y]) : c.args.map ρ = #[ρ x, ρ y] := by apply Array.ext'; simp [h]
theorem at0 {c : Call} {t : Nat} {l : List Nat} (h : c.argTypes.toList = t :: l) : c.argTypes[0]? = some t := by
  have : c.argTypes.toList[0]? = some t := by rw [h]; rfl
  simpa using this
theorem at1 {c : Call} {t u : Nat} {l : List Nat} (h : c.argTypes.toList = t :: u :: l) : c.argTypes[1]? = some u := by
  have : c.argTypes.toList[1]? = some u := by rw [h]; rfl
  simpa using this

theorem sim_len (hC : CtxOk C) (hr : Rho C.ng μ tm ρ) (hh : HRel C.P μ H w) (o : Oper) (c : Call) (ho : o.op = .call c) (hcb : c.callee = .builtin .len) :
    OpOk C.P μ H w (step1 tm H (C.builtin .len c.argTypes c.args)) ((Go.execOp ρ o).run C.P w) := by
  rw [exec_builtin ho hcb]
  unfold Ctx.builtin
  simp only
  split
  · rename_i x hargs
    rw [arr1 hargs]
    split
    · rename_i t hts
      have hat := at0 hts
      simp only [builtin]
      split
      · rename_i n e ht
        have hu := hC.und ht
        refine OpOk.pure hh (.int .i64 (.ofNat n)) (run_v _ ?_)
        simp [Builtin.len_, hat, run_underlying' hu, goInt]
      · rename_i p ht
        have hu := hC.und ht
        split
        · rename_i n e hp
          have hu2 := hC.und hp
          refine OpOk.pure hh (.int .i64 (.ofNat n)) (run_v _ ?_)
          simp [Builtin.len_, hat, run_underlying' hu, run_underlying' hu2, goInt]
        · trivial
      · rename_i ht
        have hu := hC.und ht
        unfold w1
        split
        · rename_i a ha
          have hv := hr _ _ ha
          simp only [step1]
          cases hav : a.ev tm <;> rw [hav] at hv <;> simp only <;> try trivial
          rename_i s
          obtain ⟨bs, hp, e2⟩ := hv.str_inv
          refine OpOk.pure hh (.int .i64 _) (run_v _ ?_)
          rw [hp]
          simp [Builtin.len_, hat, run_underlying' hu, goInt, e2]
        · trivial
      · rename_i e ht
        have hu := hC.und ht
        unfold w1
        split
        · rename_i a ha
          have hv := hr _ _ ha
          simp only [step1]
          cases hav : a.ev tm <;> rw [hav] at hv <;> simp only <;> try trivial
          · obtain ⟨l, a', cap', hl', hp, hc, hx', ha', hs', hlen⟩ := hv.slice_inv
            refine OpOk.pure hh (.int .i64 _) (run_v _ ?_)
            rw [hp]
            simp [Builtin.len_, hat, run_underlying' hu, goInt]
          · refine OpOk.pure hh (.int .i64 _) (run_v _ ?_)
            rw [hv.nilSlice_inv]
            simp [Builtin.len_, hat, run_underlying' hu, goInt]
        · trivial
      · rename_i k e ht
        have hu := hC.und ht
        unfold w1
        split
        · rename_i a ha
          have hv := hr _ _ ha
          simp only [step1]
          cases hav : a.ev tm <;> rw [hav] at hv <;> simp only <;> try trivial
          · rename_i b
            obtain ⟨l, hl, hp⟩ := hv.map_inv
            split
            · rename_i es ver hg
              obtain ⟨es', clock, g1, g2, g3, g4⟩ := hh.map hl hg
              refine OpOk.pure hh (.int .i64 _) (run_v _ ?_)
              have hlen : es.length = es'.size := by
                obtain ⟨z, z1, z2⟩ := g3
                have := z1.length_eq
                rw [z2.1]; simpa using this
              rw [hp]
              simp [Builtin.len_, hat, run_underlying' hu, goInt, run_getObj_map g1, hlen]
            · trivial
          · refine OpOk.pure hh (.int .i64 _) (run_v _ ?_)
            rw [hv.nilMap_inv]
            simp [Builtin.len_, hat, run_underlying' hu, goInt]
        · trivial
      · trivial
    · trivial
  · trivial

theorem sim_cap (hC : CtxOk C) (hr : Rho C.ng μ tm ρ) (hh : HRel C.P μ H w) (o : Oper) (c : Call) (ho : o.op = .call c) (hcb : c.callee = .builtin .cap) :
    OpOk C.P μ H w (step1 tm H (C.builtin .cap c.argTypes c.args)) ((Go.execOp ρ o).run C.P w) := by
  rw [exec_builtin ho hcb]
  unfold Ctx.builtin
  simp only
  split
  · rename_i x hargs
    rw [arr1 hargs]
    split
    · rename_i t hts
      have hat := at0 hts
      simp only [builtin]
      split
      · rename_i e ht
        have hu := hC.und ht
        unfold w1
        split
        · rename_i a ha
          have hv := hr _ _ ha
          simp only [step1]
          split
          · rename_i el
            rw [el] at hv
            refine OpOk.pure hh (.int .i64 _) (run_v _ ?_)
            rw [hv.nilSlice_inv]
            simp [Builtin.cap_, hat, run_underlying' hu, goInt]
          · rename_i el
            rw [el] at hv
            obtain ⟨l, a', cap', hl', hp, hc, hx', ha', hs', hlen⟩ := hv.slice_inv
            refine OpOk.pure hh (.int .i64 _) (run_v _ ?_)
            rw [hp]
            simp [Builtin.cap_, hat, run_underlying' hu, goInt, hx' rfl]
          · trivial
        · trivial
      · trivial
    · trivial
  · trivial

theorem sim_min (hr : Rho C.ng μ tm ρ) (hh : HRel C.P μ H w) (o : Oper) (c : Call) (ho : o.op = .call c) (hcb : c.callee = .builtin .min) :
    OpOk C.P μ H w (step1 tm H (C.builtin .min c.argTypes c.args)) ((Go.execOp ρ o).run C.P w) := by
  rw [exec_builtin ho hcb]
  unfold Ctx.builtin
  simp only
  split
  · rename_i x y hargs
    rw [arr2 hargs]
    unfold w2 w1
    split
    · rename_i a ha
      split
      · rename_i b hb
        simp only [step1, builtin]
        split
        · rename_i k m j n e1 e2
          have h1 := hr _ _ ha
          have h2 := hr _ _ hb
          rw [e1] at h1
          rw [e2] at h2
          refine OpOk.pure hh (.int k _) (run_v _ ?_)
          rw [h1.int_inv, h2.int_inv]
          simp only [Builtin.min_, List.foldlM, Builtin.min2, Sem.run_bind, Sem.run_pure, Result.andThen_ok]
          cases hlt : ltb n m
          · rw [if_neg (by rw [ltb_eq] at hlt; simpa using hlt)]; rfl
          · rw [if_pos (by rw [ltb_eq] at hlt; simpa using hlt)]; rfl
        · trivial
      · trivial
    · trivial
  · trivial

theorem sim_max (hr : Rho C.ng μ tm ρ) (hh : HRel C.P μ H w) (o : Oper) (c : Call) (ho : o.op = .call c) (hcb : c.callee = .builtin .max) :
    OpOk C.P μ H w (step1 tm H (C.builtin .max c.argTypes c.args)) ((Go.execOp ρ o).run C.P w) := by
  rw [exec_builtin ho hcb]
  unfold Ctx.builtin
  simp only
  split
  · rename_i x y hargs
    rw [arr2 hargs]
    unfold w2 w1
    split
    · rename_i a ha
      split
      · rename_i b hb
        simp only [step1, builtin]
        split
        · rename_i k m j n e1 e2
          have h1 := hr _ _ ha
          have h2 := hr _ _ hb
          rw [e1] at h1
          rw [e2] at h2
          refine OpOk.pure hh (.int k _) (run_v _ ?_)
          rw [h1.int_inv, h2.int_inv]
          simp only [Builtin.max_, List.foldlM, Builtin.max2, Sem.run_bind, Sem.run_pure, Result.andThen_ok]
          cases hlt : ltb m n
          · rw [if_neg (by rw [ltb_eq] at hlt; simpa using hlt)]; rfl
          · rw [if_pos (by rw [ltb_eq] at hlt; simpa using hlt)]; rfl
        · trivial
      · trivial
    · trivial
  · trivial

theorem sim_append (hC : CtxOk C) (hr : Rho C.ng μ tm ρ) (hh : HRel C.P μ H w) (o : Oper) (c : Call) (ho : o.op = .call c) (hcb : c.callee = .builtin .append) :
    OpOk C.P μ H w (step1 tm H (C.builtin .append c.argTypes c.args)) ((Go.execOp ρ o).run C.P w) := by
  rw [exec_builtin ho hcb]
  unfold Ctx.builtin
  simp only
  split
  · rename_i x y hargs
    rw [arr2 hargs]
    split
    · rename_i t u hts
      split
      · rename_i e ht
        split
        · trivial
        · rename_i hd hni hud
          split
          · rename_i z hz
            unfold Ctx.elemInfo
            split
            · rename_i ti hti
              cases hb : Nat.beq z.cells.length ti.size
              · simp only [hb, cond]; trivial
              · simp only [hb, cond]
                unfold w2 w1
                split
                · rename_i a ha
                  split
                  · rename_i b hb2
                    simp only [step1, builtin]
                    have hva := hr _ _ ha
                    have hvb := hr _ _ hb2
                    exact append_spec hC hh o.type ht hud (fun k e => hni k e) hti hz (Nat.eq_of_beq_eq_true hb) (at0 hts) (at1 hts) hva hvb
                  · trivial
                · trivial
            · trivial
          · trivial
        · trivial
      · trivial
    · trivial
  · trivial

theorem sim_copy (hC : CtxOk C) (hr : Rho C.ng μ tm ρ) (hh : HRel C.P μ H w) (o : Oper) (c : Call) (ho : o.op = .call c) (hcb : c.callee = .builtin .copy) :
    OpOk C.P μ H w (step1 tm H (C.builtin .copy c.argTypes c.args)) ((Go.execOp ρ o).run C.P w) := by
  rw [exec_builtin ho hcb]
  unfold Ctx.builtin
  simp only
  split
  · rename_i x y hargs
    rw [arr2 hargs]
    split
    · rename_i t ts hts
      have hat := at0 hts
      split
      · rename_i e ht
        have hu := hC.und ht
        unfold Ctx.elemInfo
        split
        · rename_i ti hti
          have hsz : ∀ w1, (sizeOf e).run C.P w1 = .ok ti.size w1 := fun w1 => by simp [sizeOf, run_typeInfo' (hC.ty e ti hti)]
          unfold w2 w1
          split
          · rename_i a ha
            split
            · rename_i b hb
              have hva := hr _ _ ha
              have hvb := hr _ _ hb
              simp only [step1, builtin]
              split
              · rename_i el
                rw [el] at hva
                split
                · rename_i p hp
                  obtain ⟨n, xs⟩ := p
                  obtain ⟨L, hl, hn, hxl, hsp⟩ := src_spec (P := C.P) hvb hp
                  obtain ⟨ys, hy1, hy2⟩ := hsp w hh
                  have hn' : Nat.min L 0 = n := hn.symm
                  refine OpOk.pure hh (.int .i64 _) (run_v _ ?_)
                  rw [hva.nilSlice_inv]
                  have h0 : n = 0 := by rw [hn]; simp
                  simp only [Builtin.copy_, hat, List.getElem?_toArray, List.getElem?_cons_zero, List.getElem?_cons_succ, Sem.run_bind, run_underlying' hu, Result.andThen_ok, hl, Sem.run_pure, hsz, hn', hy2]
                  rw [h0]
                  rfl
                · trivial
              · rename_i bl off len cap es' ex el
                rw [el] at hva
                obtain ⟨l, a', cap', hl', hp', hc, hx', ha', hs', hlen⟩ := hva.slice_inv
                cases hes : Nat.beq ti.size es' <;> simp only [cond]
                · trivial
                · have := Nat.eq_of_beq_eq_true hes
                  subst this
                  split
                  · rename_i n xs hp
                    obtain ⟨L, hl, hn, hxl, hsp⟩ := src_spec (P := C.P) hvb hp
                    obtain ⟨ys, hy1, hy2⟩ := hsp w hh
                    have hn' : Nat.min L len = n := hn.symm
                    split
                    · rename_i H' hst
                      obtain ⟨w', k1, k2, k3⟩ := store_spec (P := C.P) hh hl' hy1 hst
                      have hst' : (storeCells a' ys).run C.P w = .ok () w' := by
                        rcases ha'.2 with h | h
                        · subst h; exact k1
                        · have h0 : n = 0 := by omega
                          have hys : ys = [] := by
                            have := hy1.1; rw [hxl, h0] at this; simp at this; exact List.eq_nil_of_length_eq_zero this.symm
                          subst hys
                          simpa [storeCells] using k1
                      refine ⟨μ, _, w', .inl (run_v _ ?_), .int .i64 _, k2, k3⟩
                      rw [hp']
                      simp only [Builtin.copy_, hat, List.getElem?_toArray, List.getElem?_cons_zero, List.getElem?_cons_succ, Sem.run_bind, run_underlying' hu, Result.andThen_ok, hl, Sem.run_pure, hsz, hn', hy2, hst']
                      rfl
                    · trivial
                  · trivial
              · trivial
            · trivial
          · trivial
        · trivial
      · trivial
    · trivial
  · trivial

theorem run_panic {P : Program} (t : TypeId) (v : Value) : ((do pure (Next.value (← Instr.panic (.iface t v))) : Sem Next)).run P w = .halt (.panic (.iface t v)) w := by
  simp [Instr.panic, goPanic, Sem.run]

theorem sim_panic (hr : Rho C.ng μ tm ρ) (x : Operand) :
    OpOk C.P μ H w (step1 tm H (w1 C.ng x .panic)) ((do pure (Next.value (← Instr.panic (ρ x))) : Sem Next).run C.P w) := by
  unfold w1
  split
  · rename_i a ha
    have hv := hr _ _ ha
    simp only [step1]
    split
    · rename_i t v el
      rw [el] at hv
      obtain ⟨v', hp, hv'⟩ := hv.iface_inv
      refine ⟨rfl, .iface t v', .iface _ _ _ hv', ?_⟩
      rw [hp]
      exact run_panic t v'
    · trivial
  · trivial

theorem sim_builtin (hC : CtxOk C) (hr : Rho C.ng μ tm ρ) (hh : HRel C.P μ H w) (o : Oper) (c : Call) (b : Builtin) (ho : o.op = .call c) (hcb : c.callee = .builtin b) :
    OpOk C.P μ H w (step1 tm H (C.builtin b c.argTypes c.args)) ((Go.execOp ρ o).run C.P w) := by
  cases b
  case len => exact sim_len hC hr hh o c ho hcb
  case cap => exact sim_cap hC hr hh o c ho hcb
  case append => exact sim_append hC hr hh o c ho hcb
  case copy => exact sim_copy hC hr hh o c ho hcb
  case delete => exact sim_delete hC hr hh o c ho hcb
  case min => exact sim_min hr hh o c ho hcb
  case max => exact sim_max hr hh o c ho hcb
  case recover =>
    rw [exec_builtin ho hcb]
    simp only [Ctx.builtin, step1, builtin, OpOk, Sem.run_pure]
  case panic =>
    rw [exec_builtin ho hcb]
    unfold Ctx.builtin
    simp only
    split
    · rename_i x hargs
      rw [arr1 hargs]
      simp only [builtin]
      exact sim_panic hr x
    · trivial
  all_goals exact True.intro

theorem sim_call (hr : Rho C.ng μ tm ρ) (o : Oper) (c : Call) (f : Operand) (ho : o.op = .call c) (hcb : c.callee = .value f) :
    OpOk C.P μ H w (step1 tm H (w1 C.ng f fun f => wL C.ng c.args (.call f))) ((Go.execOp ρ o).run C.P w) := by
  unfold w1
  split
  · rename_i a ha
    unfold wL
    split
    · rename_i l hl
      refine ⟨ρ f, c.args.toList.map ρ, hr _ _ ha, hr.evs hl, ?_⟩
      have ea : c.args.map ρ = (c.args.toList.map ρ).toArray := by apply Array.ext'; simp
      simp only [Go.execOp, ho, resolve, hcb, ea]
    · trivial
  · trivial

theorem sim_invoke (hr : Rho C.ng μ tm ρ) (o : Oper) (c : Call) (r : Operand) (n : String) (ho : o.op = .call c) (hcb : c.callee = .invoke r n) :
    OpOk C.P μ H w (step1 tm H (w1 C.ng r fun r => wL C.ng c.args (.invoke r n))) ((Go.execOp ρ o).run C.P w) := by
  unfold w1
  split
  · rename_i a ha
    unfold wL
    split
    · rename_i l hl
      refine ⟨ρ r, c.args.toList.map ρ, hr _ _ ha, hr.evs hl, ?_⟩
      have ea : c.args.map ρ = (c.args.toList.map ρ).toArray := by apply Array.ext'; simp
      simp only [Go.execOp, ho, resolve, hcb, ea, Sem.run_bind, Sem.run_pure, Result.andThen_ok, invoke]
      have e1 : (#[ρ r] ++ (c.args.toList.map ρ).toArray)[0]? = some (ρ r) := by simp
      have e2 : (#[ρ r] ++ (c.args.toList.map ρ).toArray).extract 1 (#[ρ r] ++ (c.args.toList.map ρ).toArray).size = (c.args.toList.map ρ).toArray := by
        apply Array.ext'
        simp [Array.toList_extract]
        rw [List.take_of_length_le (by simp)]
      simp only [e1, e2]
    · trivial
  · trivial

theorem sim_dfr (hr : Rho C.ng μ tm ρ) (o : Oper) (c : Call) (f : Operand) (ho : o.op = .defer c) (hcb : c.callee = .value f) :
    OpOk C.P μ H w (step1 tm H (w1 C.ng f fun f => wL C.ng c.args (.dfr f))) ((Go.execOp ρ o).run C.P w) := by
  unfold w1
  split
  · rename_i a ha
    unfold wL
    split
    · rename_i l hl
      refine ⟨ρ f, c.args.toList.map ρ, hr _ _ ha, hr.evs hl, ?_⟩
      have ea : c.args.map ρ = (c.args.toList.map ρ).toArray := by apply Array.ext'; simp
      simp only [Go.execOp, ho, resolve, hcb, ea]
    · trivial
  · trivial
end
end Go.Ab

set_option linter.unusedSimpArgs false
set_option linter.unusedVariables false
namespace Go.Ab

/-! ### the choices play no part -/

theorem wo_get (H : AHeap) (x : List Nat) (b : Nat) : (H.wo x).get b = H.get b := rfl
theorem wo_nx (H : AHeap) (x : List Nat) : (H.wo x).nx = H.nx := rfl
theorem wo_put (H : AHeap) (x : List Nat) (b : Nat) (o : AObj) : (H.wo x).put b o = (H.put b o).wo x := rfl
theorem wo_new (H : AHeap) (x : List Nat) (o : AObj) : (H.wo x).new o = (H.new o).wo x := rfl
theorem wo_load (H : AHeap) (x : List Nat) (b o n : Nat) : load (H.wo x) b o n = load H b o n := rfl
theorem wo_load1 (H : AHeap) (x : List Nat) (b o : Nat) : load1 (H.wo x) b o = load1 H b o := rfl
theorem wo_srcCells (H : AHeap) (x : List Nat) (es most : Nat) (v : AV) : srcCells (H.wo x) es most v = srcCells H es most v := rfl
theorem wo_storeL (H : AHeap) (x : List Nat) (b o : Nat) (l : List AV) : storeL (H.wo x) b o l = (storeL H b o l).map (·.wo x) := by
  unfold storeL
  rw [wo_get]
  split
  · cases (Nat.ble (o + l.length) _ && l.all AV.one) <;> rfl
  · rfl
theorem wo_cond (c : Bool) (H G : AHeap) (x : List Nat) : cond c (H.wo x) (G.wo x) = (cond c H G).wo x := by cases c <;> rfl
theorem or_cond (c : Bool) (r q : OR) (x : List Nat) : (cond c r q).wo x = cond c (r.wo x) (q.wo x) := by cases c <;> rfl

def OR.clear : OR → Prop
  | .need _ => False
  | _ => True

def isNext : AOp → Bool
  | .next .. => true
  | _ => false

theorem map_wo {o : Option AHeap} {x : List Nat} {f : AHeap → OR} {b : OR} : (match o.map (·.wo x) with
    | some H' => f H'
    | none => b) = (match o with
    | some H' => f (H'.wo x)
    | none => b) := by cases o <;> rfl

theorem wo_appendA (H : AHeap) (x : List Nat) (es bytes : Nat) (s v : AV) : appendA es bytes (H.wo x) s v = (appendA es bytes H s v).wo x ∧ (appendA es bytes H s v).clear := by
  unfold appendA
  simp only [wo_srcCells, wo_storeL, wo_load, wo_nx, wo_put, wo_new, wo_cond, map_wo]
  simp only [cond]
  repeat' (first | exact ⟨rfl, trivial⟩ | split)
  all_goals (simp_all [OR.wo, OR.clear])

theorem step1_wo (tm : List AV) (H : AHeap) (x : List Nat) (aop : AOp) (h : isNext aop = false) :
    step1 tm (H.wo x) aop = (step1 tm H aop).wo x ∧ (step1 tm H aop).clear := by
  cases aop
  case next => cases h
  case append => exact wo_appendA _ _ _ _ _ _
  all_goals
    simp only [step1, wo_get, wo_srcCells, wo_storeL, wo_load, wo_load1, wo_nx, wo_put, wo_new, wo_cond, map_wo]
    try simp only [cond]
    repeat' (first | exact ⟨rfl, trivial⟩ | split)
    all_goals (simp_all [OR.wo, OR.clear])
end Go.Ab

set_option linter.unusedSimpArgs false
set_option linter.unusedVariables false
set_option maxRecDepth 4000
namespace Go.Ab

section
variable {C : Ctx} {μ : Mu} {H : AHeap} {w : World} {tm : List AV} {ρ : Operand → Value}

theorem OpSim.of {P : Program} {aop : AOp} {res : Result Next} (h : OpOk P μ H w (step1 tm H aop) res) (hn : isNext aop = false) : OpSim P μ H w tm aop res :=
  ⟨[], step1 tm H aop, fun rest => (step1_wo tm H rest aop hn).1, fun i hi => absurd hi (by simp), fun k e => by
    have := (step1_wo tm H [] aop hn).2
    rw [e] at this
    exact this, .inl rfl, h⟩

theorem next_or (o : Oper) : isNext (C.op o) = false ∨ ∃ x s, o.op = .next x s := by
  obtain ⟨dst, op, type, pos, after, guard⟩ := o
  cases op
  case next x s => exact .inr ⟨x, s, rfl⟩
  case call c =>
    left
    obtain ⟨callee, ats, args⟩ := c
    cases callee with
    | value f => simp only [Ctx.op, w1, wL]; repeat' (first | rfl | split)
    | invoke r n => simp only [Ctx.op, w1, wL]; repeat' (first | rfl | split)
    | builtin b =>
      cases b <;> simp only [Ctx.op, Ctx.builtin, w1, w2, wL, Ctx.elemInfo] <;> (try simp only [cond]) <;> repeat' (first | rfl | split)
  all_goals
    left
    simp only [Ctx.op, w1, w2, wL, wO, Ctx.elemInfo, Ctx.binop, Ctx.conv]
    try simp only [cond]
    repeat' (first | rfl | split)

theorem sim_unsup {P : Program} {why : String} {res : Result Next} : OpSim P μ H w tm (.bad why) res := OpSim.bad _ _ why _ fun _ => rfl

/-- Each operation: what the abstract machine does, the machine does. -/
theorem sim_op1 (hC : CtxOk C) (hr : Rho C.ng μ tm ρ) (hh : HRel C.P μ H w) (o : Oper) (hn : isNext (C.op o) = false) :
    OpOk C.P μ H w (step1 tm H (C.op o)) ((Go.execOp ρ o).run C.P w) := by
    cases hop : o.op with
    | move x => simp only [Ctx.op, Go.execOp, hop]; exact sim_move hr hh x
    | assign x => simp only [Ctx.op, Go.execOp, hop]; exact sim_move hr hh x
    | pick c a b => simp only [Ctx.op, Go.execOp, hop]; exact sim_pick hr hh c a b
    | alloc e => simp only [Ctx.op, Go.execOp, hop]; exact sim_alloc hC hh e
    | box e x => simp only [Ctx.op, Go.execOp, hop]; exact sim_box hr hh e x
    | build t ps => simp only [Ctx.op, Go.execOp, hop]; exact sim_build hC hr hh t ps
    | buildSlice t n ps => simp only [Ctx.op, Go.execOp, hop]; exact sim_buildSlice hC hr hh t n ps
    | load t a => simp only [Ctx.op, Go.execOp, hop]; exact sim_load hC hr hh t a
    | store t a x => simp only [Ctx.op, Go.execOp, hop]; exact sim_store hC hr hh t a x
    | nilCheck x => have := sim_nilCheck hr hh o x hop; simp only [Ctx.op, hop]; exact this
    | binOp op t x y z => simp only [Ctx.op, Go.execOp, hop]; exact sim_bin hC hr hh op t x y
    | unOp op t x => simp only [Ctx.op, Go.execOp, hop]; exact sim_unop hr hh op x
    | convert s d x => simp only [Ctx.op, Go.execOp, hop]; exact sim_conv hC hr hh s d x
    | makeInterface t x => simp only [Ctx.op, Go.execOp, hop]; exact sim_mkIface hC hr hh t x
    | makeFunc fn a b => simp only [Ctx.op, Go.execOp, hop]; exact sim_mkFunc hr hh fn a b
    | makeMap t r => simp only [Ctx.op, Go.execOp, hop]; exact sim_mkMap hh t r
    | makeSlice t l c => simp only [Ctx.op, Go.execOp, hop]; exact sim_mkSlice hC hr hh t l c
    | slice t x lo hi mx => simp only [Ctx.op, Go.execOp, hop]; exact sim_slice hC hr hh t x lo hi mx
    | fieldAddr s x f => simp only [Ctx.op, Go.execOp, hop]; exact sim_fieldAddr hC hr hh s x f
    | field t x f => simp only [Ctx.op, Go.execOp, hop]; exact sim_field hC hr hh t x f
    | indexAddr t x i => simp only [Ctx.op, Go.execOp, hop]; exact sim_indexAddr hC hr hh t x i
    | index t x i => simp only [Ctx.op, Go.execOp, hop]; exact sim_index hC hr hh t x i
    | lookup t x k ok => simp only [Ctx.op, Go.execOp, hop]; exact sim_lookup hC hr hh t x k ok
    | mapUpdate t m k x => simp only [Ctx.op, Go.execOp, hop]; exact sim_mapUpdate hC hr hh t m k x
    | insert t m k x =>
      simp only [Ctx.op, Go.execOp, hop]
      have h := sim_mapUpdate hC hr hh t m k x
      cases hu : C.und t with
      | none => trivial
      | some d => cases d <;> first | (simp only [hu] at h ⊢; exact h) | trivial
    | range t x => simp only [Ctx.op, Go.execOp, hop]; exact sim_range hC hr hh t x
    | next x s => 
      cases ha : opd C.ng x with
      | none => simp only [Ctx.op, hop, w1, ha]; trivial
      | some a => simp only [Ctx.op, hop, w1, ha] at hn; cases hn
    | entry x => simp only [Ctx.op, Go.execOp, hop]; exact sim_entry hr hh x
    | typeAssert x xt t ok => simp only [Ctx.op, Go.execOp, hop]; exact sim_assert hC hr hh x xt t ok
    | extract x i => simp only [Ctx.op, Go.execOp, hop]; exact sim_extract hr hh x i
    | call c =>
      cases hcb : c.callee with
      | value f => have := sim_call (H := H) (w := w) hr o c f hop hcb; simp only [Ctx.op, hop, hcb]; exact this
      | invoke r n => have := sim_invoke (H := H) (w := w) hr o c r n hop hcb; simp only [Ctx.op, hop, hcb]; exact this
      | builtin b => have := sim_builtin hC hr hh o c b hop hcb; simp only [Ctx.op, hop, hcb]; exact this
    | defer c =>
      cases hcb : c.callee with
      | value f => have := sim_dfr (H := H) (w := w) hr o c f hop hcb; simp only [Ctx.op, hop, hcb]; exact this
      | invoke r n => simp only [Ctx.op, hop, hcb]; trivial
      | builtin b => simp only [Ctx.op, hop, hcb]; trivial
    | panic x => simp only [Ctx.op, Go.execOp, hop]; exact sim_panic hr x
    | _ => simp only [Ctx.op, hop]; trivial

theorem sim_op (hC : CtxOk C) (hr : Rho C.ng μ tm ρ) (hh : HRel C.P μ H w) (o : Oper) : OpSim C.P μ H w tm (C.op o) ((Go.execOp ρ o).run C.P w) := by
  rcases next_or (C := C) o with hn | ⟨x, s, ho⟩
  · exact OpSim.of (sim_op1 hC hr hh o hn) hn
  · have := sim_next hr hh x s o.type
    simp only [Ctx.op, Go.execOp, ho]; exact this
end
end Go.Ab

set_option linter.unusedSimpArgs false
set_option linter.unusedVariables false
namespace Go.Ab

/-! ### which blocks a value names -/

theorem blocksL_mem {x : List AV} {b : Nat} : b ∈ blocksL x ↔ ∃ v ∈ x, b ∈ blocksV v := by
  induction x with
  | nil => simp [blocksL]
  | cons a x ih => simp [blocksL, ih]

theorem FRel.blocks {μ : Mu} {f : AFn} {g : Fn} (h : FRel μ f g) : ∀ b ∈ blocksF f, μ b ≠ none := by
  cases f with
  | yield l =>
    obtain ⟨x, h1, h2⟩ := h
    intro b hb
    simp [blocksF] at hb
    subst hb
    rw [h1]; simp
  | func f => intro b hb; simp [blocksF] at hb
  | via t p f q => intro b hb; simp [blocksF] at hb
  | method n => intro b hb; simp [blocksF] at hb

theorem VRel.blocks {μ : Mu} {a : AV} {v : Value} (h : VRel μ a v) : ∀ b ∈ blocksV a, μ b ≠ none := by
  induction h with
  | ptr b o l h => intro c hc; simp [blocksV] at hc; subst hc; rw [h]; simp
  | slice b o len cap es ex l a' cap' h hc hx ha hs hl => intro c hc; simp [blocksV] at hc; subst hc; rw [h]; simp
  | map b l h => intro c hc; simp [blocksV] at hc; subst hc; rw [h]; simp
  | func fn fn' x y x' y' hf hx hy _ _ i1 i2 =>
    intro c hc
    simp only [blocksV, List.mem_append] at hc
    rcases hc with hc | hc | hc
    · exact hf.blocks c hc
    · obtain ⟨v, hv, hb⟩ := blocksL_mem.1 hc
      obtain ⟨i, hi, rfl⟩ := List.getElem_of_mem hv
      exact i1 i hi (hx ▸ hi) c hb
    · obtain ⟨v, hv, hb⟩ := blocksL_mem.1 hc
      obtain ⟨i, hi, rfl⟩ := List.getElem_of_mem hv
      exact i2 i hi (hy ▸ hi) c hb
  | iface t v v' _ ih => intro c hc; simp only [blocksV] at hc; exact ih c hc
  | agg x x' hx _ ih =>
    intro c hc
    simp only [blocksV] at hc
    obtain ⟨v, hv, hb⟩ := blocksL_mem.1 hc
    obtain ⟨i, hi, rfl⟩ := List.getElem_of_mem hv
    exact ih i hi (hx ▸ hi) c hb
  | tup x x' hx _ ih =>
    intro c hc
    simp only [blocksV] at hc
    obtain ⟨v, hv, hb⟩ := blocksL_mem.1 hc
    obtain ⟨i, hi, rfl⟩ := List.getElem_of_mem hv
    exact ih i hi (hx ▸ hi) c hb
  | _ => intro c hc; simp [blocksV] at hc

/-- What stays of a map when only some blocks are kept. -/
def Keeps (μ μ' : Mu) (l : List Nat) : Prop := ∀ b ∈ l, μ' b = μ b

theorem FRel.keep {μ μ' : Mu} {f : AFn} {g : Fn} (h : FRel μ f g) (hk : Keeps μ μ' (blocksF f)) : FRel μ' f g := by
  cases f with
  | yield l =>
    obtain ⟨x, h1, h2⟩ := h
    exact ⟨x, by rw [hk l (by simp [blocksF])]; exact h1, h2⟩
  | func f => exact h
  | via t p f q => exact h
  | method n => exact h

theorem VRel.keep {μ μ' : Mu} {a : AV} {v : Value} (h : VRel μ a v) : Keeps μ μ' (blocksV a) → VRel μ' a v := by
  induction h with
  | bool b => intro _; exact .bool b
  | int k n => intro _; exact .int k n
  | str s => intro _; exact .str s
  | ptr b o l h => intro hk; exact .ptr b o l (by rw [hk b (by simp [blocksV])]; exact h)
  | nilPtr => intro _; exact .nilPtr
  | slice b o len cap es ex l a' cap' h hc hx ha hs hl => intro hk; exact .slice b o len cap es ex l a' cap' (by rw [hk b (by simp [blocksV])]; exact h) hc hx ha hs hl
  | nilSlice => intro _; exact .nilSlice
  | map b l h => intro hk; exact .map b l (by rw [hk b (by simp [blocksV])]; exact h)
  | nilMap => intro _; exact .nilMap
  | func fn fn' x y x' y' hf hx hy _ _ i1 i2 =>
    intro hk
    refine .func fn fn' x y x' y' (hf.keep fun b hb => hk b (by simp [blocksV, hb])) hx hy (fun i h h' => i1 i h h' fun b hb => hk b ?_) (fun i h h' => i2 i h h' fun b hb => hk b ?_)
    · simp only [blocksV, List.mem_append]
      exact .inr (.inl (blocksL_mem.2 ⟨_, List.getElem_mem h, hb⟩))
    · simp only [blocksV, List.mem_append]
      exact .inr (.inr (blocksL_mem.2 ⟨_, List.getElem_mem h, hb⟩))
  | nilFunc => intro _; exact .nilFunc
  | iface t v v' _ ih => intro hk; exact .iface t v v' (ih fun b hb => hk b (by simpa only [blocksV] using hb))
  | nilIface => intro _; exact .nilIface
  | any v h1 h2 h3 => intro _; exact .any v h1 h2 h3
  | agg x x' hx _ ih => intro hk; exact .agg x x' hx fun i h h' => ih i h h' fun b hb => hk b (by simp only [blocksV]; exact blocksL_mem.2 ⟨_, List.getElem_mem h, hb⟩)
  | tup x x' hx _ ih => intro hk; exact .tup x x' hx fun i h h' => ih i h h' fun b hb => hk b (by simp only [blocksV]; exact blocksL_mem.2 ⟨_, List.getElem_mem h, hb⟩)

/-! ### what is made, seen late -/

/-- What an operation that makes something makes. -/
def floatOf (tm : List AV) : AOp → Option (AObj × (Nat → AV))
  | .alloc z n => some (.cells z n, fun b => .ptr b 0)
  | .box n x => cond (Nat.beq (x.ev tm).cells.length n && (x.ev tm).cells.all AV.one) (some (.cells (Tr.ofList (x.ev tm).cells) n, fun b => .ptr b 0)) none
  | .buildSlice z n es len ps => match fillA z (evParts tm ps) with
    | some cs => cond (Nat.beq cs.length n && cs.all AV.one) (some (.cells (Tr.ofList cs) n, fun b => .slice b 0 len len es true)) none
    | none => none
  | .mkMap => some (.map [] 0, fun b => .map b)
  | .mkSlice z es bytes l c => match natIn (l.ev tm) with
    | none => none
    | some l => match natIn (c.ev tm) with
      | none => none
      | some c => cond (Nat.ble l c && Nat.ble (c * bytes) 1099511627776) (some (.cells (Tr.ofList ((List.replicate c z).flatten)) (c * es), fun b => .slice b 0 l c es true)) none
  | .toBytes x => match x.ev tm with
    | .str s => some (.cells (Tr.ofList (byteCells s)) s.length, fun b => .slice b 0 s.length s.length 1 false)
    | _ => none
  | _ => none

def isFloat (o : AOp) : Bool := match kd o with
  | .float => true
  | _ => false

theorem step1_float (tm : List AV) (H : AHeap) (aop : AOp) (h : isFloat aop = true) :
    (∃ o f, floatOf tm aop = some (o, f) ∧ step1 tm H aop = .val (f H.nx) (H.new o)) ∨ (floatOf tm aop = none ∧ ∃ w, step1 tm H aop = .bad w) := by
  cases aop <;> (try (cases h; done)) <;> simp only [step1, floatOf]
  case alloc => exact .inl ⟨_, _, rfl, rfl⟩
  case mkMap => exact .inl ⟨_, _, rfl, rfl⟩
  case box n x =>
    cases hb : (Nat.beq (x.ev tm).cells.length n && (x.ev tm).cells.all AV.one)
    · exact .inr ⟨rfl, _, rfl⟩
    · exact .inl ⟨_, _, rfl, rfl⟩
  case buildSlice z n es len ps =>
    cases hf : fillA z (evParts tm ps) with
    | none => exact .inr ⟨rfl, _, rfl⟩
    | some cs =>
      simp only
      cases hb : (Nat.beq cs.length n && cs.all AV.one)
      · exact .inr ⟨rfl, _, rfl⟩
      · exact .inl ⟨_, _, rfl, rfl⟩
  case mkSlice z es bytes l c =>
    cases hl : natIn (l.ev tm) with
    | none => exact .inr ⟨rfl, _, rfl⟩
    | some l' =>
      simp only
      cases hc : natIn (c.ev tm) with
      | none => exact .inr ⟨rfl, _, rfl⟩
      | some c' =>
        simp only
        cases hb : (Nat.ble l' c' && Nat.ble (c' * bytes) 1099511627776)
        · exact .inr ⟨rfl, _, rfl⟩
        · exact .inl ⟨_, _, rfl, rfl⟩
  case toBytes x =>
    cases x.ev tm <;> first
      | exact .inl ⟨_, _, rfl, rfl⟩
      | exact .inr ⟨rfl, _, rfl⟩

theorem float_shape {tm : List AV} {aop : AOp} {o : AObj} {f : Nat → AV} (h : floatOf tm aop = some (o, f)) :
    ((∃ c n, o = .cells c n) ∨ o = .map [] 0) ∧
    ((f = fun b => .ptr b 0) ∨ (∃ l c es ex, f = fun b => .slice b 0 l c es ex) ∨ f = fun b => .map b) := by
  cases aop <;> simp only [floatOf] at h <;> (try (cases h; done))
  case alloc => cases h; exact ⟨.inl ⟨_, _, rfl⟩, .inl rfl⟩
  case mkMap => cases h; exact ⟨.inr rfl, .inr (.inr rfl)⟩
  case box n x =>
    cases hb : (Nat.beq (x.ev tm).cells.length n && (x.ev tm).cells.all AV.one) <;> simp only [hb, cond] at h <;> cases h
    exact ⟨.inl ⟨_, _, rfl⟩, .inl rfl⟩
  case buildSlice z n es len ps =>
    split at h
    · rename_i cs _
      cases hb : (Nat.beq cs.length n && cs.all AV.one) <;> simp only [hb, cond] at h <;> cases h
      exact ⟨.inl ⟨_, _, rfl⟩, .inr (.inl ⟨_, _, _, _, rfl⟩)⟩
    · cases h
  case mkSlice z es bytes l c =>
    split at h
    · cases h
    · rename_i l' _
      split at h
      · cases h
      · rename_i c' _
        cases hb : (Nat.ble l' c' && Nat.ble (c' * bytes) 1099511627776) <;> simp only [hb, cond] at h <;> cases h
        exact ⟨.inl ⟨_, _, rfl⟩, .inr (.inl ⟨_, _, _, _, rfl⟩)⟩
  case toBytes x =>
    split at h
    · cases h
      exact ⟨.inl ⟨_, _, rfl⟩, .inr (.inl ⟨_, _, _, _, rfl⟩)⟩
    · cases h

/-- The blocks that an object's contents name are all in the map. -/
def Shut (μ : Mu) : AObj → Prop
  | .cells c n => ∀ i v, i < n → c.get i = some v → ∀ b ∈ blocksV v, μ b ≠ none
  | .map es _ => ∀ e ∈ es, (∀ b ∈ blocksV e.1, μ b ≠ none) ∧ ∀ b ∈ blocksV e.2, μ b ≠ none
  | _ => False

theorem ORel.keep {P : Program} {μ μ' : Mu} {o : AObj} {l : Loc} {o' : Obj} (h : ORel P μ o l o') {ν : Mu} (hs : Shut ν o) (hk : ∀ b, ν b ≠ none → μ' b = μ b) : ORel P μ' o l o' := by
  cases o with
  | cells c n =>
    obtain ⟨C, elem, fr, h1, h2, h3, h4, h5⟩ := h
    refine ⟨C, elem, fr, h1, h2, h3, h4, fun i hi => ?_⟩
    obtain ⟨v, v', a, b, c', d⟩ := h5 i hi
    exact ⟨v, v', a, b, c'.keep fun x hx => hk x (hs i v hi a x hx), d⟩
  | map es k =>
    obtain ⟨es', clock, h1, h2, ⟨z, z1, z2⟩, h4⟩ := h
    refine ⟨es', clock, h1, h2, ⟨z, z1, z2.1, fun i hi hi' => ?_⟩, h4⟩
    have := z2.2 i hi hi'
    have hm := hs es[i] (List.getElem_mem hi)
    exact ⟨this.1.keep fun x hx => hk x (hm.1 x hx), this.2.keep fun x hx => hk x (hm.2 x hx)⟩
  | _ => exact hs.elim

theorem ORel.shut {P : Program} {μ : Mu} {o : AObj} {l : Loc} {o' : Obj} (h : ORel P μ o l o') (hs : (∃ c n, o = .cells c n) ∨ ∃ es k, o = .map es k) : Shut μ o := by
  rcases hs with ⟨c, n, rfl⟩ | ⟨es, k, rfl⟩
  · obtain ⟨C, elem, fr, h1, h2, h3, h4, h5⟩ := h
    intro i v hi hv b hb
    obtain ⟨v1, v', a, _, c', d⟩ := h5 i hi
    rw [hv] at a; cases a
    exact c'.blocks b hb
  · obtain ⟨es', clock, h1, h2, ⟨z, z1, z2⟩, h4⟩ := h
    intro e he
    obtain ⟨i, hi, rfl⟩ := List.getElem_of_mem he
    have := z2.2 i hi (z2.1 ▸ hi)
    exact ⟨this.1.blocks, this.2.blocks⟩

theorem Shut.two {μ ν κ : Mu} {o : AObj} (h : Shut μ o) (h' : Shut ν o) (hk : ∀ b, μ b ≠ none → ν b ≠ none → κ b ≠ none) : Shut κ o := by
  cases o with
  | cells c n => exact fun i v hi hv b hb => hk b (h i v hi hv b hb) (h' i v hi hv b hb)
  | map es k => exact fun e he => ⟨fun b hb => hk b ((h e he).1 b hb) ((h' e he).1 b hb), fun b hb => hk b ((h e he).2 b hb) ((h' e he).2 b hb)⟩
  | _ => exact h.elim

section
variable {C : Ctx} {μ : Mu} {H : AHeap} {w : World} {tm : List AV} {ρ : Operand → Value}

/-- Nothing old changes; one new object. -/
structure LateW (w w' : World) (l : Loc) : Prop where
  blk : w.heap.size ≤ l.blk
  size : w.heap.size ≤ w'.heap.size
  old : ∀ k, k < w.heap.size → w'.heap[k]? = w.heap[k]?
  tape : w'.tape = w.tape
  os : w'.os = w.os
  output : w'.output = w.output

theorem late_at (hC : CtxOk C) (hr : Rho C.ng μ tm ρ) (hh : HRel C.P μ H w) (o : Oper) (hk : isFloat (C.op o) = true) {obj : AObj} {f : Nat → AV} (hf : floatOf tm (C.op o) = some (obj, f))
    (N : Nat) (hN : H.nx ≤ N) :
    ∃ l v' w' o', (Go.execOp ρ o).run C.P w = .ok (.value v') w' ∧ VRel (μ.upd N l) (f N) v' ∧ ORel C.P (μ.upd N l) obj l o' ∧ w'.heap[l.blk]? = some o' ∧ l.blk < w'.heap.size ∧ LateW w w' l := by
  have hh1 : HRel C.P μ { H with nx := N, mn := N } w := by
    refine ⟨fun b l hb => ⟨Nat.lt_of_lt_of_le (hh.lt b l hb).1 hN, (hh.lt b l hb).2⟩, hh.obj, hh.inj, ?_, Nat.le_refl _, fun b o hb => Nat.lt_of_lt_of_le (hh.wf b o hb) hN⟩
    intro b l m ver left last hb hg
    exact hh.it b l m ver left last hb hg
  have hn : isNext (C.op o) = false := by
    cases hop : C.op o <;> rw [hop] at hk <;> first | rfl | cases hk
  have hstep : step1 tm { H with nx := N, mn := N } (C.op o) = .val (f N) (({ H with nx := N, mn := N } : AHeap).new obj) := by
    rcases step1_float tm { H with nx := N, mn := N } (C.op o) hk with ⟨o1, f1, h1, h2⟩ | ⟨h1, _⟩
    · rw [hf] at h1; cases h1; exact h2
    · rw [hf] at h1; cases h1
  have hsim := sim_op1 hC hr hh1 o hn
  rw [hstep] at hsim
  obtain ⟨μ', v', w', hrun, hv, hrel, hgo⟩ := hsim
  obtain ⟨hs1, hs2⟩ := float_shape hf
  have hN' : μ' N ≠ none := by
    refine hv.blocks N ?_
    rcases hs2 with rfl | ⟨l, c, es, ex, rfl⟩ | rfl <;> simp [blocksV]
  obtain ⟨l, hl⟩ := Option.ne_none_iff_exists'.1 hN'
  have hμN : μ N = none := by
    cases h : μ N with
    | none => rfl
    | some l0 => exact absurd (hh.lt N l0 h).1 (by omega)
  have hμ' : μ' = μ.upd N l := by
    funext c
    unfold Mu.upd
    by_cases e : c = N
    · rw [if_pos e, e, hl]
    · rw [if_neg e]
      cases h : μ' c with
      | some lc =>
        cases h0 : μ c with
        | some l0 => have := hgo.ext _ _ h0; rw [h] at this; exact this
        | none =>
          have h1 := hgo.dom c lc h h0
          have h2 := (hrel.lt c lc h).1
          simp only [AHeap.new_nx] at h1 h2
          omega
      | none =>
        cases h0 : μ c with
        | none => rfl
        | some l0 => have := hgo.ext _ _ h0; rw [h] at this; cases this
  subst hμ'
  obtain ⟨o', h1, h2⟩ := hrel.obj N l obj hl (by rw [AHeap.get_new]; exact if_pos rfl) (by rcases hs1 with ⟨c, n, rfl⟩ | rfl <;> simp)
  have hrun' : (Go.execOp ρ o).run C.P w = .ok (.value v') w' := by
    rcases hrun with h | ⟨_, h⟩
    · exact h
    · subst h
      rcases hs2 with rfl | ⟨l, c, es, ex, rfl⟩ | rfl <;> cases hv
  refine ⟨l, v', w', o', hrun', hv, h2, h1, (hrel.lt N l hl).2, ?_, hgo.size, ?_, hgo.tape, hgo.os, hgo.output⟩
  · rcases hgo.new N l hl hμN with h | ⟨b0, l0, g1, g2, g3⟩
    · exact h
    · have := (hh.lt b0 l0 g1).1
      simp only [AHeap.new_mn] at g3
      omega
  · intro k hk
    refine hgo.frame k hk fun b lb hb hm => ?_
    have := (hh.lt b lb hb).1
    simp only [AHeap.new_mn] at hm
    omega

/-- What was made before is made now. -/
theorem late (hC : CtxOk C) (hr : Rho C.ng μ tm ρ) (hh : HRel C.P μ H w) (o : Oper) (hk : isFloat (C.op o) = true) {obj : AObj} {f : Nat → AV} (hf : floatOf tm (C.op o) = some (obj, f))
    (b : Nat) (hb : H.get b = some obj) (hμ : μ b = none) (hlt : b < H.nx) :
    ∃ l v' w', (Go.execOp ρ o).run C.P w = .ok (.value v') w' ∧ VRel (μ.upd b l) (f b) v' ∧ HRel C.P (μ.upd b l) H w' ∧ LateW w w' l := by
  obtain ⟨l, v', w', o', q1, q2, q3, q4, q5, q6⟩ := late_at hC hr hh o hk hf H.nx (Nat.le_refl _)
  obtain ⟨l2, v2, w2, o2, p1, p2, p3, p4, p5, p6⟩ := late_at hC hr hh o hk hf (H.nx + 1) (Nat.le_succ _)
  obtain ⟨hs1, hs2⟩ := float_shape hf
  have hcs : (∃ c n, obj = .cells c n) ∨ ∃ es k, obj = .map es k := by
    rcases hs1 with h | h
    · exact .inl h
    · exact .inr ⟨_, _, h⟩
  have hnone : ∀ N, H.nx ≤ N → μ N = none := by
    intro N hN
    cases h : μ N with
    | none => rfl
    | some l0 => exact absurd (hh.lt N l0 h).1 (by omega)
  have hshut : Shut μ obj := by
    refine (q3.shut hcs).two (p3.shut hcs) fun c h1 h2 => ?_
    unfold Mu.upd at h1 h2
    by_cases e : c = H.nx
    · rw [if_neg (by omega)] at h2; exact h2
    · rw [if_neg e] at h1; exact h1
  have hle : MuLe μ (μ.upd b l) := Mu.upd_le l hμ
  have hkeep : ∀ c, μ c ≠ none → (μ.upd b l) c = (μ.upd H.nx l) c := by
    intro c hc
    have e1 : c ≠ b := fun e => hc (e ▸ hμ)
    have e2 : c ≠ H.nx := fun e => hc (e ▸ hnone _ (Nat.le_refl _))
    simp [Mu.upd, e1, e2]
  have hob : ORel C.P (μ.upd b l) obj l o' := q3.keep hshut hkeep
  have hdead : obj ≠ .dead := by rcases hs1 with ⟨c, n, rfl⟩ | rfl <;> simp
  have cases' : ∀ c lc, (μ.upd b l) c = some lc → (c = b ∧ lc = l) ∨ (c ≠ b ∧ μ c = some lc) := by
    intro c lc hc
    unfold Mu.upd at hc
    by_cases e : c = b
    · rw [if_pos e] at hc; cases hc; exact .inl ⟨e, rfl⟩
    · rw [if_neg e] at hc; exact .inr ⟨e, hc⟩
  refine ⟨l, v', w', q1, ?_, ?_, q6⟩
  · rcases hs2 with rfl | ⟨ln, cp, es, ex, rfl⟩ | rfl
    · cases q2
      rename_i l' h'
      have : l' = l := by simp [Mu.upd] at h'; exact h'.symm
      subst this
      exact .ptr b 0 _ (Mu.upd_self _ _ _)
    · cases q2
      rename_i l' a' cap' h' _ _ _ _ _
      have : l' = l := by simp [Mu.upd] at h'; exact h'.symm
      subst this
      exact .slice b 0 ln cp es ex _ a' cap' (Mu.upd_self _ _ _) (by assumption) (by assumption) (by assumption) (by assumption) (by assumption)
    · cases q2
      rename_i l' h'
      have : l' = l := by simp [Mu.upd] at h'; exact h'.symm
      subst this
      exact .map b _ (Mu.upd_self _ _ _)
  · refine ⟨?_, ?_, ?_, ?_, hh.mn, hh.wf⟩
    · intro c lc hc
      rcases cases' c lc hc with ⟨rfl, rfl⟩ | ⟨_, h⟩
      · exact ⟨hlt, q5⟩
      · exact ⟨(hh.lt c lc h).1, Nat.lt_of_lt_of_le (hh.lt c lc h).2 q6.size⟩
    · intro c lc oc hc hg hd
      rcases cases' c lc hc with ⟨rfl, rfl⟩ | ⟨_, h⟩
      · rw [hb] at hg; cases hg
        exact ⟨o', q4, hob⟩
      · obtain ⟨oo, g1, g2⟩ := hh.obj c lc oc h hg hd
        exact ⟨oo, by rw [q6.old _ (hh.lt c lc h).2]; exact g1, g2.mono hle⟩
    · intro c c' lc lc' hc hc' hne hl hl'
      rcases cases' c lc hc with ⟨rfl, rfl⟩ | ⟨e, h⟩ <;> rcases cases' c' lc' hc' with ⟨rfl, rfl⟩ | ⟨e', h'⟩
      · exact absurd rfl hne
      · have h1 := (hh.lt c' lc' h').2
        have h2 := q6.blk
        omega
      · have h1 := (hh.lt c lc h).2
        have h2 := q6.blk
        omega
      · exact hh.inj c c' lc lc' h h' hne hl hl'
    · intro c lc m ver left last hc hg
      rcases cases' c lc hc with ⟨rfl, rfl⟩ | ⟨_, h⟩
      · rw [hb] at hg; cases hg
        rcases hs1 with ⟨c, n, e⟩ | e <;> cases e
      · refine (hh.it c lc m ver left last h hg).mono hle (q6.old _ (hh.lt c lc h).2) fun xs v hm lm hlm => ⟨xs, v, hm, Nat.le_refl _, fun _ => q6.old _ (hh.lt m lm hlm).2⟩
end
end Go.Ab

set_option linter.unusedSimpArgs false
set_option linter.unusedVariables false
namespace Go.Ab

def Same (tm tm' : List AV) (l : List Nat) : Prop := ∀ t ∈ l, tm[t]? = tm'[t]?

theorem Same.left {tm tm' : List AV} {a b : List Nat} (h : Same tm tm' (a ++ b)) : Same tm tm' a := fun t ht => h t (List.mem_append_left _ ht)
theorem Same.right {tm tm' : List AV} {a b : List Nat} (h : Same tm tm' (a ++ b)) : Same tm tm' b := fun t ht => h t (List.mem_append_right _ ht)

theorem ev_same {tm tm' : List AV} {x : Opd} (h : Same tm tm' x.tmps) : x.ev tm = x.ev tm' := by
  cases x with
  | t n => simp only [Opd.ev]; rw [h n (by simp [Opd.tmps])]
  | c v => rfl
theorem evs_same {tm tm' : List AV} {l : List Opd} (h : Same tm tm' (listTmps l)) : Opd.evs tm l = Opd.evs tm' l := by
  induction l with
  | nil => rfl
  | cons x l ih => simp only [Opd.evs]; rw [ev_same h.left, ih h.right]
theorem evParts_same {tm tm' : List AV} {l : List (Nat × Nat × Opd)} (h : Same tm tm' (partTmps l)) : evParts tm l = evParts tm' l := by
  induction l with
  | nil => rfl
  | cons x l ih =>
    obtain ⟨o, n, x⟩ := x
    simp only [evParts]
    simp only [partTmps] at h
    rw [ev_same h.left, ih h.right]
theorem bound_same {tm tm' : List AV} {d most : Nat} {x : Option Opd} (h : Same tm tm' (optTmps x)) : bound tm d most x = bound tm' d most x := by
  cases x with
  | none => rfl
  | some x => simp only [bound]; rw [ev_same h]
theorem bounds_same {tm tm' : List AV} {len cap : Nat} {lo hi mx : Option Opd} (h1 : Same tm tm' (optTmps lo)) (h2 : Same tm tm' (optTmps hi)) (h3 : Same tm tm' (optTmps mx)) :
    bounds tm len cap lo hi mx = bounds tm' len cap lo hi mx := by
  unfold bounds
  rw [bound_same h3]
  cases bound tm' cap cap mx with
  | none => rfl
  | some m =>
    simp only
    rw [bound_same h2]
    cases hb : bound tm' len m hi with
    | none => rfl
    | some h =>
      simp only
      rw [bound_same h1]

/-- An operation looks at no other temporaries. -/
theorem step1_same {tm tm' : List AV} (H : AHeap) (aop : AOp) (h : Same tm tm' aop.tmps) : step1 tm H aop = step1 tm' H aop := by
  cases aop <;> simp only [AOp.tmps] at h <;> simp only [step1]
  case build z ps => rw [evParts_same h]
  case buildSlice z n es len ps => rw [evParts_same h]
  case mkFunc f a b => rw [evs_same h.left, evs_same h.right]
  case call f args => rw [ev_same h.left, evs_same h.right]
  case dfr f args => rw [ev_same h.left, evs_same h.right]
  case invoke f n args => rw [ev_same h.left, evs_same h.right]
  case pick c a b => rw [ev_same h.left, ev_same h.right.left, ev_same h.right.right]
  case mapUpdate e m k x => rw [ev_same h.left, ev_same h.right.left, ev_same h.right.right]
  case sliceStr x lo hi =>
    rw [ev_same h.left]
    have hb : ∀ n m, bounds tm n m lo hi none = bounds tm' n m lo hi none := fun n m => bounds_same h.right.left h.right.right (fun t ht => by simp [optTmps] at ht)
    simp only [hb]
  case slice es x lo hi mx => 
    rw [ev_same h.left]
    simp only [bounds_same h.right.left h.right.right.left h.right.right.right]
  case sliceArr n es x lo hi mx =>
    rw [ev_same h.left]
    simp only [bounds_same h.right.left h.right.right.left h.right.right.right]
  all_goals first
    | rfl
    | rw [ev_same h]
    | rw [ev_same h.left, ev_same h.right]

/-- What is pure does not look at memory. -/
theorem step1_pure (tm : List AV) (aop : AOp) (h : kd aop = .pure) : (∃ v, ∀ H, step1 tm H aop = .val v H) ∨ ∃ w, ∀ H, step1 tm H aop = .bad w := by
  cases aop <;> (try (cases h; done)) <;> simp only [step1] <;> (try simp only [cond]) <;>
    repeat' (first | exact .inl ⟨_, fun _ => rfl⟩ | exact .inr ⟨_, fun _ => rfl⟩ | split)

/-- What reads writes nothing. -/
theorem step1_read (tm : List AV) (H : AHeap) (aop : AOp) (h : kd aop = .read) : (∃ v, step1 tm H aop = .val v H) ∨ ∃ w, step1 tm H aop = .bad w := by
  cases aop <;> (try (cases h; done)) <;> simp only [step1] <;> (try simp only [cond]) <;>
    repeat' (first | exact .inl ⟨_, rfl⟩ | exact .inr ⟨_, rfl⟩ | split)
end Go.Ab
