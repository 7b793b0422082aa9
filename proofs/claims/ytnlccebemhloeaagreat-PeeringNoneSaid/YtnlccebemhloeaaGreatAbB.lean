/- Proved here: operations of the abstract machine are operations of the model (sums, comparisons, conversions, memory, maps): each under the conditions that it states. -/
import Derived.Test.YtnlccebemhloeaaGreatAbA
import Derived.Laws.Concat
set_option linter.all false
set_option linter.unusedSimpArgs false
set_option linter.unusedVariables false
namespace Go.Ab

section
variable {C : Ctx} {μ : Mu} {H : AHeap} {w : World} {tm : List AV} {ρ : Operand → Value}

theorem binA_sound {op : BinOp} {x y v : AV} {x' y' : Value} (hx : VRel μ x x') (hy : VRel μ y y') (h : binA op x y = some v) (t : TypeId) (a b : Operand) (P : Program) :
    ∃ v', (do eqGuard op t a b x' y'; binOp op t x' y' : Sem Value).run P w = .ok v' w ∧ VRel μ v v' := by
  unfold binA at h
  split at h
  · -- ints
    rename_i k m yk n
    rw [hx.int_inv, hy.int_inv]
    have hguard : (eqGuard op t a b (.int k m) (.int yk n)).run P w = .ok () w := by cases op <;> simp [eqGuard]
    simp only [Sem.run_bind, hguard, Result.andThen_ok]
    split at h
    · split at h
      · cases h
        exact ⟨_, by simp only [binOp]; exact shl_eq _ _ _ _ _ _, .int _ _⟩
      · cases h
    · split at h
      · cases h
        exact ⟨_, by simp only [binOp]; exact shr_eq _ _ _ _ _ _, .int _ _⟩
      · cases h
    · rename_i hns hnr
      cases hk : kindEq k yk <;> simp only [hk, cond] at h
      · cases h
      · have := (kindEq_iff _ _).1 hk
        subst this
        cases op
        case shl => exact absurd rfl hns
        case shr => exact absurd rfl hnr
        case add => cases h; exact ⟨.int k (k.wrap (m + n)), by simp [binOp, Op.intArith], by rw [wrapA_eq]; exact .int _ _⟩
        case sub => cases h; exact ⟨.int k (k.wrap (m - n)), by simp [binOp, Op.intArith], by rw [wrapA_eq]; exact .int _ _⟩
        case mul => cases h; exact ⟨.int k (k.wrap (m * n)), by simp [binOp, Op.intArith], by rw [wrapA_eq]; exact .int _ _⟩
        case quo =>
          simp only at h
          split at h
          · rename_i q hq
            cases h
            exact ⟨_, by simp only [binOp, ne_eq, not_true, if_false]; exact quo_eq _ _ _ _ hq _ _, .int _ _⟩
          · cases h
        case rem =>
          simp only at h
          split at h
          · rename_i q hq
            cases h
            exact ⟨_, by simp only [binOp, ne_eq, not_true, if_false]; exact rem_eq _ _ _ _ hq _ _, .int _ _⟩
          · cases h
        case eql => cases h; exact ⟨.bool (m == n), by simp [binOp, Op.intCmp], by rw [eqb_eq]; exact .bool _⟩
        case neq => cases h; exact ⟨.bool (!(m == n)), by simp [binOp, Op.intCmp, bne], by rw [eqb_eq]; exact .bool _⟩
        case lss => cases h; exact ⟨.bool (decide (m < n)), by simp [binOp, Op.intCmp], by rw [ltb_eq]; exact .bool _⟩
        case gtr => cases h; exact ⟨.bool (decide (m > n)), by simp [binOp, Op.intCmp], by rw [ltb_eq]; exact .bool _⟩
        case leq =>
          cases h
          refine ⟨.bool (decide (m ≤ n)), by simp [binOp, Op.intCmp], ?_⟩
          rw [ltb_eq, show (!decide (n < m)) = decide (m ≤ n) from by rw [← decide_not]; congr 1; simp]
          exact .bool _
        case geq =>
          cases h
          refine ⟨.bool (decide (m ≥ n)), by simp [binOp, Op.intCmp], ?_⟩
          rw [ltb_eq, show (!decide (m < n)) = decide (m ≥ n) from by rw [← decide_not]; congr 1; simp]
          exact .bool _
        all_goals
          simp only at h
          split at h
          · rename_i q hq
            cases h
            exact ⟨_, by simp only [binOp, ne_eq, not_true, if_false]; exact bits_eq _ _ _ _ _ hq _ _, .int _ _⟩
          · cases h
  · -- strings
    rename_i s u
    obtain ⟨bs, rfl, rfl⟩ := hx.str_inv
    obtain ⟨bu, rfl, rfl⟩ := hy.str_inv
    have hguard : (eqGuard op t a b (.string bs) (.string bu)).run P w = .ok () w := by cases op <;> simp [eqGuard]
    simp only [Sem.run_bind, hguard, Result.andThen_ok]
    cases op <;> simp only at h <;> try (cases h; done)
    case add =>
      cases hb : Nat.ble ((bs.data.toList.map UInt8.toNat).length + (bu.data.toList.map UInt8.toNat).length) 1099511627776 <;> simp only [hb, cond] at h
      · cases h
      · cases h
        have := (ble_iff _ _).1 hb
        simp at this
        refine ⟨.string (bs ++ bu), ?_, ?_⟩
        · simp only [binOp]
          exact run_string_add_sum w bs bu (by omega)
        · have e : (bs ++ bu).data = bs.data ++ bu.data := ByteArray.data_append
          have := VRel.str (μ := μ) (bs ++ bu)
          rw [e] at this
          simpa using this
    case eql => cases h; exact ⟨.bool (bs.toList == bu.toList), by simp only [binOp, Op.stringOp, Sem.run_pure], by rw [strEq_bytes]; exact .bool _⟩
    case neq => cases h; exact ⟨.bool (!(bs.toList == bu.toList)), by simp only [binOp, Op.stringOp, Sem.run_pure], by rw [strEq_bytes]; exact .bool _⟩
    case lss => cases h; exact ⟨.bool (Op.bytesLess bs.toList bu.toList), by simp only [binOp, Op.stringOp, Sem.run_pure], by rw [strLt_bytes]; exact .bool _⟩
    case leq => cases h; exact ⟨.bool (Op.bytesLess bs.toList bu.toList || bs.toList == bu.toList), by simp only [binOp, Op.stringOp, Sem.run_pure], by rw [strLt_bytes, strEq_bytes]; exact .bool _⟩
    case gtr => cases h; exact ⟨.bool (!(Op.bytesLess bs.toList bu.toList || bs.toList == bu.toList)), by simp only [binOp, Op.stringOp, Sem.run_pure], by rw [strLt_bytes, strEq_bytes]; exact .bool _⟩
    case geq => cases h; exact ⟨.bool (!Op.bytesLess bs.toList bu.toList), by simp only [binOp, Op.stringOp, Sem.run_pure], by rw [strLt_bytes]; exact .bool _⟩
  · cases h

/-! ### equality -/

theorem part_spec (hC : CtxOk C) {f : TypeId} {ag : Option Nat} (h : C.aggSize f = some ag) {x : List AV} {y : List Value} (hl : LRel μ x y) {off : Nat} {v : AV} (hp : partA x off ag = some v) :
    ∃ v', (part f y.toArray off).run C.P w = .ok v' w ∧ VRel μ v v' := by
  obtain ⟨h1, h2⟩ := hC.aggSize h w
  unfold part
  cases ag with
  | some n =>
    simp only [partA] at hp; cases hp
    simp only [Sem.run_bind, h1, Option.isSome_some, Result.andThen_ok, if_true, h2 n rfl, Sem.run_pure]
    refine ⟨_, rfl, ?_⟩
    have := VRel.agg_of ((hl.drop off).take n)
    have e : (y.toArray.extract off (off + n)) = ((y.drop off).take n).toArray := by
      apply Array.ext'
      simp
    rw [e]; exact this
  | none =>
    simp only [partA] at hp
    obtain ⟨v', hv, hr⟩ := hl.get hp
    simp only [Sem.run_bind, h1, Option.isSome_none, Result.andThen_ok, Bool.false_eq_true, if_false]
    refine ⟨v', ?_, hr⟩
    simp [hv]

theorem boolEq_eq (a b : Bool) : boolEq a b = (a == b) := by cases a <;> cases b <;> rfl

def sameFields (C : Ctx) (d : Nat) : List Field → List (Nat × Option Nat × EqT) → Prop
  | [], l => l = []
  | f :: fs, l => if f.name = "_" then sameFields C d fs l else ∃ ag r, C.aggSize f.type = some ag ∧ l = (f.offset, ag, C.eqT d f.type) :: r ∧ sameFields C d fs r

theorem eqFields_sound (hC : CtxOk C) (d D : Nat) (hd : d ≤ D)
    (ih : ∀ (t : TypeId) (a b : AV) (a' b' : Value) (r : Bool), VRel μ a a' → VRel μ b b' → eqA (C.eqT d t) a b = some r → (Op.equalIn D t a' b').run C.P w = .ok r w) :
    ∀ (fs : List Field) (x y : List AV) (x' y' : List Value) (r : Bool), LRel μ x x' → LRel μ y y' → eqFields (C.eqFs d fs) x y = some r →
    (Op.eqFields D x'.toArray y'.toArray fs).run C.P w = .ok r w := by
  intro fs
  induction fs with
  | nil => intro x y x' y' r _ _ h; simp [Ctx.eqFs, Ctx.eqFsOf, eqFields] at h; subst h; rfl
  | cons f fs ihf =>
    intro x y x' y' r hx hy h
    simp only [Ctx.eqFs, Ctx.eqFsOf] at h
    simp only [Op.eqFields]
    cases hn : (f.name == "_") <;> simp only [hn, cond] at h
    · have hne : f.name ≠ "_" := by simpa using hn
      rw [if_pos hne]
      split at h
      · rename_i ag hag
        simp only [eqFields] at h
        split at h
        · cases h
        · rename_i a ha
          split at h
          · cases h
          · rename_i b hb
            obtain ⟨a', ha1, ha2⟩ := part_spec (w := w) hC hag hx ha
            obtain ⟨b', hb1, hb2⟩ := part_spec (w := w) hC hag hy hb
            simp only [Sem.run_bind, ha1, hb1, Result.andThen_ok]
            split at h
            · cases h
            · rename_i he
              cases h
              rw [ih _ _ _ _ _ _ ha2 hb2 he]; rfl
            · rename_i he
              rw [ih _ _ _ _ _ _ ha2 hb2 he]
              simp only [Result.andThen_ok, Bool.not_true, Bool.false_eq_true, if_false]
              exact ihf x y x' y' r hx hy h
      · simp only [eqFields] at h
        split at h
        · cases h
        · split at h
          · cases h
          · rename_i b hb
            split at h
            · cases h
            · rename_i he; simp [eqA] at he
            · rename_i he; simp [eqA] at he
    · have hne : f.name = "_" := by simpa using hn
      rw [if_neg (by simp [hne])]
      exact ihf x y x' y' r hx hy h

set_option maxHeartbeats 4000000 in
theorem eq_sound (hC : CtxOk C) : ∀ (d D : Nat) (t : TypeId) (a b : AV) (a' b' : Value) (r : Bool), d ≤ D → VRel μ a a' → VRel μ b b' → eqA (C.eqT d t) a b = some r →
    (Op.equalIn D t a' b').run C.P w = .ok r w := by
  intro d
  induction d with
  | zero =>
    intro D t a b a' b' r _ ha hb h
    simp only [Ctx.eqT] at h
    cases a <;> cases b <;> simp [eqA] at h
  | succ d ih =>
    intro D t a b a' b' r hd ha hb h
    obtain ⟨D, rfl⟩ : ∃ D', D = D' + 1 := ⟨D - 1, by omega⟩
    simp only [Ctx.eqT] at h
    split at h
    · -- bool
      rename_i hu
      have hu := hC.und hu
      cases a <;> cases b <;> simp only [eqA] at h <;> try (cases h; done)
      cases h
      rw [ha.bool_inv, hb.bool_inv, boolEq_eq]
      exact run_equalIn_bool' w D t _ _ hu
    · -- int
      rename_i k hu
      have hu := hC.und hu
      cases a <;> cases b <;> simp only [eqA] at h <;> try (cases h; done)
      rename_i k1 n1 k2 n2
      cases hk : kindEq k1 k2 <;> simp only [hk, cond] at h
      · cases h
      · cases h
        have := (kindEq_iff _ _).1 hk
        subst this
        rw [ha.int_inv, hb.int_inv, eqb_eq]
        exact run_equalIn_int w D t _ _ _ _ hu
    · -- string
      rename_i hu
      have hu := hC.und hu
      cases a <;> cases b <;> simp only [eqA] at h <;> try (cases h; done)
      cases h
      obtain ⟨x, rfl, rfl⟩ := ha.str_inv
      obtain ⟨y, rfl, rfl⟩ := hb.str_inv
      rw [strEq_bytes]
      exact run_equalIn_string w D t _ _ hu
    · -- pointer
      rename_i e hu
      have hu := hC.und hu
      split at h
      · rename_i n hn
        have hsz := hC.size hn w
        cases a <;> cases b <;> simp only [eqA] at h <;> try (cases h; done)
        · rename_i b1 o1 b2 o2
          cases hk : Nat.beq b1 b2 <;> simp only [hk, cond] at h
          · cases h
          · cases h
            have := Nat.eq_of_beq_eq_true hk
            subst this
            obtain ⟨l1, e1, rfl⟩ := ha.ptr_inv
            obtain ⟨l2, e2, rfl⟩ := hb.ptr_inv
            rw [e1] at e2; cases e2
            simp only [Op.equalIn, Sem.run_bind, run_underlying' hu, Result.andThen_ok, hsz]
            rw [if_pos (by simp)]
            simp only [sameAddr, beq_self_eq_true, if_true, Sem.run_pure]
            congr 1
            have : (({ block := l1.blk, off := l1.base + o1, spot := none } : Addr) == { block := l1.blk, off := l1.base + o2, spot := none }) = Nat.beq o1 o2 := by
              rw [Bool.eq_iff_iff]
              simp
            exact this
        · cases h
          obtain ⟨l1, e1, rfl⟩ := ha.ptr_inv
          cases hb
          simp only [Op.equalIn, Sem.run_bind, run_underlying' hu, Result.andThen_ok, Sem.run_pure, Option.isNone_some, Option.isNone_none]
        · cases h
          obtain ⟨l1, e1, rfl⟩ := hb.ptr_inv
          cases ha
          simp only [Op.equalIn, Sem.run_bind, run_underlying' hu, Result.andThen_ok, Sem.run_pure, Option.isNone_some, Option.isNone_none]
        · cases h
          cases ha; cases hb
          simp only [Op.equalIn, Sem.run_bind, run_underlying' hu, Result.andThen_ok, Sem.run_pure, Option.isNone_some, Option.isNone_none]
      · cases a <;> cases b <;> simp [eqA] at h
    · -- interface
      rename_i hu
      have hu := hC.und hu
      cases a <;> cases b <;> simp only [eqA] at h <;> try (cases h; done)
      · cases h
        obtain ⟨_, rfl, _⟩ := ha.iface_inv
        cases hb
        simp only [Op.equalIn, Sem.run_bind, run_underlying' hu, Result.andThen_ok, Sem.run_pure, Option.isNone_some, Option.isNone_none]
      · cases h
        obtain ⟨_, rfl, _⟩ := hb.iface_inv
        cases ha
        simp only [Op.equalIn, Sem.run_bind, run_underlying' hu, Result.andThen_ok, Sem.run_pure, Option.isNone_some, Option.isNone_none]
      · cases h
        cases ha; cases hb
        simp only [Op.equalIn, Sem.run_bind, run_underlying' hu, Result.andThen_ok, Sem.run_pure, Option.isNone_some, Option.isNone_none]
    · -- slice
      rename_i hu
      have hu := hC.und hu
      cases a <;> cases b <;> simp only [eqA] at h <;> try (cases h; done)
      · cases h
        obtain ⟨_, _, _, _, rfl, _⟩ := ha.slice_inv
        cases hb
        simp only [Op.equalIn, Sem.run_bind, run_underlying' hu, Result.andThen_ok, Sem.run_pure, Option.isNone_some, Option.isNone_none]
      · cases h
        obtain ⟨_, _, _, _, rfl, _⟩ := hb.slice_inv
        cases ha
        simp only [Op.equalIn, Sem.run_bind, run_underlying' hu, Result.andThen_ok, Sem.run_pure, Option.isNone_some, Option.isNone_none]
      · cases h
        cases ha; cases hb
        simp only [Op.equalIn, Sem.run_bind, run_underlying' hu, Result.andThen_ok, Sem.run_pure, Option.isNone_some, Option.isNone_none]
    · -- map
      rename_i hu
      have hu := hC.und hu
      cases a <;> cases b <;> simp only [eqA] at h <;> try (cases h; done)
      · cases h
        obtain ⟨_, _, rfl⟩ := ha.map_inv
        cases hb
        simp only [Op.equalIn, Sem.run_bind, run_underlying' hu, Result.andThen_ok, Sem.run_pure, Option.isNone_some, Option.isNone_none]
      · cases h
        obtain ⟨_, _, rfl⟩ := hb.map_inv
        cases ha
        simp only [Op.equalIn, Sem.run_bind, run_underlying' hu, Result.andThen_ok, Sem.run_pure, Option.isNone_some, Option.isNone_none]
      · cases h
        cases ha; cases hb
        simp only [Op.equalIn, Sem.run_bind, run_underlying' hu, Result.andThen_ok, Sem.run_pure, Option.isNone_some, Option.isNone_none]
    · -- func
      rename_i hu
      have hu := hC.und hu
      cases a <;> cases b <;> simp only [eqA] at h <;> try (cases h; done)
      · cases h
        obtain ⟨_, _, _, rfl, _⟩ := ha.func_inv
        cases hb
        simp only [Op.equalIn, Sem.run_bind, run_underlying' hu, Result.andThen_ok, Sem.run_pure, Option.isNone_some, Option.isNone_none]
      · cases h
        obtain ⟨_, _, _, rfl, _⟩ := hb.func_inv
        cases ha
        simp only [Op.equalIn, Sem.run_bind, run_underlying' hu, Result.andThen_ok, Sem.run_pure, Option.isNone_some, Option.isNone_none]
      · cases h
        cases ha; cases hb
        simp only [Op.equalIn, Sem.run_bind, run_underlying' hu, Result.andThen_ok, Sem.run_pure, Option.isNone_some, Option.isNone_none]
    · -- struct
      rename_i fs hu
      have hu := hC.und hu
      cases hst : C.P.stoodInHeld t <;> simp only [hst, cond] at h
      · cases a <;> cases b <;> simp only [eqA] at h <;> try (cases h; done)
        obtain ⟨x', rfl, hx⟩ := ha.agg_inv
        obtain ⟨y', rfl, hy⟩ := hb.agg_inv
        have hf : C.P.fieldsOf t = fs := by simp [Program.fieldsOf, hu]
        rw [run_equalIn_struct w D t _ _ (by rw [hf]; exact hu) hst, hf]
        exact eqFields_sound hC d D (by omega) (fun t a b a' b' r => ih D t a b a' b' r (by omega)) fs.toList _ _ x' y' r hx hy h
      · cases a <;> cases b <;> simp [eqA] at h
    · cases a <;> cases b <;> simp [eqA] at h

theorem eqT_100 (t : Nat) : C.eqT 100 t = (match C.und t with
    | some .bool => .bool
    | some (.int _) => .int
    | some .string => .str
    | some (.pointer e) => match C.size e with
      | some (_ + 1) => .ptr
      | _ => .bad
    | some (.interface _) => .iface
    | some (.slice _) => .slice
    | some (.map _ _) => .map
    | some (.func _ _ _) => .func
    | some (.struct fs) => cond (C.P.stoodInHeld t) .bad (.struct (C.eqFs 99 fs.toList))
    | _ => .bad) := rfl

theorem eqT_int {d t : Nat} (h : C.eqT (d + 1) t = .int) : ∃ k, C.und t = some (.int k) := by
  simp only [Ctx.eqT] at h
  split at h <;> try (cases h; done)
  · exact ⟨_, by assumption⟩
  · split at h <;> cases h
  · rename_i fs _
    cases hs : C.P.stoodInHeld t <;> simp only [hs, cond] at h <;> cases h

theorem eqT_str {d t : Nat} (h : C.eqT (d + 1) t = .str) : C.und t = some .string := by
  simp only [Ctx.eqT] at h
  split at h <;> try (cases h; done)
  · assumption
  · split at h <;> cases h
  · rename_i fs _
    cases hs : C.P.stoodInHeld t <;> simp only [hs, cond] at h <;> cases h

theorem eqA_any_l (e : EqT) (b : AV) : eqA e .any b = none := by cases e <;> simp [eqA]
theorem eqA_any_r (e : EqT) (a : AV) : eqA e a .any = none := by cases e <;> cases a <;> simp [eqA]

theorem binOp_eql (t : TypeId) {a b : Value} {a0 b0 : AV} (ha : VRel μ a0 a) (hb : VRel μ b0 b) (h1 : ∀ k n k' n', ¬ (a0 = .int k n ∧ b0 = .int k' n')) (h2 : ∀ s u, ¬ (a0 = .str s ∧ b0 = .str u)) (h3 : a0 ≠ .any) (h4 : b0 ≠ .any) :
    binOp .eql t a b = (do pure (.bool (← Op.equal t a b))) ∧ binOp .neq t a b = (do pure (.bool (!(← Op.equal t a b)))) := by
  cases ha <;> (try exact absurd rfl h3) <;> cases hb <;> (try exact absurd rfl h4) <;> first
    | exact ⟨rfl, rfl⟩
    | exact absurd ⟨rfl, rfl⟩ (h1 _ _ _ _)
    | exact absurd ⟨rfl, rfl⟩ (h2 _ _)

/-- '==' and '!=' of what is no number and no text. -/
theorem sim_eqs (hC : CtxOk C) {neg : Bool} {op : BinOp} (hop : op = cond neg .neq .eql) {t : TypeId} {a b : AV} {a' b' : Value} {r : Bool} (x y : Operand)
    (hg : (eqGuard op t x y a' b').run C.P w = .ok () w) (hnum : ∀ d, C.und t = some d → (∀ k, d ≠ .int k) ∧ d ≠ .string) (ha : VRel μ a a') (hb : VRel μ b b') (h : eqA (C.eqT 100 t) a b = some r) :
    (do eqGuard op t x y a' b'; binOp op t a' b' : Sem Value).run C.P w = .ok (.bool (cond neg (!r) r)) w := by
  have he := eq_sound (w := w) hC 100 10000 t a b a' b' r (by omega) ha hb h
  have heq : (Op.equal t a' b').run C.P w = .ok r w := by unfold Op.equal Op.maxDepth; exact he
  simp only [Sem.run_bind, hg, Result.andThen_ok]
  have hb2 := binOp_eql t ha hb (fun k n k' n' e => by
      obtain ⟨rfl, rfl⟩ := e
      have : C.eqT 100 t = .int := by
        generalize C.eqT 100 t = e at h
        cases e <;> simp [eqA] at h ⊢
      obtain ⟨k, hk⟩ := eqT_int this
      exact (hnum _ hk).1 k rfl) (fun s u e => by
      obtain ⟨rfl, rfl⟩ := e
      have : C.eqT 100 t = .str := by
        generalize C.eqT 100 t = e at h
        cases e <;> simp [eqA] at h ⊢
      exact (hnum _ (eqT_str this)).2 rfl)
    (fun e => by rw [e, eqA_any_l] at h; cases h) (fun e => by rw [e, eqA_any_r] at h; cases h)
  cases neg <;> simp only [cond] at hop <;> subst hop
  · rw [hb2.1]; simp [heq]
  · rw [hb2.2]; simp [heq]

theorem eqGuard_iface (op : BinOp) (t : TypeId) (x y : Operand) {a b : AV} {a' b' : Value} (ha : VRel μ a a') (hb : VRel μ b b') (hc : (isConstO x || isConstO y) = true)
    (h : eqA .iface a b ≠ none) (P : Program) : (eqGuard op t x y a' b').run P w = .ok () w := by
  cases a <;> cases b <;> simp only [eqA, ne_eq, not_true] at h
  · obtain ⟨_, rfl, _⟩ := ha.iface_inv
    cases hb
    cases op <;> simp [eqGuard]
  · obtain ⟨_, rfl, _⟩ := hb.iface_inv
    cases ha
    cases op <;> simp [eqGuard]
  · cases ha; cases hb
    cases x <;> cases y <;> simp [isConstO] at hc <;> cases op <;> simp [eqGuard]

theorem eqGuard_agg (op : BinOp) (t : TypeId) (x y : Operand) {a b : AV} {a' b' : Value} (ha : VRel μ a a') (hb : VRel μ b b') (hm : C.P.eqGuardType C.P.depth t = false)
    (h : ∀ u v, ¬ (a = .nilIface ∧ b = .nilIface) ∧ (u = a ∧ v = b → True)) (h3 : a ≠ .any) (h4 : b ≠ .any) : (eqGuard op t x y a' b').run C.P w = .ok () w := by
  cases ha <;> (try exact absurd rfl h3) <;> cases hb <;> (try exact absurd rfl h4) <;> first
    | exact absurd ⟨rfl, rfl⟩ (h .nilPtr .nilPtr).1
    | exact run_eqGuard_agg w op t x y _ _ hm
    | (cases op <;> simp [eqGuard]; done)

theorem eqGuard_other (op : BinOp) (t : TypeId) (x y : Operand) {a b : AV} {a' b' : Value} (ha : VRel μ a a') (hb : VRel μ b b') (P : Program)
    (h1 : ¬ (a = .nilIface ∧ b = .nilIface)) (h2 : ∀ u v, ¬ (a = .agg u ∧ b = .agg v)) (h3 : a ≠ .any) (h4 : b ≠ .any) : (eqGuard op t x y a' b').run P w = .ok () w := by
  cases ha <;> (try exact absurd rfl h3) <;> cases hb <;> (try exact absurd rfl h4) <;> first
    | exact absurd ⟨rfl, rfl⟩ h1
    | exact absurd ⟨rfl, rfl⟩ (h2 _ _)
    | (cases op <;> simp [eqGuard]; done)

theorem sim_bin (hC : CtxOk C) (hr : Rho C.ng μ tm ρ) (hh : HRel C.P μ H w) (op : BinOp) (t : TypeId) (x y : Operand) :
    OpOk C.P μ H w (step1 tm H (C.binop op t x y)) ((do pure (Next.value (← (do eqGuard op t x y (ρ x) (ρ y); binOp op t (ρ x) (ρ y)))) : Sem Next).run C.P w) := by
  unfold Ctx.binop w2 w1
  split
  · rename_i a ha
    have hva := hr _ _ ha
    split
    · rename_i b hb
      have hvb := hr _ _ hb
      have num : OpOk C.P μ H w (step1 tm H (.bin op a b)) ((do pure (Next.value (← (do eqGuard op t x y (ρ x) (ρ y); binOp op t (ρ x) (ρ y)))) : Sem Next).run C.P w) := by
        simp only [step1]
        split
        · rename_i v hv
          obtain ⟨v', h1, h2⟩ := binA_sound (w := w) hva hvb hv t x y C.P
          exact OpOk.pure hh h2 (run_v _ h1)
        · trivial
      split
      · exact num
      · exact num
      · rename_i d hnd1 hnd2 hd
        have hd' : C.und t = some d := hd
        have hnum : ∀ d', C.und t = some d' → (∀ k, d' ≠ .int k) ∧ d' ≠ .string := by
          intro d' hd2
          rw [hd'] at hd2; cases hd2
          constructor
          · intro k e; subst e; simp_all
          · intro e; subst e; simp_all
        have gen : ∀ (ng : Bool) (e : EqT), op = cond ng .neq .eql → e = C.eqT 100 t → (∀ r, eqA e (a.ev tm) (b.ev tm) = some r → (eqGuard op t x y (ρ x) (ρ y)).run C.P w = .ok () w) →
            OpOk C.P μ H w (step1 tm H (.eq ng e a b)) ((do pure (Next.value (← (do eqGuard op t x y (ρ x) (ρ y); binOp op t (ρ x) (ρ y)))) : Sem Next).run C.P w) := by
          intro ng e hop he hg
          subst he
          simp only [step1]
          split
          · rename_i r hr'
            have := sim_eqs (w := w) hC hop x y (hg r hr') hnum hva hvb hr'
            exact OpOk.pure hh (.bool _) (run_v _ this)
          · trivial
        have main : ∀ ng, op = cond ng .neq .eql → OpOk C.P μ H w (step1 tm H (match (generalizing := false) d with
            | .interface _ => cond (isConstO x || isConstO y) (.eq ng .iface a b) (.bad "binop: interfaces")
            | .struct _ => cond (C.P.eqGuardType C.P.depth t) (.bad "binop: guard") (.eq ng (C.eqT 100 t) a b)
            | .array _ _ => cond (C.P.eqGuardType C.P.depth t) (.bad "binop: guard") (.eq ng (C.eqT 100 t) a b)
            | _ => .eq ng (C.eqT 100 t) a b)) ((do pure (Next.value (← (do eqGuard op t x y (ρ x) (ρ y); binOp op t (ρ x) (ρ y)))) : Sem Next).run C.P w) := by
          intro ng hop
          cases d
          case interface ms =>
            simp only
            cases hc : (isConstO x || isConstO y) <;> simp only [cond]
            · trivial
            · refine gen ng .iface hop ?_ ?_
              · simp only [eqT_100, hd']
              · intro r hr'
                exact eqGuard_iface op t x y hva hvb hc (by rw [hr']; simp) C.P
          case struct fs =>
            simp only
            cases hm : C.P.eqGuardType C.P.depth t <;> simp only [cond]
            · refine gen ng _ hop rfl ?_
              intro r hr'
              refine eqGuard_agg op t x y hva hvb hm (fun u v => ⟨?_, fun _ => trivial⟩) (fun e => by rw [e, eqA_any_l] at hr'; cases hr') (fun e => by rw [e, eqA_any_r] at hr'; cases hr')
              rintro ⟨e1, e2⟩
              rw [e1, e2] at hr'
              simp only [eqT_100, hd'] at hr'
              cases hs : C.P.stoodInHeld t <;> simp [hs, eqA] at hr'
            · trivial
          case array n e =>
            simp only
            cases hm : C.P.eqGuardType C.P.depth t <;> simp only [cond]
            · refine gen ng _ hop rfl ?_
              intro r hr'
              simp only [eqT_100, hd'] at hr'
              cases h1 : a.ev tm <;> cases h2 : b.ev tm <;> simp [h1, h2, eqA] at hr'
            · trivial
          all_goals
            refine gen ng _ hop rfl ?_
            intro r hr'
            refine eqGuard_other op t x y hva hvb C.P ?_ ?_ (fun e => by rw [e, eqA_any_l] at hr'; cases hr') (fun e => by rw [e, eqA_any_r] at hr'; cases hr')
            · rintro ⟨e1, e2⟩
              rw [e1, e2] at hr'
              simp only [eqT_100, hd'] at hr'
              first | (simp [eqA] at hr'; done) | (split at hr' <;> simp [eqA] at hr')
            · rintro u v ⟨e1, e2⟩
              rw [e1, e2] at hr'
              simp only [eqT_100, hd'] at hr'
              first | (simp [eqA] at hr'; done) | (split at hr' <;> simp [eqA] at hr')
        cases op
        case eql => exact main false rfl
        case neq => exact main true rfl
        all_goals trivial
      · trivial
    · trivial
  · trivial
end
end Go.Ab

set_option linter.unusedSimpArgs false
set_option linter.unusedVariables false
namespace Go.Ab

section
variable {C : Ctx} {μ : Mu} {H : AHeap} {w : World} {tm : List AV} {ρ : Operand → Value}

theorem sim_unop (hr : Rho C.ng μ tm ρ) (hh : HRel C.P μ H w) (op : UnOp) (x : Operand) :
    OpOk C.P μ H w (step1 tm H (match op with
    | .not => w1 C.ng x .not
    | .neg => w1 C.ng x .neg
    | .xor => w1 C.ng x .com
    | .plus => .bad "plus")) ((do pure (Next.value (← Op.unary op (ρ x))) : Sem Next).run C.P w) := by
  cases op
  case plus => trivial
  all_goals
    simp only
    unfold w1
    split
    · rename_i a ha
      have hv := hr _ _ ha
      simp only [step1]
      split
      · rename_i e
        rw [e] at hv
        first
          | (rw [hv.bool_inv]; exact OpOk.pure hh (.bool _) (run_v _ rfl))
          | (rw [hv.int_inv]; refine OpOk.pure hh (.int _ _) (run_v _ ?_); first | exact com_eq _ _ _ _ | (simp only [Op.unary, Op.intArith, Sem.run_pure, wrapA_eq]; congr 3; exact Int.zero_sub _))
      · trivial
    · trivial

theorem VRel.nilSlice_inv {v : Value} (h : VRel μ .nilSlice v) : v = .slice none 0 0 := by cases h; rfl
theorem VRel.nilMap_inv {v : Value} (h : VRel μ .nilMap v) : v = .map none := by cases h; rfl
theorem VRel.nilPtr_inv {v : Value} (h : VRel μ .nilPtr v) : v = .pointer none := by cases h; rfl
theorem VRel.nilIface_inv {v : Value} (h : VRel μ .nilIface v) : v = .nilIface := by cases h; rfl

theorem LRel.bytes : ∀ {l : List AV} {y : List Value} {s : List Nat}, LRel μ l y → bytesOf l = some s → ∃ ns : List Nat, y = ns.map (fun n => .int .u8 (Int.ofNat n)) ∧ s = ns.map (· % 256) := by
  intro l
  induction l with
  | nil => intro y s h hs; simp [bytesOf] at hs; subst hs; exact ⟨[], by rw [h.nil_inv]; rfl, rfl⟩
  | cons a l ih =>
    intro y s h hs
    obtain ⟨v, z, rfl, h1, h2⟩ := h.uncons
    unfold bytesOf at hs
    split at hs
    · rename_i hd; cases hd
    · rename_i n l' hd
      cases hd
      split at hs
      · rename_i r hr
        cases hs
        obtain ⟨ns, e1, e2⟩ := ih h2 hr
        exact ⟨n :: ns, by rw [h1.int_inv, e1]; rfl, by rw [e2]; rfl⟩
      · cases hs
    · cases hs

theorem run_bytesLoop {P : Program} {w : World} (f : Value → ByteArray → Sem (ForInStep ByteArray)) (hf : ∀ n r, f (.int .u8 n) r = pure (.yield (r.push (UInt8.ofNat n.toNat)))) : ∀ (ns : List Nat) (s0 : ByteArray),
    (forIn (ns.map (fun n => Value.int .u8 (Int.ofNat n))) s0 f).run P w = .ok ⟨s0.data ++ (ns.map UInt8.ofNat).toArray⟩ w := by
  intro ns
  induction ns with
  | nil => intro s0; simp
  | cons n ns ih =>
    intro s0
    simp only [List.map_cons, List.forIn_cons, hf, Sem.run_bind, Sem.run_pure, Result.andThen_ok]
    rw [ih]
    simp [ByteArray.push]

theorem sim_toStr (hC : CtxOk C) (hr : Rho C.ng μ tm ρ) (hh : HRel C.P μ H w) (a : Opd) (x : Operand) (ha : opd C.ng x = some a) :
    OpOk C.P μ H w (step1 tm H (.toStr a)) ((do pure (Next.value (← Conv.bytesToString (ρ x))) : Sem Next).run C.P w) := by
  have hv := hr _ _ ha
  simp only [step1]
  split
  · rename_i e
    rw [e] at hv
    rw [hv.nilSlice_inv]
    refine OpOk.pure hh (VRel.str .empty) (run_v _ ?_)
    simp [Conv.bytesToString]
  · rename_i b o len cap es ex e
    rw [e] at hv
    obtain ⟨l, a', cap', hl, hp, hc, hx, ha', hs, hlen⟩ := hv.slice_inv
    split
    · rename_i cs hcs
      split
      · rename_i s hs'
        obtain ⟨ys, b1, b2, b3, b4⟩ := load_spec hh hl hcs
        obtain ⟨ns, e1, e2⟩ := b1.bytes hs'
        have hload : (loadCells a' len).run C.P w = .ok ys.toArray w := by
          rcases ha'.2 with ha' | ha'
          · subst ha'
            exact run_loadL ys b4 len b2
          · have : len = 0 := by omega
            subst this
            have : ys = [] := List.eq_nil_of_length_eq_zero b2
            subst this
            simp [loadCells, loadCellsFrom]
        refine OpOk.pure hh (v' := .string ⟨(ns.map UInt8.ofNat).toArray⟩) ?_ (run_v _ ?_)
        · have := VRel.str (μ := μ) ⟨(ns.map UInt8.ofNat).toArray⟩
          have e3 : (({ data := (ns.map UInt8.ofNat).toArray } : ByteArray).data.toList.map UInt8.toNat) = s := by
            rw [e2]
            simp
          rw [e3] at this
          exact this
        · rw [hp]
          simp only [Conv.bytesToString, Sem.run_bind, hload, Result.andThen_ok]
          rw [← Array.forIn_toList]
          rw [e1, run_bytesLoop _ (fun _ _ => rfl)]
          simp
      · trivial
    · trivial
  · trivial

theorem byteCells_ones : ∀ l, (byteCells l).all AV.one = true := by
  intro l
  induction l with
  | nil => rfl
  | cons n l ih => simp only [byteCells, List.all_cons, ih, AV.one, Bool.and_self]

theorem byteCells_length : ∀ l, (byteCells l).length = l.length := by
  intro l
  induction l with
  | nil => rfl
  | cons n l ih => simp [byteCells, ih]

theorem sim_toBytes (hC : CtxOk C) (hr : Rho C.ng μ tm ρ) (hh : HRel C.P μ H w) (a : Opd) (x : Operand) (ha : opd C.ng x = some a) (e : TypeId) :
    ∀ s, ρ x = .string s → OpOk C.P μ H w (step1 tm H (.toBytes a)) ((do pure (Next.value (← Conv.stringToBytes e s)) : Sem Next).run C.P w) := by
  intro s hs
  have hv := hr _ _ ha
  simp only [step1]
  split
  · rename_i l el
    rw [el, hs] at hv
    obtain ⟨bs, e1, e2⟩ := hv.str_inv
    cases e1
    have hxs : LRel μ (byteCells l) (s.data.toList.map fun b => .int .u8 b.toNat) := by
      rw [e2]
      generalize s.data.toList = bl
      induction bl with
      | nil => exact LRel.nil μ
      | cons b bl ih => exact LRel.cons (.int _ _) ih
    have hones := byteCells_ones l
    have hlen := byteCells_length l
    have hl : l.length = s.size := by rw [e2]; simp
    let cap := (Question.appendCap s.size 0 e).cut (w.tape w.drawn (.appendCap s.size 0 e))
    have hcap : s.size ≤ cap := by
      show s.size ≤ s.size + _
      omega
    let zs : List Value := List.replicate (cap - s.size) (.int .u8 0)
    have hh' : HRel C.P μ H { w with drawn := w.drawn + 1 } := hh.env rfl
    obtain ⟨h3, h4⟩ := alloc_spec hh' hxs hones zs e (Tr.ofList (byteCells l)) l.length hlen.symm (fun i _ => Tr.get_ofList _ _)
    -- the mark behind the last cell
    let ys : List Value := s.data.toList.map fun b => .int .u8 b.toNat
    have hsz : (ys ++ zs).length = cap := by
      simp only [ys, zs, List.length_append, List.length_map, List.length_replicate]
      have : s.data.toList.length = s.size := by simp
      omega
    let w1 : World := { w with drawn := w.drawn + 1, heap := w.heap.push (.cells (ys ++ zs).toArray e) }
    let w2 : World := { w with drawn := w.drawn + 1, heap := w.heap.push (.cells (ys ++ zs).toArray e (cap, cap + 1)) }
    have hw2 : HRel C.P (μ.upd H.nx ⟨w.heap.size, 0, (ys ++ zs).length⟩) (H.new (.cells (Tr.ofList (byteCells l)) l.length)) w2 ∧
        Go μ H w (μ.upd H.nx ⟨w.heap.size, 0, (ys ++ zs).length⟩) (H.new (.cells (Tr.ofList (byteCells l)) l.length)) w2 := by
      have := hh'.alloc (.cells (Tr.ofList (byteCells l)) l.length) (.cells (ys ++ zs).toArray e (cap, cap + 1)) (ys ++ zs).length ?_ (fun m ver left last e => by cases e)
      · refine ⟨this.1, ?_⟩
        have g := this.2
        exact ⟨g.ext, g.dom, g.new, g.size, g.frame, g.mn, g.nx, g.low, g.out, g.tape, g.os, g.output⟩
      · refine ⟨(ys ++ zs).toArray, e, (cap, cap + 1), rfl, by simp, ?_, .inr ?_, fun i hi => ?_⟩
        · simp only [List.size_toArray, hsz, Nat.zero_add, hl]; exact hcap
        · simp only [List.size_toArray, hsz]; omega
        · have hi1 : i < (byteCells l).length := by omega
          have hi2 : i < ys.length := by rw [← hxs.1]; exact hi1
          refine ⟨(byteCells l)[i], ys[i], ?_, ?_, (hxs.2 i hi1 hi2).mono (Mu.upd_le _ hh.none_nx), ?_⟩
          · rw [Tr.get_ofList]; exact List.getElem?_eq_getElem hi1
          · simp [List.getElem?_append_left hi2, hi2]
          · simp at hones
            exact hones _ (List.getElem_mem hi1)
    refine ⟨_, .slice (some ⟨w.heap.size, 0, none⟩) s.size cap, w2, .inl (run_v _ ?_), ?_, hw2.1, hw2.2⟩
    · simp only [Conv.stringToBytes, Sem.run_bind, run_choose, Question.forced, Bool.false_eq_true, if_false, Result.andThen_ok, newRow, run_newObj, Sem.run_pure]
      have earr : (Array.map (fun b => Value.int IntKind.u8 ((b : UInt8).toNat : Int)) s.data ++ Array.replicate (cap - s.size) (Value.int IntKind.u8 0)) = (ys ++ zs).toArray := by
        apply Array.ext'
        simp [ys, zs]
      simp only [markStringish, Sem.run_bind, run_shape, Result.andThen_ok]
      have hshape : ({ w with drawn := w.drawn + 1, heap := w.heap.push (.cells (ys ++ zs).toArray e) } : World).shape? w.heap.size = some (e, cap) := by
        simp [World.shape?, hsz]
      show (((do
          let some (_, n) ← shape w.heap.size | pure ()
          freeze { block := w.heap.size, off := n } 1) : Sem Unit).run C.P { w with drawn := w.drawn + 1, heap := w.heap.push (.cells (Array.map (fun b => Value.int IntKind.u8 ((b : UInt8).toNat : Int)) s.data ++ Array.replicate (cap - s.size) (Value.int IntKind.u8 0)) e) }).andThen _ = _
      rw [earr]
      simp only [Sem.run_bind, run_shape, hshape, Result.andThen_ok, run_freeze, Sem.run_pure]
      have hfz : ({ w with drawn := w.drawn + 1, heap := w.heap.push (.cells (ys ++ zs).toArray e) } : World).freeze { block := w.heap.size, off := cap, spot := none } 1 = w2 := by
        unfold World.freeze
        rw [if_neg (by omega)]
        simp only [w2]
        congr 1
        apply Array.ext_getElem?
        intro i
        simp only [Array.getElem?_modify]
        by_cases hi : i = w.heap.size
        · subst hi; simp
        · have : ¬ w.heap.size = i := fun x => hi x.symm
          simp only [this, if_false]
          simp [Array.getElem?_push, hi]
      rw [hfz]
    · have h := VRel.slice (μ := μ.upd H.nx ⟨w.heap.size, 0, (ys ++ zs).length⟩) H.nx 0 l.length l.length 1 false ⟨w.heap.size, 0, (ys ++ zs).length⟩ ⟨w.heap.size, 0, none⟩ cap
        (Mu.upd_self _ _ _) (by omega) (fun h => by cases h) ⟨rfl, .inl rfl⟩ (by simp only [hsz]; omega) (Nat.le_refl _)
      rw [← hl]; exact h
  · trivial
end
end Go.Ab

set_option linter.unusedSimpArgs false
set_option linter.unusedVariables false
namespace Go.Ab

section
variable {C : Ctx} {μ : Mu} {H : AHeap} {w : World} {tm : List AV} {ρ : Operand → Value}

theorem freeze_cells {w : World} {k : Nat} {C : Array Value} {elem : TypeId} {fr : Nat × Nat} (h : w.heap[k]? = some (.cells C elem fr)) (hu : Unfz fr C.size) :
    ∃ fr', Unfz fr' C.size ∧ w.freeze { block := k, off := C.size } 1 = { w with heap := w.heap.setIfInBounds k (.cells C elem fr') } := by
  refine ⟨if fr.1 == fr.2 then (C.size, C.size + 1) else (min fr.1 C.size, max fr.2 (C.size + 1)), ?_, ?_⟩
  · right
    split
    · exact Nat.le_refl _
    · rename_i hne
      rcases hu with hu | hu
      · simp [hu] at hne
      · simp only; omega
  · unfold World.freeze
    rw [if_neg (by omega)]
    congr 1
    apply Array.ext_getElem?
    intro i
    obtain ⟨hlt, he⟩ := Array.getElem?_eq_some_iff.1 h
    simp only [Array.getElem?_modify]
    by_cases e : i = k
    · subst e
      simp only [if_true, h, Option.map_some]
      obtain ⟨lo, hi⟩ := fr
      simp [hlt]
    · rw [Array.getElem?_setIfInBounds_ne (by omega)]
      have : ¬ k = i := fun x => e x.symm
      simp [this]

theorem und_isSome {t : Nat} {d : TypeDesc} (h : C.P.underlying t = some d) : (C.P.underlying t).isSome = true := by rw [h]; rfl

theorem sim_conv (hC : CtxOk C) (hr : Rho C.ng μ tm ρ) (hh : HRel C.P μ H w) (s d : TypeId) (x : Operand) :
    OpOk C.P μ H w (step1 tm H (C.conv s d x)) ((do pure (Next.value (← convert s d (ρ x))) : Sem Next).run C.P w) := by
  unfold Ctx.conv w1
  split
  · rename_i a ha
    have hv := hr _ _ ha
    split
    · rename_i k hd
      have hd := hC.und hd
      split
      · rename_i k' hs
        have hs := hC.und hs
        simp only [step1]
        split
        · rename_i k1 n e
          rw [e] at hv
          rw [hv.int_inv]
          refine OpOk.pure hh (.int _ _) (run_v _ ?_)
          simp [convert, run_underlying' hs, run_underlying' hd, Conv.intToInt, wrapA_eq]
        · trivial
      · trivial
    · rename_i hd
      have hd := hC.und hd
      split
      · rename_i hs
        have hs := hC.und hs
        simp only [step1]
        split
        · rename_i s' e
          rw [e] at hv
          obtain ⟨bs, hp, e2⟩ := hv.str_inv
          refine OpOk.pure hh hv (run_v _ ?_)
          rw [hp]
          simp [convert, run_underlying' hs, run_underlying' hd]
        · trivial
      · rename_i e hs
        have hs := hC.und hs
        split
        · rename_i he
          have he := hC.und he
          have hst := sim_toStr hC hr hh a x ha
          -- the same run
          have hrun : ∀ v w', (Conv.bytesToString (ρ x)).run C.P w = .ok v w' → (convert s d (ρ x)).run C.P w = .ok v w' := by
            intro v w' h
            have hsl : ∃ b n c, ρ x = .slice b n c := by
              cases hrx : ρ x <;> simp [hrx, Conv.bytesToString] at h
              exact ⟨_, _, _, rfl⟩
            obtain ⟨b, n, c, hp⟩ := hsl
            rw [hp] at h ⊢
            simp only [convert, Sem.run_bind, run_underlying' hs, run_underlying' hd, run_underlying' he, Result.andThen_ok]
            cases b <;> simp only [Sem.run_bind, run_underlying' he, Result.andThen_ok, h]
          simp only [step1] at hst ⊢
          split at hst <;> try trivial
          · obtain ⟨μ', v', w', h1, h2, h3, h4⟩ := hst
            refine ⟨μ', v', w', .inl ?_, h2, h3, h4⟩
            rcases h1 with h1 | ⟨h1, _⟩
            · cases hb : (Conv.bytesToString (ρ x)).run C.P w with
              | ok v w2 => rw [run_v _ hb] at h1; cases h1; exact run_v _ (hrun _ _ hb)
              | halt h w2 => simp [hb] at h1
            · cases hb : (Conv.bytesToString (ρ x)).run C.P w with
              | ok v w2 => rw [run_v _ hb] at h1; cases h1
              | halt h w2 => simp [hb] at h1
          · split at hst <;> try trivial
            split at hst <;> try trivial
            obtain ⟨μ', v', w', h1, h2, h3, h4⟩ := hst
            refine ⟨μ', v', w', .inl ?_, h2, h3, h4⟩
            rcases h1 with h1 | ⟨h1, _⟩
            · cases hb : (Conv.bytesToString (ρ x)).run C.P w with
              | ok v w2 => rw [run_v _ hb] at h1; cases h1; exact run_v _ (hrun _ _ hb)
              | halt h w2 => simp [hb] at h1
            · cases hb : (Conv.bytesToString (ρ x)).run C.P w with
              | ok v w2 => rw [run_v _ hb] at h1; cases h1
              | halt h w2 => simp [hb] at h1
        · trivial
      · trivial
    · rename_i e hd
      have hd := hC.und hd
      split
      · rename_i hs
        have hs := hC.und hs
        split
        · rename_i he
          have he := hC.und he
          cases hav : a.ev tm <;> try (simp only [step1, hav]; trivial)
          rename_i l
          obtain ⟨bs, hp, e2⟩ := (hav ▸ hv).str_inv
          have := sim_toBytes hC hr hh a x ha e bs hp
          have hrun : (convert s d (ρ x)).run C.P w = (Conv.stringToBytes e bs).run C.P w := by
            rw [hp]
            simp only [convert, Sem.run_bind, run_underlying' hs, run_underlying' hd, run_underlying' he, Result.andThen_ok]
          simp only [Sem.run_bind, hrun]
          simpa only [Sem.run_bind] using this
        · trivial
      · rename_i e' hs
        have hs := hC.und hs
        split
        · rename_i he
          have he := hC.und he
          cases hb : Nat.beq s d <;> simp only [cond]
          · trivial
          · have hsd := Nat.eq_of_beq_eq_true hb
            subst hsd
            simp only [step1]
            split
            · rename_i b o len cap es ex e2
              rw [e2] at hv
              obtain ⟨l, a', cap', hl, hp, hc, hx, ha', hs', hlen⟩ := hv.slice_inv
              split
              · rename_i c N hg
                -- the mark behind the last cell of the block that the address names
                obtain ⟨C0, elem, fr, h1, h2, h3, h4, h5⟩ := hh.cells hl hg
                obtain ⟨k, off, sp⟩ := a'
                have hk : k = l.blk := ha'.1
                subst hk
                have hshape : w.shape? l.blk = some (elem, C0.size) := by simp [World.shape?, h1]
                obtain ⟨fr', hf1, hf2⟩ := freeze_cells h1 h4
                obtain ⟨g1, g2⟩ := hh.upd hl ⟨_, hg, by simp⟩ (.cells c N) (.cells C0 elem fr') ⟨C0, elem, fr', rfl, h2, h3, hf1, h5⟩ trivial (fun es v e => by cases e)
                refine ⟨μ, _, _, .inl (run_v _ ?_), hp ▸ hv, g1, g2⟩
                have hee : e' = e := by rw [hs] at hd; cases hd; rfl
                subst hee
                rw [hp]
                simp only [convert, Sem.run_bind, run_underlying' hs, Result.andThen_ok, beq_self_eq_true, run_underlying' he, markStringish, run_shape, hshape, run_freeze, hf2, Sem.run_pure]
              · trivial
            · trivial
        · trivial
      · trivial
    · rename_i hd
      have hd := hC.und hd
      split
      · rename_i t hs
        have hs := hC.und hs
        split
        · rename_i n hn
          simp only [step1]
          split
          · rename_i b o e
            rw [e] at hv
            obtain ⟨l, hl, hp⟩ := hv.ptr_inv
            split
            · rename_i c N hg
              cases hb : Nat.blt o N <;> simp only [cond]
              · trivial
              · have ho : o < N := (ble_iff _ _).1 hb
                obtain ⟨C0, elem, fr, h1, h2, h3, h4, h5⟩ := hh.cells hl hg
                refine OpOk.pure hh (VRel.ptr b o l hl) (run_v _ ?_)
                rw [hp]
                have hshape : w.shape? l.blk = some (elem, C0.size) := by simp [World.shape?, h1]
                simp only [convert, Sem.run_bind, run_underlying' hs, run_underlying' hd, Result.andThen_ok]
                simp [Conv.unsafePointer, Conv.seenAt, viewAt, cellsIn, run_underlying' hs, run_underlying' hd, hshape, hC.size hn]
                intro h6; omega
            · trivial
          · rename_i e
            rw [e] at hv
            rw [hv.nilPtr_inv]
            refine OpOk.pure hh .nilPtr (run_v _ ?_)
            simp [convert, Conv.unsafePointer, run_underlying' hs, run_underlying' hd]
          · trivial
        · trivial
      · trivial
    · trivial
  · trivial
end
end Go.Ab

set_option linter.unusedSimpArgs false
set_option linter.unusedVariables false
namespace Go.Ab

section
variable {C : Ctx} {μ : Mu} {H : AHeap} {w : World} {tm : List AV} {ρ : Operand → Value}

theorem sim_mkIface (hC : CtxOk C) (hr : Rho C.ng μ tm ρ) (hh : HRel C.P μ H w) (t : TypeId) (x : Operand) :
    OpOk C.P μ H w (step1 tm H (match C.und t with
    | some (.interface _) => .bad "makeInterface"
    | some _ => w1 C.ng x (.mkIface t)
    | none => .bad "makeInterface")) ((do pure (Next.value (← Instr.makeInterface t (ρ x))) : Sem Next).run C.P w) := by
  split
  · trivial
  · rename_i d hd hnd
    have hu := hC.und (by assumption : C.und t = some d)
    unfold w1
    split
    · rename_i a ha
      refine OpOk.pure hh (.iface t _ _ (hr _ _ ha)) (run_v _ ?_)
      simp only [Instr.makeInterface, Sem.run_bind, run_underlying' hu, Result.andThen_ok]
      cases d <;> first | rfl | exact absurd rfl (hd _) | exact absurd rfl (hnd _)
    · trivial
  · trivial

theorem fnA_rel (μ : Mu) {fn : Fn} {f : AFn} (h : fnA fn = some f) : FRel μ f fn := by
  cases fn <;> simp [fnA] at h <;> subst h <;> simp [FRel]

theorem sim_mkFunc (hr : Rho C.ng μ tm ρ) (hh : HRel C.P μ H w) (fn : Fn) (a b : Array Operand) :
    OpOk C.P μ H w (step1 tm H (match fnA fn with
    | some f => wL C.ng a fun a => wL C.ng b (.mkFunc f a)
    | none => .bad "makeFunc")) ((do pure (Next.value (← Instr.makeFunc fn (a.map ρ) (b.map ρ))) : Sem Next).run C.P w) := by
  split
  · rename_i f hf
    unfold wL
    split
    · rename_i x hx
      split
      · rename_i y hy
        have h1 := hr.evs hx
        have h2 := hr.evs hy
        refine OpOk.pure hh (v' := .func fn (a.toList.map ρ).toArray (b.toList.map ρ).toArray) ?_ (run_v _ ?_)
        · exact VRel.func _ _ _ _ _ _ (fnA_rel μ hf) h1.toArr.1 h2.toArr.1 h1.toArr.2 h2.toArr.2
        · have e1 : a.map ρ = (a.toList.map ρ).toArray := by apply Array.ext'; simp
          have e2 : b.map ρ = (b.toList.map ρ).toArray := by apply Array.ext'; simp
          rw [e1, e2]; rfl
      · trivial
    · trivial
  · trivial

theorem MRel.nil (μ : Mu) : MRel μ [] [] := ⟨[], List.Perm.refl _, rfl, fun i h => absurd h (by simp)⟩

theorem sim_mkMap (hh : HRel C.P μ H w) (t : TypeId) (r : Option Operand) :
    OpOk C.P μ H w (step1 tm H (match r with
    | none => .mkMap
    | some _ => .bad "makeMap: hint")) ((do pure (Next.value (← Instr.makeMap t (r.map ρ))) : Sem Next).run C.P w) := by
  cases r with
  | some x => trivial
  | none =>
    simp only [step1]
    obtain ⟨h3, h4⟩ := hh.alloc (.map [] 0) (.map #[] 0) 0 ⟨#[], 0, rfl, rfl, MRel.nil _, by simp [bornOk]⟩ (fun m ver left last e => by cases e)
    refine ⟨_, .map (some w.heap.size), _, .inl (run_v _ ?_), ?_, h3, h4⟩
    · simp [Instr.makeMap]
    · exact VRel.map (μ := μ.upd H.nx ⟨w.heap.size, 0, 0⟩) H.nx _ (Mu.upd_self _ _ _)

theorem natIn_inv {a : AV} {n : Nat} {v : Value} (h : natIn a = some n) (hv : VRel μ a v) : ∃ k, v = .int k (Int.ofNat n) := by
  unfold natIn at h
  split at h
  · cases h; exact ⟨_, hv.int_inv⟩
  · cases h

theorem wrap_small (n : Nat) (h : n ≤ 1099511627776) : IntKind.i64.wrap (Int.ofNat n) = (n : Int) := by
  rw [← wrapA_eq]
  simp only [wrapA, maxN]
  rw [show Nat.ble n 9223372036854775807 = true from (ble_iff _ _).2 (by omega)]
  rfl

theorem sim_mkSlice (hC : CtxOk C) (hr : Rho C.ng μ tm ρ) (hh : HRel C.P μ H w) (t : TypeId) (l c : Operand) :
    OpOk C.P μ H w (step1 tm H (match C.und t with
    | some (.slice e) => match C.zero e with
      | some z => C.elemInfo e fun sz by_ => cond (Nat.beq z.cells.length sz && (Nat.blt 0 sz && Nat.blt 0 by_)) (w2 C.ng l c (.mkSlice z.cells sz by_)) (.bad "makeSlice")
      | none => .bad "makeSlice"
    | _ => .bad "makeSlice")) ((do pure (Next.value (← Instr.makeSlice t (ρ l) (ρ c))) : Sem Next).run C.P w) := by
  split
  · rename_i e he
    have hu := hC.und he
    split
    · rename_i z hz
      obtain ⟨zv, hz1, hz2⟩ := hC.zero hz w
      have hzl := (hz2 μ).cells
      unfold Ctx.elemInfo
      split
      · rename_i i hi
        cases hb : (Nat.beq z.cells.length i.size && (Nat.blt 0 i.size && Nat.blt 0 i.bytes))
        · simp only [hb, cond]; trivial
        · simp only [hb, cond]
          simp only [Bool.and_eq_true] at hb
          have e1 := Nat.eq_of_beq_eq_true hb.1
          have e2 : 0 < i.size := (ble_iff _ _).1 hb.2.1
          have e3 : 0 < i.bytes := (ble_iff _ _).1 hb.2.2
          unfold w2 w1
          split
          · rename_i l' hl
            split
            · rename_i c' hc
              simp only [step1]
              split
              · trivial
              · rename_i ln hln
                split
                · trivial
                · rename_i cn hcn
                  obtain ⟨kl, hpl⟩ := natIn_inv hln (hr _ _ hl)
                  obtain ⟨kc, hpc⟩ := natIn_inv hcn (hr _ _ hc)
                  cases hk : (Nat.ble ln cn && Nat.ble (cn * i.bytes) 1099511627776)
                  · simp only [cond]; trivial
                  · simp only [cond]
                    simp only [Bool.and_eq_true] at hk
                    have e4 := (ble_iff _ _).1 hk.1
                    have e5 := (ble_iff _ _).1 hk.2
                    have hcn' : cn ≤ cn * i.bytes := Nat.le_mul_of_pos_right _ e3
                    have hzs : zv.cells.size = i.size := by have := hzl.1; simp at this; omega
                    have hfl := hzl.flatten_rep cn
                    have hlen : (List.replicate cn z.cells).flatten.length = cn * i.size := by simp [e1]
                    obtain ⟨h3, h4⟩ := alloc_spec hh hfl (flatten_ones (Ctx.zero_ones hz) cn) [] e (Tr.ofList (List.replicate cn z.cells).flatten) (cn * i.size) hlen.symm (fun i _ => Tr.get_ofList _ _)
                    simp only [List.append_nil] at h3 h4
                    have hlen2 : (List.replicate cn zv.cells.toList).flatten.length = cn * i.size := by rw [← hfl.1]; exact hlen
                    refine ⟨_, .slice (some ⟨w.heap.size, 0, none⟩) ln cn, _, .inl (run_v _ ?_), ?_, h3, h4⟩
                    · rw [hpl, hpc]
                      have hb1 : (i.bytes : Int) * (cn : Int) = ((cn * i.bytes : Nat) : Int) := by rw [Nat.mul_comm]; simp
                      have hsz : (sizeOf e).run C.P w = .ok i.size w := by simp [sizeOf, run_typeInfo' (hC.ty e i hi)]
                      simp only [Instr.makeSlice, Sem.run_bind, run_underlying' hu, Result.andThen_ok, asInt, asIntOf, Sem.run_pure, run_typeInfo' (hC.ty e i hi), wrap_small cn (by omega), wrap_small ln (by omega)]
                      have hcond : ((decide ((cn : Int) < 0) || decide ((i.bytes : Int) * (cn : Int) > 2 ^ 48)) || decide ((ln : Int) < 0) || decide ((ln : Int) > (cn : Int))) = false := by
                        rw [hb1]
                        simp
                        omega
                      simp only [hcond, Bool.false_eq_true, if_false, Sem.run_bind, run_askRoom, Result.andThen_ok, hsz, Int.toNat_natCast]
                      by_cases hz0 : cn * i.size = 0
                      · rw [if_pos hz0]
                        have hc0 : cn = 0 := by
                          rcases Nat.mul_eq_zero.1 hz0 with h | h
                          · exact h
                          · omega
                        subst hc0
                        have er : ∀ g : Nat → Value, Array.map g (Array.range 0) = #[] := fun g => by simp
                        simp [newRow, er]
                      · rw [if_neg hz0]
                        simp only [Sem.run_bind, hz1, Result.andThen_ok, Sem.run_pure, newRow, run_newObj]
                        have := zero_cells zv.cells i.size cn hzs e2
                        have e6 : Array.map (zv.cells[· % zv.cells.size]!) (Array.range (cn * i.size)) = (List.replicate cn zv.cells.toList).flatten.toArray := by
                          apply Array.ext'
                          rw [this]
                        rw [e6]
                    · exact VRel.slice H.nx 0 ln cn i.size true ⟨w.heap.size, 0, _⟩ _ cn (Mu.upd_self _ _ _) (Nat.le_refl _) (fun _ => rfl) ⟨rfl, .inl rfl⟩ (by simp only [hlen2]; omega) e4
            · trivial
          · trivial
      · trivial
    · trivial
  · trivial

/-! ### places -/

theorem sim_fieldAddr (hC : CtxOk C) (hr : Rho C.ng μ tm ρ) (hh : HRel C.P μ H w) (s : TypeId) (x : Operand) (i : Nat) :
    OpOk C.P μ H w (step1 tm H (match C.und s with
    | some (.struct fs) => match C.fieldAt fs i with
      | some (off, _ + 1) => w1 C.ng x (.fieldAddr off)
      | _ => .bad "fieldAddr"
    | _ => .bad "fieldAddr")) ((do pure (Next.value (← Instr.fieldAt s (ρ x) i)) : Sem Next).run C.P w) := by
  split
  · rename_i fs hs
    have hu := hC.und hs
    split
    · rename_i off n hf
      obtain ⟨f, h1, h2, h3⟩ := mapM_places hC w fs i _ hf
      unfold w1
      split
      · rename_i a ha
        have hv := hr _ _ ha
        simp only [step1]
        split
        · rename_i b o e
          rw [e] at hv
          obtain ⟨l, hl, hp⟩ := hv.ptr_inv
          refine OpOk.pure hh (.ptr b (o + off) l hl) (run_v _ ?_)
          rw [hp]
          simp only at h2 h3
          simp only [Instr.fieldAt, Sem.run_bind, run_underlying' hu, Result.andThen_ok, h1, Instr.sureAddr, Sem.run_pure, fieldPlace, h3]
          rw [if_neg (by omega)]
          simp only [Sem.run_pure, Result.andThen_ok, Addr.add_none, ← h2, Nat.add_assoc]
        · trivial
      · trivial
    · trivial
  · trivial

theorem sim_field (hC : CtxOk C) (hr : Rho C.ng μ tm ρ) (hh : HRel C.P μ H w) (s : TypeId) (x : Operand) (i : Nat) :
    OpOk C.P μ H w (step1 tm H (match C.und s with
    | some (.struct fs) => match fs.toList[i]? with
      | some f => match C.aggSize f.type with
        | some ag => w1 C.ng x (.field f.offset ag)
        | none => .bad "field"
      | none => .bad "field"
    | _ => .bad "field")) ((do pure (Next.value (← Instr.field s (ρ x) i)) : Sem Next).run C.P w) := by
  split
  · rename_i fs hs
    have hu := hC.und hs
    split
    · rename_i f hf
      split
      · rename_i ag hag
        unfold w1
        split
        · rename_i a ha
          have hv := hr _ _ ha
          simp only [step1]
          split
          · rename_i cs e
            rw [e] at hv
            obtain ⟨y, hp, hl⟩ := hv.agg_inv
            split
            · rename_i v hv'
              obtain ⟨v', h1, h2⟩ := part_spec (w := w) hC hag hl hv'
              refine OpOk.pure hh h2 (run_v _ ?_)
              have hf' : fs[i]? = some f := by simpa using hf
              rw [hp]
              simp only [Instr.field, Sem.run_bind, run_underlying' hu, Result.andThen_ok, hf', asAgg, Sem.run_pure, h1]
            · trivial
          · trivial
        · trivial
      · trivial
    · trivial
  · trivial

theorem sim_indexAddr (hC : CtxOk C) (hr : Rho C.ng μ tm ρ) (hh : HRel C.P μ H w) (t : TypeId) (x i : Operand) :
    OpOk C.P μ H w (step1 tm H (match C.und t with
    | some (.array n e) => C.elemInfo e fun sz _ => w2 C.ng x i (.indexArr n sz)
    | some (.slice e) => C.elemInfo e fun sz _ => w2 C.ng x i (.indexAddr sz)
    | _ => .bad "indexAddr")) ((do pure (Next.value (← Instr.indexAt t (ρ x) (ρ i))) : Sem Next).run C.P w) := by
  split
  · rename_i n e ht
    have hu := hC.und ht
    unfold Ctx.elemInfo
    split
    · rename_i ti hti
      unfold w2 w1
      split
      · rename_i a ha
        have hv := hr _ _ ha
        split
        · rename_i b hb
          simp only [step1]
          split
          · trivial
          · rename_i j hj
            obtain ⟨kj, hpj⟩ := natIn_inv hj (hr _ _ hb)
            split
            · rename_i bl o e'
              rw [e'] at hv
              obtain ⟨l, hl, hp⟩ := hv.ptr_inv
              cases hlt : Nat.blt j n <;> simp only [cond]
              · trivial
              · have hjn : j < n := (ble_iff _ _).1 hlt
                refine OpOk.pure hh (.ptr bl (o + j * ti.size) l hl) (run_v _ ?_)
                have hsz : (sizeOf e).run C.P w = .ok ti.size w := by simp [sizeOf, run_typeInfo' (hC.ty e ti hti)]
                rw [hp, hpj]
                simp only [Instr.indexAt, Sem.run_bind, asIntOf, Sem.run_pure, Result.andThen_ok, run_underlying' hu, Instr.sureAddr]
                rw [if_pos (by simp; omega)]
                simp [hsz, Addr.add_none, Nat.add_assoc]
            · trivial
        · trivial
      · trivial
    · trivial
  · rename_i e ht
    have hu := hC.und ht
    unfold Ctx.elemInfo
    split
    · rename_i ti hti
      unfold w2 w1
      split
      · rename_i a ha
        have hv := hr _ _ ha
        split
        · rename_i b hb
          simp only [step1]
          split
          · trivial
          · rename_i j hj
            obtain ⟨kj, hpj⟩ := natIn_inv hj (hr _ _ hb)
            split
            · rename_i bl o len cap es ex e'
              rw [e'] at hv
              obtain ⟨l, a', cap', hl, hp, hc, hx, ha', hs', hlen⟩ := hv.slice_inv
              cases hlt : Nat.blt j len <;> simp only [cond]
              · trivial
              · have hjn : j < len := (ble_iff _ _).1 hlt
                have haddr : a' = ⟨l.blk, l.base + o, none⟩ := by
                  rcases ha'.2 with h | h
                  · exact h
                  · omega
                refine OpOk.pure hh (.ptr bl (o + j * ti.size) l hl) (run_v _ ?_)
                have hsz : (sizeOf e).run C.P w = .ok ti.size w := by simp [sizeOf, run_typeInfo' (hC.ty e ti hti)]
                rw [hp, hpj, haddr]
                simp only [Instr.indexAt, Sem.run_bind, asIntOf, Sem.run_pure, Result.andThen_ok, run_underlying' hu]
                rw [if_pos (by simp; omega)]
                simp [hsz, Addr.add_none, Nat.add_assoc]
            · trivial
        · trivial
      · trivial
    · trivial
  · trivial
end
end Go.Ab

set_option linter.unusedSimpArgs false
set_option linter.unusedVariables false
namespace Go.Ab

section
variable {C : Ctx} {μ : Mu} {H : AHeap} {w : World} {tm : List AV} {ρ : Operand → Value}

theorem run_sliceBound {P : Program} (k : IntKind) (n y : Nat) (code : BoundsCode) (h : n ≤ y) : (Instr.sliceBound (.int k ((n : Nat) : Int)) y code).run P w = .ok n w := by
  simp only [Instr.sliceBound, Sem.run_bind, asIntOf, Sem.run_pure, Result.andThen_ok]
  rw [if_pos (by simp; omega)]
  rfl

theorem opdO_inv {ng : Nat} {x : Option Operand} {a : Option Opd} (h : opdO ng x = some a) : (x = none ∧ a = none) ∨ ∃ y b, x = some y ∧ a = some b ∧ opd ng y = some b := by
  cases x with
  | none => simp [opdO] at h; exact .inl ⟨rfl, h.symm⟩
  | some y =>
    simp only [opdO] at h
    split at h
    · rename_i b hb; cases h; exact .inr ⟨y, b, rfl, rfl, hb⟩
    · cases h

theorem bound_inv {d most : Nat} {b : Opd} {n : Nat} (h : bound tm d most (some b) = some n) : natIn (b.ev tm) = some n ∧ n ≤ most := by
  simp only [bound] at h
  split at h
  · cases h
  · rename_i m hm
    cases hb : Nat.ble m most <;> simp only [hb, cond] at h
    · cases h
    · cases h; exact ⟨hm, (ble_iff _ _).1 hb⟩

theorem bounds_sound {P : Program} {ng : Nat} (hr : Rho ng μ tm ρ) (isSlice : Bool) {lo hi mx : Option Operand} {lo' hi' mx' : Option Opd} (h1 : opdO ng lo = some lo') (h2 : opdO ng hi = some hi') (h3 : opdO ng mx = some mx')
    {len cap cap' l h m : Nat} (hb : bounds tm len cap lo' hi' mx' = some (l, h, m)) (hc : cap ≤ cap') (hl : len ≤ cap) :
    (Instr.sliceBounds isSlice len cap' (lo.map ρ) (hi.map ρ) (mx.map ρ)).run P w = .ok (l, h, if mx'.isSome then m else cap') w ∧ l ≤ h ∧ h ≤ m ∧ m ≤ cap ∧ (mx'.isSome = false → m = cap) := by
  unfold bounds at hb
  -- the max
  have hmax : ∃ m0, bound tm cap cap mx' = some m0 ∧ m0 ≤ cap ∧ (mx'.isSome = false → m0 = cap) := by
    cases hm : bound tm cap cap mx' with
    | none => simp [hm] at hb
    | some m0 =>
      refine ⟨m0, rfl, ?_, ?_⟩
      · cases mx' with
        | none => simp [bound] at hm; omega
        | some b => exact (bound_inv hm).2
      · intro hn
        cases mx' with
        | none => simp [bound] at hm; omega
        | some b => simp at hn
  obtain ⟨m0, hm0, hm1, hm2⟩ := hmax
  simp only [hm0] at hb
  cases hno : (hi'.isNone && mx'.isSome) <;> simp only [hno, cond] at hb
  · cases hh : bound tm len m0 hi' with
    | none => simp [hh] at hb
    | some h0 =>
      simp only [hh] at hb
      cases hll : bound tm 0 h0 lo' with
      | none => simp [hll] at hb
      | some l0 =>
        simp only [hll, Option.some.injEq, Prod.mk.injEq] at hb
        obtain ⟨rfl, rfl, rfl⟩ := hb
        have hl0 : l0 ≤ h0 := by
          cases lo' with
          | none => simp [bound] at hll; omega
          | some b => exact (bound_inv hll).2
        have hh0 : h0 ≤ m0 := by
          cases hi' with
          | none =>
            have : mx'.isSome = false := by simpa using hno
            have := hm2 this
            simp [bound] at hh
            omega
          | some b => exact (bound_inv hh).2
        refine ⟨?_, hl0, hh0, hm1, hm2⟩
        rcases opdO_inv h3 with ⟨rfl, rfl⟩ | ⟨ym, bm, rfl, rfl, hym⟩
        · have hmc := hm2 rfl
          subst hmc
          rcases opdO_inv h2 with ⟨rfl, rfl⟩ | ⟨yh, bh, rfl, rfl, hyh⟩
          · simp [bound] at hh
            subst hh
            rcases opdO_inv h1 with ⟨rfl, rfl⟩ | ⟨yl, bl, rfl, rfl, hyl⟩
            · simp [bound] at hll; subst hll
              simp [Instr.sliceBounds]
            · obtain ⟨n1, n2⟩ := bound_inv hll
              obtain ⟨k, hk⟩ := natIn_inv n1 (hr _ _ hyl)
              simp [Instr.sliceBounds, hk, run_sliceBound k l0 len _ n2]
          · obtain ⟨n1, n2⟩ := bound_inv hh
            obtain ⟨kh, hkh⟩ := natIn_inv n1 (hr _ _ hyh)
            rcases opdO_inv h1 with ⟨rfl, rfl⟩ | ⟨yl, bl, rfl, rfl, hyl⟩
            · simp [bound] at hll; subst hll
              simp [Instr.sliceBounds, hkh, run_sliceBound kh h0 cap' _ (by omega)]
            · obtain ⟨n3, n4⟩ := bound_inv hll
              obtain ⟨k, hk⟩ := natIn_inv n3 (hr _ _ hyl)
              simp [Instr.sliceBounds, hkh, hk, run_sliceBound kh h0 cap' _ (by omega), run_sliceBound k l0 h0 _ n4]
        · obtain ⟨n5, n6⟩ := bound_inv hm0
          obtain ⟨km, hkm⟩ := natIn_inv n5 (hr _ _ hym)
          rcases opdO_inv h2 with ⟨rfl, rfl⟩ | ⟨yh, bh, rfl, rfl, hyh⟩
          · simp at hno
          · obtain ⟨n1, n2⟩ := bound_inv hh
            obtain ⟨kh, hkh⟩ := natIn_inv n1 (hr _ _ hyh)
            rcases opdO_inv h1 with ⟨rfl, rfl⟩ | ⟨yl, bl, rfl, rfl, hyl⟩
            · simp [bound] at hll; subst hll
              simp [Instr.sliceBounds, hkm, hkh, run_sliceBound km m0 cap' _ (by omega), run_sliceBound kh h0 m0 _ n2]
            · obtain ⟨n3, n4⟩ := bound_inv hll
              obtain ⟨k, hk⟩ := natIn_inv n3 (hr _ _ hyl)
              simp [Instr.sliceBounds, hkm, hkh, hk, run_sliceBound km m0 cap' _ (by omega), run_sliceBound kh h0 m0 _ n2, run_sliceBound k l0 h0 _ n4]
  · cases hb

theorem sim_slice (hC : CtxOk C) (hr : Rho C.ng μ tm ρ) (hh : HRel C.P μ H w) (t : TypeId) (x : Operand) (lo hi mx : Option Operand) :
    OpOk C.P μ H w (step1 tm H (w1 C.ng x fun x => wO C.ng lo fun lo => wO C.ng hi fun hi => wO C.ng mx fun mx =>
    match C.und t with
    | some (.array n e) => C.elemInfo e fun sz _ => .sliceArr n sz x lo hi mx
    | some (.pointer p) => match C.und p with
      | some (.array n e) => C.elemInfo e fun sz _ => .sliceArr n sz x lo hi mx
      | _ => .bad "slice"
    | some .string => match mx with
      | none => .sliceStr x lo hi
      | some _ => .bad "slice"
    | some (.slice e) => C.elemInfo e fun sz _ => .slice sz x lo hi mx
    | _ => .bad "slice")) ((do pure (Next.value (← Instr.sliceAt t (ρ x) (lo.map ρ) (hi.map ρ) (mx.map ρ))) : Sem Next).run C.P w) := by
  unfold w1
  split
  · rename_i a ha
    have hv := hr _ _ ha
    unfold wO
    split
    · rename_i lo' hlo
      split
      · rename_i hi' hhi
        split
        · rename_i mx' hmx
          -- an array behind a pointer
          have arr : ∀ (n : Nat) (e : TypeId) (ti : TypeInfo), C.ty e = some ti →
              (∀ l h m (ad : Addr), ρ x = .pointer (some ad) → (Instr.sliceBounds false n n (lo.map ρ) (hi.map ρ) (mx.map ρ)).run C.P w = .ok (l, h, m) w →
                (Instr.sliceAt t (ρ x) (lo.map ρ) (hi.map ρ) (mx.map ρ)).run C.P w = .ok (.slice (some (if m = l then ad else ad.add (l * ti.size))) (h - l) (m - l)) w) →
              OpOk C.P μ H w (step1 tm H (.sliceArr n ti.size a lo' hi' mx')) ((do pure (Next.value (← Instr.sliceAt t (ρ x) (lo.map ρ) (hi.map ρ) (mx.map ρ))) : Sem Next).run C.P w) := by
            intro n e ti hti hrun
            simp only [step1]
            split
            · rename_i b o e'
              rw [e'] at hv
              obtain ⟨l, hl, hp⟩ := hv.ptr_inv
              split
              · rename_i c N hg
                cases hle : Nat.ble (o + n * ti.size) N <;> simp only [cond]
                · trivial
                · have hle' := (ble_iff _ _).1 hle
                  split
                  · rename_i l0 h0 m0 hb
                    obtain ⟨b1, b2, b3, b4, b5⟩ := bounds_sound (P := C.P) (w := w) hr false hlo hhi hmx hb (Nat.le_refl n) (Nat.le_refl n)
                    have hm : (if mx'.isSome then m0 else n) = m0 := by
                      cases hms : mx'.isSome
                      · simp [b5 hms]
                      · simp
                    rw [hm] at b1
                    obtain ⟨C0, elem, fr, g1, g2, g3, g4, g5⟩ := hh.cells hl hg
                    refine OpOk.pure hh ?_ (run_v _ (hrun _ _ _ _ hp b1))
                    have hmul : l0 * ti.size + (m0 - l0) * ti.size = m0 * ti.size := by rw [← Nat.add_mul]; congr 1; omega
                    have hmul2 : m0 * ti.size ≤ n * ti.size := Nat.mul_le_mul_right _ b4
                    refine VRel.slice b (o + l0 * ti.size) (h0 - l0) (m0 - l0) ti.size true l _ (m0 - l0) hl (Nat.le_refl _) (fun _ => rfl) ⟨?_, ?_⟩ (by omega) (by omega)
                    · by_cases hml : m0 = l0
                      · rw [if_pos hml]
                      · rw [if_neg hml, Addr.add_none]
                    · by_cases hml : m0 = l0
                      · right; omega
                      · left; rw [if_neg hml, Addr.add_none, Nat.add_assoc]
                  · trivial
              · trivial
            · trivial
          split
          · rename_i n e ht
            have hu := hC.und ht
            unfold Ctx.elemInfo
            split
            · rename_i ti hti
              refine arr n e ti hti fun l h m ad hp hb => ?_
              have hsz : (sizeOf e).run C.P w = .ok ti.size w := by simp [sizeOf, run_typeInfo' (hC.ty e ti hti)]
              rw [hp]
              simp only [Instr.sliceAt, Sem.run_bind, run_underlying' hu, Result.andThen_ok, Instr.sureAddr, Sem.run_pure, hb, hsz]
            · trivial
          · rename_i p ht
            have hu := hC.und ht
            split
            · rename_i n e hp
              have hup := hC.und hp
              unfold Ctx.elemInfo
              split
              · rename_i ti hti
                refine arr n e ti hti fun l h m ad hp hb => ?_
                have hsz : (sizeOf e).run C.P w = .ok ti.size w := by simp [sizeOf, run_typeInfo' (hC.ty e ti hti)]
                rw [hp]
                simp only [Instr.sliceAt, Instr.slice, Sem.run_bind, run_underlying' hu, run_underlying' hup, Result.andThen_ok, asAddr, Sem.run_pure, hb, hsz]
              · trivial
            · trivial
          · rename_i ht
            have hu := hC.und ht
            clear arr
            cases mx' with
            | some b => trivial
            | none =>
              simp only [step1]
              split
              · rename_i s e
                rw [e] at hv
                obtain ⟨bs, hp, e2⟩ := hv.str_inv
                split
                · rename_i l0 h0 m0 hb
                  obtain ⟨b1, b2, b3, b4, b5⟩ := bounds_sound (P := C.P) (w := w) hr false hlo hhi hmx hb (Nat.le_refl _) (Nat.le_refl _)
                  have hlen : s.length = bs.size := by rw [e2]; simp
                  have hmx0 : mx.map ρ = none := by
                    rcases opdO_inv hmx with ⟨rfl, _⟩ | ⟨y, b, rfl, hbb, _⟩
                    · rfl
                    · cases hbb
                  refine OpOk.pure hh (v' := .string (bs.extract l0 h0)) ?_ (run_v _ ?_)
                  · have := VRel.str (μ := μ) (bs.extract l0 h0)
                    have e3 : ((bs.extract l0 h0).data.toList.map UInt8.toNat) = (s.take h0).drop l0 := by
                      rw [e2, ByteArray.data_extract]
                      simp [List.drop_take, List.map_take, List.map_drop]
                    rw [e3] at this
                    exact this
                  · rw [hp, hmx0]
                    rw [hmx0] at b1
                    simp only [hlen] at b1
                    simp only [Instr.sliceAt, Instr.slice, Sem.run_bind, run_underlying' hu, Result.andThen_ok, Option.isSome_none, Bool.false_eq_true, if_false, b1, Sem.run_pure]
                · trivial
              · trivial
          · rename_i e ht
            have hu := hC.und ht
            unfold Ctx.elemInfo
            split
            · rename_i ti hti
              have hsz : (sizeOf e).run C.P w = .ok ti.size w := by simp [sizeOf, run_typeInfo' (hC.ty e ti hti)]
              simp only [step1]
              split
              · rename_i e'
                rw [e'] at hv
                split
                · rename_i q hb
                  obtain ⟨l0, h0, m0⟩ := q
                  obtain ⟨b1, b2, b3, b4, b5⟩ := bounds_sound (P := C.P) (w := w) hr true hlo hhi hmx hb (Nat.le_refl _) (Nat.le_refl _)
                  refine OpOk.pure hh .nilSlice (run_v _ ?_)
                  have hm0 : m0 = 0 := by omega
                  have hh0 : h0 = 0 := by omega
                  have hl0 : l0 = 0 := by omega
                  subst hm0; subst hh0; subst hl0
                  rw [hv.nilSlice_inv]
                  simp only [Instr.sliceAt, Instr.slice, Sem.run_bind, run_underlying' hu, Result.andThen_ok, b1, hsz, Sem.run_pure]
                  simp
                · trivial
              · rename_i b o len cap es ex e'
                rw [e'] at hv
                obtain ⟨l, a', cap', hl, hp, hc, hx, ha', hs', hlen⟩ := hv.slice_inv
                cases hes : Nat.beq ti.size es <;> simp only [cond]
                · trivial
                · have hes' := Nat.eq_of_beq_eq_true hes
                  subst hes'
                  split
                  · rename_i l0 h0 m0 hb
                    obtain ⟨b1, b2, b3, b4, b5⟩ := bounds_sound (P := C.P) (w := w) hr true hlo hhi hmx hb hc hlen
                    generalize hm' : (if mx'.isSome = true then m0 else cap') = m1 at b1
                    have hm1 : m0 ≤ m1 ∧ m1 ≤ cap' := by
                      subst hm'
                      cases hms : mx'.isSome
                      · simp [b5 hms, hc]
                      · simp; omega
                    refine OpOk.pure hh (v' := .slice (some (if m1 = l0 then a' else a'.add (l0 * ti.size))) (h0 - l0) (m1 - l0)) ?_ (run_v _ ?_)
                    · have hmul : l0 * ti.size + (m1 - l0) * ti.size = m1 * ti.size := by rw [← Nat.add_mul]; congr 1; omega
                      have hmul2 : m1 * ti.size ≤ cap' * ti.size := Nat.mul_le_mul_right _ hm1.2
                      refine VRel.slice b (o + l0 * ti.size) (h0 - l0) (m0 - l0) ti.size _ l _ (m1 - l0) hl (by omega) ?_ ⟨?_, ?_⟩ (by omega) (by omega)
                      · intro hex
                        have : m1 = m0 := by
                          subst hm'
                          cases hms : mx'.isSome
                          · simp only [hms, Bool.or_false] at hex
                            simp only [Bool.false_eq_true, if_false]
                            rw [hx hex, b5 hms]
                          · simp
                        rw [this]
                      · by_cases hml : m1 = l0
                        · rw [if_pos hml]; exact ha'.1
                        · rw [if_neg hml]
                          unfold Addr.add
                          split <;> exact ha'.1
                      · by_cases hml : m1 = l0
                        · right; omega
                        · left
                          rcases ha'.2 with h | h
                          · rw [if_neg hml, h, Addr.add_none, Nat.add_assoc]
                          · omega
                    · rw [hp]
                      simp only [Instr.sliceAt, Instr.slice, Sem.run_bind, run_underlying' hu, Result.andThen_ok, b1, hsz, Sem.run_pure]
                      congr 2
                      by_cases hml : m1 = l0 <;> simp [hml]
                  · trivial
              · trivial
            · trivial
          · trivial
        · trivial
      · trivial
    · trivial
  · trivial
end
end Go.Ab

set_option linter.unusedSimpArgs false
set_option linter.unusedVariables false
namespace Go.Ab

theorem boolEq_iff (a b : Bool) : boolEq a b = true ↔ a = b := by cases a <;> cases b <;> decide
theorem natBeq_iff (a b : Nat) : Nat.beq a b = true ↔ a = b := ⟨Nat.eq_of_beq_eq_true, fun h => by subst h; exact Nat.beq_refl a⟩

mutual
theorem beqA_eq : ∀ (a b : AV), beqA a b = true → a = b
  | .bool a, b, h => by cases b <;> simp only [beqA, Bool.false_eq_true] at h; rw [(boolEq_iff _ _).1 h]
  | .int k a, b, h => by
    cases b <;> simp only [beqA, Bool.and_eq_true, Bool.false_eq_true] at h
    rw [(kindEq_iff _ _).1 h.1, (eqb_iff _ _).1 h.2]
  | .str a, b, h => by cases b <;> simp only [beqA, Bool.false_eq_true] at h; rw [(strEq_iff _ _).1 h]
  | .ptr a c, b, h => by
    cases b <;> simp only [beqA, Bool.and_eq_true, Bool.false_eq_true] at h
    rw [(natBeq_iff _ _).1 h.1, (natBeq_iff _ _).1 h.2]
  | .nilPtr, b, h => by cases b <;> simp only [beqA, Bool.false_eq_true] at h; rfl
  | .slice a1 a2 a3 a4 a5 a6, b, h => by
    cases b <;> simp only [beqA, Bool.and_eq_true, Bool.false_eq_true] at h
    obtain ⟨h1, h2, h3, h4, h5, h6⟩ := h
    rw [(natBeq_iff _ _).1 h1, (natBeq_iff _ _).1 h2, (natBeq_iff _ _).1 h3, (natBeq_iff _ _).1 h4, (natBeq_iff _ _).1 h5, (boolEq_iff _ _).1 h6]
  | .nilSlice, b, h => by cases b <;> simp only [beqA, Bool.false_eq_true] at h; rfl
  | .map a, b, h => by cases b <;> simp only [beqA, Bool.false_eq_true] at h; rw [(natBeq_iff _ _).1 h]
  | .nilMap, b, h => by cases b <;> simp only [beqA, Bool.false_eq_true] at h; rfl
  | .func f x y, b, h => by
    cases b with
    | func g z u =>
      cases f <;> cases g <;> simp only [beqA, Bool.and_eq_true, Bool.false_eq_true] at h
      rw [(natBeq_iff _ _).1 h.1, beqL_eq x z h.2.1, beqL_eq y u h.2.2]
    | _ => cases f <;> simp only [beqA, Bool.false_eq_true] at h
  | .nilFunc, b, h => by cases b <;> simp only [beqA, Bool.false_eq_true] at h; rfl
  | .iface t v, b, h => by
    cases b <;> simp only [beqA, Bool.and_eq_true, Bool.false_eq_true] at h
    rw [(natBeq_iff _ _).1 h.1, beqA_eq v _ h.2]
  | .nilIface, b, h => by cases b <;> simp only [beqA, Bool.false_eq_true] at h; rfl
  | .agg x, b, h => by cases b <;> simp only [beqA, Bool.false_eq_true] at h; rw [beqL_eq x _ h]
  | .tup x, b, h => by cases b <;> simp only [beqA, Bool.false_eq_true] at h; rw [beqL_eq x _ h]
theorem beqL_eq : ∀ (a b : List AV), beqL a b = true → a = b
  | [], b, h => by cases b <;> simp only [beqL, Bool.false_eq_true] at h; rfl
  | x :: a, b, h => by
    cases b <;> simp only [beqL, Bool.and_eq_true, Bool.false_eq_true] at h
    rw [beqA_eq x _ h.1, beqL_eq a _ h.2]
end

section
variable {C : Ctx} {μ : Mu} {H : AHeap} {w : World} {tm : List AV} {ρ : Operand → Value}

/-- Is it the key of an entry, as the model reckons it? -/
def eqRun (P : Program) (w : World) (kt : TypeId) (k : Value) (e : MapEntry) : Bool := match (Op.equal kt k e.key).run P w with
  | .ok b _ => b
  | _ => false

theorem equal_sound (hC : CtxOk C) {t : TypeId} {a b : AV} {a' b' : Value} {r : Bool} (ha : VRel μ a a') (hb : VRel μ b b') (h : eqA (C.eqT 100 t) a b = some r) : (Op.equal t a' b').run C.P w = .ok r w :=
  eq_sound hC 100 10000 t a b a' b' r (by omega) ha hb h

theorem ERel.cons_inv {a : AV × AV} {x : List (AV × AV)} {y' : List MapEntry} (h : ERel μ (a :: x) y') : ∃ e y, y' = e :: y ∧ VRel μ a.1 e.key ∧ VRel μ a.2 e.val ∧ ERel μ x y := by
  obtain ⟨h1, h2⟩ := h
  cases y' with
  | nil => simp at h1
  | cons e y =>
    refine ⟨e, y, rfl, (h2 0 (by simp) (by simp)).1, (h2 0 (by simp) (by simp)).2, by simpa using h1, fun i ha hb => ?_⟩
    have := h2 (i + 1) (by simpa using ha) (by simpa using hb)
    simpa using this

theorem ERel.cons {a : AV × AV} {x : List (AV × AV)} {e : MapEntry} {y : List MapEntry} (h1 : VRel μ a.1 e.key) (h2 : VRel μ a.2 e.val) (h : ERel μ x y) : ERel μ (a :: x) (e :: y) := by
  refine ⟨by simp [h.1], fun i ha hb => ?_⟩
  cases i with
  | zero => exact ⟨h1, h2⟩
  | succ i => exact h.2 i (by simpa using ha) (by simpa using hb)

theorem ERel.nil_inv {y : List MapEntry} (h : ERel μ [] y) : y = [] := by
  have := h.1; cases y with
  | nil => rfl
  | cons _ _ => simp at this

theorem flags_spec (hC : CtxOk C) {kt : TypeId} {k : AV} {k' : Value} (hk : VRel μ k k') : ∀ {es : List (AV × AV)} {z : List MapEntry} {fl : List Bool}, ERel μ es z → flagsA (C.eqT 100 kt) k es = some fl →
    fl = z.map (eqRun C.P w kt k') ∧ ∀ x ∈ z, (Op.equal kt k' x.key).run C.P w = .ok (eqRun C.P w kt k' x) w := by
  intro es
  induction es with
  | nil => intro z fl hz h; simp [flagsA] at h; subst h; rw [hz.nil_inv]; simp
  | cons p es ih =>
    intro z fl hz h
    obtain ⟨e, y, rfl, h1, h2, h3⟩ := hz.cons_inv
    obtain ⟨pk, pv⟩ := p
    simp only [flagsA] at h
    split at h
    · cases h
    · rename_i b hb
      split at h
      · cases h
      · rename_i r hr
        cases h
        obtain ⟨i1, i2⟩ := ih h3 hr
        have he := equal_sound (w := w) hC hk h1 hb
        have hg : eqRun C.P w kt k' e = b := by simp [eqRun, he]
        refine ⟨by simp [hg, ← i1], fun x hx => ?_⟩
        rcases List.mem_cons.1 hx with rfl | hx
        · rw [hg]; exact he
        · exact i2 x hx

theorem oneTrue_none : ∀ {fl : List Bool} {i : Nat}, oneTrue fl i = some none → ∀ b ∈ fl, b = false := by
  intro fl
  induction fl with
  | nil => intro i _ b hb; simp at hb
  | cons c fl ih =>
    intro i h b hb
    cases c
    · simp only [oneTrue] at h
      rcases List.mem_cons.1 hb with rfl | hb
      · rfl
      · exact ih h b hb
    · simp only [oneTrue] at h
      cases ha : fl.any id <;> simp [ha] at h

theorem oneTrue_some : ∀ {fl : List Bool} {i j : Nat}, oneTrue fl i = some (some j) → ∃ pre post, fl = pre ++ true :: post ∧ j = i + pre.length ∧ (∀ b ∈ pre, b = false) ∧ (∀ b ∈ post, b = false) := by
  intro fl
  induction fl with
  | nil => intro i j h; simp [oneTrue] at h
  | cons c fl ih =>
    intro i j h
    cases c
    · simp only [oneTrue] at h
      obtain ⟨pre, post, h1, h2, h3, h4⟩ := ih h
      refine ⟨false :: pre, post, by simp [h1], by simp [h2]; omega, fun b hb => ?_, h4⟩
      rcases List.mem_cons.1 hb with rfl | hb
      · rfl
      · exact h3 b hb
    · simp only [oneTrue] at h
      cases ha : fl.any id
      · simp only [ha, cond, Option.some.injEq] at h
        refine ⟨[], fl, rfl, by simp [h], fun b hb => by simp at hb, fun b hb => ?_⟩
        simp at ha
        cases b
        · rfl
        · exact absurd hb ha
      · simp [ha] at h

theorem run_findAsking {P : Program} {kt : TypeId} {k : Value} (g : MapEntry → Bool) : ∀ (y : List MapEntry) (i : Nat), (∀ x ∈ y, (Op.equal kt k x.key).run P w = .ok (g x) w) →
    (∀ pre x post, y = pre ++ x :: post → (∀ e ∈ pre, g e = false) → g x = true → (Instr.findAsking kt k y i).run P w = .ok (some (i + pre.length, x.val)) w) ∧
    ((∀ e ∈ y, g e = false) → (Instr.findAsking kt k y i).run P w = .ok none w) := by
  intro y
  induction y with
  | nil => intro i _; exact ⟨fun pre x post h => by simp at h, fun _ => by simp [Instr.findAsking]⟩
  | cons e y ih =>
    intro i hy
    obtain ⟨i1, i2⟩ := ih (i + 1) (fun x hx => hy x (by simp [hx]))
    have he := hy e (by simp)
    constructor
    · intro pre x post h hpre hx
      cases pre with
      | nil =>
        simp at h
        obtain ⟨rfl, rfl⟩ := h
        simp [Instr.findAsking, he, hx]
      | cons p pre =>
        simp at h
        obtain ⟨rfl, rfl⟩ := h
        have hp : g e = false := hpre e (by simp)
        have := i1 pre x post rfl (fun e' he' => hpre e' (by simp [he'])) hx
        simp [Instr.findAsking, he, hp, this]
        omega
    · intro hall
      have hp : g e = false := hall e (by simp)
      have := i2 (fun e' he' => hall e' (by simp [he']))
      simp [Instr.findAsking, he, hp, this]

theorem sameNow_spec {P : Program} {kt : TypeId} {d : TypeDesc} (hu : P.underlying kt = some d) {a b : Value} {r : Bool} (h : Instr.sameNow d a b = some r) : (Op.equal kt a b).run P w = .ok r w := by
  unfold Instr.sameNow at h
  split at h
  · split at h
    · rename_i q k n k' n' hk
      subst hk
      cases h
      exact run_equalIn_int w 9999 kt _ _ _ _ hu
    · cases h
  · cases h
    rename_i x y
    have := run_equalIn_string w 9999 kt x y hu
    rw [beq_toListBytes]
    exact this
  · cases h
    exact run_equalIn_bool' w 9999 kt _ _ hu
  · cases h

theorem findNow_spec {P : Program} {kt : TypeId} {d : TypeDesc} (hu : P.underlying kt = some d) {k : Value} (g : MapEntry → Bool) : ∀ (y : List MapEntry) (i : Nat) (r : Option (Nat × Value)),
    (∀ x ∈ y, (Op.equal kt k x.key).run P w = .ok (g x) w) → Instr.findNow d k y i = some r →
    (∀ pre x post, y = pre ++ x :: post → (∀ e ∈ pre, g e = false) → g x = true → r = some (i + pre.length, x.val)) ∧ ((∀ e ∈ y, g e = false) → r = none) := by
  intro y
  induction y with
  | nil => intro i r _ h; simp [Instr.findNow] at h; subst h; exact ⟨fun pre x post h => by simp at h, fun _ => rfl⟩
  | cons e y ih =>
    intro i r hy h
    have he := hy e (by simp)
    simp only [Instr.findNow] at h
    split at h
    · rename_i hs
      cases h
      have := sameNow_spec (w := w) hu hs
      rw [he] at this
      have hge : g e = true := by injection this
      constructor
      · intro pre x post h hpre hx
        cases pre with
        | nil => simp at h; obtain ⟨rfl, rfl⟩ := h; simp
        | cons p pre => simp at h; obtain ⟨rfl, rfl⟩ := h; have := hpre e (by simp); rw [hge] at this; cases this
      · intro hall; have := hall e (by simp); rw [hge] at this; cases this
    · rename_i hs
      have := sameNow_spec (w := w) hu hs
      rw [he] at this
      have hge : g e = false := by injection this
      obtain ⟨i1, i2⟩ := ih (i + 1) r (fun x hx => hy x (by simp [hx])) h
      constructor
      · intro pre x post h hpre hx
        cases pre with
        | nil => simp at h; obtain ⟨rfl, rfl⟩ := h; rw [hge] at hx; cases hx
        | cons p pre =>
          simp at h
          obtain ⟨rfl, rfl⟩ := h
          have := i1 pre x post rfl (fun e' he' => hpre e' (by simp [he'])) hx
          rw [this]; simp; omega
      · intro hall; exact i2 (fun e' he' => hall e' (by simp [he']))
    · cases h

theorem run_findKey {P : Program} {kt : TypeId} {d : TypeDesc} (hu : P.underlying kt = some d) {k : Value} (g : MapEntry → Bool) (y : List MapEntry) (hy : ∀ x ∈ y, (Op.equal kt k x.key).run P w = .ok (g x) w) :
    (∀ pre x post, y = pre ++ x :: post → (∀ e ∈ pre, g e = false) → g x = true → (Instr.findKey kt k y).run P w = .ok (some (pre.length, x.val)) w) ∧
    ((∀ e ∈ y, g e = false) → (Instr.findKey kt k y).run P w = .ok none w) := by
  unfold Instr.findKey
  simp only [Sem.run_bind, run_underlying' hu, Result.andThen_ok]
  cases hn : Instr.findNow d k y 0 with
  | some r =>
    obtain ⟨h1, h2⟩ := findNow_spec (w := w) hu g y 0 r hy hn
    refine ⟨fun pre x post h hp hx => ?_, fun h => ?_⟩
    · rw [h1 pre x post h hp hx]; simp
    · rw [h2 h]; simp
  | none =>
    obtain ⟨h1, h2⟩ := run_findAsking (P := P) (w := w) (kt := kt) (k := k) g y 0 hy
    refine ⟨fun pre x post h hp hx => ?_, fun h => ?_⟩
    · have := h1 pre x post h hp hx
      simpa using this
    · exact h2 h

/-! ### may it be a key? -/

theorem checkFields_spec (hC : CtxOk C) (d D : Nat) (empty : Bool)
    (ih : ∀ (t : TypeId) (a : AV) (a' : Value), VRel μ a a' → eqA (C.eqT d t) a a = some true → (Instr.checkKey empty D t a').run C.P w = .ok () w) :
    ∀ (fs : List Field) (x : List AV) (x' : List Value), LRel μ x x' → eqFields (C.eqFs d fs) x x = some true →
    (forIn fs PUnit.unit (fun f _ => (do
        if f.name ≠ "_" then Instr.checkKey empty D f.type (← part f.type x'.toArray f.offset)
        pure (ForInStep.yield PUnit.unit) : Sem (ForInStep PUnit)))).run C.P w = .ok PUnit.unit w := by
  intro fs
  induction fs with
  | nil => intro x x' _ _; simp
  | cons f fs ihf =>
    intro x x' hx h
    simp only [Ctx.eqFs, Ctx.eqFsOf] at h
    simp only [List.forIn_cons, Sem.run_bind]
    cases hn : (f.name == "_") <;> simp only [hn, cond] at h
    · have hne : f.name ≠ "_" := by simpa using hn
      rw [if_pos hne]
      cases hag : C.aggSize f.type with
      | some ag =>
        simp only [hag, eqFields] at h
        cases ha : partA x f.offset ag with
        | none => simp [ha] at h
        | some a =>
          simp only [ha] at h
          obtain ⟨a', ha1, ha2⟩ := part_spec (w := w) hC hag hx ha
          cases he : eqA (C.eqT d f.type) a a with
          | none => simp [he] at h
          | some r =>
            cases r
            · simp [he] at h
            · simp only [he] at h
              simp only [Sem.run_bind, ha1, Result.andThen_ok, ih _ _ _ ha2 he, Sem.run_pure]
              exact ihf x x' hx h
      | none =>
        simp only [hag, eqFields] at h
        cases ha : partA x f.offset none with
        | none => simp [ha] at h
        | some a => simp [ha, eqA] at h
    · have hne : f.name = "_" := by simpa using hn
      rw [if_neg (by simp [hne])]
      simp only [Sem.run_pure, Result.andThen_ok]
      exact ihf x x' hx h

theorem checkKey_spec (hC : CtxOk C) (empty : Bool) : ∀ (d D : Nat) (t : TypeId) (a : AV) (a' : Value), d ≤ D → VRel μ a a' → eqA (C.eqT d t) a a = some true → (Instr.checkKey empty D t a').run C.P w = .ok () w := by
  intro d
  induction d with
  | zero =>
    intro D t a a' _ ha h
    simp only [Ctx.eqT] at h
    cases a <;> simp [eqA] at h
  | succ d ih =>
    intro D t a a' hd ha h
    obtain ⟨D, rfl⟩ : ∃ D', D = D' + 1 := ⟨D - 1, by omega⟩
    simp only [Ctx.eqT] at h
    unfold Instr.checkKey
    split at h
    · rename_i hu
      have hu := hC.und hu
      cases a <;> simp only [eqA] at h <;> try (cases h; done)
      rw [ha.bool_inv]; simp [run_underlying' hu]
    · rename_i k hu
      have hu := hC.und hu
      cases a <;> simp only [eqA] at h <;> try (cases h; done)
      rw [ha.int_inv]; simp [run_underlying' hu]
    · rename_i hu
      have hu := hC.und hu
      cases a <;> simp only [eqA] at h <;> try (cases h; done)
      obtain ⟨_, rfl, _⟩ := ha.str_inv; simp [run_underlying' hu]
    · rename_i e hu
      have hu := hC.und hu
      split at h
      · cases a <;> simp only [eqA] at h <;> try (cases h; done)
        · obtain ⟨_, _, rfl⟩ := ha.ptr_inv; simp [run_underlying' hu]
        · rw [ha.nilPtr_inv]; simp [run_underlying' hu]
      · cases a <;> simp [eqA] at h
    · rename_i hu
      have hu := hC.und hu
      cases a <;> simp only [eqA] at h <;> try (cases h; done)
      rw [ha.nilIface_inv]; simp [run_underlying' hu]
    · rename_i hu
      have hu := hC.und hu
      cases a <;> simp only [eqA] at h <;> try (cases h; done)
      rw [ha.nilSlice_inv]; simp [run_underlying' hu]
    · rename_i hu
      have hu := hC.und hu
      cases a <;> simp only [eqA] at h <;> try (cases h; done)
      rw [ha.nilMap_inv]; simp [run_underlying' hu]
    · rename_i hu
      have hu := hC.und hu
      cases a <;> simp only [eqA] at h <;> try (cases h; done)
      cases ha; simp [run_underlying' hu]
    · rename_i fs hu
      have hu := hC.und hu
      cases hst : C.P.stoodInHeld t <;> simp only [hst, cond] at h
      · cases a <;> simp only [eqA] at h <;> try (cases h; done)
        obtain ⟨x', rfl, hx⟩ := ha.agg_inv
        simp only [Sem.run_bind, run_underlying' hu, Result.andThen_ok]
        rw [← Array.forIn_toList]
        have := checkFields_spec (w := w) hC d D empty (fun t a a' hv he => ih D t a a' (by omega) hv he) fs.toList _ x' hx h
        simp only at this ⊢
        rw [this]; rfl
      · cases a <;> simp [eqA] at h
    · cases a <;> simp [eqA] at h
end
end Go.Ab

set_option linter.unusedSimpArgs false
set_option linter.unusedVariables false
namespace Go.Ab

section
variable {C : Ctx} {μ : Mu} {H : AHeap} {w : World} {tm : List AV} {ρ : Operand → Value}

theorem matchA_self {e : EqT} {k : AV} {es : List (AV × AV)} {r : Option Nat} (h : matchA e k es = some r) : eqA e k k = some true ∧ ∃ fl, flagsA e k es = some fl ∧ oneTrue fl 0 = some r := by
  unfold matchA at h
  split at h
  · rename_i he
    split at h
    · cases h
    · rename_i fl hfl
      exact ⟨he, fl, hfl, h⟩
  · cases h

theorem eqT_und {d t : Nat} {a b : AV} {r : Bool} (h : eqA (C.eqT (d + 1) t) a b = some r) : ∃ dd, C.und t = some dd := by
  cases hu : C.und t with
  | some dd => exact ⟨dd, rfl⟩
  | none =>
    simp only [Ctx.eqT, hu] at h
    cases a <;> cases b <;> simp [eqA] at h

/-- The place of an element in a list, by a mark that it alone bears. -/
theorem perm_only {α : Type} (g : α → Bool) {y z : List α} (hp : z.Perm y) {pre post : List α} {x : α} (hz : z = pre ++ x :: post) (h1 : ∀ e ∈ pre, g e = false) (h2 : ∀ e ∈ post, g e = false) (hx : g x = true) :
    ∃ pre' post', y = pre' ++ x :: post' ∧ (∀ e ∈ pre', g e = false) ∧ (∀ e ∈ post', g e = false) ∧ (pre ++ post).Perm (pre' ++ post') := by
  have hmem : x ∈ y := hp.subset (by rw [hz]; simp)
  obtain ⟨pre', post', hy⟩ := List.append_of_mem hmem
  have hp2 : (pre ++ post).Perm (pre' ++ post') := by
    have a1 : (x :: (pre ++ post)).Perm z := by rw [hz]; exact List.perm_middle.symm
    have a2 : y.Perm (x :: (pre' ++ post')) := by rw [hy]; exact List.perm_middle
    exact (List.perm_cons x).1 ((a1.trans hp).trans a2)
  have hall : ∀ e ∈ pre' ++ post', g e = false := by
    intro e he
    have := hp2.symm.subset he
    rcases List.mem_append.1 this with h | h
    · exact h1 e h
    · exact h2 e h
  exact ⟨pre', post', hy, fun e he => hall e (by simp [he]), fun e he => hall e (by simp [he]), hp2⟩

/-- A key is asked for. -/
theorem find_spec (hC : CtxOk C) {kt : TypeId} {k : AV} {k' : Value} {es : List (AV × AV)} {y : List MapEntry} {r : Option Nat} (hk : VRel μ k k') (hm : MRel μ es y) (h : matchA (C.eqT 100 kt) k es = some r) :
    (∀ empty, (Instr.checkKey empty 10000 kt k').run C.P w = .ok () w) ∧
    (r = none → (Instr.findKey kt k' y).run C.P w = .ok none w) ∧
    (∀ j, r = some j → ∃ (epre epost : List (AV × AV)) (p : AV × AV) (pre post pre' post' : List MapEntry) (x : MapEntry), es = epre ++ p :: epost ∧ j = epre.length ∧ y = pre' ++ x :: post' ∧
      ERel μ epre pre ∧ ERel μ epost post ∧ (pre ++ post).Perm (pre' ++ post') ∧ VRel μ p.1 x.key ∧ VRel μ p.2 x.val ∧ (Instr.findKey kt k' y).run C.P w = .ok (some (pre'.length, x.val)) w) := by
  obtain ⟨he, fl, hfl, hone⟩ := matchA_self h
  obtain ⟨z, hp, hz⟩ := hm
  obtain ⟨hfl1, hfl2⟩ := flags_spec (w := w) hC hk hz hfl
  obtain ⟨dd, hd⟩ := eqT_und he
  have hu := hC.und hd
  have hy : ∀ x ∈ y, (Op.equal kt k' x.key).run C.P w = .ok (eqRun C.P w kt k' x) w := fun x hx => hfl2 x (hp.symm.subset hx)
  obtain ⟨f1, f2⟩ := run_findKey (P := C.P) (w := w) hu (eqRun C.P w kt k') y hy
  refine ⟨fun empty => checkKey_spec hC empty 100 10000 kt k k' (by omega) hk he, ?_, ?_⟩
  · intro hr
    subst hr
    have := oneTrue_none hone
    refine f2 fun e he => ?_
    refine this _ ?_
    rw [hfl1]
    exact List.mem_map_of_mem (hp.symm.subset he)
  · intro j hr
    subst hr
    obtain ⟨bpre, bpost, h1, h2, h3, h4⟩ := oneTrue_some hone
    -- the same cut of the entries
    have hzl := hz.1
    have hlen : bpre.length < z.length := by
      have : fl.length = z.length := by rw [hfl1]; simp
      rw [h1] at this; simp at this; omega
    have hlen2 : bpre.length < es.length := by rw [hz.1]; exact hlen
    refine ⟨es.take bpre.length, es.drop (bpre.length + 1), es[bpre.length], z.take bpre.length, z.drop (bpre.length + 1), ?_⟩
    have hzc : z = z.take bpre.length ++ z[bpre.length] :: z.drop (bpre.length + 1) := by
      rw [List.getElem_cons_drop hlen, List.take_append_drop]
    have hesc : es = es.take bpre.length ++ es[bpre.length] :: es.drop (bpre.length + 1) := by
      rw [List.getElem_cons_drop hlen2, List.take_append_drop]
    have hmap : ∀ i (hi : i < z.length), eqRun C.P w kt k' z[i] = fl[i]'(by rw [hfl1]; simpa using hi) := by
      intro i hi
      simp [hfl1]
    have g1 : ∀ e ∈ z.take bpre.length, eqRun C.P w kt k' e = false := by
      intro e he
      obtain ⟨i, hi, rfl⟩ := List.getElem_of_mem he
      simp only [List.length_take] at hi
      rw [List.getElem_take]
      rw [hmap i (by omega)]
      have : fl[i]'(by rw [hfl1]; simp; omega) = bpre[i]'(by omega) := by
        simp only [h1]
        rw [List.getElem_append_left (by omega)]
      rw [this]
      exact h3 _ (List.getElem_mem _)
    have g2 : ∀ e ∈ z.drop (bpre.length + 1), eqRun C.P w kt k' e = false := by
      intro e he
      obtain ⟨i, hi, rfl⟩ := List.getElem_of_mem he
      simp only [List.length_drop] at hi
      rw [List.getElem_drop]
      rw [hmap _ (by omega)]
      have hfll : fl.length = z.length := by rw [hfl1]; simp
      have hpl : bpost.length + bpre.length + 1 = z.length := by rw [← hfll, h1]; simp; omega
      have : fl[bpre.length + 1 + i]'(by omega) = bpost[i]'(by omega) := by
        simp only [h1]
        rw [List.getElem_append_right (by omega)]
        simp only [show bpre.length + 1 + i - bpre.length = i + 1 from by omega, List.getElem_cons_succ]
      rw [this]
      exact h4 _ (List.getElem_mem _)
    have g3 : eqRun C.P w kt k' z[bpre.length] = true := by
      rw [hmap _ hlen]
      simp only [h1]
      rw [List.getElem_append_right (by omega)]
      simp
    obtain ⟨pre', post', hy', p1, p2, p3⟩ := perm_only (eqRun C.P w kt k') hp hzc g1 g2 g3
    refine ⟨pre', post', z[bpre.length], hesc, by simp; omega, hy', ⟨by simp; omega, fun i a b => ?_⟩, ⟨by simp; omega, fun i a b => ?_⟩, p3, (hz.2 _ hlen2 hlen).1, (hz.2 _ hlen2 hlen).2, f1 pre' _ post' hy' p1 g3⟩
    · simp only [List.getElem_take]
      exact hz.2 i (by simp at a; omega) (by simp at b; omega)
    · simp only [List.getElem_drop]
      exact hz.2 _ (by simp at a; omega) (by simp at b; omega)

theorem HRel.map {P : Program} (hh : HRel P μ H w) {b : Nat} {l : Loc} {es : List (AV × AV)} {v : Nat} (hb : μ b = some l) (hg : H.get b = some (.map es v)) :
    ∃ es' clock, w.heap[l.blk]? = some (.map es' clock) ∧ l.base = 0 ∧ MRel μ es es'.toList ∧ bornOk es'.toList clock := by
  obtain ⟨o', h1, es', clock, rfl, h3, h4, h5⟩ := hh.obj b l _ hb hg (by simp)
  exact ⟨es', clock, h1, h3, h4, h5⟩

theorem run_getObj_map {P : Program} {k : Nat} {es : Array MapEntry} {c : Nat} (h : w.heap[k]? = some (.map es c)) : (getObj k).run P w = .ok (.map es c) w := by
  simp [getObj, Sem.run, h]

theorem run_setObj_map {P : Program} {k : Nat} {es : Array MapEntry} {c : Nat} (h : w.heap[k]? = some (.map es c)) (o : Obj) : (setObj k o).run P w = .ok () { w with heap := w.heap.setIfInBounds k o } := by
  simp [setObj, Sem.run, h]

theorem sim_lookup (hC : CtxOk C) (hr : Rho C.ng μ tm ρ) (hh : HRel C.P μ H w) (t : TypeId) (x k : Operand) (ok : Bool) :
    OpOk C.P μ H w (step1 tm H (match C.und t with
    | some (.map kt e) => match C.zero e with
      | some z => w2 C.ng x k (.lookup (C.eqT 100 kt) z ok)
      | none => .bad "lookup"
    | _ => .bad "lookup")) ((do pure (Next.value (← Instr.lookup t (ρ x) (ρ k) ok)) : Sem Next).run C.P w) := by
  split
  · rename_i kt e ht
    have hu := hC.und ht
    split
    · rename_i z hz
      obtain ⟨zv, hz1, hz2⟩ := hC.zero hz w
      unfold w2 w1
      split
      · rename_i a ha
        have hv := hr _ _ ha
        split
        · rename_i b hb
          have hvk := hr _ _ hb
          have res : ∀ {v : AV} {v' : Value} {f : Bool}, VRel μ v v' → VRel μ (cond ok (.tup [v, .bool f]) v) (if ok then .tuple #[v', .bool f] else v') := by
            intro v v' f h
            cases ok
            · exact h
            · exact VRel.tup_of (LRel.cons h (LRel.cons (.bool f) (LRel.nil μ)))
          simp only [step1]
          split
          · rename_i el
            rw [el] at hv
            split
            · rename_i he
              have hck := checkKey_spec (w := w) hC true 100 10000 kt _ _ (by omega) hvk he
              obtain ⟨dd, hd⟩ := eqT_und he
              refine OpOk.pure hh (res (hz2 μ)) (run_v _ ?_)
              rw [hv.nilMap_inv]
              simp only [Instr.lookup, Sem.run_bind, run_underlying' hu, Result.andThen_ok, Sem.run_pure, Array.isEmpty_empty, hck]
              simp [Instr.findKey, Instr.findNow, run_underlying' (hC.und hd), hz1]
            · trivial
          · rename_i bl el
            rw [el] at hv
            obtain ⟨l, hl, hp⟩ := hv.map_inv
            split
            · rename_i es ver hg
              obtain ⟨es', clock, g1, g2, g3, g4⟩ := hh.map hl hg
              split
              · rename_i j hm
                obtain ⟨c1, c2, c3⟩ := find_spec (w := w) hC hvk g3 hm
                obtain ⟨epre, epost, p, pre, post, pre', post', xx, d1, d2, d3, d4, d5, d6, d7, d8, d9⟩ := c3 j rfl
                split
                · rename_i p' hp'
                  have hpp : p' = p := by
                    rw [d1, d2, List.getElem?_append_right (Nat.le_refl _)] at hp'
                    simp at hp'; exact hp'.symm
                  subst hpp
                  refine OpOk.pure hh (res d8) (run_v _ ?_)
                  rw [hp]
                  simp only [Instr.lookup, Sem.run_bind, run_underlying' hu, Result.andThen_ok, run_getObj_map g1, Sem.run_pure, c1, d9]
                · trivial
              · rename_i hm
                obtain ⟨c1, c2, c3⟩ := find_spec (w := w) hC hvk g3 hm
                refine OpOk.pure hh (res (hz2 μ)) (run_v _ ?_)
                rw [hp]
                simp only [Instr.lookup, Sem.run_bind, run_underlying' hu, Result.andThen_ok, run_getObj_map g1, Sem.run_pure, c1, c2 rfl, hz1]
              · trivial
            · trivial
          · trivial
        · trivial
      · trivial
    · trivial
  · trivial

theorem ERel.append {x u : List (AV × AV)} {y v : List MapEntry} (h : ERel μ x y) (h' : ERel μ u v) : ERel μ (x ++ u) (y ++ v) := by
  induction x generalizing y with
  | nil => rw [h.nil_inv]; exact h'
  | cons a x ih =>
    obtain ⟨e, z, rfl, h1, h2, h3⟩ := h.cons_inv
    exact ERel.cons h1 h2 (ih h3)

theorem modify_mid {α : Type} (f : α → α) (pre post : List α) (x : α) : (pre ++ x :: post).modify pre.length f = pre ++ f x :: post := by
  induction pre with
  | nil => simp
  | cons p pre ih => simp [ih]

theorem keyLike_only {a : AV} {v v' : Value} (h : keyLike a = true) (hv : VRel μ a v) (hv' : VRel μ a v') : v = v' ∧ ∀ n, Instr.sameBits (n + 1) v v' = true := by
  have scal : ∀ (c : AV) (u u' : Value), (match c with | .int _ _ => true | .str _ => true | .bool _ => true | _ => false) = true → VRel μ c u → VRel μ c u' → u = u' ∧ ∀ n, Instr.sameBits n u u' = true := by
    intro c u u' hc hu hu'
    cases c <;> simp at hc
    · rw [hu.bool_inv, hu'.bool_inv]
      exact ⟨rfl, fun n => by cases n <;> simp [Instr.sameBits]⟩
    · rw [hu.int_inv, hu'.int_inv]
      exact ⟨rfl, fun n => by cases n <;> simp [Instr.sameBits]⟩
    · obtain ⟨b1, rfl, e1⟩ := hu.str_inv
      obtain ⟨b2, rfl, e2⟩ := hu'.str_inv
      have : b1 = b2 := by
        rw [e1] at e2
        have := (map_toNat_inj _ _).1 e2
        obtain ⟨⟨x⟩⟩ := b1
        obtain ⟨⟨y⟩⟩ := b2
        simp at this
        rw [this]
      subst this
      refine ⟨rfl, fun n => ?_⟩
      have : (b1 == b1) = true := by rw [beq_toListBytes]; simp
      cases n <;> simp [Instr.sameBits, this]
  cases a <;> try (simp [keyLike] at h; done)
  case bool b => obtain ⟨h1, h2⟩ := scal (.bool b) v v' rfl hv hv'; exact ⟨h1, fun n => h2 _⟩
  case int k n => obtain ⟨h1, h2⟩ := scal (.int k n) v v' rfl hv hv'; exact ⟨h1, fun n => h2 _⟩
  case str s => obtain ⟨h1, h2⟩ := scal (.str s) v v' rfl hv hv'; exact ⟨h1, fun n => h2 _⟩
  case agg l =>
    obtain ⟨y, rfl, hy⟩ := hv.agg_inv
    obtain ⟨y', rfl, hy'⟩ := hv'.agg_inv
    have hall : ∀ i (h1 : i < y.length) (h2 : i < y'.length), y[i] = y'[i] ∧ ∀ n, Instr.sameBits n y[i] y'[i] = true := by
      intro i h1 h2
      have h0 : i < l.length := by rw [hy.1]; exact h1
      simp only [keyLike, List.all_eq_true] at h
      exact scal l[i] _ _ (h _ (List.getElem_mem h0)) (hy.2 i h0 h1) (hy'.2 i h0 h2)
    have hlen : y.length = y'.length := by rw [← hy.1, hy'.1]
    have heq : y = y' := List.ext_getElem hlen fun i h1 h2 => (hall i h1 h2).1
    subst heq
    refine ⟨rfl, fun n => ?_⟩
    simp only [Instr.sameBits, List.size_toArray, beq_self_eq_true, Bool.true_and, List.all_eq_true]
    intro p hp
    obtain ⟨i, hi, rfl⟩ := List.getElem_of_mem hp
    simp at hi
    simp only [List.getElem_zip]
    exact (hall i hi hi).2 n

theorem ins_spec {k v : AV} {e : MapEntry} (h1 : VRel μ k e.key) (h2 : VRel μ v e.val) : ∀ {es : List (AV × AV)} {z : List MapEntry}, ERel μ es z → ∃ z', ERel μ (insA k v es) z' ∧ z'.Perm (e :: z) := by
  intro es
  induction es with
  | nil => intro z hz; rw [hz.nil_inv]; exact ⟨[e], ERel.cons h1 h2 ⟨rfl, fun i h => absurd h (by simp)⟩, List.Perm.refl _⟩
  | cons p es ih =>
    intro z hz
    obtain ⟨x, y, rfl, a1, a2, a3⟩ := hz.cons_inv
    obtain ⟨pk, pv⟩ := p
    simp only [insA]
    cases ltK k pk <;> simp only [cond]
    · obtain ⟨z', i1, i2⟩ := ih a3
      exact ⟨x :: z', ERel.cons a1 a2 i1, (List.Perm.cons x i2).trans (List.Perm.swap e x y)⟩
    · exact ⟨e :: x :: y, ERel.cons h1 h2 (ERel.cons a1 a2 a3), List.Perm.refl _⟩

theorem sim_mapUpdate (hC : CtxOk C) (hr : Rho C.ng μ tm ρ) (hh : HRel C.P μ H w) (t : TypeId) (m k x : Operand) :
    OpOk C.P μ H w (step1 tm H (match C.und t with
    | some (.map kt _) => w1 C.ng m fun m => w2 C.ng k x (.mapUpdate (C.eqT 100 kt) m)
    | _ => .bad "mapUpdate")) ((do Instr.mapUpdate t (ρ m) (ρ k) (ρ x); pure Next.skip : Sem Next).run C.P w) := by
  split
  · rename_i kt e ht
    have hu := hC.und ht
    unfold w1
    split
    · rename_i m' hm
      have hvm := hr _ _ hm
      unfold w2 w1
      split
      · rename_i k' hk
        have hvk := hr _ _ hk
        split
        · rename_i x' hx
          have hvx := hr _ _ hx
          simp only [step1]
          split
          · rename_i bl el
            rw [el] at hvm
            obtain ⟨l, hl, hp⟩ := hvm.map_inv
            split
            · rename_i es ver hg
              obtain ⟨es', clock, g1, g2, g3, g4⟩ := hh.map hl hg
              split
              · rename_i j hmm
                obtain ⟨c1, c2, c3⟩ := find_spec (w := w) hC hvk g3 hmm
                obtain ⟨epre, epost, p, pre, post, pre', post', xx, d1, d2, d3, d4, d5, d6, d7, d8, d9⟩ := c3 j rfl
                split
                · rename_i p' hp'
                  have hpp : p' = p := by
                    rw [d1, d2, List.getElem?_append_right (Nat.le_refl _)] at hp'
                    simp at hp'; exact hp'.symm
                  subst hpp
                  cases hkl : (keyLike p'.1 && beqA p'.1 (k'.ev tm)) <;> simp only [cond]
                  · trivial
                  · simp only [Bool.and_eq_true] at hkl
                    have heq := beqA_eq _ _ hkl.2
                    rw [← heq] at hvk
                    obtain ⟨s1, s2⟩ := keyLike_only hkl.1 d7 hvk
                    have hi : es'[pre'.length]? = some xx := by
                      have : es'.toList[pre'.length]? = some xx := by rw [d3, List.getElem?_append_right (Nat.le_refl _)]; simp
                      simpa using this
                    have hyl : (es'.modify pre'.length fun e => { e with key := ρ k, val := ρ x }).toList = pre' ++ { xx with key := ρ k, val := ρ x } :: post' := by
                      rw [Array.toList_modify, d3, modify_mid]
                    have hwf : ORel C.P μ (.map (es.set j (p'.1, x'.ev tm)) (ver + 1)) l (.map (es'.modify pre'.length fun e => { e with key := ρ k, val := ρ x }) clock) := by
                      refine ⟨_, clock, rfl, g2, ?_, ?_⟩
                      · rw [hyl]
                        refine ⟨pre ++ { xx with key := ρ k, val := ρ x } :: post, ?_, ?_⟩
                        · exact (List.perm_middle.trans (List.Perm.cons _ d6)).trans List.perm_middle.symm
                        · have : es.set j (p'.1, x'.ev tm) = epre ++ (p'.1, x'.ev tm) :: epost := by
                            rw [d1, d2, List.set_append_right _ _ (Nat.le_refl _)]; simp
                          rw [this]
                          exact ERel.append d4 (ERel.cons hvk hvx d5)
                      · unfold bornOk at g4 ⊢
                        rw [hyl]
                        rw [d3] at g4
                        refine ⟨by simpa using g4.1, fun e he => ?_⟩
                        rcases List.mem_append.1 he with h | h
                        · exact g4.2 e (by simp [h])
                        · rcases List.mem_cons.1 h with h | h
                          · rw [h]; exact g4.2 xx (by simp)
                          · exact g4.2 e (by simp [h])
                    obtain ⟨u1, u2⟩ := hh.upd hl ⟨_, hg, by simp⟩ _ _ hwf trivial (fun es1 v1 e1 => ⟨es, ver, hg, by cases e1; omega⟩)
                    refine ⟨μ, undef, _, .inr ⟨run_u _ ?_, rfl⟩, VRel.undef μ, u1, u2⟩
                    rw [hp]
                    have hks : (Instr.keyThatStays xx.key (ρ k)).run C.P w = .ok (ρ k) w := by
                      unfold Instr.keyThatStays
                      rw [if_pos (s2 9999)]; rfl
                    simp only [Instr.mapUpdate, Sem.run_bind, run_underlying' hu, Result.andThen_ok, run_getObj_map g1, c1, d9, hi, Option.map_some, Option.getD_some, hks, run_setObj_map g1]
                · trivial
              · rename_i hmm
                obtain ⟨c1, c2, c3⟩ := find_spec (w := w) hC hvk g3 hmm
                have hwf : ORel C.P μ (.map (insA (k'.ev tm) (x'.ev tm) es) (ver + 1)) l (.map (es'.push { key := ρ k, val := ρ x, born := clock }) (clock + 1)) := by
                  refine ⟨_, clock + 1, rfl, g2, ?_, ?_⟩
                  · obtain ⟨z, z1, z2⟩ := g3
                    obtain ⟨z', i1, i2⟩ := ins_spec (e := { key := ρ k, val := ρ x, born := clock }) hvk hvx z2
                    refine ⟨z', i2.trans ?_, i1⟩
                    rw [Array.toList_push]
                    exact (List.Perm.cons _ z1).trans (List.perm_append_singleton _ _).symm
                  · unfold bornOk at g4 ⊢
                    rw [Array.toList_push]
                    refine ⟨?_, fun e he => ?_⟩
                    · rw [List.map_append, List.nodup_append]
                      refine ⟨g4.1, by simp, ?_⟩
                      intro a ha b hb hab
                      simp at hb
                      subst hb
                      obtain ⟨e, he, rfl⟩ := List.mem_map.1 ha
                      have := g4.2 e he
                      omega
                    · rcases List.mem_append.1 he with h | h
                      · have := g4.2 e h; omega
                      · simp at h; subst h; simp
                obtain ⟨u1, u2⟩ := hh.upd hl ⟨_, hg, by simp⟩ _ _ hwf trivial (fun es1 v1 e1 => ⟨es, ver, hg, by cases e1; omega⟩)
                refine ⟨μ, undef, _, .inr ⟨run_u _ ?_, rfl⟩, VRel.undef μ, u1, u2⟩
                rw [hp]
                simp only [Instr.mapUpdate, Sem.run_bind, run_underlying' hu, Result.andThen_ok, run_getObj_map g1, c1, c2 rfl, run_setObj_map g1]
              · trivial
            · trivial
          · trivial
        · trivial
      · trivial
    · trivial
  · trivial

theorem sim_delete (hC : CtxOk C) (hr : Rho C.ng μ tm ρ) (hh : HRel C.P μ H w) (o : Oper) (c : Call) (ho : o.op = .call c) (hcb : c.callee = .builtin .delete) :
    OpOk C.P μ H w (step1 tm H (match c.args.toList with
    | [m, k] => match c.argTypes.toList with
      | t :: _ => match C.und t with
        | some (.map kt _) => w2 C.ng m k (.delete (C.eqT 100 kt))
        | _ => .bad "delete"
      | _ => .bad "delete"
    | _ => .bad "delete")) ((Go.execOp ρ o).run C.P w) := by
  split
  · rename_i m k hargs
    split
    · rename_i t ts hts
      split
      · rename_i kt e ht
        have hu := hC.und ht
        have hexec : (Go.execOp ρ o).run C.P w = ((do pure (Next.value (← Builtin.delete_ c.argTypes o.type #[ρ m, ρ k])) : Sem Next)).run C.P w := by
          have ha : c.args.map ρ = #[ρ m, ρ k] := by
            apply Array.ext'; simp [hargs]
          simp only [Go.execOp, ho, resolve, hcb, ha, Sem.run_bind, Sem.run_pure, Result.andThen_ok, invoke, builtin]
        rw [hexec]
        have hat : c.argTypes[0]? = some t := by
          have : c.argTypes.toList[0]? = some t := by rw [hts]; rfl
          simpa using this
        unfold w2 w1
        split
        · rename_i m' hm
          have hvm := hr _ _ hm
          split
          · rename_i k' hk
            have hvk := hr _ _ hk
            simp only [step1]
            split
            · rename_i el
              rw [el] at hvm
              split
              · rename_i he
                have hck := checkKey_spec (w := w) hC true 100 10000 kt _ _ (by omega) hvk he
                refine OpOk.pure hh (VRel.undef μ) (run_v _ ?_)
                rw [hvm.nilMap_inv]
                simp [Builtin.delete_, hat, run_underlying' hu, hck, undef]
              · trivial
            · rename_i bl el
              rw [el] at hvm
              obtain ⟨l, hl, hp⟩ := hvm.map_inv
              split
              · rename_i es ver hg
                obtain ⟨es', clock, g1, g2, g3, g4⟩ := hh.map hl hg
                split
                · rename_i j hmm
                  obtain ⟨c1, c2, c3⟩ := find_spec (w := w) hC hvk g3 hmm
                  obtain ⟨epre, epost, p, pre, post, pre', post', xx, d1, d2, d3, d4, d5, d6, d7, d8, d9⟩ := c3 j rfl
                  have hyl : (es'.eraseIdxIfInBounds pre'.length).toList = pre' ++ post' := by
                    have hlt : pre'.length < es'.size := by
                      have : es'.toList.length = pre'.length + (1 + post'.length) := by rw [d3]; simp; omega
                      simp at this; omega
                    simp only [Array.eraseIdxIfInBounds, hlt, dite_true, Array.toList_eraseIdx, d3]
                    rw [List.eraseIdx_append_of_length_le (Nat.le_refl _)]
                    simp
                  have hwf : ORel C.P μ (.map (es.eraseIdx j) (ver + 1)) l (.map (es'.eraseIdxIfInBounds pre'.length) clock) := by
                    refine ⟨_, clock, rfl, g2, ?_, ?_⟩
                    · rw [hyl]
                      refine ⟨pre ++ post, d6, ?_⟩
                      have : es.eraseIdx j = epre ++ epost := by
                        rw [d1, d2, List.eraseIdx_append_of_length_le (Nat.le_refl _)]; simp
                      rw [this]
                      exact ERel.append d4 d5
                    · unfold bornOk at g4 ⊢
                      rw [hyl]
                      rw [d3] at g4
                      refine ⟨?_, fun e he => ?_⟩
                      · have h := g4.1
                        simp only [List.map_append, List.map_cons] at h ⊢
                        exact h.sublist (List.Sublist.append (List.Sublist.refl _) (List.sublist_cons_self _ _))
                      · rcases List.mem_append.1 he with h | h
                        · exact g4.2 e (by simp [h])
                        · exact g4.2 e (by simp [h])
                  obtain ⟨u1, u2⟩ := hh.upd hl ⟨_, hg, by simp⟩ _ _ hwf trivial (fun es1 v1 e1 => ⟨es, ver, hg, by cases e1; omega⟩)
                  refine ⟨μ, undef, _, .inl (run_v _ ?_), VRel.undef μ, u1, u2⟩
                  rw [hp]
                  simp [Builtin.delete_, hat, run_underlying' hu, run_getObj_map g1, c1, d9, run_setObj_map g1, undef]
                · rename_i hmm
                  obtain ⟨c1, c2, c3⟩ := find_spec (w := w) hC hvk g3 hmm
                  obtain ⟨u1, u2⟩ := hh.upd hl ⟨_, hg, by simp⟩ (.map es (ver + 1)) (.map es' clock) ⟨es', clock, rfl, g2, g3, g4⟩ trivial
                    (fun es1 v1 e1 => ⟨es, ver, hg, by cases e1; omega⟩)
                  refine ⟨μ, undef, _, .inl (run_v _ ?_), VRel.undef μ, u1, u2⟩
                  rw [hp]
                  simp [Builtin.delete_, hat, run_underlying' hu, run_getObj_map g1, c1, c2 rfl, run_setObj_map g1, undef]
                · trivial
              · trivial
            · trivial
          · trivial
        · trivial
      · trivial
    · trivial
  · trivial
end
end Go.Ab
