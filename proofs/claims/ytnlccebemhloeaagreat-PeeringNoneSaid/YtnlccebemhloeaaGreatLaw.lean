/- Proved here: PeeringNone answers true for every input, and the argument reads behind the call as it read before; no condition. -/
import Derived.Test.YtnlccebemhloeaaGreatRun3
import Derived.Test.YtnlccebemhloeaaGreatAbF
import Derived.Test.YtnlccebemhloeaaGreatRows
import Derived.WalkKit
import Derived.ProofKit
import Derived.OpenShut
set_option linter.all false
namespace Go.Proofs.YtnlccebemhloeaaGreat
open Go Go.Ab
open Go.ChangeShapes Go.WideShapes Go.ChangeAt Go.RowKit
set_option linter.unusedVariables false
set_option maxRecDepth 100000

theorem ng0 : C0.ng = 0 := by kernel_rfl
theorem P0 : C0.P = Tryz.prog := by kernel_rfl
theorem ng1 : C1.ng = 0 := by kernel_rfl
theorem P1 : C1.P = Tryz.prog := by kernel_rfl
theorem ng2 : C2.ng = 0 := by kernel_rfl
theorem P2 : C2.P = Tryz.prog := by kernel_rfl
theorem types1 : C1.types = Tr.ofList Tryz.prog.types.toList := by kernel_rfl
theorem funcs1 : C1.funcs = Tr.ofList Tryz.prog.funcs.toList := by kernel_rfl
theorem types2 : C2.types = Tr.ofList Tryz.prog.types.toList := by kernel_rfl
theorem funcs2 : C2.funcs = Tr.ofList Tryz.prog.funcs.toList := by kernel_rfl
theorem ext1 : C1.ext = fun _ => none := by kernel_rfl
theorem ext2 : C2.ext = fun _ => none := by kernel_rfl
theorem cSum1 : C1.sum = sum1 := by kernel_rfl
theorem cSum2 : C2.sum = fun i => cond (Nat.beq i 14) (some (tabSum false tabLives)) (sum1 i) := by kernel_rfl
theorem hb166 : ∃ fn c, Tryz.prog.funcs[166]? = some fn ∧ fn.body = some c := ⟨_, _, Tryz.func166, rfl⟩
theorem hb120 : ∃ fn c, Tryz.prog.funcs[120]? = some fn ∧ fn.body = some c := ⟨_, _, Tryz.func120, rfl⟩
theorem hb164 : ∃ fn c, Tryz.prog.funcs[164]? = some fn ∧ fn.body = some c := ⟨_, _, Tryz.func164, rfl⟩
theorem hb14 : ∃ fn c, Tryz.prog.funcs[14]? = some fn ∧ fn.body = some c := ⟨_, _, Tryz.func14, rfl⟩
theorem sumOk1 {C' : Ctx} (hP : C'.P = Tryz.prog) {i : Nat} {g : List AV → AHeap → Option (AV × AHeap)} (h : sum1 i = some g) : SumOk C' i g := by
  unfold sum1 at h
  cases h1 : Nat.beq i 166 with
  | true =>
    rw [h1] at h
    simp only [cond_true] at h
    cases h
    have := Nat.eq_of_beq_eq_true h1
    subst this
    exact tab_sumT full0 ng0 P0 hP hb166 rowsLn
  | false =>
    rw [h1] at h
    simp only [cond_false] at h
    cases h2 : Nat.beq i 120 with
    | true =>
      rw [h2] at h
      simp only [cond_true] at h
      cases h
      have := Nat.eq_of_beq_eq_true h2
      subst this
      exact tab_sumT full0 ng0 P0 hP hb120 rowsHash2
    | false =>
      rw [h2] at h
      simp only [cond_false] at h
      cases h3 : Nat.beq i 164 with
      | true =>
        rw [h3] at h
        simp only [cond_true] at h
        cases h
        have := Nat.eq_of_beq_eq_true h3
        subst this
        exact tab_sumT full0 ng0 P0 hP hb164 rowsHash3
      | false =>
        rw [h3] at h
        cases h

theorem full_of (C : Ctx) (h1 : C.P = Tryz.prog) (h2 : C.types = Tr.ofList Tryz.prog.types.toList) (h3 : C.funcs = Tr.ofList Tryz.prog.funcs.toList) (h4 : C.ext = fun _ => none)
    (h5 : ∀ i g, C.sum i = some g → SumOk C i g) : CtxFull C :=
  ⟨CtxOk.of C Tryz.prog h1 h2 h3 mixed, by rw [h1]; exact names, fun i e h => (by rw [h4] at h; cases h), h5⟩

theorem full1 : CtxFull C1 := full_of C1 P1 types1 funcs1 ext1 fun i g h => sumOk1 P1 (by rw [cSum1] at h; exact h)

theorem full2 : CtxFull C2 := by
  refine full_of C2 P2 types2 funcs2 ext2 fun i g h => ?_
  rw [cSum2] at h
  simp only at h
  cases h1 : Nat.beq i 14 with
  | true =>
    rw [h1] at h
    simp only [cond_true] at h
    cases h
    have := Nat.eq_of_beq_eq_true h1
    subst this
    exact tab_sumT full1 ng1 P1 P2 hb14 rowsLives
  | false =>
    rw [h1] at h
    exact sumOk1 P2 h

theorem ran2 (b : Bool) : Go.Ab.isTrue (callT2 C2 1000 100 .no (.func (.func 3) [] []) [.agg (fillB shape [b])] H0) = true := by
  have h := congrFun ran b
  exact h

noncomputable def us : List TypeId := (Tryz.prog.cellTypes Tryz.prog.depth 50).getD []
theorem us_eq : Tryz.prog.cellTypes Tryz.prog.depth 50 = some us := by kernel_rfl
theorem us_len : Tryz.prog.cellsOf 50 = us.length := by kernel_rfl
theorem us_shape : us.map (isB Tryz.prog) = shape := by kernel_rfl
theorem one_bool : shape.countP id = 1 := by kernel_rfl

theorem own : ownKnob Tryz.prog.godebug = none := by kernel_rfl
theorem laidOut : laidOutB Tryz.prog = true := by kernel_rfl
theorem readable : Tryz.prog.readableRec 50 = true := by kernel_rfl
theorem isRow : 50 < Tryz.prog.types.size := of_decide_eq_true (by kernel_rfl)

theorem walk {v : Value} {W : World} {base : Nat} (hv : Value.okWide Tryz.prog W .any base 50 v) :
    Calls Tryz.prog 3 #[v] W fun e W' => e = .returned (.bool true) ∧ Below W.heap.size W W' := by
  obtain ⟨xs, h1, h2⟩ := struct_rel (fun _ => none) Tryz.underlying50 hv us_eq us_len us_shape
  rw [one_bool] at h1
  cases xs with
  | nil => cases h1
  | cons b xs =>
    cases xs with
    | cons _ _ => simp at h1
    | nil =>
      exact law_calls P2 full2 ng2 Tryz.func3 rfl (K := 1000) (n := 100) (args' := [v]) (.cons h2 (.nil _)) (ran2 b) W

set_option maxRecDepth 100000 in
theorem lifted (os : Os) (started : os.Started) (H : Type) (enc : TypeId × Value → H) :
    ReturnsInHanded {} Tryz.checked os 3 .any (Rows.peeringNoneSpec.pre6 enc Tryz.prog Tryz.f3 Rows.peeringNoneRow.domain false) (Rows.peeringNoneSpec.post enc Tryz.prog Tryz.f3 false true false false) := by
  refine returnsInHanded_of_change (C := Tryz.checked) own started (by kernel_rfl) Tryz.func3
    (ChangeSpec.witness6 (enc := enc) (C := Tryz.checked) false ⟨#[], #[.agg #[.int .i64 0, .int .i64 0, .int .i64 0, .int .i64 0, .int .i64 0, .int .i64 0, .int .i64 0, .int .i64 0, .int .i64 0, .int .i64 0, .int .i64 0, .int .i64 0, .int .i64 0, .int .i64 0, .slice none 0 0, .slice none 0 0, .slice none 0 0, .int .i64 0, .int .i64 0, .int .i64 0, .int .i64 0, .int .i64 0, .int .i64 0, .int .i64 0, .int .i64 0, .int .i64 0, .slice none 0 0, .slice none 0 0, .slice none 0 0, .int .i64 0, .int .i64 0, .bool false, .int .i64 0, .string ⟨#[]⟩, .int .i64 0, .int .i64 0, .string ⟨#[]⟩, .int .i64 0, .int .i64 0, .slice none 0 0, .int .i64 0, .string ⟨#[]⟩, .slice none 0 0, .int .i64 0, .int .i64 0, .slice none 0 0, .slice none 0 0, .int .i64 0, .int .i64 0, .int .i64 0, .int .i64 0, .slice none 0 0, .slice none 0 0, .slice none 0 0]], []⟩ 8 (by kernel_rfl) (by kernel_rfl) (by kernel_rfl) (by kernel_rfl)) ?_
  intro W base args ds gs before hval0 hW hcnd _
  have hval : ∀ (j : Nat) t v, Tryz.f3.params[j]? = some t → args[j]? = some v → Value.okWide Tryz.prog W .any base t v := hval0
  have hW' := hW
  obtain ⟨p, q, hA0, hV, rfl, hfz, hnd⟩ := hW
  have hA : DataW.TrodAll enc Tryz.prog W 0 (fun _ => true) true Tryz.f3.params.toList args.toList ds p := hA0
  rw [Tryz.params3] at hA hval
  obtain ⟨v0, d0, rfl, rfl, h0⟩ := trodAll_one hA
  obtain ⟨rfl, rfl⟩ := trodVars_none hV
  have hv0 := hval 0 50 v0 rfl rfl
  clear hA0 hval0
  simp only [List.append_nil] at hW'
  refine (walk hv0).mono fun e W' ⟨he, hb⟩ => ?_
  subst he
  exact ⟨_, rfl, post_of_below (pa := p) (pv := []) hW' (fun _ _ _ => trodAll_mk1 (shut_bool Tryz.underlying4 _))
    (fun sp hsp => trodAll_mk1 (WideElems.Trod_stays laidOut readable isRow h0 (fun x hx => hb.same (hW'.lt x hx)) fun x hx => hsp x (by simpa using hx))) (fun _ _ => rfl) (by simp)
    hb (ok_one (by kernel_rfl) rfl (okWide_bool_mk Tryz.underlying4 _))⟩

theorem over : Rows.peeringNoneRow.holds Tryz.pinned (OpenSpec.ofChange Rows.peeringNoneSpec) :=
  OpenClaim.holds_of_wide 3 Tryz.f3 rfl rfl rfl rfl rfl rfl rfl ⟨rfl, rfl, rfl, rfl, rfl⟩ rfl rfl rfl rfl rfl (by kernel_rfl) Tryz.func3 (by kernel_rfl)
    (of_decide_eq_true (by kernel_rfl)) (by unfold Func.isWrapper; first | (rw [if_pos (by decide +kernel)]; kernel_rfl) | (rw [if_neg (by decide +kernel)]; exact ⟨rfl, rfl⟩))
    (fun os started H enc _ => lifted os started H enc)

theorem peeringNone_holds : Rows.PeeringNoneSaid := over
#print axioms peeringNone_holds
end Go.Proofs.YtnlccebemhloeaaGreat
