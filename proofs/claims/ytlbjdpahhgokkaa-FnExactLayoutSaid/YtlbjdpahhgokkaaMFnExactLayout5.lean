/- The law FnExactLayout holds for every call: part 6 of 6 of the proof (the row). Conditions: none beyond what the given row says. -/
import Derived.Test.YtlbjdpahhgokkaaMFnExactLayout4
import Derived.SizedLaws
import Derived.ChangeSlices
import Derived.Test.YtlbjdpahhgokkaaRows
import Derived.WalkKit
import Derived.ProofKit
import Derived.OpenShut
import Derived.ShutString
import Derived.ChangeOld
import Derived.Below
/- The pure statement of the law FnExactLayout: over numbers and lists alone, the law's printed function answers true for all items and brackets. -/
namespace Go.Proofs.Ytlbjdpahhgokkaa.fnExactLayout.Pure
open Go.RowKit Go.Proofs.YtlbjdpahhgokkaaW.PrintWords Go.Proofs.YtlbjdpahhgokkaaW.PrintLast Go.Proofs.Ytlbjdpahhgokkaa.P Go.Proofs.YtlbjdpahhgokkaaEv
set_option linter.unusedVariables false
set_option linter.unusedSimpArgs false
def g54 (x : S54) : Prop := (Lit.int .i64 x.f0).wf = true ∧ (Lit.int .i64 x.f1).wf = true ∧ (Lit.int .i64 x.f2).wf = true
theorem toBr (op cl : List Int) (h1 : op.length ≤ 1048576) (h2 : cl.length ≤ 1048576) : Ev (fun k => laws_toBrackets.f k op cl) (op, cl) := by
  unfold laws_toBrackets.f
  rw [ev_bind (laws_toInt64S_ev op h1), ev_bind (laws_toInt64S_ev cl h2)]
  exact ev_some.2 rfl
theorem eqBr (op cl : List Int) (h1 : op.length ≤ 1048576) (h2 : cl.length ≤ 1048576) : Ev (fun k => laws_eqBrackets.f k op cl op cl) true := by
  unfold laws_eqBrackets.f
  rw [ev_bind (laws_eqInt64S_ev op (by omega))]
  simp only [if_true]
  rw [ev_bind (laws_eqInt64S_ev cl (by omega))]
  exact ev_some.2 rfl
theorem mkBr (op cl : List Int) (a : Int) (h1 : op.length ≤ 1048576) (h2 : cl.length ≤ 1048576) (h0 : 0 ≤ a) (ha : a ≤ 100000000) : ∃ x y, Ev (fun k => laws_markBrackets.f k op cl a) (a + op.length + cl.length, x, y) := by
  refine ⟨(List.range op.length).map (fun j : Nat => a + (j : Int)), (List.range cl.length).map (fun j : Nat => a + op.length + (j : Int)), ?_⟩
  unfold laws_markBrackets.f
  rw [ev_bind (laws_markInt64S_ev op a h0 (by omega))]
  simp only
  rw [ev_bind (laws_markInt64S_ev cl (a + op.length) (by omega) (by omega))]
  exact ev_some.2 rfl
theorem pure_FnExactLayout : ∀ (l0 : List S54) (l1_0 l1_1 : List Int), (l0.length ≤ maxLen ∧ ∀ y ∈ l0, g54 y) → (l1_0.length ≤ maxLen ∧ ∀ y ∈ l1_0, (Lit.int .i64 y).wf = true) → (l1_1.length ≤ maxLen ∧ ∀ y ∈ l1_1, (Lit.int .i64 y).wf = true) → ∃ k, laws_FnExactLayout.f k l0 l1_0 l1_1 = some true := by
  rintro l op cl ⟨hm, _⟩ ⟨hm1, _⟩ ⟨hm2, _⟩
  have hm' := Nat.le_trans hm maxLen_le
  have hm1' := Nat.le_trans hm1 maxLen_le
  have hm2' := Nat.le_trans hm2 maxLen_le
  refine ev_get (g := fun k => laws_FnExactLayout.f k l op cl) ?_
  unfold laws_FnExactLayout.f
  rw [laws_szItemS_eq l _ hm' (by omega) (by omega)]
  simp only [Option.bind_some, ev_ite]
  by_cases hl : l.length ≤ 1048576
  · rw [if_neg (show ¬ (1048576 : Int) < l.length by omega), if_neg (show ¬ (1048576 : Int) - l.length < 0 by omega)]
    unfold laws_szBrackets.f
    rw [laws_szInt64S_eq op _ hm1' (by omega) (by omega)]
    simp only [Option.bind_some]
    by_cases h1 : op.length ≤ 1048576 - l.length
    · rw [if_neg (show ¬ (1048576 : Int) - l.length < op.length by omega), if_neg (show ¬ (1048576 : Int) - l.length - op.length < 0 by omega), laws_szInt64S_eq cl _ hm2' (by omega) (by omega)]
      simp only [Option.bind_some]
      by_cases h2 : cl.length ≤ 1048576 - l.length - op.length
      · rw [if_neg (show ¬ (1048576 : Int) - l.length - op.length < cl.length by omega), if_neg (show ¬ (1048576 : Int) - l.length - op.length - cl.length < 0 by omega)]
        simp only [Option.bind_some, ev_ite]
        rw [if_neg (show ¬ (1048576 : Int) - l.length - op.length - cl.length < 0 by omega)]
        have hl' : (l.map cItem).length ≤ 1048576 := by simpa using hl
        have ho : op.length ≤ 1048576 := by omega
        have hc : cl.length ≤ 1048576 := by omega
        have hI : impl_Layout.f (l.map cItem) op cl = some (layB (l.map cItem) op cl) := if_pos ⟨hl', ho, hc⟩
        have hf := layB_few (l.map cItem) op cl
        obtain ⟨mx, my, hmk⟩ := mkBr op cl (1 + 3 * ((l.map cItem).length : Int)) ho hc (by omega) (by omega)
        rw [ev_bind (laws_toItemS_ev l hl), ev_bind (toBr op cl ho hc), ev_bind (spec_Layout_ev _ op cl ho hc), ev_bind (laws_toItemS_ev l hl), ev_bind (toBr op cl ho hc)]
        simp only [hI, Option.bind_some]
        rw [ev_bind (laws_eqItemS_ev _ (by omega))]
        simp only [if_true, bne_self_eq_false]
        rw [ev_succ]
        simp only [laws_FnExactLayout.j0, Bool.false_eq_true, if_false]
        rw [ev_bind (laws_toItemS_ev l hl), ev_bind (laws_eqItemS_ev _ (by omega))]
        simp only [if_true]
        rw [ev_bind (toBr op cl ho hc), ev_bind (eqBr op cl ho hc)]
        simp only [if_true]
        rw [ev_bind (laws_markItemS_ev _ 1 (by omega) (by omega)), ev_bind hmk, ev_ite, if_neg (by simp only; omega), ev_bind (laws_eqItemS_ev _ (by omega))]
        simp only [if_true, bne_self_eq_false]
        rw [ev_succ]
        simp only [laws_FnExactLayout.j1, Bool.false_eq_true, if_false]
        rw [ev_bind (laws_markItemS_ev _ 1 (by omega) (by omega))]
        simp only
        rw [ev_bind (laws_heldItemS_ev _ 1 (by omega) (by omega)), ev_ite, if_neg (by omega), ev_ite, if_pos rfl, ev_bind (laws_toItemS_ev l hl), ev_bind (toBr op cl ho hc)]
        simp only [hI, Option.bind_some]
        rw [ev_bind (laws_eqItemS_ev _ (by omega))]
        simp only [if_true, bne_self_eq_false]
        rw [ev_succ]
        simp only [laws_FnExactLayout.j2, Bool.false_eq_true, if_false]
        rw [ev_bind (laws_heldItemS_ev _ 1 (by omega) (by omega)), ev_ite, if_neg (by omega), ev_ite, if_pos rfl]
        exact ev_some.2 rfl
      · rw [if_pos (show (1048576 : Int) - l.length - op.length < cl.length by omega)]
        simp only [Option.bind_some, ev_ite, show ((-1 : Int) < 0) from by omega, if_true]
        exact ev_some.2 rfl
    · rw [if_pos (show (1048576 : Int) - l.length < op.length by omega)]
      simp only [Option.bind_some, ev_ite, show ((-1 : Int) < 0) from by omega, if_true]
      exact ev_some.2 rfl
  · rw [if_pos (show (1048576 : Int) < l.length by omega)]
    simp only [show ((-1 : Int) < 0) from by omega, if_true]
    exact ev_some.2 rfl
end Go.Proofs.Ytlbjdpahhgokkaa.fnExactLayout.Pure
-- The kit's printed words WSized, cut down by wip/gen/pack.py to what this proof reaches.
/- The law FnExactLayout holds: every call returns true and leaves its arguments as they were. Conditions: none beyond what the given row says. This text: the row, out of the walk's contract and the pure statement. -/
namespace Go.Proofs.Ytlbjdpahhgokkaa.fnExactLayout
open Go.ChangeShapes Go.WideShapes Go.ChangeAt Go.RowKit Go.Proofs.YtlbjdpahhgokkaaW.PrintWords Go.Proofs.YtlbjdpahhgokkaaOpen Go.Proofs.Ytlbjdpahhgokkaa.P
open Go.ChangeMaps (open_string shut_string)
set_option linter.unusedVariables false
set_option linter.unusedSimpArgs false
theorem own : ownKnob Try.prog.godebug = none := by kernel_rfl
theorem laidOut : laidOutB Try.prog = true := by kernel_rfl
theorem o54 : Opens Try.prog 54 k54 g54 := opens_imp (opens_iso (fun x : S54 => (x.f0, x.f1, x.f2)) (fun p => ⟨p.1, p.2.1, p.2.2⟩) (fun _ => rfl) (opens_struct Try.underlying54 (by kernel_rfl) (fields_cons (opens_int Try.underlying2 (by kernel_rfl)) (fields_cons (opens_int Try.underlying2 (by kernel_rfl)) (fields_one (opens_int Try.underlying2 (by kernel_rfl))))))) (fun _ h => h)
set_option maxRecDepth 100000 in
theorem lifted (os : Os) (started : os.Started) (H : Type) (enc : TypeId × Value → H) :
    ReturnsInHanded {} Try.checked os 3 .any (Rows.fnExactLayoutSpec.pre6 enc Try.prog Try.f3 Rows.fnExactLayoutRow.domain false) (Rows.fnExactLayoutSpec.post enc Try.prog Try.f3 false true false false) := by
  refine returnsInHanded_of_change_sized (C := Try.checked) own started (by kernel_rfl) Try.func3
    (ChangeSpec.witness6 (enc := enc) (C := Try.checked) false ⟨#[], #[.slice none 0 0, .agg #[.slice none 0 0, .slice none 0 0]], []⟩ 8 (by kernel_rfl) (by kernel_rfl) (by kernel_rfl) (by kernel_rfl)) ?_
  intro W base args ds gs before hval0 hW hcnd hsz0 _
  have hsz : (DataW.weightsEach Try.prog (Try.f3.params.toList ++ Rows.fnExactLayoutSpec.plain.varTypes Try.prog) (ds ++ gs)).all (· ≤ reachBytes) = true := hsz0
  have hval : ∀ (j : Nat) t v, Try.f3.params[j]? = some t → args[j]? = some v → Value.okWide Try.prog W .any base t v := hval0
  have hW' := hW
  obtain ⟨p, q, hA0, hV, rfl, hfz, hnd⟩ := hW
  have hA : DataW.TrodAll enc Try.prog W 0 (fun _ => true) true Try.f3.params.toList args.toList ds p := hA0
  rw [Try.params3] at hA hval hsz
  obtain ⟨v0, vs0, d0, ds0, p0, q0, hargs, rfl, rfl, h0, r0⟩ := trodAll_cons hA
  obtain ⟨v1, vs1, d1, ds1, p1, q1, rfl, rfl, rfl, h1, r1⟩ := trodAll_cons r0
  obtain ⟨rfl, rfl, rfl⟩ := trodAll_nil r1
  obtain rfl : args = #[v0, v1] := by cases args; simp_all
  obtain ⟨rfl, rfl⟩ := trodVars_none hV
  have k0' := h0
  have lt0 : ∀ x ∈ p0, x.block < W.heap.size := by obtain ⟨m, hm⟩ := k0'; exact DataW.trod_lt m _ _ _ hm
  obtain ⟨a0, len0, cap0, rfl⟩ := okWide_slice Try.underlying22 (hval 0 22 v0 rfl rfl)
  obtain ⟨fuel0, hf0⟩ := h0
  have hf0' : DataW.trod enc Try.prog W 0 (fun _ => true) true fuel0 22 [.slice a0 len0 cap0] = some (d0, p0) := hf0
  obtain ⟨x0, ⟨A0, c0, he0, hl0, hC0⟩, hG0⟩ := (opens_slice Try.underlying22 (by kernel_rfl) o54).op enc W 0 (fun _ => true) true fuel0 _ _ hf0'
  obtain ⟨rfl, rfl, rfl⟩ : a0 = A0 ∧ len0 = x0.length ∧ cap0 = c0 := by simpa using he0
  have k1' := h1
  have lt1 : ∀ x ∈ p1, x.block < W.heap.size := by obtain ⟨m, hm⟩ := k1'; exact DataW.trod_lt m _ _ _ hm
  obtain ⟨cs1, rfl, hn1⟩ := okWide_struct Try.underlying25 (hval 1 25 v1 rfl rfl)
  obtain ⟨fuel1, hf1⟩ := h1
  have hf1' : DataW.trod enc Try.prog W 0 (fun _ => true) true fuel1 25 cs1.toList = some (d1, p1) := hf1
  obtain ⟨x1, hK1, hG1⟩ := (opens_struct Try.underlying25 (by kernel_rfl) (fields_cons (opens_slice Try.underlying23 (by kernel_rfl) (opens_int Try.underlying2 (by kernel_rfl))) (fields_one (opens_slice Try.underlying23 (by kernel_rfl) (opens_int Try.underlying2 (by kernel_rfl)))))).op enc W 0 (fun _ => true) true fuel1 _ _ hf1'
  have hG1' := hG1
  obtain ⟨ca1_0, cb1_0, he1_0, hx1_0, hy1_0⟩ := hK1
  obtain ⟨ga1_0, gb1_0⟩ := hG1'
  obtain ⟨A1_0, c1_0, hs1_0, hl1_0, hC1_0⟩ := hx1_0
  obtain ⟨A1_1, c1_1, hs1_1, hl1_1, hC1_1⟩ := hy1_0
  obtain rfl : cs1 = #[.slice A1_0 (x1).1.length c1_0, .slice A1_1 (x1).2.length c1_1] := by
    apply Array.ext'
    simp only [he1_0, hs1_0, hs1_1, List.cons_append, List.nil_append]
  clear hA0 hval0 hsz0 hsz
  obtain ⟨k, hk⟩ := Pure.pure_FnExactLayout x0 _ _ hG0 ga1_0 gb1_0
  refine (laws_FnExactLayout.calls k _ _ x0 A1_0 c1_0 _ A1_1 c1_1 _ true W hC0 hl0 hC1_0 hl1_0 hC1_1 hl1_1 hk).mono fun e W' ⟨he, bel0⟩ => ?_
  have bel : Below W.heap.size W W' := bel0
  subst he
  exact ⟨_, rfl, _, _, _, [], _, [], hW', trodAll_mk1 (shut_bool Try.underlying4 _), (trodAll_cons_mk (Below.trod laidOut (by kernel_rfl) (of_decide_eq_true (by kernel_rfl)) k0' bel lt0) (trodAll_cons_mk (Below.trod laidOut (by kernel_rfl) (of_decide_eq_true (by kernel_rfl)) k1' bel lt1) trodAll_mk0)), rfl, bel.frame _, fun h => by cases h⟩
theorem over : Rows.fnExactLayoutRow.holds Try.pinned (OpenSpec.ofChange Rows.fnExactLayoutSpec) :=
  OpenClaim.holds_of_wide 3 Try.f3 rfl rfl rfl rfl rfl rfl rfl ⟨rfl, rfl, rfl, rfl, rfl⟩ rfl rfl rfl rfl rfl (by kernel_rfl) Try.func3 (by kernel_rfl)
    (of_decide_eq_true (by kernel_rfl)) (by unfold Func.isWrapper; first | (rw [if_pos (by decide +kernel)]; kernel_rfl) | (rw [if_neg (by decide +kernel)]; exact ⟨rfl, rfl⟩))
    (fun os started H enc _ => lifted os started H enc)
theorem proved : Rows.FnExactLayoutSaid := over
#print axioms proved
end Go.Proofs.Ytlbjdpahhgokkaa.fnExactLayout
namespace Go.Proofs.Ytlbjdpahhgokkaa
/-- The row, under a short name, for the claim. -/
theorem fnExactLayout_holds : Rows.FnExactLayoutSaid := fnExactLayout.proved
end Go.Proofs.Ytlbjdpahhgokkaa
