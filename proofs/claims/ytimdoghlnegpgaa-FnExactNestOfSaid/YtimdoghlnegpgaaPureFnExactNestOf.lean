/- The pure statement of the law FnExactNestOf: over numbers and lists alone, the law's printed function answers true for every list of items. -/
import Derived.Test.YtimdoghlnegpgaaLNest
import Derived.Test.YtimdoghlnegpgaaCItem
import Derived.Test.YtimdoghlnegpgaaCInt64S
import Derived.Test.YtimdoghlnegpgaaFlawsFnExactNestOf
namespace Go.Proofs.Ytimdoghlnegpgaa.fnExactNestOf.Pure
open Go.RowKit Go.Proofs.YtimdoghlnegpgaaW.PrintWords Go.Proofs.YtimdoghlnegpgaaW.PrintLast Go.Proofs.Ytimdoghlnegpgaa.P Go.Proofs.YtimdoghlnegpgaaEv
set_option linter.unusedVariables false
set_option linter.unusedSimpArgs false
def g89 (x : S89) : Prop := (Lit.int .i64 x.f0).wf = true ∧ (Lit.int .i64 x.f1).wf = true ∧ (Lit.int .i64 x.f2).wf = true
theorem pure_FnExactNestOf : ∀ (l0 : List S89), (l0.length ≤ maxLen ∧ ∀ x ∈ l0, g89 x) → ∃ k, laws_FnExactNestOf.f k l0 = some true := by
  rintro l ⟨hm, _⟩
  have hm' := Nat.le_trans hm maxLen_le
  refine ev_get (g := fun k => laws_FnExactNestOf.f k l) ?_
  unfold laws_FnExactNestOf.f
  rw [laws_szItemS_eq l _ hm' (by omega) (by omega)]
  simp only [Option.bind_some, ev_ite]
  by_cases hl : l.length ≤ 1048576
  · rw [if_neg (by rw [if_neg (by omega)]; omega)]
    have hl' : (l.map cItem).length ≤ 1048576 := by simpa using hl
    have hw := nestB_length (l.map cItem)
    rw [ev_bind (laws_toItemS_ev l hl), ev_bind (spec_NestOf_ev _), ev_bind (laws_toItemS_ev l hl), ev_bind (impl_NestOf_ev _), ev_bind (laws_eqInt64S_ev _ (by omega))]
    simp only [if_true, bne_self_eq_false]
    rw [ev_succ]
    simp only [laws_FnExactNestOf.j0, Bool.false_eq_true, if_false]
    rw [ev_bind (laws_toItemS_ev l hl), ev_bind (laws_eqItemS_ev _ (by omega))]
    simp only [if_true]
    rw [ev_bind (laws_markItemS_ev _ 1 (by omega) (by omega)), ev_ite, if_neg (by simp only; omega), ev_bind (laws_eqInt64S_ev _ (by omega))]
    simp only [if_true, bne_self_eq_false]
    rw [ev_succ]
    simp only [laws_FnExactNestOf.j1, Bool.false_eq_true, if_false]
    rw [ev_bind (laws_markInt64S_ev _ 1 (by omega) (by omega))]
    simp only
    rw [ev_bind (laws_heldInt64S_ev _ 1 (by omega) (by omega)), ev_ite, if_neg (by omega)]
    simp only [if_true]
    rw [ev_bind (laws_toItemS_ev l hl), ev_bind (impl_NestOf_ev _), ev_bind (laws_eqInt64S_ev _ (by omega))]
    simp only [if_true, bne_self_eq_false]
    rw [ev_succ]
    simp only [laws_FnExactNestOf.j2, Bool.false_eq_true, if_false]
    rw [ev_bind (laws_heldInt64S_ev _ 1 (by omega) (by omega)), ev_ite, if_neg (by omega)]
    simp only [if_true]
    exact ev_some.2 rfl
  · rw [if_pos (by rw [if_pos (by omega)]; omega)]
    exact ev_some.2 rfl
end Go.Proofs.Ytimdoghlnegpgaa.fnExactNestOf.Pure
