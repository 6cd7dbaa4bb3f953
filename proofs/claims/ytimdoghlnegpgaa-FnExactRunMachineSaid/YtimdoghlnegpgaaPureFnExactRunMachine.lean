/- The pure statement of the law FnExactRunMachine: over numbers, texts and lists alone, the law's printed function answers true. -/
import Derived.Test.YtimdoghlnegpgaaLRunMachine
import Derived.Test.YtimdoghlnegpgaaCMOp
import Derived.Test.YtimdoghlnegpgaaFlawsFnExactRunMachine
namespace Go.Proofs.Ytimdoghlnegpgaa.fnExactRunMachine.Pure
open Go.RowKit Go.Proofs.YtimdoghlnegpgaaW.PrintWords Go.Proofs.YtimdoghlnegpgaaW.PrintLast Go.Proofs.Ytimdoghlnegpgaa.P Go.Proofs.YtimdoghlnegpgaaEv
set_option linter.unusedVariables false
set_option linter.unusedSimpArgs false
def g84 (x : S84) : Prop := (Lit.int .i64 x.f0).wf = true ∧ (Lit.int .i64 x.f1).wf = true ∧ (Lit.int .i64 x.f2).wf = true
theorem pure_FnExactRunMachine : ∀ (l0 : List S84) (a1 : ByteArray) (a2 a3 : Int), (l0.length ≤ maxLen ∧ ∀ x ∈ l0, g84 x) → a1.size ≤ 140737488351232 → (Lit.int .i64 a2).wf = true → (Lit.int .i64 a3).wf = true → ∃ k, laws_FnExactRunMachine.f k l0 a1 a2 a3 = some true := by
  rintro l text at_ most ⟨hm, _⟩ ht _ _
  have hm' := Nat.le_trans hm maxLen_le
  refine ev_get (g := fun k => laws_FnExactRunMachine.f k l text at_ most) ?_
  unfold laws_FnExactRunMachine.f
  rw [laws_szMOpS_eq l _ hm' (by omega) (by omega)]
  simp only [Option.bind_some, ev_ite, ev_some]
  by_cases hs : (text.size : Int) > 1048576
  · rw [if_pos hs]
    trivial
  rw [if_neg hs]
  by_cases hl : l.length ≤ 1048576
  · rw [if_neg (by rw [if_neg (by omega)]; omega)]
    have hl' : (l.map cMOp).length ≤ 1048576 := by simpa using hl
    rw [ev_bind (laws_toMOpS_ev l hl), ev_bind (spec_RunMachine_ev _ hl' _ (by omega) _ _), ev_bind (laws_toMOpS_ev l hl), ev_bind (impl_RunMachine_ev _ hl' _ (by omega) _ _)]
    simp only [if_true, bne_self_eq_false]
    rw [ev_succ]
    simp only [laws_FnExactRunMachine.j0, Bool.false_eq_true, if_false]
    rw [ev_bind (laws_toMOpS_ev l hl), ev_bind (laws_eqMOpS_ev _ (by omega))]
    exact ev_some.2 rfl
  · rw [if_pos (by rw [if_pos (by omega)]; omega)]
    trivial
end Go.Proofs.Ytimdoghlnegpgaa.fnExactRunMachine.Pure
