/- The pure statement of the law FnExactMachineOk: over numbers and lists alone, the law's printed function answers true for every list of steps. -/
import Derived.Test.YtimdoghlnegpgaaLMachine
import Derived.Test.YtimdoghlnegpgaaFlawsFnExactMachineOk
namespace Go.Proofs.Ytimdoghlnegpgaa.fnExactMachineOk.Pure
open Go.RowKit Go.Proofs.YtimdoghlnegpgaaW.PrintWords Go.Proofs.YtimdoghlnegpgaaW.PrintLast Go.Proofs.Ytimdoghlnegpgaa.P Go.Proofs.YtimdoghlnegpgaaEv
def g84 (x : S84) : Prop := (Lit.int .i64 x.f0).wf = true ∧ (Lit.int .i64 x.f1).wf = true ∧ (Lit.int .i64 x.f2).wf = true
theorem pure_FnExactMachineOk : ∀ (l0 : List S84), (l0.length ≤ maxLen ∧ ∀ x ∈ l0, g84 x) → ∃ k, laws_FnExactMachineOk.f k l0 = some true := by
  rintro l ⟨hm, _⟩
  have hm' := Nat.le_trans hm maxLen_le
  refine ev_get (g := fun k => laws_FnExactMachineOk.f k l) ?_
  unfold laws_FnExactMachineOk.f laws_szMOpS.f
  by_cases hl : l.length ≤ 1048576
  · rw [if_neg (by rw [wrap_id (by omega) (by omega)]; omega)]
    have hl' : (l.map cMOp).length ≤ 1048576 := by simpa using hl
    simp only [Option.bind_some, ev_ite]
    rw [if_neg (by rw [wrap_id (by omega) (by omega)]; omega), ev_bind (laws_toMOpS_ev l hl), ev_bind (spec_MachineOk_ev _ hl'), ev_bind (laws_toMOpS_ev l hl), ev_bind (impl_MachineOk_ev _ hl')]
    simp only [bne_self_eq_false, Bool.false_eq_true, if_false]
    rw [ev_bind (laws_toMOpS_ev l hl), ev_bind (laws_eqMOpS_ev _ hl')]
    exact ev_some.2 rfl
  · rw [if_pos (by unfold wrap64; omega)]
    simp [ev_some]
end Go.Proofs.Ytimdoghlnegpgaa.fnExactMachineOk.Pure
