/- What the laws' helpers on slices of MOp answer: the copy is the list, a list equals itself, marks are held. -/
import Derived.Test.YtimdoghlnegpgaaEv
import Derived.Test.YtimdoghlnegpgaaFlawsszMOpS
import Derived.Test.YtimdoghlnegpgaaFlawstoMOpS
import Derived.Test.YtimdoghlnegpgaaFlawseqMOpS
namespace Go.Proofs.Ytimdoghlnegpgaa.P
open Go.RowKit Go.Proofs.YtimdoghlnegpgaaW.PrintWords Go.Proofs.YtimdoghlnegpgaaW.PrintLast Go.Proofs.YtimdoghlnegpgaaEv
set_option linter.unusedVariables false
set_option linter.unusedSimpArgs false

theorem laws_szMOpS_eq (l : List S84) (a : Int) (hl : l.length ≤ 9223372036854775807) (h0 : 0 ≤ a) (h1 : a ≤ 1048576) : laws_szMOpS.f l a = some (if a < l.length then -1 else a - l.length) := by
  unfold laws_szMOpS.f
  rw [wrap_id (by omega) (by omega)]
  split <;> split <;> first | rfl | omega

def cMOp (x : S84) : S81 := ⟨x.f0, x.f1, x.f2⟩
theorem laws_toMOpS_ev (l : List S84) (hl : l.length ≤ 1048576) : Ev (fun k => laws_toMOpS.f k l) (l.map cMOp) := by
  unfold laws_toMOpS.f
  simp only [ev_ite]
  rw [if_pos (by omega), if_pos (by omega)]
  have h := ev_loop l.length (fun k i => laws_toMOpS.l0 k l (upTo cMOp z81 l i) (i : Nat)) (fun _ => l.map cMOp) ?_ ?_ 0 (by omega)
  · rw [upTo_zero] at h
    exact h
  · rw [ev_succ, upTo_all]
    simp [laws_toMOpS.l0, ev_some]
  · intro i hi ih
    rw [ev_succ]
    simp only [laws_toMOpS.l0, laws_toMOp.f, Option.bind_some, ev_ite]
    rw [if_pos (by omega), if_pos (by omega), if_pos (by rw [upTo_length _ _ _ _ (by omega)]; omega), wrap_succ hi (by omega)]
    have := upTo_set cMOp z81 l z84 i hi
    have e : (cMOp (l.getD i z84)) = ⟨(rd_T84 l i).f0, (rd_T84 l i).f1, (rd_T84 l i).f2⟩ := by simp [rd_T84, cMOp]
    rw [e] at this
    simp only [Int.toNat_natCast]
    rw [this]
    exact ih

theorem laws_eqMOpS_ev (l : List S81) (hl : l.length ≤ 9223372036854775807) : Ev (fun k => laws_eqMOpS.f k l l) true := by
  unfold laws_eqMOpS.f
  simp only [ev_ite]
  rw [if_pos trivial]
  refine ev_loop l.length (fun k i => laws_eqMOpS.l0 k l l (i : Nat)) (fun _ => true) ?_ ?_ 0 (by omega)
  · rw [ev_succ]
    simp [laws_eqMOpS.l0, ev_some]
  · intro i hi ih
    rw [ev_succ]
    simp only [laws_eqMOpS.l0, laws_eqMOp.f, if_true, Option.bind_some, ev_ite]
    rw [if_pos (by omega), if_pos (by omega), wrap_succ hi (by omega), if_pos (by omega)]
    exact ih

end Go.Proofs.Ytimdoghlnegpgaa.P
