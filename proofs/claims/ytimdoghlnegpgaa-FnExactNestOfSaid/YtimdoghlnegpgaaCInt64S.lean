/- What the laws' helpers on []int64 answer: the copy is the list, a list equals itself, marks are held. -/
import Derived.Test.YtimdoghlnegpgaaEv
import Derived.Test.YtimdoghlnegpgaaFlawseqInt64S
import Derived.Test.YtimdoghlnegpgaaFlawsmarkInt64S
import Derived.Test.YtimdoghlnegpgaaFlawsheldInt64S
namespace Go.Proofs.Ytimdoghlnegpgaa.P
open Go.RowKit Go.Proofs.YtimdoghlnegpgaaW.PrintWords Go.Proofs.YtimdoghlnegpgaaW.PrintLast Go.Proofs.YtimdoghlnegpgaaEv
set_option linter.unusedVariables false
set_option linter.unusedSimpArgs false

theorem laws_eqInt64S_ev (l : List Int) (hl : l.length ≤ 9223372036854775807) : Ev (fun k => laws_eqInt64S.f k l l) true := by
  unfold laws_eqInt64S.f
  simp only [ev_ite]
  rw [if_pos trivial]
  refine ev_loop l.length (fun k i => laws_eqInt64S.l0 k l l (i : Nat)) (fun _ => true) ?_ ?_ 0 (by omega)
  · rw [ev_succ]
    simp [laws_eqInt64S.l0, ev_some]
  · intro i hi ih
    rw [ev_succ]
    simp only [laws_eqInt64S.l0, if_true, ev_ite]
    rw [if_pos (by omega), if_pos (by omega), wrap_succ hi (by omega), if_pos (by omega)]
    exact ih
theorem laws_markInt64S_ev (l : List Int) (a : Int) (h0 : 0 ≤ a) (h1 : a + l.length ≤ 9000000000000000000) : Ev (fun k => laws_markInt64S.f k l a) (a + l.length, (List.range l.length).map (fun j : Nat => a + (j : Int))) := by
  unfold laws_markInt64S.f
  have h := ev_loop l.length (fun k i => laws_markInt64S.l0 k (marked (fun j : Nat => a + (j : Int)) l i) (a + (i : Int)) (i : Nat)) (fun _ => (a + l.length, (List.range l.length).map (fun j : Nat => a + (j : Int)))) ?_ ?_ 0 (by omega)
  · simpa [marked] using h
  · rw [ev_succ]
    simp [laws_markInt64S.l0, ev_some, marked]
  · intro i hi ih
    rw [ev_succ]
    have hl : (marked (fun j : Nat => a + (j : Int)) l i).length = l.length := marked_length _ _ _ (by omega)
    simp only [laws_markInt64S.l0, ev_ite, hl, Int.toNat_natCast]
    rw [if_pos (by omega), if_pos (by omega), wrap_succ hi (by omega), wrap_id (by omega) (by omega)]
    have hm := marked_set (fun j : Nat => a + (j : Int)) l i hi
    have ih' : Ev (fun k => laws_markInt64S.l0 k (marked (fun j : Nat => a + (j : Int)) l (i + 1)) (a + ((i + 1 : Nat) : Int)) ((i + 1 : Nat) : Int)) _ := ih
    rw [← hm, show a + ((i + 1 : Nat) : Int) = a + (i : Int) + 1 by omega] at ih'
    exact ih'
theorem laws_heldInt64S_ev (n : Nat) (a : Int) (h0 : 0 ≤ a) (h1 : a + n ≤ 9000000000000000000) : Ev (fun k => laws_heldInt64S.f k ((List.range n).map (fun j : Nat => a + (j : Int))) a) (a + n) := by
  unfold laws_heldInt64S.f
  have h := ev_loop n (fun k i => laws_heldInt64S.l0 k ((List.range n).map (fun j : Nat => a + (j : Int))) (a + (i : Int)) (i : Nat)) (fun _ => a + n) ?_ ?_ 0 (by omega)
  · simpa using h
  · rw [ev_succ]
    simp [laws_heldInt64S.l0, ev_some]
  · intro i hi ih
    rw [ev_succ]
    have hr : rd ((List.range n).map (fun j : Nat => a + (j : Int))) (i : Int) = a + i := by simp [rd, hi]
    simp only [laws_heldInt64S.l0, ev_ite, hr, List.length_map, List.length_range]
    rw [if_pos (by omega), if_pos (by omega), wrap_succ hi (by omega), if_pos trivial, wrap_id (by omega) (by omega)]
    have ih' : Ev (fun k => laws_heldInt64S.l0 k ((List.range n).map (fun j : Nat => a + (j : Int))) (a + ((i + 1 : Nat) : Int)) ((i + 1 : Nat) : Int)) _ := ih
    rw [show a + ((i + 1 : Nat) : Int) = a + (i : Int) + 1 by omega] at ih'
    exact ih'
end Go.Proofs.Ytimdoghlnegpgaa.P
