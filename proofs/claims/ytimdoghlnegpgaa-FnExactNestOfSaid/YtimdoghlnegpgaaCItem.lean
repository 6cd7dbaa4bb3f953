/- What the laws' helpers on slices of Item answer: the copy is the list, a list equals itself, marks are held. -/
import Derived.Test.YtimdoghlnegpgaaEv
import Derived.Test.YtimdoghlnegpgaaFlawsszItemS
import Derived.Test.YtimdoghlnegpgaaFlawstoItemS
import Derived.Test.YtimdoghlnegpgaaFlawseqItemS
import Derived.Test.YtimdoghlnegpgaaFlawsmarkItemS
import Derived.Test.YtimdoghlnegpgaaFlawsheldItemS
namespace Go.Proofs.Ytimdoghlnegpgaa.P
open Go.RowKit Go.Proofs.YtimdoghlnegpgaaW.PrintWords Go.Proofs.YtimdoghlnegpgaaW.PrintLast Go.Proofs.YtimdoghlnegpgaaEv
set_option linter.unusedVariables false
set_option linter.unusedSimpArgs false

theorem laws_szItemS_eq (l : List S89) (a : Int) (hl : l.length ≤ 9223372036854775807) (h0 : 0 ≤ a) (h1 : a ≤ 1048576) : laws_szItemS.f l a = some (if a < l.length then -1 else a - l.length) := by
  unfold laws_szItemS.f
  rw [wrap_id (by omega) (by omega)]
  split <;> split <;> first | rfl | omega

def cItem (x : S89) : S73 := ⟨x.f0, x.f1, x.f2⟩
theorem laws_toItemS_ev (l : List S89) (hl : l.length ≤ 1048576) : Ev (fun k => laws_toItemS.f k l) (l.map cItem) := by
  unfold laws_toItemS.f
  simp only [ev_ite]
  rw [if_pos (by omega), if_pos (by omega)]
  have h := ev_loop l.length (fun k i => laws_toItemS.l0 k l (upTo cItem z73 l i) (i : Nat)) (fun _ => l.map cItem) ?_ ?_ 0 (by omega)
  · rw [upTo_zero] at h
    exact h
  · rw [ev_succ, upTo_all]
    simp [laws_toItemS.l0, ev_some]
  · intro i hi ih
    rw [ev_succ]
    simp only [laws_toItemS.l0, laws_toItem.f, Option.bind_some, ev_ite]
    rw [if_pos (by omega), if_pos (by omega), if_pos (by rw [upTo_length _ _ _ _ (by omega)]; omega), wrap_succ hi (by omega)]
    have := upTo_set cItem z73 l z89 i hi
    have e : (cItem (l.getD i z89)) = ⟨(rd_T89 l i).f0, (rd_T89 l i).f1, (rd_T89 l i).f2⟩ := by simp [rd_T89, cItem]
    rw [e] at this
    simp only [Int.toNat_natCast]
    rw [this]
    exact ih

theorem laws_eqItemS_ev (l : List S73) (hl : l.length ≤ 9223372036854775807) : Ev (fun k => laws_eqItemS.f k l l) true := by
  unfold laws_eqItemS.f
  simp only [ev_ite]
  rw [if_pos trivial]
  refine ev_loop l.length (fun k i => laws_eqItemS.l0 k l l (i : Nat)) (fun _ => true) ?_ ?_ 0 (by omega)
  · rw [ev_succ]
    simp [laws_eqItemS.l0, ev_some]
  · intro i hi ih
    rw [ev_succ]
    simp only [laws_eqItemS.l0, laws_eqItem.f, if_true, Option.bind_some, ev_ite]
    rw [if_pos (by omega), if_pos (by omega), wrap_succ hi (by omega), if_pos (by omega)]
    exact ih

/-- The j-th mark from a on. -/
def mkItem (a : Int) (j : Nat) : S73 := ⟨a + 3 * (j : Int), a + 3 * (j : Int) + 1, a + 3 * (j : Int) + 2⟩
theorem rd_T73_set (l : List S73) (i : Nat) (v : S73) (h : i < l.length) : rd_T73 (l.set i v) (i : Int) = v := by
  simp [rd_T73, h]

theorem laws_markItemS_ev (l : List S73) (a : Int) (h0 : 0 ≤ a) (h1 : a + 3 * l.length ≤ 9000000000000000000) : Ev (fun k => laws_markItemS.f k l a) (a + 3 * l.length, (List.range l.length).map (mkItem a)) := by
  unfold laws_markItemS.f
  have h := ev_loop l.length (fun k i => laws_markItemS.l0 k (marked (mkItem a) l i) (a + 3 * (i : Int)) (i : Nat)) (fun _ => (a + 3 * l.length, (List.range l.length).map (mkItem a))) ?_ ?_ 0 (by omega)
  · simpa [marked] using h
  · rw [ev_succ]
    simp [laws_markItemS.l0, ev_some, marked]
  · intro i hi ih
    rw [ev_succ]
    have hl : (marked (mkItem a) l i).length = l.length := marked_length _ _ _ (by omega)
    simp only [laws_markItemS.l0, Option.bind_some, ev_ite, hl, Int.toNat_natCast]
    rw [if_pos (by omega), if_pos (by omega)]
    simp only [rd_T73_set, List.length_set, hl, hi, List.set_set]
    rw [wrap_succ hi (by omega)]
    have e : ∀ x : Int, 0 ≤ x → x ≤ 9000000000000000100 → wrap64 (x + 1) = x + 1 := fun x hx hy => wrap_id (by omega) (by omega)
    rw [e _ (by omega) (by omega)]
    repeat rw [e _ (by omega) (by omega)]
    have hm := marked_set (mkItem a) l i hi
    have ih' : Ev (fun k => laws_markItemS.l0 k (marked (mkItem a) l (i + 1)) (a + 3 * ((i + 1 : Nat) : Int)) ((i + 1 : Nat) : Int)) _ := ih
    rw [← hm, show a + 3 * ((i + 1 : Nat) : Int) = a + 3 * (i : Int) + 3 by omega] at ih'
    simpa [mkItem, Int.add_assoc] using ih'

theorem laws_heldItemS_ev (n : Nat) (a : Int) (h0 : 0 ≤ a) (h1 : a + 3 * n ≤ 9000000000000000000) : Ev (fun k => laws_heldItemS.f k ((List.range n).map (mkItem a)) a) (a + 3 * n) := by
  unfold laws_heldItemS.f
  have h := ev_loop n (fun k i => laws_heldItemS.l0 k ((List.range n).map (mkItem a)) (a + 3 * (i : Int)) (i : Nat)) (fun _ => a + 3 * n) ?_ ?_ 0 (by omega)
  · simpa using h
  · rw [ev_succ]
    simp [laws_heldItemS.l0, ev_some]
  · intro i hi ih
    rw [ev_succ]
    have hr : rd_T73 ((List.range n).map (mkItem a)) (i : Int) = mkItem a i := by simp [rd_T73, hi]
    have e : ∀ x : Int, 0 ≤ x → x ≤ 9000000000000000100 → wrap64 (x + 1) = x + 1 := fun x hx hy => wrap_id (by omega) (by omega)
    simp only [laws_heldItemS.l0, ev_ite, hr, mkItem, List.length_map, List.length_range]
    rw [if_pos (by omega), if_pos (by omega), wrap_succ hi (by omega)]
    repeat rw [e _ (by omega) (by omega)]
    have ih' : Ev (fun k => laws_heldItemS.l0 k ((List.range n).map (mkItem a)) (a + 3 * ((i + 1 : Nat) : Int)) ((i + 1 : Nat) : Int)) _ := ih
    rw [show a + 3 * ((i + 1 : Nat) : Int) = a + 3 * (i : Int) + 3 by omega] at ih'
    simpa [Int.add_assoc] using ih'

end Go.Proofs.Ytimdoghlnegpgaa.P
