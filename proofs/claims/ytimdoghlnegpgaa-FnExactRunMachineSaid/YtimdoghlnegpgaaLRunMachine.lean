/- What the printed RunMachine of program and reference answer. -/
import Derived.Test.YtimdoghlnegpgaaLMachine
import Derived.Test.YtimdoghlnegpgaaFspecRunMachine
import Derived.Test.YtimdoghlnegpgaaFimplRunMachine
namespace Go.Proofs.Ytimdoghlnegpgaa.P
open Go.RowKit Go.Proofs.YtimdoghlnegpgaaW.PrintWords Go.Proofs.YtimdoghlnegpgaaW.PrintLast Go.Proofs.YtimdoghlnegpgaaEv
set_option linter.unusedVariables false
set_option linter.unusedSimpArgs false

/-- The machine with d steps left. -/
def runR (l : List S81) (text : ByteArray) (at_ : Int) : Nat → Int → Int → Int → Int → Int → Int × Int × Int
  | 0, e, r, _, _, _ => (e, r, 2)
  | d + 1, e, r, hand, place, next =>
    let s := rd_T81 l next
    if s.f0 = 1 then (if place = at_ then runR l text at_ d e r hand place (next + 1) else runR l text at_ d place s.f1 hand place (next + 1))
    else if s.f0 = 2 then (if place = text.size then (e, r, 0) else runR l text at_ d e r (bt text place) (place + 1) (next + 1))
    else if s.f0 = 3 then (if hand < s.f1 then runR l text at_ d e r hand place s.f2 else runR l text at_ d e r hand place (next + 1))
    else if s.f0 = 4 then (if hand > s.f1 then runR l text at_ d e r hand place s.f2 else runR l text at_ d e r hand place (next + 1))
    else runR l text at_ d e r hand place s.f1
def runB (l : List S81) (text : ByteArray) (at_ most : Int) : Int × Int × Int :=
  if machineB l = true ∧ (text.size : Int) ≤ 20000 ∧ 0 ≤ at_ ∧ at_ ≤ text.size ∧ 0 ≤ most ∧ most ≤ 1000000 then runR l text at_ most.toNat (-1) (-1) 0 at_ 0 else (-1, -1, 1)

theorem machine_steps {l : List S81} (h : machineB l = true) : 1 ≤ l.length ∧ l.length ≤ 60000 ∧ (rd_T81 l (l.length - 1)).f0 = 5 ∧ ∀ n : Int, 0 ≤ n → n < l.length → stepB l.length (rd_T81 l n) = true := by
  simp only [machineB, Bool.and_eq_true, decide_eq_true_eq, List.all_eq_true] at h
  obtain ⟨⟨⟨h1, h2⟩, h3⟩, h4⟩ := h
  refine ⟨h1, h2, h3, fun n h0 hn => h4 _ ?_⟩
  unfold rd_T81
  rw [List.getD_eq_getElem?_getD, List.getElem?_eq_getElem (by omega)]
  exact List.getElem_mem _
/-- Where a right machine goes on. -/
theorem machine_next {l : List S81} (h : machineB l = true) {n : Int} (h0 : 0 ≤ n) (hn : n < l.length) :
    ((rd_T81 l n).f0 = 1 ∧ n + 1 < l.length) ∨ ((rd_T81 l n).f0 = 2 ∧ n + 1 < l.length) ∨
    (((rd_T81 l n).f0 = 3 ∨ (rd_T81 l n).f0 = 4) ∧ n + 1 < l.length ∧ 0 ≤ (rd_T81 l n).f2 ∧ (rd_T81 l n).f2 < l.length) ∨
    ((rd_T81 l n).f0 = 5 ∧ 0 ≤ (rd_T81 l n).f1 ∧ (rd_T81 l n).f1 < l.length) := by
  obtain ⟨h1, h2, h3, h4⟩ := machine_steps h
  have h5 := h4 n h0 hn
  have h6 : (rd_T81 l n).f0 ≠ 5 → n + 1 < l.length := by
    intro hne
    rcases Int.lt_or_eq_of_le (show n + 1 ≤ l.length by omega) with h | h
    · exact h
    · exact absurd (by rw [show n = (l.length : Int) - 1 by omega]; exact h3) hne
  unfold stepB at h5
  generalize rd_T81 l n = s at *
  grind

theorem impl_RunMachine_ev (l : List S81) (hl : l.length ≤ 1048576) (text : ByteArray) (ht : text.size ≤ 1048576) (at_ most : Int) : Ev (fun k => impl_RunMachine.f k l text at_ most) (runB l text at_ most) := by
  have hbad : Ev (fun k => impl_RunMachine.j0 k l text at_ most true) (-1, -1, 1) := by
    rw [ev_succ]
    simp [impl_RunMachine.j0, ev_some]
  unfold impl_RunMachine.f runB
  simp only [impl_length.f, impl_within_eq, Option.bind_some, ev_ite]
  by_cases c1 : (text.size : Int) > 20000
  · rw [if_pos c1, if_neg (by omega)]
    exact hbad
  · rw [if_neg c1]
    by_cases c2 : 0 ≤ at_ ∧ at_ ≤ text.size
    · rw [if_pos (by simpa using c2)]
      by_cases c3 : 0 ≤ most ∧ most ≤ 1000000
      · rw [if_pos (by simpa using c3), ev_bind (impl_MachineOk_ev l hl)]
        cases c4 : machineB l
        · simpa using hbad
        · rw [if_pos ⟨rfl, by omega, c2.1, c2.2, c3.1, c3.2⟩]
          obtain ⟨h1, h2, _, _⟩ := machine_steps c4
          rw [ev_succ]
          simp only [impl_RunMachine.j0, Bool.not_true, Bool.false_eq_true, if_false]
          have key := down most.toNat (fun i => ∀ e r hand place next : Int, at_ ≤ place → place ≤ text.size → 0 ≤ next → next < l.length → Ev (fun k => impl_RunMachine.l0 k l text at_ e r hand place next most (i : Nat)) (runR l text at_ (most.toNat - i) e r hand place next)) ?_ ?_ 0 (by omega) (-1) (-1) 0 at_ 0 (by omega) c2.2 (by omega) (by omega)
          · exact key
          · intro e r hand place next _ _ _ _
            rw [ev_succ, Nat.sub_self]
            simp only [impl_RunMachine.l0, ev_ite, runR]
            rw [if_neg (by omega)]
            exact ev_some.2 rfl
          · intro i hi ih e r hand place next hp0 hp1 hn0 hn1
            rw [ev_succ, show most.toNat - i = (most.toNat - (i + 1)) + 1 by omega]
            simp only [impl_RunMachine.l0, impl_length.f, Option.bind_some, ev_ite, runR, ev_some]
            rw [if_pos (by omega), if_pos hn0, if_pos hn1, wrap_succ hi (by omega), wrap_id (x := next + 1) (by omega) (by omega)]
            have hb := bt_range text place
            rw [wrap_id (x := bt text place) (by omega) (by omega)]
            have hx := machine_next c4 hn0 hn1
            generalize rd_T81 l next = s at *
            rcases hx with ⟨h, hx⟩ | ⟨h, hx⟩ | ⟨h, hx, hx1, hx2⟩ | ⟨h, hx1, hx2⟩
            · simp only [h, Int.reduceEq, if_true, if_false]
              split
              · exact ih _ _ _ _ _ hp0 hp1 (by omega) hx
              · exact ih _ _ _ _ _ hp0 hp1 (by omega) hx
            · simp only [h, Int.reduceEq, if_true, if_false]
              split
              · rfl
              · rw [if_pos (by omega), if_pos (by omega), wrap_id (x := place + 1) (by omega) (by omega)]
                exact ih _ _ _ _ _ (by omega) (by omega) (by omega) hx
            · rcases h with h | h
              · simp only [h, Int.reduceEq, if_true, if_false]
                split
                · exact ih _ _ _ _ _ hp0 hp1 hx1 hx2
                · exact ih _ _ _ _ _ hp0 hp1 (by omega) hx
              · simp only [h, Int.reduceEq, if_true, if_false]
                split
                · exact ih _ _ _ _ _ hp0 hp1 hx1 hx2
                · exact ih _ _ _ _ _ hp0 hp1 (by omega) hx
            · simp only [h, Int.reduceEq, if_true, if_false]
              exact ih _ _ _ _ _ hp0 hp1 hx1 hx2
      · rw [if_neg (by simpa using c3), if_neg (fun h => c3 ⟨h.2.2.2.2.1, h.2.2.2.2.2⟩)]
        exact hbad
    · rw [if_neg (by simpa using c2), if_neg (fun h => c2 ⟨h.2.2.1, h.2.2.2.1⟩)]
      exact hbad

theorem spec_RunMachine_ev (l : List S81) (hl : l.length ≤ 1048576) (text : ByteArray) (ht : text.size ≤ 1048576) (at_ most : Int) : Ev (fun k => spec_RunMachine.f k l text at_ most) (runB l text at_ most) := by
  have hbad : Ev (fun k => spec_RunMachine.j0 k l text at_ most true) (-1, -1, 1) := by
    rw [ev_succ]
    simp [spec_RunMachine.j0, ev_some]
  unfold spec_RunMachine.f runB
  rw [ev_bind (spec_MachineOk_ev l hl)]
  simp only [spec_l1In_eq, Option.bind_some, ev_ite]
  cases c4 : machineB l
  · simpa using hbad
  rw [if_pos rfl]
  by_cases c1 : (text.size : Int) > 20000
  · rw [if_pos c1, if_neg (by omega)]
    exact hbad
  · rw [if_neg c1]
    by_cases c2 : 0 ≤ at_ ∧ at_ ≤ text.size
    · rw [if_pos (by simpa using c2)]
      by_cases c3 : 0 ≤ most ∧ most ≤ 1000000
      · rw [if_pos ⟨rfl, by omega, c2.1, c2.2, c3.1, c3.2⟩]
        obtain ⟨h1, h2, _, _⟩ := machine_steps c4
        rw [decide_eq_true c3, ev_succ]
        simp only [spec_RunMachine.j0, Bool.not_true, Bool.false_eq_true, if_false]
        have key := down most.toNat (fun i => ∀ e r hand place next : Int, at_ ≤ place → place ≤ text.size → 0 ≤ next → next < l.length → Ev (fun k => spec_RunMachine.l0 k l text at_ most e r hand place next (i : Nat)) (runR l text at_ (most.toNat - i) e r hand place next)) ?_ ?_ 0 (by omega) (-1) (-1) 0 at_ 0 (by omega) c2.2 (by omega) (by omega)
        · exact key
        · intro e r hand place next _ _ _ _
          rw [ev_succ, Nat.sub_self]
          simp only [spec_RunMachine.l0, ev_ite, runR]
          rw [if_neg (by omega)]
          exact ev_some.2 rfl
        · intro i hi ih e r hand place next hp0 hp1 hn0 hn1
          rw [ev_succ, show most.toNat - i = (most.toNat - (i + 1)) + 1 by omega]
          simp only [spec_RunMachine.l0, Option.bind_some, ev_ite, runR, ev_some]
          rw [if_pos (by omega), if_pos hn0, if_pos hn1, wrap_succ hi (by omega), wrap_id (x := next + 1) (by omega) (by omega)]
          have hb := bt_range text place
          rw [wrap_id (x := bt text place) (by omega) (by omega)]
          have hx := machine_next c4 hn0 hn1
          generalize rd_T81 l next = s at *
          rcases hx with ⟨h, hx⟩ | ⟨h, hx⟩ | ⟨h, hx, hx1, hx2⟩ | ⟨h, hx1, hx2⟩
          · simp only [h, Int.reduceEq, if_true, if_false]
            by_cases hp : place = at_
            · rw [if_neg (by omega), if_pos hp]
              exact ih _ _ _ _ _ hp0 hp1 (by omega) hx
            · rw [if_pos (by omega), if_neg hp]
              exact ih _ _ _ _ _ hp0 hp1 (by omega) hx
          · simp only [h, Int.reduceEq, if_true, if_false]
            split
            · rfl
            · rw [if_pos (by omega), if_pos (by omega), wrap_id (x := place + 1) (by omega) (by omega)]
              exact ih _ _ _ _ _ (by omega) (by omega) (by omega) hx
          · rcases h with h | h
            · simp only [h, Int.reduceEq, if_true, if_false]
              split
              · exact ih _ _ _ _ _ hp0 hp1 hx1 hx2
              · exact ih _ _ _ _ _ hp0 hp1 (by omega) hx
            · simp only [h, Int.reduceEq, if_true, if_false]
              split
              · exact ih _ _ _ _ _ hp0 hp1 hx1 hx2
              · exact ih _ _ _ _ _ hp0 hp1 (by omega) hx
          · simp only [h, Int.reduceEq, if_true, if_false]
            exact ih _ _ _ _ _ hp0 hp1 hx1 hx2
      · rw [if_neg (fun h => c3 ⟨h.2.2.2.2.1, h.2.2.2.2.2⟩), decide_eq_false c3]
        exact hbad
    · rw [if_neg (by simpa using c2), if_neg (fun h => c2 ⟨h.2.2.1, h.2.2.2.1⟩)]
      exact hbad
end Go.Proofs.Ytimdoghlnegpgaa.P
