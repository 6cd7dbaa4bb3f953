/- What the printed functions on machines' steps (MachineOk, its copies and comparisons) answer, in plain Lean. -/
import Derived.Test.YtimdoghlnegpgaaEv
import Derived.Test.YtimdoghlnegpgaaFspecMachineOk
import Derived.Test.YtimdoghlnegpgaaFimplMachineOk
namespace Go.Proofs.Ytimdoghlnegpgaa.P
open Go.RowKit Go.Proofs.YtimdoghlnegpgaaW.PrintWords Go.Proofs.YtimdoghlnegpgaaW.PrintLast Go.Proofs.YtimdoghlnegpgaaEv
set_option linter.unusedVariables false
set_option linter.unusedSimpArgs false

theorem spec_l1In_eq (a b c : Int) : spec_l1In.f a b c = some (decide (b ≤ a ∧ a ≤ c)) := by
  unfold spec_l1In.f
  by_cases h : a ≥ b <;> simp [h]
theorem impl_within_eq (a b c : Int) : impl_within.f a b c = some (decide (b ≤ a ∧ a ≤ c)) := by
  unfold impl_within.f
  by_cases h : a ≥ b <;> simp [h]

/-- Is a step right among n? -/
def stepB (n : Int) (s : S81) : Bool :=
  if s.f0 = 1 then decide (0 ≤ s.f1 ∧ s.f1 ≤ 39) && decide (s.f2 = 0)
  else if s.f0 = 2 then decide (s.f1 = 0) && decide (s.f2 = 0)
  else if s.f0 = 3 ∨ s.f0 = 4 then decide (0 ≤ s.f1 ∧ s.f1 ≤ 255) && decide (0 ≤ s.f2 ∧ s.f2 ≤ n - 1)
  else if s.f0 = 5 then decide (0 ≤ s.f1 ∧ s.f1 ≤ n - 1) && decide (s.f2 = 0)
  else false

theorem impl_stepOk_ev (s : S81) (n : Int) (h0 : 0 ≤ n) (h1 : n ≤ 60000) : Ev (fun k => impl_stepOk.f k s.f0 s.f1 s.f2 n) (stepB n s) := by
  have hw : wrap64 (n - 1) = n - 1 := wrap_id (by omega) (by omega)
  have hj : ∀ b, Ev (fun k => impl_stepOk.j0 k n s.f0 b s.f0 s.f1 s.f2) (if b then decide (0 ≤ s.f1 ∧ s.f1 ≤ 255) && decide (0 ≤ s.f2 ∧ s.f2 ≤ n - 1) else if s.f0 = 5 then decide (0 ≤ s.f1 ∧ s.f1 ≤ n - 1) && decide (s.f2 = 0) else false) := by
    intro b
    rw [ev_succ]
    simp only [impl_stepOk.j0, impl_within_eq, Option.bind_some, ev_ite, ev_some, hw]
    cases b <;> simp <;> grind
  unfold impl_stepOk.f stepB
  simp only [impl_within_eq, Option.bind_some, ev_ite, ev_some]
  split
  · grind
  · split
    · grind
    · split
      · exact ev_congr (hj _) (by grind)
      · exact ev_congr (hj _) (by grind)

def machineB (l : List S81) : Bool :=
  decide (1 ≤ l.length) && decide (l.length ≤ 60000) && decide ((rd_T81 l (l.length - 1)).f0 = 5) && l.all (stepB l.length)

theorem impl_MachineOk_ev (l : List S81) (hl : l.length ≤ 1048576) : Ev (fun k => impl_MachineOk.f k l) (machineB l) := by
  have hloop : ∀ i, i ≤ l.length → l.length ≤ 60000 → Ev (fun k => impl_MachineOk.l0 k l.length l l.length (i : Nat)) ((l.drop i).all (stepB l.length)) := by
    intro i hi h6
    refine ev_loop l.length (fun k i => impl_MachineOk.l0 k l.length l l.length (i : Nat)) (fun i => (l.drop i).all (stepB l.length)) ?_ ?_ i hi
    · rw [ev_succ]
      simp [impl_MachineOk.l0, ev_some]
    · intro i hi ih
      rw [ev_succ]
      simp only [impl_MachineOk.l0, ev_ite]
      rw [if_pos (by omega), if_pos (by omega), if_pos (by omega), ev_bind (impl_stepOk_ev (rd_T81 l i) l.length (by omega) (by omega)), wrap_succ hi (by omega), all_drop l z81 _ i hi]
      simp only [ev_ite, ev_some]
      have : l.getD i z81 = rd_T81 l i := by simp [rd_T81]
      rw [this]
      cases h : stepB l.length (rd_T81 l i)
      · simp
      · simpa using ih
  have hj : ∀ b, l.length ≤ 60000 → Ev (fun k => impl_MachineOk.j0 k l l.length b) (!b && l.all (stepB l.length)) := by
    intro b h6
    rw [ev_succ]
    simp only [impl_MachineOk.j0, ev_ite, ev_some]
    have := hloop 0 (by omega) h6
    cases b <;> simp at this ⊢
    exact this
  have hj' : Ev (fun k => impl_MachineOk.j0 k l l.length true) false := by
    rw [ev_succ]
    simp [impl_MachineOk.j0, ev_some]
  unfold impl_MachineOk.f machineB
  simp only [impl_MOp.f, impl_within_eq, Option.bind_some, ev_ite]
  by_cases h1 : 1 ≤ l.length
  · rw [wrap_id (by omega) (by omega)]
    by_cases h2 : l.length ≤ 60000
    · rw [if_pos (by simp; omega), if_pos (by omega), if_pos (by omega)]
      refine ev_congr (hj _ h2) ?_
      simp [h1, h2]
      grind
    · rw [if_neg (by simp; omega)]
      exact ev_congr hj' (by simp [h2])
  · rw [if_neg (by simp; omega)]
    exact ev_congr hj' (by simp [h1])

theorem spec_MachineOk_ev (l : List S81) (hl : l.length ≤ 1048576) : Ev (fun k => spec_MachineOk.f k l) (machineB l) := by
  have hloop : ∀ i, i ≤ l.length → l.length ≤ 60000 → Ev (fun k => spec_MachineOk.l0 k l l.length (i : Nat)) ((l.drop i).all (stepB l.length)) := by
    intro i hi h6
    refine ev_loop l.length (fun k i => spec_MachineOk.l0 k l l.length (i : Nat)) (fun i => (l.drop i).all (stepB l.length)) ?_ ?_ i hi
    · rw [ev_succ]
      simp [spec_MachineOk.l0, ev_some]
    · intro i hi ih
      have hn : wrap64 ((l.length : Int) - 1) = (l.length : Int) - 1 := wrap_id (by omega) (by omega)
      have hj : ∀ b, Ev (fun k => spec_MachineOk.j2 k l l.length i false (rd_T81 l i).f0 b (rd_T81 l i).f0 (rd_T81 l i).f1 (rd_T81 l i).f2)
          ((if b then decide (0 ≤ (rd_T81 l i).f1 ∧ (rd_T81 l i).f1 ≤ 255) && decide (0 ≤ (rd_T81 l i).f2 ∧ (rd_T81 l i).f2 ≤ l.length - 1)
            else if (rd_T81 l i).f0 = 5 then decide (0 ≤ (rd_T81 l i).f1 ∧ (rd_T81 l i).f1 ≤ l.length - 1) && decide ((rd_T81 l i).f2 = 0) else false) && (l.drop (i + 1)).all (stepB l.length)) := by
        intro b
        rw [ev_succ]
        simp only [spec_MachineOk.j2, spec_l1In_eq, Option.bind_some, ev_ite, ev_some, hn, wrap_succ hi (by omega)]
        generalize (l.drop (i + 1)).all (stepB l.length) = T at *
        generalize (fun k => spec_MachineOk.l0 k l (l.length : Int) ((i + 1 : Nat) : Int)) = G at *
        cases b <;> grind
      rw [ev_succ]
      simp only [spec_MachineOk.l0, spec_l1In_eq, Option.bind_some, ev_ite, ev_some, wrap_succ hi (by omega)]
      rw [if_pos (by omega), if_pos (by omega), if_pos (by omega), all_drop l z81 _ i hi]
      have : l.getD i z81 = rd_T81 l i := by simp [rd_T81]
      rw [this]
      generalize (l.drop (i + 1)).all (stepB l.length) = T at *
      generalize (fun k => spec_MachineOk.l0 k l (l.length : Int) ((i + 1 : Nat) : Int)) = G at *
      unfold stepB
      generalize rd_T81 l i = s at *
      split
      · grind
      · split
        · grind
        · split
          · exact ev_congr (hj _) (by grind)
          · exact ev_congr (hj _) (by grind)
    done
  have hj : ∀ b, (b = false → l.length ≤ 60000) → Ev (fun k => spec_MachineOk.j0 k l l.length b) (!b && l.all (stepB l.length)) := by
    intro b h6
    rw [ev_succ]
    simp only [spec_MachineOk.j0, ev_ite, ev_some]
    cases b
    · have := hloop 0 (by omega) (h6 rfl)
      simpa using this
    · simp
  unfold spec_MachineOk.f machineB
  simp only [ev_ite]
  by_cases h1 : 1 ≤ l.length
  · rw [if_neg (by omega), wrap_id (by omega) (by omega)]
    by_cases h2 : l.length ≤ 60000
    · rw [if_neg (by omega), if_pos (by omega), if_pos (by omega)]
      exact ev_congr (hj _ (fun _ => h2)) (by simp [h1, h2]; grind)
    · rw [if_pos (by omega)]
      exact ev_congr (hj _ (by simp)) (by simp [h2])
  · rw [if_pos (by omega)]
    exact ev_congr (hj _ (by simp)) (by simp [h1])

end Go.Proofs.Ytimdoghlnegpgaa.P
