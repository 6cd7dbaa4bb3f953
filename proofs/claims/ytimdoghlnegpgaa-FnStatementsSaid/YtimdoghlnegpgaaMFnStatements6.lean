/- The law FnStatements holds for every call: part 7 of 7 of the proof (the row). Conditions: none beyond what the given row says. -/
import Derived.Test.YtimdoghlnegpgaaMFnStatements5
import Derived.Test.YtimdoghlnegpgaaMFnStatements1
import Derived.Test.YtimdoghlnegpgaaMFnStatements0
import Derived.Test.YtimdoghlnegpgaaMFnStatements2
import Derived.Test.YtimdoghlnegpgaaMFnStatements3
import Derived.Test.YtimdoghlnegpgaaMFnStatements4
import Derived.SizedLaws
import Derived.ChangeSlices
import Derived.Test.YtimdoghlnegpgaaRows
import Derived.WalkKit
import Derived.ProofKit
import Derived.OpenShut
import Derived.ShutString
import Derived.ChangeOld
import Derived.Below
/- What the printed LinesOf of program and reference answer: right items, cut where a line begins. -/
namespace Go.Proofs.Ytimdoghlnegpgaa.P
open Go.RowKit Go.Proofs.YtimdoghlnegpgaaW.PrintWords Go.Proofs.YtimdoghlnegpgaaW.PrintLast Go.Proofs.YtimdoghlnegpgaaW.PrintMore Go.Proofs.YtimdoghlnegpgaaEv
set_option linter.unusedVariables false
set_option linter.unusedSimpArgs false

/-- One more item in the last row. -/
def addLast (out : List (List S73)) (x : S73) : List (List S73) := out.set (out.length - 1) (rd_L5 out ((out.length - 1 : Nat) : Int) ++ [x])
def begins (p : Option Int) (x : S73) : Bool := match p with | none => true | some q => decide (x.f1 > q)
def linesR : Option Int → List S73 → List (List S73) → List (List S73)
  | _, [], out => out
  | p, x :: xs, out => linesR (some x.f1) xs (addLast (if begins p x then out ++ [[]] else out) x)
def linesB (l : List S73) : List (List S73) × Bool := if itemsB l then (linesR none l [], true) else ([], false)
theorem addLast_length (out : List (List S73)) (x : S73) : (addLast out x).length = out.length := by simp [addLast]
theorem cntSS_set : ∀ (l : List (List S73)) (j : Nat) (h : j < l.length) (r : List S73), cntSS (l.set j r) + 3 * l[j].length = cntSS l + 3 * r.length
  | x :: xs, 0, _, r => by simp [cntSS]; omega
  | x :: xs, j + 1, h, r => by
    simp only [List.set_cons_succ, cntSS, List.getElem_cons_succ]
    have := cntSS_set xs j (by simpa using h) r
    omega
theorem cntSS_addLast (out : List (List S73)) (x : S73) (h : 0 < out.length) : cntSS (addLast out x) = cntSS out + 3 := by
  unfold addLast
  have := cntSS_set out (out.length - 1) (by omega) (rd_L5 out ((out.length - 1 : Nat) : Int) ++ [x])
  rw [rd_L5_at out (out.length - 1) (by omega)] at this ⊢
  simp at this ⊢
  omega
theorem linesR_few : ∀ (l : List S73) (p : Option Int) (out : List (List S73)), (p = none ∨ 0 < out.length) → (linesR p l out).length ≤ out.length + l.length ∧ cntSS (linesR p l out) ≤ cntSS out + 3 * l.length
  | [], _, out, _ => by simp [linesR]
  | x :: xs, p, out, hp => by
    unfold linesR
    have hb : 0 < (if begins p x then out ++ [[]] else out).length := by
      split
      · simp
      · rename_i h
        rcases hp with rfl | h2
        · simp [begins] at h
        · exact h2
    have := linesR_few xs (some x.f1) (addLast (if begins p x then out ++ [[]] else out) x) (.inr (by rw [addLast_length]; exact hb))
    rw [addLast_length, cntSS_addLast _ _ hb] at this
    have hl : (if begins p x then out ++ [[]] else out).length ≤ out.length + 1 ∧ cntSS (if begins p x then out ++ [[]] else out) = cntSS out := by
      split
      · simp [cntSS_append, cntSS]
      · simp
    simp only [List.length_cons]
    omega
theorem linesB_few (l : List S73) : (linesB l).1.length ≤ 5000 ∧ cntSS (linesB l).1 ≤ 15000 := by
  unfold linesB
  split
  · rename_i h
    have := itemsB_len h
    have := linesR_few l none [] (.inl rfl)
    simp [cntSS] at this ⊢
    omega
  · simp [cntSS]
theorem rows_set {out : List (List S73)} {n : Nat} (h : ∀ r ∈ out, r.length ≤ n) (x : S73) (hp : 0 < out.length) : ∀ r ∈ addLast out x, r.length ≤ n + 1 := by
  intro r hr
  unfold addLast at hr
  rcases List.mem_or_eq_of_mem_set hr with h1 | h1
  · have := h r h1; omega
  · subst h1
    rw [rd_L5_at out (out.length - 1) (by omega)]
    have := h _ (List.getElem_mem (show out.length - 1 < out.length by omega))
    simp
    omega
/-- What both loops do with the last row. -/
theorem last_row {out : List (List S73)} (hp : 0 < out.length) (hn : out.length ≤ 100000) : wrap64 ((out.length : Int) - 1) = ((out.length - 1 : Nat) : Int) := by
  rw [wrap_id (by omega) (by omega)]
  omega
theorem last_few {out : List (List S73)} {n : Nat} (h : ∀ r ∈ out, r.length ≤ n) (hp : 0 < out.length) : (rd_L5 out ((out.length - 1 : Nat) : Int)).length ≤ n := by
  rw [rd_L5_at out (out.length - 1) (by omega)]
  exact h _ (List.getElem_mem _)
theorem impl_LinesOf_ev (l : List S73) (hl : l.length ≤ 9223372036854775807) : Ev (fun k => impl_LinesOf.f k l) (linesB l) := by
  unfold impl_LinesOf.f linesB
  rw [ev_bind (impl_itemsOk_ev l hl), ev_ite]
  cases hb : itemsB l
  · exact ev_some.2 rfl
  have hlen := itemsB_len hb
  have key := down l.length (fun i => ∀ (p : Option Int) out, (i = 0 → p = none) → (0 < i → p = some (rd_T73 l ((i - 1 : Nat) : Int)).f1 ∧ 0 < out.length) → out.length ≤ i → (∀ r ∈ out, r.length ≤ i) → Ev (fun k => impl_LinesOf.l0 k l out l l.length (i : Nat)) (linesR p (l.drop i) out, true)) ?_ ?_ 0 (by omega) none [] (fun _ => rfl) (by omega) (by simp) (by simp)
  · exact key
  · intro p out _ _ _ _
    rw [ev_succ]
    simp only [impl_LinesOf.l0, ev_ite, ev_some]
    rw [if_neg (by omega), List.drop_length]
    rfl
  · intro i hi ih p out hp0 hp1 ho hr
    rw [ev_succ, drop_cons l z73 i hi]
    have hrd : l.getD i z73 = rd_T73 l i := by simp [rd_T73]
    rw [hrd]
    have tail : ∀ o2 : List (List S73), 0 < o2.length → o2.length ≤ i + 1 → (∀ r ∈ o2, r.length ≤ i) → Ev (fun k => if 0 ≤ (wrap64 ((o2.length : Int) - 1)) then (if (wrap64 ((o2.length : Int) - 1)) < (o2.length : Int) then (if (rd_L5 o2 (wrap64 ((o2.length : Int) - 1))).length < 5864062014805 then (impl_LinesOf.l0 k l (o2.set ((wrap64 ((o2.length : Int) - 1)) : Int).toNat ((rd_L5 o2 (wrap64 ((o2.length : Int) - 1))) ++ [(⟨(rd_T73 l i).f0, (rd_T73 l i).f1, (rd_T73 l i).f2⟩ : S73)])) l l.length (wrap64 ((i : Int) + 1))) else none) else none) else none) (linesR (some (rd_T73 l i).f1) (l.drop (i + 1)) (addLast o2 (rd_T73 l i)), true) := by
      intro o2 h1 h2 h3
      have hf := last_few h3 h1
      rw [last_row h1 (by omega), wrap_succ hi (by omega)]
      simp only [ev_ite]
      rw [if_pos (by omega), if_pos (by omega), if_pos (by omega), Int.toNat_natCast]
      exact ih _ (addLast o2 (rd_T73 l i)) (by omega) (fun _ => ⟨by rw [Nat.add_sub_cancel], by rw [addLast_length]; exact h1⟩) (by rw [addLast_length]; exact h2) (rows_set h3 _ h1)
    have hnew : ∀ r ∈ out ++ [[]], r.length ≤ i := by
      intro r h
      rcases List.mem_append.1 h with h | h
      · exact hr r h
      · simp at h; subst h; simp
    have tn := tail (out ++ [[]]) (by simp) (by simp; omega) hnew
    simp only [impl_LinesOf.l0, Option.bind_some, ev_ite]
    rw [if_pos (by omega), if_pos (by omega), if_pos (by omega)]
    simp only [linesR]
    by_cases h0 : i = 0
    · rw [if_pos (by omega), if_pos (by omega)]
      rw [hp0 h0]
      simp only [ev_ite] at tn
      simpa [begins] using tn
    · obtain ⟨hp, hpos⟩ := hp1 (by omega)
      rw [if_neg (by omega), wrap_id (x := (i : Int) - 1) (by omega) (by omega), show (i : Int) - 1 = ((i - 1 : Nat) : Int) by omega, if_pos (by omega), if_pos (by omega)]
      rw [hp]
      by_cases hg : (rd_T73 l i).f1 > (rd_T73 l ((i - 1 : Nat) : Int)).f1
      · rw [if_pos hg, if_pos (by omega)]
        simp only [ev_ite] at tn
        simpa [begins, hg] using tn
      · rw [if_neg hg]
        have told := tail out hpos (by omega) hr
        simp only [ev_ite] at told
        simpa [begins, hg] using told
theorem spec_LinesOf_ev (l : List S73) : Ev (fun k => spec_LinesOf.f k l) (linesB l) := by
  unfold spec_LinesOf.f linesB
  simp only [Option.bind_some]
  rw [ev_bind (spec_l16Items_ev l), ev_ite]
  cases hb : itemsB l
  · exact ev_some.2 rfl
  have hlen := itemsB_len hb
  have key := down l.length (fun i => ∀ (p : Option Int) out, (i = 0 → p = none) → (0 < i → p = some (rd_T73 l ((i - 1 : Nat) : Int)).f1 ∧ 0 < out.length) → out.length ≤ i → (∀ r ∈ out, r.length ≤ i) → Ev (fun k => spec_LinesOf.l0 k l out (i : Nat)) (linesR p (l.drop i) out, true)) ?_ ?_ 0 (by omega) none [] (fun _ => rfl) (by omega) (by simp) (by simp)
  · exact key
  · intro p out _ _ _ _
    rw [ev_succ]
    simp only [spec_LinesOf.l0, ev_ite, ev_some]
    rw [if_neg (by omega), List.drop_length]
    rfl
  · intro i hi ih p out hp0 hp1 ho hr
    rw [ev_succ, drop_cons l z73 i hi]
    have hrd : l.getD i z73 = rd_T73 l i := by simp [rd_T73]
    rw [hrd]
    have tail : ∀ o2 : List (List S73), 0 < o2.length → o2.length ≤ i + 1 → (∀ r ∈ o2, r.length ≤ i) → Ev (fun k => if 0 ≤ (wrap64 ((o2.length : Int) - 1)) then (if (wrap64 ((o2.length : Int) - 1)) < (o2.length : Int) then (if (rd_L5 o2 (wrap64 ((o2.length : Int) - 1))).length < 5864062014805 then (spec_LinesOf.l0 k l (o2.set ((wrap64 ((o2.length : Int) - 1)) : Int).toNat ((rd_L5 o2 (wrap64 ((o2.length : Int) - 1))) ++ [(⟨(rd_T73 l i).f0, (rd_T73 l i).f1, (rd_T73 l i).f2⟩ : S73)])) (wrap64 ((i : Int) + 1))) else none) else none) else none) (linesR (some (rd_T73 l i).f1) (l.drop (i + 1)) (addLast o2 (rd_T73 l i)), true) := by
      intro o2 h1 h2 h3
      have hf := last_few h3 h1
      rw [last_row h1 (by omega), wrap_succ hi (by omega)]
      simp only [ev_ite]
      rw [if_pos (by omega), if_pos (by omega), if_pos (by omega), Int.toNat_natCast]
      exact ih _ (addLast o2 (rd_T73 l i)) (by omega) (fun _ => ⟨by rw [Nat.add_sub_cancel], by rw [addLast_length]; exact h1⟩) (by rw [addLast_length]; exact h2) (rows_set h3 _ h1)
    have hnew : ∀ r ∈ out ++ [[]], r.length ≤ i := by
      intro r h
      rcases List.mem_append.1 h with h | h
      · exact hr r h
      · simp at h; subst h; simp
    have tn := tail (out ++ [[]]) (by simp) (by simp; omega) hnew
    have hi0 : (0 : Int) ≤ (i : Nat) := by omega
    simp only [spec_LinesOf.l0, Option.bind_some, ev_ite, if_pos hi0]
    rw [if_pos (by omega)]
    simp only [linesR]
    by_cases h0 : i = 0
    · rw [if_pos (by omega), if_pos (by omega)]
      rw [hp0 h0]
      simp only [ev_ite] at tn
      simpa [begins] using tn
    · obtain ⟨hp, hpos⟩ := hp1 (by omega)
      rw [if_neg (by omega), wrap_id (x := (i : Int) - 1) (by omega) (by omega), show (i : Int) - 1 = ((i - 1 : Nat) : Int) by omega, if_pos (by omega), if_pos (by omega)]
      rw [hp]
      by_cases hg : (rd_T73 l i).f1 > (rd_T73 l ((i - 1 : Nat) : Int)).f1
      · rw [if_pos hg, if_pos (by omega)]
        simp only [ev_ite] at tn
        simpa [begins, hg] using tn
      · rw [if_neg hg]
        have told := tail out hpos (by omega) hr
        simp only [ev_ite] at told
        simpa [begins, hg] using told
end Go.Proofs.Ytimdoghlnegpgaa.P
/- What the reference's check of rising kinds, and her search in a list of numbers, answer. -/
namespace Go.Proofs.Ytimdoghlnegpgaa.P
open Go.RowKit Go.Proofs.YtimdoghlnegpgaaW.PrintWords Go.Proofs.YtimdoghlnegpgaaW.PrintLast Go.Proofs.YtimdoghlnegpgaaEv
set_option linter.unusedVariables false
set_option linter.unusedSimpArgs false

def kindsR : Int → List Int → Bool
  | _, [] => true
  | last, x :: rest => decide (0 ≤ x) && decide (last < x) && kindsR x rest
def kindsB (l : List Int) : Bool := decide (l.length ≤ 20) && kindsR (-1) l
theorem rd_nat (l : List Int) (i : Nat) : l.getD i 0 = rd l i := by simp [rd]
theorem spec_l16Kinds_ev (l : List Int) : Ev (fun k => spec_l16Kinds.f k l) (kindsB l) := by
  unfold spec_l16Kinds.f kindsB
  simp only [ev_ite]
  by_cases h6 : l.length ≤ 20
  · rw [if_neg (by omega), decide_eq_true h6, Bool.true_and]
    have key := down l.length (fun i => ∀ last : Int, (i = 0 → last = -1) → (0 < i → last = rd l ((i - 1 : Nat) : Int)) → Ev (fun k => spec_l16Kinds.l0 k l (i : Nat)) (kindsR last (l.drop i))) ?_ ?_ 0 (by omega) (-1) (fun _ => rfl) (by omega)
    · exact key
    · intro last _ _
      rw [ev_succ]
      simp only [spec_l16Kinds.l0, ev_ite, ev_some]
      rw [if_neg (by omega), List.drop_length]
      rfl
    · intro i hi ih last hl0 hl1
      rw [ev_succ, drop_cons l 0 i hi, rd_nat]
      have ih2 := ih (rd l i) (by omega) (fun _ => by rw [Nat.add_sub_cancel])
      simp only [spec_l16Kinds.l0, Option.bind_some, ev_ite, ev_some, kindsR]
      rw [if_pos (by omega), if_pos (by omega), wrap_succ hi (by omega)]
      have hprev : 0 < i → (0 ≤ wrap64 ((i : Int) - 1) ∧ wrap64 ((i : Int) - 1) < l.length ∧ rd l (wrap64 ((i : Int) - 1)) = last) := by
        intro hp
        rw [wrap_id (x := (i : Int) - 1) (by omega) (by omega)]
        exact ⟨by omega, by omega, by rw [hl1 hp, show ((i : Int) - 1) = ((i - 1 : Nat) : Int) by omega]⟩
      generalize (l.drop (i + 1)) = T at *
      generalize rd l (i : Int) = a at *
      generalize hG : (fun k => spec_l16Kinds.l0 k l ((i + 1 : Nat) : Int)) = G at *
      by_cases c1 : a < 0
      · rw [if_pos c1]; simp [show ¬ 0 ≤ a by omega]
      rw [if_neg c1]
      have hend : (last < a) → Ev G (decide (0 ≤ a) && decide (last < a) && kindsR a T) := by
        intro h5
        refine ev_congr ih2 ?_
        simp [show 0 ≤ a by omega, h5]
      by_cases h00 : i = 0
      · rw [if_neg (by omega)]
        exact hend (by have := hl0 h00; omega)
      · obtain ⟨h1', h2', h3'⟩ := hprev (by omega)
        rw [if_pos (by omega), if_pos h1', if_pos h2', h3']
        by_cases c5 : a ≤ last
        · rw [if_pos c5]; simp [show ¬ last < a by omega]
        · rw [if_neg c5]
          exact hend (by omega)
  · rw [if_pos (by omega)]
    exact ev_some.2 (by simp [h6])
theorem kindsB_len {l : List Int} (h : kindsB l = true) : l.length ≤ 20 := by
  simp only [kindsB, Bool.and_eq_true, decide_eq_true_eq] at h
  exact h.1

def hasB (l : List Int) (x : Int) : Bool := l.any (· == x)
theorem any_drop {α : Type} (l : List α) (d : α) (p : α → Bool) (i : Nat) (h : i < l.length) : (l.drop i).any p = (p (l.getD i d) || (l.drop (i + 1)).any p) := by
  rw [drop_cons l d i h, List.any_cons]
theorem spec_l1Has_ev (l : List Int) (x : Int) (hl : l.length ≤ 9223372036854775807) : Ev (fun k => spec_l1Has.f k l x) (hasB l x) := by
  unfold spec_l1Has.f hasB
  have key := ev_loop l.length (fun k i => spec_l1Has.l0 k l x (i : Nat)) (fun i => (l.drop i).any (· == x)) ?_ ?_ 0 (by omega)
  · exact key
  · rw [ev_succ]
    simp [spec_l1Has.l0, ev_some]
  · intro i hi ih
    rw [ev_succ, any_drop l 0 _ i hi, rd_nat]
    simp only [spec_l1Has.l0, ev_ite, ev_some]
    rw [if_pos (by omega), if_pos (by omega), wrap_succ hi (by omega)]
    by_cases h : rd l i = x
    · rw [if_pos h]; simp [h]
    · rw [if_neg h, beq_eq_false_iff_ne.2 h, Bool.false_or]
      exact ih
end Go.Proofs.Ytimdoghlnegpgaa.P
/- What the program's check of rising kinds, and her search in a list of numbers, answer. -/
namespace Go.Proofs.Ytimdoghlnegpgaa.P
open Go.RowKit Go.Proofs.YtimdoghlnegpgaaW.PrintWords Go.Proofs.YtimdoghlnegpgaaW.PrintLast Go.Proofs.YtimdoghlnegpgaaEv
set_option linter.unusedVariables false
set_option linter.unusedSimpArgs false

theorem impl_kindsOk_ev (l : List Int) (hl : l.length ≤ 9223372036854775807) : Ev (fun k => impl_kindsOk.f k l) (kindsB l) := by
  unfold impl_kindsOk.f kindsB
  have key := down l.length (fun i => ∀ last : Int, (i = 0 → last = -1) → (0 < i → last = rd l ((i - 1 : Nat) : Int)) → Ev (fun k => impl_kindsOk.l0 k l l l.length (i : Nat)) (decide (l.length ≤ 20) && kindsR last (l.drop i))) ?_ ?_ 0 (by omega) (-1) (fun _ => rfl) (by omega)
  · exact key
  · intro last _ _
    rw [ev_succ]
    simp only [impl_kindsOk.l0, ev_ite, ev_some]
    rw [if_neg (by omega), List.drop_length]
    simp only [kindsR, Bool.and_true]
    by_cases h : l.length ≤ 20
    · rw [decide_eq_true h, decide_eq_true (show (l.length : Int) ≤ 20 by omega)]
    · rw [decide_eq_false h, decide_eq_false (show ¬ (l.length : Int) ≤ 20 by omega)]
  · intro i hi ih last hl0 hl1
    rw [ev_succ, drop_cons l 0 i hi, rd_nat]
    have ih2 := ih (rd l i) (by omega) (fun _ => by rw [Nat.add_sub_cancel])
    simp only [impl_kindsOk.l0, Option.bind_some, ev_ite, ev_some, kindsR]
    rw [if_pos (by omega), if_pos (by omega), if_pos (by omega), wrap_succ hi (by omega)]
    have hprev : 0 < i → (0 ≤ wrap64 ((i : Int) - 1) ∧ wrap64 ((i : Int) - 1) < l.length ∧ rd l (wrap64 ((i : Int) - 1)) = last) := by
      intro hp
      rw [wrap_id (x := (i : Int) - 1) (by omega) (by omega)]
      exact ⟨by omega, by omega, by rw [hl1 hp, show ((i : Int) - 1) = ((i - 1 : Nat) : Int) by omega]⟩
    generalize decide (l.length ≤ 20) = D at *
    generalize (l.drop (i + 1)) = T at *
    generalize rd l (i : Int) = a at *
    generalize hG : (fun k => impl_kindsOk.l0 k l l (l.length : Int) ((i + 1 : Nat) : Int)) = G at *
    by_cases c1 : a < 0
    · rw [if_pos c1]; simp [show ¬ 0 ≤ a by omega]
    rw [if_neg c1]
    have hend : (last < a) → Ev G (D && (decide (0 ≤ a) && decide (last < a) && kindsR a T)) := by
      intro h5
      refine ev_congr ih2 ?_
      simp [show 0 ≤ a by omega, h5]
    by_cases h00 : i = 0
    · rw [if_neg (by omega)]
      exact hend (by have := hl0 h00; omega)
    · obtain ⟨h1', h2', h3'⟩ := hprev (by omega)
      rw [if_pos (by omega), if_pos h1', if_pos h2', h3']
      by_cases c5 : last ≥ a
      · rw [if_pos c5]; simp [show ¬ last < a by omega]
      · rw [if_neg c5]
        exact hend (by omega)
theorem slices_Contains_ev (l : List Int) (x : Int) (hl : l.length ≤ 9223372036854775807) : Ev (fun k => slices_Contains_int64_int64.f k l x) (hasB l x) := by
  have hi : ∃ r : Int, Ev (fun k => slices_Index_int64_int64.f k l x) r ∧ decide (r ≥ 0) = hasB l x := by
    unfold slices_Index_int64_int64.f hasB
    have key := down l.length (fun i => ∃ r : Int, Ev (fun k => slices_Index_int64_int64.l0 k l x l.length (i : Nat)) r ∧ decide (r ≥ 0) = (l.drop i).any (· == x)) ?_ ?_ 0 (by omega)
    · exact key
    · refine ⟨-1, ?_, by simp⟩
      rw [ev_succ]
      simp [slices_Index_int64_int64.l0, ev_some]
    · rintro i hi ⟨r, hr, hd⟩
      by_cases h : x = rd l i
      · refine ⟨i, ?_, ?_⟩
        · rw [ev_succ]
          simp only [slices_Index_int64_int64.l0, ev_ite, ev_some]
          rw [if_pos (by omega), if_pos (by omega), if_pos (by omega), if_pos h]
          trivial
        · rw [any_drop l 0 _ i hi, rd_nat, ← h]
          simp
      · refine ⟨r, ?_, ?_⟩
        · rw [ev_succ]
          simp only [slices_Index_int64_int64.l0, ev_ite, ev_some]
          rw [if_pos (by omega), if_pos (by omega), if_pos (by omega), if_neg h, wrap_succ hi (by omega)]
          exact hr
        · rw [any_drop l 0 _ i hi, rd_nat, hd, beq_eq_false_iff_ne.2 (Ne.symm h), Bool.false_or]
  obtain ⟨r, hr, hd⟩ := hi
  unfold slices_Contains_int64_int64.f
  rw [ev_bind hr]
  exact ev_some.2 hd
end Go.Proofs.Ytimdoghlnegpgaa.P
/- What the printed Semicolons of program and reference answer. -/
namespace Go.Proofs.Ytimdoghlnegpgaa.P
open Go.RowKit Go.Proofs.YtimdoghlnegpgaaW.PrintWords Go.Proofs.YtimdoghlnegpgaaW.PrintLast Go.Proofs.YtimdoghlnegpgaaW.PrintMore Go.Proofs.YtimdoghlnegpgaaEv
set_option linter.unusedVariables false
set_option linter.unusedSimpArgs false

def semi (x : S73) : S73 := ⟨-4, x.f1, mn 1000000000000 (wrap64 (x.f2 + 1))⟩
/-- Does the line end behind x? -/
def endsLine (x : S73) : List S73 → Bool
  | [] => true
  | y :: _ => decide (y.f1 > x.f1)
def semiR (enders : List Int) : List S73 → List S73
  | [] => []
  | x :: rest => if hasB enders x.f0 = true ∧ endsLine x rest = true then x :: semi x :: semiR enders rest else x :: semiR enders rest
def semiB (l : List S73) (enders : List Int) : List S73 × Bool := if itemsB l = true ∧ kindsB enders = true then (semiR enders l, true) else ([], false)
theorem semiR_length (enders : List Int) (l : List S73) : (semiR enders l).length ≤ 2 * l.length := by
  induction l with
  | nil => simp [semiR]
  | cons x l ih =>
    unfold semiR
    split <;> simp only [List.length_cons] <;> omega
theorem semiB_length (l : List S73) (enders : List Int) : (semiB l enders).1.length ≤ 10000 := by
  unfold semiB
  split
  · rename_i h
    have := semiR_length enders l
    have := itemsB_len h.1
    simp only
    omega
  · simp
theorem endsLine_at (l : List S73) (x : S73) (i : Nat) (hi : i < l.length) : endsLine x (l.drop (i + 1)) = if i + 1 = l.length then true else decide ((rd_T73 l ((i + 1 : Nat) : Int)).f1 > x.f1) := by
  by_cases h : i + 1 = l.length
  · rw [if_pos h, h, List.drop_length]
    rfl
  · rw [if_neg h, drop_cons l z73 (i + 1) (by omega)]
    have hr : l.getD (i + 1) z73 = rd_T73 l ((i + 1 : Nat) : Int) := by simp [rd_T73]
    rw [hr]
    rfl
theorem impl_Semicolons_ev (l : List S73) (enders : List Int) (hl : l.length ≤ 1048576) (he : enders.length ≤ 1048576) : Ev (fun k => impl_Semicolons.f k l enders) (semiB l enders) := by
  unfold impl_Semicolons.f semiB
  rw [ev_bind (impl_itemsOk_ev l (by omega)), ev_ite]
  cases h1 : itemsB l
  · rw [if_neg (by simp), if_neg (by simp), ev_succ]
    simp [impl_Semicolons.j0, ev_some]
  rw [if_pos rfl, ev_bind (impl_kindsOk_ev enders (by omega)), ev_succ]
  simp only [impl_Semicolons.j0, ev_ite]
  cases h2 : kindsB enders
  · simp [ev_some]
  rw [if_neg (by simp), if_pos (by simp)]
  have hlen := itemsB_len h1
  have key := down l.length (fun i => ∀ out : List S73, out.length ≤ 2 * i → Ev (fun k => impl_Semicolons.l0 k l enders out l l.length (i : Nat)) (out ++ semiR enders (l.drop i), true)) ?_ ?_ 0 (by omega) [] (by simp)
  · simpa using key
  · intro out ho
    rw [ev_succ]
    simp only [impl_Semicolons.l0, ev_ite]
    rw [if_neg (by omega)]
    exact ev_some.2 (by simp [semiR])
  · intro i hi ih out ho
    rw [ev_succ, drop_cons l z73 i hi]
    have hr : l.getD i z73 = rd_T73 l i := by simp [rd_T73]
    rw [hr]
    have hend := endsLine_at l (rd_T73 l i) i hi
    simp only [impl_Semicolons.l0, Option.bind_some, ev_ite, semiR, hend]
    rw [if_pos (by omega), if_pos (by omega), if_pos (by omega), if_pos (by omega), ev_bind (slices_Contains_ev enders _ (by omega)), wrap_succ hi (by omega), wrap_id (x := (l.length : Int) - 1) (by omega) (by omega)]
    simp only [ev_ite, List.length_append, List.length_singleton]
    have ih1 := ih (out ++ [rd_T73 l i]) (by simp; omega)
    have ih2 := ih (out ++ [rd_T73 l i] ++ [semi (rd_T73 l i)]) (by simp; omega)
    cases hb : hasB enders (rd_T73 l i).f0
    · rw [if_neg (by simp), if_neg (by simp)]
      simpa using ih1
    · rw [if_pos rfl]
      by_cases c1 : i + 1 = l.length
      · rw [if_pos (by omega), if_pos (by omega), if_pos (by simp [c1])]
        simpa [semi] using ih2
      · rw [if_neg (by omega), if_pos (by omega), if_pos (by omega), if_neg c1]
        by_cases c2 : (rd_T73 l ((i + 1 : Nat) : Int)).f1 > (rd_T73 l i).f1
        · rw [if_pos c2, if_pos (by omega), if_pos ⟨rfl, by simpa using c2⟩]
          simpa [semi] using ih2
        · rw [if_neg c2, if_neg (by simpa using c2)]
          simpa using ih1
theorem spec_Semicolons_ev (l : List S73) (enders : List Int) (hl : l.length ≤ 1048576) (he : enders.length ≤ 1048576) : Ev (fun k => spec_Semicolons.f k l enders) (semiB l enders) := by
  unfold spec_Semicolons.f semiB
  simp only [Option.bind_some]
  rw [ev_bind (spec_l16Items_ev l), ev_ite]
  cases h1 : itemsB l
  · rw [if_neg (by simp), if_neg (by simp), ev_succ]
    simp [spec_Semicolons.j0, ev_some]
  rw [if_pos rfl, ev_bind (spec_l16Kinds_ev enders), ev_succ]
  simp only [spec_Semicolons.j0, ev_ite]
  cases h2 : kindsB enders
  · simp [ev_some]
  rw [if_neg (by simp), if_pos (by simp)]
  have hlen := itemsB_len h1
  have key := down l.length (fun i => ∀ out : List S73, out.length ≤ 2 * i → Ev (fun k => spec_Semicolons.l0 k l enders out (i : Nat)) (out ++ semiR enders (l.drop i), true)) ?_ ?_ 0 (by omega) [] (by simp)
  · simpa using key
  · intro out ho
    rw [ev_succ]
    simp only [spec_Semicolons.l0, ev_ite]
    rw [if_neg (by omega)]
    exact ev_some.2 (by simp [semiR])
  · intro i hi ih out ho
    rw [ev_succ, drop_cons l z73 i hi]
    have hr : l.getD i z73 = rd_T73 l i := by simp [rd_T73]
    rw [hr]
    have hend := endsLine_at l (rd_T73 l i) i hi
    simp only [spec_Semicolons.l0, Option.bind_some, ev_ite, semiR, hend]
    rw [if_pos (by omega), if_pos (by omega), if_pos (by omega), ev_bind (spec_l1Has_ev enders _ (by omega)), wrap_succ hi (by omega)]
    simp only [ev_ite, List.length_append, List.length_singleton]
    have ih1 := ih (out ++ [rd_T73 l i]) (by simp; omega)
    have ih2 := ih (out ++ [rd_T73 l i] ++ [semi (rd_T73 l i)]) (by simp; omega)
    cases hb : hasB enders (rd_T73 l i).f0
    · rw [if_neg (by simp), if_neg (by simp)]
      simpa using ih1
    · rw [if_pos rfl]
      by_cases c1 : i + 1 = l.length
      · rw [if_pos (by omega), if_pos (by omega), if_pos (by simp [c1])]
        simpa [semi] using ih2
      · rw [if_neg (by omega), if_pos (by omega), if_pos (by omega), if_neg c1]
        by_cases c2 : (rd_T73 l ((i + 1 : Nat) : Int)).f1 > (rd_T73 l i).f1
        · rw [if_pos c2, if_pos (by omega), if_pos ⟨rfl, by simpa using c2⟩]
          simpa [semi] using ih2
        · rw [if_neg c2, if_neg (by simpa using c2)]
          simpa using ih1
end Go.Proofs.Ytimdoghlnegpgaa.P
-- Made by wip/gen/pp.py of this session over the kit's print of the loaded program: a function, and the contract of its walk. Lean checks it.
namespace Go.Proofs.Ytimdoghlnegpgaa.P
open Go.RowKit Go.Proofs.YtimdoghlnegpgaaW.PrintWords Go.Proofs.YtimdoghlnegpgaaW.PrintLast Go.Proofs.YtimdoghlnegpgaaW.PrintMore
attribute [local go_sem] max2_int min2_int max_two min_two max_three min_three max_four min_four   -- for this text's walks alone
set_option linter.unusedVariables false
set_option linter.unusedSimpArgs false

/-! ### spec_Plain: function 21 -/
def spec_Plain.l0 : Nat → List (S73) → List (S73) → Int → Option ((List (S73)))
 | 0, _, _, _ => none
 | k + 1, x0, x3, x4 => if x4 < (x0.length : Int) then (if 0 ≤ x4 then (if ((rd_T73 x0 x4).f0) ≥ 0 then (if x3.length < 5864062014805 then (spec_Plain.l0 k x0 (x3 ++ [(⟨(rd_T73 x0 x4).f0, (rd_T73 x0 x4).f1, (rd_T73 x0 x4).f2⟩ : S73)]) (wrap64 (x4 + 1))) else (none)) else (spec_Plain.l0 k x0 x3 (wrap64 (x4 + 1)))) else (none)) else (some x3)
def spec_Plain.f (k : Nat) (l0 : List (S73)) : Option ((List (S73))) := spec_Plain.l0 k l0 (([] : List (S73))) 0
theorem spec_Plain.mono_l : ∀ k, (∀ y0 y1 y2, LeO (spec_Plain.l0 k y0 y1 y2) (spec_Plain.l0 (k + 1) y0 y1 y2))
 | 0 => fun _ _ _ r h => by simp [spec_Plain.l0] at h
 | k + 1 => by
  have ih0 := spec_Plain.mono_l k
  ·intro y0 y1 y2
   unfold spec_Plain.l0
   repeat' first
   | (with_reducible exact ih0 _ _ _)
   | (with_reducible exact LeO.refl _)
   | (with_reducible exact LeO.none _)
   | (with_reducible refine LeO.ite ?_ ?_)
   | (with_reducible refine LeO.bind ?_ (fun _ => ?_))
   | exact ih0 _ _ _
   | exact LeO.none _
   | refine LeO.ite ?_ ?_
   | refine LeO.bind ?_ (fun _ => ?_)
theorem spec_Plain.mono : ∀ a0 k, LeO (spec_Plain.f k a0) (spec_Plain.f (k + 1) a0) := by
 intro a0 k
 have ih0 := spec_Plain.mono_l k
 unfold spec_Plain.f
 repeat' first
   | (with_reducible exact ih0 _ _ _)
   | (with_reducible exact LeO.refl _)
   | (with_reducible exact LeO.none _)
   | (with_reducible refine LeO.ite ?_ ?_)
   | (with_reducible refine LeO.bind ?_ (fun _ => ?_))
   | exact ih0 _ _ _
   | exact LeO.none _
   | refine LeO.ite ?_ ?_
   | refine LeO.bind ?_ (fun _ => ?_)
set_option maxHeartbeats 8000000 in
set_option maxRecDepth 100000 in
theorem spec_Plain.calls (k : Nat) (A0 : Option Addr) (c0 : Nat) (l0 : List (S73)) (r : List (S73)) (w : World) (hr0 : Kd.C k73 w A0 l0.length l0) (hc0 : l0.length ≤ c0) (h : spec_Plain.f k l0 = some r) :
  Calls Try.prog 21 #[.slice A0 l0.length c0] w fun e w' => ∃ v0_ : Value, e = .returned (v0_) ∧ Kd.R k73 73 w' w.heap.size (fun _ => True) v0_ r ∧ Below w.heap.size w w' := by
 have hu73 := Try.underlying73
 have HR0 := Aside0.mk hr0
 have HC0 := Aside0.mk hc0
 clear hr0 hc0
 have HB := Aside0.mk (Below.refl w.heap.size w)
 have H : (spec_Plain.l0 k l0 (([] : List (S73))) 0) = some r := h
 clear h
 obtain ⟨y101, hy101⟩ : ∃ y_ : List (S73), y_ = (([] : List (S73))) := ⟨_, rfl⟩
 replace H : (spec_Plain.l0 k l0 y101 0) = some r := by first | (rw [hy101]; with_reducible exact H) | (have H2_ := (Option.bind_some _ _).symm.trans H; rw [hy101]; with_reducible exact H2_) | (have H2_ := (Option.bind_some _ _).symm.trans H; with_reducible exact H2_) | with_reducible exact H | (rw [hy101]; exact H) | exact H
 have Ny101 := Aside0.mk hy101
 clear hy101
 have H' := Aside0.mk H
 clear H
 go_enter Try.func21, Try.ntmps21
 go_wp2_with (first | ((with_reducible refine gate_dst (N := 5) rfl ?_); refine Kd.R_lit k73 _ 73 ?hg (N := 5) ?hd (xs := ([] : List (S73))) (inner := []) (ok := fun _ => True) (okp := fun _ => True) ?hr ?hp (fun _ hk => hk) trivial (Below.refl _ _) (Nat.le_refl _) (by simp) ?_; (case hd => rfl); (case hg => rfl); (case hr => first | (go_simp; done) | (go_simp; rfl)); (case hp => exact (Reps.none _ _)); intro v102 w2 ho3 hb hg_ hnew_; clear hg_ hnew_; (first | rw [← Ny101.out] at ho3 | (simp only [Int.reduceToNat] at ho3; rw [← Ny101.out] at ho3)); have n0_ := Aside0.mk (Kd.R_lower ho3 (below_size (by repeat (first | (with_reducible first | exact HB.out | apply below_alloc | apply pw_below_drewN | apply below_drew1) | exact HB.out)))); have n1_ := Aside0.mk (below_step (by repeat (first | (with_reducible first | exact HB.out | apply below_alloc | apply pw_below_drewN | apply below_drew1) | exact HB.out)) hb); clear HB; have HO103 := n0_; have HB := n1_; clear n0_ n1_; clear hb ho3))
 go_loopg [3, 4] k (fun kq v3 v4 w' => ∃ (x3_1 : List (S73)) (x4_1 : Int), v4 = .int .i64 x4_1 ∧ Aside0 (spec_Plain.l0 kq l0 x3_1 x4_1 = some r) ∧ Aside0 (kq ≤ k) ∧ Aside0 (Kd.R k73 73 w' w.heap.size (fun _ => True) v3 x3_1) ∧ Aside0 (Below w.heap.size w w'))
 case atStart => exact ⟨(y101), (0), (by first | rfl | (simp; done) | (simp [*]; done)), H', ⟨Nat.le_refl _⟩, ⟨by (with_reducible repeat (first | apply Kd.R_alloc | apply Kd.R_drewN | apply Kd.R_drew)); exact HO103.out⟩, ⟨by repeat (first | (with_reducible first | exact HB.out | apply below_alloc | apply pw_below_drewN | apply below_drew1) | exact HB.out)⟩⟩
 case round =>
  clear H'
  try clear c2
  try clear p2
  obtain ⟨x3_1, x4_1, rfl, HA, HK1, HO_3, HB⟩ := hrel
  cases gk with
  | zero => exact absurd HA.out (by simp [spec_Plain.l0])
  | succ k1 =>
   have H := HA.out
   clear HA
   simp only [spec_Plain.l0] at H
   by_cases c4 : x4_1 < (l0.length : Int)
   ·rw [if_pos c4] at H
    have c4b0 : decide (x4_1 < (l0.length : Int)) = true := decide_eq_true c4
    clear c4
    by_cases c5 : 0 ≤ x4_1
    ·rw [if_pos c5] at H
     have c5b0 : decide (0 ≤ x4_1) = true := decide_eq_true c5
     clear c5
     by_cases c6 : ((rd_T73 l0 x4_1).f0) ≥ 0
     ·rw [if_pos c6] at H
      have c6b0 : decide (0 ≤ ((rd_T73 l0 x4_1).f0)) = true := decide_eq_true c6
      clear c6
      by_cases c7 : x3_1.length < 5864062014805
      ·rw [if_pos c7] at H
       have LMc7 := Aside0.mk c7
       clear c7
       obtain ⟨y106, hy106⟩ : ∃ y_ : List (S73), y_ = (x3_1 ++ [(⟨(rd_T73 l0 x4_1).f0, (rd_T73 l0 x4_1).f1, (rd_T73 l0 x4_1).f2⟩ : S73)]) := ⟨_, rfl⟩
       replace H : (spec_Plain.l0 k1 l0 y106 (wrap64 (x4_1 + 1))) = some r := by first | (rw [hy106]; with_reducible exact H) | (have H2_ := (Option.bind_some _ _).symm.trans H; rw [hy106]; with_reducible exact H2_) | (have H2_ := (Option.bind_some _ _).symm.trans H; with_reducible exact H2_) | with_reducible exact H | (rw [hy106]; exact H) | exact H
       have Ny106 := Aside0.mk hy106
       clear hy106
       have H' := Aside0.mk H
       clear H
       have p104 : 0 ≤ (x4_1 : Int) := of_decide_eq_true (by first | (with_reducible assumption) | assumption)
       have q104 : x4_1 < (l0.length : Int) := of_decide_eq_true (by first | (with_reducible assumption) | assumption)
       obtain ⟨ad104, e104, hx104_0, hx104_1, hx104_2⟩ := at_T73 HR0.out x4_1 p104 q104
       cases e104
       replace hx104_0 := (HB.out.cell (World.block_lt_of_cell? w _ hx104_0)).trans hx104_0
       replace hx104_1 := (HB.out.cell (World.block_lt_of_cell? w _ hx104_1)).trans hx104_1
       replace hx104_2 := (HB.out.cell (World.block_lt_of_cell? w _ hx104_2)).trans hx104_2
       replace p104 := eq_true p104
       replace q104 := eq_true q104
       have p105 : 0 ≤ (x4_1 : Int) := of_decide_eq_true (by first | (with_reducible assumption) | assumption)
       have q105 : x4_1 < (l0.length : Int) := of_decide_eq_true (by first | (with_reducible assumption) | assumption)
       obtain ⟨ad105, e105, hx105_0, hx105_1, hx105_2⟩ := at_T73 HR0.out x4_1 p105 q105
       obtain rfl : ad104 = ad105 := (by injection e105)
       replace hx105_0 := (HB.out.cell (World.block_lt_of_cell? w _ hx105_0)).trans hx105_0
       replace hx105_1 := (HB.out.cell (World.block_lt_of_cell? w _ hx105_1)).trans hx105_1
       replace hx105_2 := (HB.out.cell (World.block_lt_of_cell? w _ hx105_2)).trans hx105_2
       replace p105 := eq_true p105
       replace q105 := eq_true q105
       go_wp2_with (first | ((with_reducible refine gate_builtin (b := .append) (xs := #[.tmp 18, .tmp 23]) rfl ?_); at_builtin; refine Kd.R_append k73 (w0 := w) w.heap.size rfl (.tmp 18) (.tmp 23) 31 73 (.agg #[(.int .i64 0), (.int .i64 0), (.int .i64 0)]) 24 rfl Try.underlying31 info73 rfl (by decide) (by omega) u3 x3_1 (⟨(rd_T73 l0 x4_1).f0, (rd_T73 l0 x4_1).f1, (rd_T73 l0 x4_1).f2⟩ : S73) [.int .i64 ((rd_T73 l0 x4_1).f0), .int .i64 ((rd_T73 l0 x4_1).f1), .int .i64 ((rd_T73 l0 x4_1).f2)] (fun _ => True) (fun _ => False) rfl rfl ?aP (fun _ hk => hk.elim) ?aF ?aO ?aB ?aS ?aL ?_; (case aP => exact k73_mkM _ _ _ (⟨(rd_T73 l0 x4_1).f0, (rd_T73 l0 x4_1).f1, (rd_T73 l0 x4_1).f2⟩ : S73)); (case aB => exact (by repeat (first | (with_reducible first | exact HB.out | apply below_alloc | apply pw_below_drewN | apply below_drew1) | exact HB.out))); (case aF => exact (fun _ _ => trivial)); (case aO => exact (by (with_reducible repeat (first | apply Kd.R_alloc | apply Kd.R_drewN | apply Kd.R_drew)); exact HO_3.out)); (case aS => exact (below_size (by repeat (first | (with_reducible first | exact HB.out | apply below_alloc | apply pw_below_drewN | apply below_drew1) | exact HB.out)))); (case aL => have := LMc7.out; omega); intro v107 w8 ho hb hg hat; rw [← Ny106.out] at ho; have n0_ := Aside0.mk (hb); have n1_ := Aside0.mk (ho); clear HB; clear HO_3; have HB := n0_; have HO108 := n1_; clear n0_ n1_; clear ho hb hg hat))
       go_roundg k1
       case measure => have := HK1.out; omega
       case rel => exact ⟨(y106), (wrap64 (x4_1 + 1)), (by first | rfl | (simp; done) | (simp [*]; done)), H', ⟨by have := HK1.out; omega⟩, ⟨by (with_reducible repeat (first | apply Kd.R_alloc | apply Kd.R_drewN | apply Kd.R_drew)); exact HO108.out⟩, ⟨by repeat (first | (with_reducible first | exact HB.out | apply below_alloc | apply pw_below_drewN | apply below_drew1) | exact HB.out)⟩⟩
      ·rw [if_neg c7] at H
       exact absurd H (by simp)
     ·rw [if_neg c6] at H
      have c6b0 : decide (0 ≤ ((rd_T73 l0 x4_1).f0)) = false := decide_eq_false c6
      clear c6
      have H' := Aside0.mk H
      clear H
      have p104 : 0 ≤ (x4_1 : Int) := of_decide_eq_true (by first | (with_reducible assumption) | assumption)
      have q104 : x4_1 < (l0.length : Int) := of_decide_eq_true (by first | (with_reducible assumption) | assumption)
      obtain ⟨ad104, e104, hx104_0, hx104_1, hx104_2⟩ := at_T73 HR0.out x4_1 p104 q104
      cases e104
      replace hx104_0 := (HB.out.cell (World.block_lt_of_cell? w _ hx104_0)).trans hx104_0
      replace hx104_1 := (HB.out.cell (World.block_lt_of_cell? w _ hx104_1)).trans hx104_1
      replace hx104_2 := (HB.out.cell (World.block_lt_of_cell? w _ hx104_2)).trans hx104_2
      replace p104 := eq_true p104
      replace q104 := eq_true q104
      go_wp2
      go_roundg k1
      case measure => have := HK1.out; omega
      case rel => exact ⟨(x3_1), (wrap64 (x4_1 + 1)), (by first | rfl | (simp; done) | (simp [*]; done)), H', ⟨by have := HK1.out; omega⟩, ⟨by (with_reducible repeat (first | apply Kd.R_alloc | apply Kd.R_drewN | apply Kd.R_drew)); exact HO_3.out⟩, ⟨by repeat (first | (with_reducible first | exact HB.out | apply below_alloc | apply pw_below_drewN | apply below_drew1) | exact HB.out)⟩⟩
    ·rw [if_neg c5] at H
     exact absurd H (by simp)
   ·rw [if_neg c4] at H
    have c4b0 : decide (x4_1 < (l0.length : Int)) = false := decide_eq_false c4
    clear c4
    obtain rfl := Option.some.inj H
    go_wp2
    go_ret
    exact ⟨_, by first | rfl | (simp [errW_none, errW_some] <;> rfl) | (simp [*, errW_none, errW_some] <;> rfl), by (with_reducible repeat (first | apply Kd.R_alloc | apply Kd.R_drewN | apply Kd.R_drew)); exact HO_3.out, by repeat (first | (with_reducible first | exact HB.out | apply below_alloc | apply pw_below_drewN | apply below_drew1) | exact HB.out)⟩

end Go.Proofs.Ytimdoghlnegpgaa.P
/- What the printed Plain of the reference answers: the items of a kind of 0 or more. -/
namespace Go.Proofs.Ytimdoghlnegpgaa.P
open Go.RowKit Go.Proofs.YtimdoghlnegpgaaW.PrintWords Go.Proofs.YtimdoghlnegpgaaW.PrintLast Go.Proofs.YtimdoghlnegpgaaW.PrintMore Go.Proofs.YtimdoghlnegpgaaEv
set_option linter.unusedVariables false
set_option linter.unusedSimpArgs false
theorem plainB_le (l : List S73) : (plainB l).length ≤ l.length := List.length_filter_le _ _
theorem spec_Plain_ev (l : List S73) (hl : l.length ≤ 1048576) : Ev (fun k => spec_Plain.f k l) (plainB l) := by
  unfold spec_Plain.f plainB
  have key := down l.length (fun i => ∀ out : List S73, out.length ≤ i → Ev (fun k => spec_Plain.l0 k l out (i : Nat)) (out ++ (l.drop i).filter fun x => !decide (x.f0 < 0))) ?_ ?_ 0 (by omega) [] (by simp)
  · exact key
  · intro out ho
    rw [ev_succ]
    simp only [spec_Plain.l0, ev_ite, ev_some]
    rw [if_neg (by omega), List.drop_length]
    simp
  · intro i hi ih out ho
    rw [ev_succ, drop_cons l z73 i hi]
    have hr : l.getD i z73 = rd_T73 l i := by simp [rd_T73]
    rw [hr]
    simp only [spec_Plain.l0, ev_ite]
    rw [if_pos (by omega), if_pos (by omega), wrap_succ hi (by omega)]
    by_cases h0 : (rd_T73 l i).f0 ≥ 0
    · rw [if_pos h0, if_pos (by omega)]
      refine ev_congr (ih _ (by simp; omega)) ?_
      rw [List.filter_cons, if_pos (by simp; omega), List.append_assoc]
      rfl
    · rw [if_neg h0]
      refine ev_congr (ih _ (by omega)) ?_
      rw [List.filter_cons, if_neg (by simp; omega)]
end Go.Proofs.Ytimdoghlnegpgaa.P
/- The reference's draws end: next, below, once, word, near, off, size. -/
namespace Go.Proofs.Ytimdoghlnegpgaa.P
open Go.RowKit Go.Proofs.YtimdoghlnegpgaaW.PrintWords Go.Proofs.YtimdoghlnegpgaaW.PrintLast Go.Proofs.YtimdoghlnegpgaaW.PrintMore Go.Proofs.YtimdoghlnegpgaaEv
set_option linter.unusedVariables false
set_option linter.unusedSimpArgs false

/-- The code that draws, and the place in it. -/
def Dr (b : List Int) (p : Int) : Prop := (∀ x ∈ b, 0 ≤ x ∧ x ≤ 255) ∧ 0 ≤ p ∧ p ≤ b.length ∧ b.length ≤ 1048576
theorem next_ok {b : List Int} {p : Int} (h : Dr b p) : ∃ v p', spec_l1Rd_next.f b p = some (v, p') ∧ 0 ≤ v ∧ v ≤ 255 ∧ Dr b p' := by
  obtain ⟨hb, h0, h1, h2⟩ := h
  unfold spec_l1Rd_next.f
  by_cases hp : p ≥ (b.length : Int)
  · rw [if_pos hp]
    exact ⟨0, p, rfl, by omega, by omega, hb, h0, h1, h2⟩
  · rw [if_neg hp, wrap_id (x := p + 1) (by omega) (by omega), show p + 1 - 1 = p by omega, wrap_id (x := p) (by omega) (by omega), if_pos h0, if_pos (by omega)]
    have hm := hb (rd b p) (by
      unfold rd
      rw [List.getD_eq_getElem?_getD, List.getElem?_eq_getElem (by omega)]
      exact List.getElem_mem _)
    rw [wrap_id (x := rd b p) (by omega) (by omega)]
    exact ⟨_, _, rfl, hm.1, hm.2, hb, by omega, by omega, h2⟩
theorem tmod_ok {x n : Int} (h0 : 0 ≤ x) (hn : 0 < n) : 0 ≤ Int.tmod x n ∧ Int.tmod x n < n := by
  rw [Int.tmod_eq_emod_of_nonneg h0]
  exact ⟨Int.emod_nonneg _ (by omega), Int.emod_lt_of_pos _ hn⟩
theorem below_ok {b : List Int} {p : Int} (h : Dr b p) (n : Int) : ∃ v p', spec_l1Rd_below.f b p n = some (v, p') ∧ 0 ≤ v ∧ (1 ≤ n → v < n) ∧ Dr b p' := by
  unfold spec_l1Rd_below.f
  by_cases h1 : n ≤ 1
  · rw [if_pos h1]
    exact ⟨0, p, rfl, by omega, by omega, h⟩
  rw [if_neg h1]
  obtain ⟨v, q, e, hv0, hv1, hq⟩ := next_ok h
  by_cases h2 : n ≤ 256
  · rw [if_pos h2, e]
    simp only [Option.bind_some]
    rw [if_neg (by omega)]
    have := tmod_ok hv0 (show 0 < n by omega)
    exact ⟨_, _, rfl, this.1, fun _ => this.2, hq⟩
  · rw [if_neg h2, e]
    simp only [Option.bind_some]
    obtain ⟨v2, q2, e2, hw0, hw1, hq2⟩ := next_ok hq
    rw [e2]
    simp only [Option.bind_some]
    rw [if_neg (by omega), wrap_id (x := v * 256) (by omega) (by omega), wrap_id (x := v * 256 + v2) (by omega) (by omega)]
    have := tmod_ok (show 0 ≤ v * 256 + v2 by omega) (show 0 < n by omega)
    exact ⟨_, _, rfl, this.1, fun _ => this.2, hq2⟩
theorem once_ok {b : List Int} {p : Int} (h : Dr b p) (n : Int) : ∃ v p', spec_l1Rd_once.f b p n = some (v, p') ∧ Dr b p' := by
  unfold spec_l1Rd_once.f
  obtain ⟨v, q, e, _, _, hq⟩ := below_ok h n
  rw [e]
  exact ⟨_, _, rfl, hq⟩
theorem size_ok {b : List Int} {p : Int} (h : Dr b p) (per most : Int) (hp : 1 ≤ per) (hm : 1 ≤ most) (hm2 : most ≤ 1000000) : ∃ v p', spec_l1Rd_size.f b p per most = some (v, p') ∧ 1 ≤ v ∧ v ≤ most ∧ Dr b p' := by
  have hd0 : 0 ≤ (b.length : Int) / per := Int.ediv_nonneg (by omega) (by omega)
  have hd1 : (b.length : Int) / per ≤ b.length := Int.ediv_le_self _ (by omega)
  have h2 := h.2.2.2
  unfold spec_l1Rd_size.f
  rw [if_neg (by omega), wrap_id (x := (b.length : Int) / per) (by omega) (by omega), wrap_id (x := 1 + (b.length : Int) / per) (by omega) (by omega)]
  by_cases hc : 1 + (b.length : Int) / per > most
  · rw [if_pos hc]
    obtain ⟨v, q, e, h0, h1, hq⟩ := below_ok h most
    have := h1 hm
    rw [e]
    simp only [Option.bind_some]
    rw [wrap_id (x := 1 + v) (by omega) (by omega)]
    exact ⟨_, _, rfl, by omega, by omega, hq⟩
  · rw [if_neg hc]
    obtain ⟨v, q, e, h0, h1, hq⟩ := below_ok h (1 + (b.length : Int) / per)
    have := h1 (by omega)
    rw [e]
    simp only [Option.bind_some]
    rw [wrap_id (x := 1 + v) (by omega) (by omega)]
    exact ⟨_, _, rfl, by omega, by omega, hq⟩
theorem word_ok {b : List Int} : ∀ (n : Nat) (i : Int) (x p : Int), Dr b p → 0 ≤ i → 8 - i = n → ∃ v p', Ev (fun k => spec_l1Rd_word.l0 k x i b p) (v, p') ∧ Dr b p' := by
  intro n
  induction n with
  | zero =>
    intro i x p h h0 hi
    refine ⟨x, p, ?_, h⟩
    rw [ev_succ]
    simp only [spec_l1Rd_word.l0, ev_ite, ev_some]
    rw [if_neg (by omega)]
    trivial
  | succ n ih =>
    intro i x p h h0 hi
    obtain ⟨v, q, e, _, _, hq⟩ := next_ok h
    obtain ⟨r, q2, e2, hq2⟩ := ih (i + 1) (Go.bits .or .u64 (IntKind.u64.wrap (x * 256)) (IntKind.u64.wrap v)) q hq (by omega) (by omega)
    refine ⟨r, q2, ?_, hq2⟩
    rw [ev_succ]
    simp only [spec_l1Rd_word.l0, ev_ite, e, Option.bind_some]
    rw [if_pos (by omega), wrap_id (x := i + 1) (by omega) (by omega)]
    exact e2
theorem near_ok {b : List Int} {p : Int} (h : Dr b p) (lo hi : Int) (hl : 0 ≤ lo) (hh : hi ≤ 1000000000) : ∃ v p', Ev (fun k => spec_l1Rd_near.f k b p lo hi) (v, p') ∧ Dr b p' := by
  unfold spec_l1Rd_near.f
  obtain ⟨v, q, e, _, _, hq⟩ := below_ok h 8
  rw [e]
  simp only [Option.bind_some, ev_ite]
  by_cases h0 : v = 0
  · exact ⟨_, _, by rw [if_pos h0]; exact ev_some.2 rfl, hq⟩
  by_cases h1 : v = 1
  · exact ⟨_, _, by rw [if_neg h0, if_pos h1]; exact ev_some.2 rfl, hq⟩
  by_cases h2 : hi < lo
  · exact ⟨_, _, by rw [if_neg h0, if_neg h1, if_pos h2]; exact ev_some.2 rfl, hq⟩
  obtain ⟨x, q2, e2, hq2⟩ := word_ok 8 0 0 q hq (by omega) (by omega)
  have e3 : Ev (fun k => spec_l1Rd_word.f k b q) (x, q2) := e2
  have hw : IntKind.u64.wrap (hi - lo + 1) = hi - lo + 1 := by
    rw [IntKind.wrap_u64]
    omega
  refine ⟨wrap64 (lo + wrap64 (Int.tmod (x / 2) (hi - lo + 1))), q2, ?_, hq2⟩
  rw [if_neg h0, if_neg h1, if_neg h2, ev_bind e3, wrap_id (x := hi - lo) (by omega) (by omega), wrap_id (x := hi - lo + 1) (by omega) (by omega), hw]
  simp only [ev_ite]
  rw [if_neg (by omega)]
  exact ev_some.2 rfl
theorem off_ok {b : List Int} {p : Int} (h : Dr b p) (lo hi : Int) (hl : 0 ≤ lo) (hh : hi ≤ 1000000000) : ∃ v p', Ev (fun k => spec_l1Rd_off.f k b p lo hi) (v, p') ∧ Dr b p' := by
  unfold spec_l1Rd_off.f
  obtain ⟨o, q, e, hq⟩ := once_ok h 24
  rw [e]
  simp only [Option.bind_some, ev_ite]
  cases o
  · obtain ⟨v, q2, e2, hq2⟩ := near_ok hq lo hi hl hh
    refine ⟨v, q2, ?_, hq2⟩
    rw [if_neg (by simp), ev_bind e2]
    exact ev_some.2 rfl
  · obtain ⟨v, q2, e2, h0, h1, hq2⟩ := below_ok hq 4
    have := h1 (by omega)
    refine ⟨rd [wrap64 (lo - 1), wrap64 (hi + 1), -9223372036854775808, 9223372036854775807] v, q2, ?_, hq2⟩
    rw [if_pos rfl, e2]
    simp only [Option.bind_some, ev_ite]
    rw [if_pos h0, if_pos (by simp; omega)]
    exact ev_some.2 rfl
end Go.Proofs.Ytimdoghlnegpgaa.P
/- The reference's draw of items ends, with at most 5001 items. -/
namespace Go.Proofs.Ytimdoghlnegpgaa.P
open Go.RowKit Go.Proofs.YtimdoghlnegpgaaW.PrintWords Go.Proofs.YtimdoghlnegpgaaW.PrintLast Go.Proofs.YtimdoghlnegpgaaW.PrintMore Go.Proofs.YtimdoghlnegpgaaEv
set_option linter.unusedVariables false
set_option linter.unusedSimpArgs false

theorem items_l3_ok {b : List Int} : ∀ (n : Nat) (out : List S73) (p : Int), Dr b p → 1 ≤ out.length → out.length + n = 5001 → ∃ o q, Ev (fun k => spec_l1Rd_items.l3 k out b p) (o, q) ∧ Dr b q ∧ o.length ≤ 5001 := by
  intro n
  induction n with
  | zero =>
    intro out p h h1 hn
    obtain ⟨v, q, e, h0, hv, hq⟩ := below_ok h 2
    have := hv (by omega)
    refine ⟨out, q, ?_, hq, by omega⟩
    rw [ev_succ]
    simp only [spec_l1Rd_items.l3, e, Option.bind_some, ev_ite]
    rw [wrap_id (x := 5000 + v) (by omega) (by omega), if_neg (by omega)]
    exact ev_some.2 rfl
  | succ n ih =>
    intro out p h h1 hn
    obtain ⟨v, q, e, h0, hv, hq⟩ := below_ok h 2
    have := hv (by omega)
    by_cases hc : (out.length : Int) < 5000 + v
    · obtain ⟨o, q2, e2, hq2, hl⟩ := ih (out ++ [⟨(rd_T73 out ((out.length : Int) - 1)).f0, (rd_T73 out ((out.length : Int) - 1)).f1, (rd_T73 out ((out.length : Int) - 1)).f2⟩]) q hq (by simp) (by simp; omega)
      refine ⟨o, q2, ?_, hq2, hl⟩
      rw [ev_succ]
      simp only [spec_l1Rd_items.l3, e, Option.bind_some, ev_ite]
      rw [wrap_id (x := 5000 + v) (by omega) (by omega), if_pos hc, wrap_id (x := (out.length : Int) - 1) (by omega) (by omega), if_pos (by omega), if_pos (by omega), if_pos (by omega)]
      exact e2
    · refine ⟨out, q, ?_, hq, by omega⟩
      rw [ev_succ]
      simp only [spec_l1Rd_items.l3, e, Option.bind_some, ev_ite]
      rw [wrap_id (x := 5000 + v) (by omega) (by omega), if_neg hc]
      exact ev_some.2 rfl
/-- The next line's loop ends. -/
def NextOk (b : List Int) (cols : List Int) (line : Int) : Prop := ∀ (out : List S73) (depth p : Int), Dr b p → 1 ≤ out.length → (out.length : Int) ≤ 40 * line → -4 * line ≤ depth → depth ≤ 4 * line → ∃ o q, Ev (fun k => spec_l1Rd_items.l0 k out cols depth (line + 1) b p) (o, q) ∧ Dr b q ∧ o.length ≤ 5001
theorem items_l2_ok {b cols : List Int} {line : Int} (hl : 1 ≤ line ∧ line ≤ 9) (hN : NextOk b cols line) (col : Int) : ∀ (n : Nat) (out : List S73) (depth p : Int), Dr b p → 1 ≤ out.length → depth ≤ n → (out.length : Int) + n ≤ 40 * line → -4 * line ≤ depth → depth ≤ 4 * line → ∃ o q, Ev (fun k => spec_l1Rd_items.l2 k out cols depth line col b p) (o, q) ∧ Dr b q ∧ o.length ≤ 5001 := by
  intro n
  induction n with
  | zero =>
    intro out depth p h h1 hd ho hd0 hd1
    obtain ⟨o, q, e, hq, hol⟩ := hN out depth p h h1 (by omega) hd0 hd1
    refine ⟨o, q, ?_, hq, hol⟩
    rw [ev_succ]
    simp only [spec_l1Rd_items.l2, ev_ite]
    rw [if_neg (by omega), wrap_id (x := line + 1) (by omega) (by omega)]
    exact e
  | succ n ih =>
    intro out depth p h h1 hd ho hd0 hd1
    by_cases hc : depth > 0
    · obtain ⟨v, q, e, hq⟩ := once_ok h 6
      cases v
      · obtain ⟨o, q2, e2, hq2, hol⟩ := ih (out ++ [⟨4, line, col⟩]) (depth - 1) q hq (by simp) (by omega) (by simp; omega) (by omega) (by omega)
        refine ⟨o, q2, ?_, hq2, hol⟩
        rw [ev_succ]
        simp only [spec_l1Rd_items.l2, ev_ite, e, Option.bind_some]
        rw [if_pos hc, if_neg (by simp), if_pos (by omega), wrap_id (x := depth - 1) (by omega) (by omega)]
        exact e2
      · obtain ⟨o, q2, e2, hq2, hol⟩ := hN out depth q hq h1 (by omega) hd0 hd1
        refine ⟨o, q2, ?_, hq2, hol⟩
        rw [ev_succ]
        simp only [spec_l1Rd_items.l2, ev_ite, e, Option.bind_some]
        rw [if_pos hc, if_pos trivial, wrap_id (x := line + 1) (by omega) (by omega)]
        exact e2
    · obtain ⟨o, q, e, hq, hol⟩ := hN out depth p h h1 (by omega) hd0 hd1
      refine ⟨o, q, ?_, hq, hol⟩
      rw [ev_succ]
      simp only [spec_l1Rd_items.l2, ev_ite]
      rw [if_neg hc, wrap_id (x := line + 1) (by omega) (by omega)]
      exact e
theorem items_l1_ok {b cols : List Int} {line : Int} (hl : 1 ≤ line ∧ line ≤ 9) (hN : NextOk b cols line) : ∀ (n : Nat) (out : List S73) (depth col p : Int), n ≤ 4 → Dr b p → (1 ≤ n ∨ 1 ≤ out.length) → (out.length : Int) ≤ 40 * (line - 1) + (4 - n) → -4 * (line - 1) - (4 - n) ≤ depth → depth ≤ 4 * (line - 1) + (4 - n) → ∃ o q, Ev (fun k => spec_l1Rd_items.l1 k out cols depth line col n b p) (o, q) ∧ Dr b q ∧ o.length ≤ 5001 := by
  intro n
  induction n with
  | zero =>
    intro out depth col p h4 h h1 ho hd0 hd1
    obtain ⟨o, q, e, hq, hol⟩ := items_l2_ok hl hN col (4 * line).toNat out depth p h (by omega) (by omega) (by omega) (by omega) (by omega)
    refine ⟨o, q, ?_, hq, hol⟩
    rw [ev_succ]
    simp only [spec_l1Rd_items.l1, ev_ite]
    rw [if_neg (by omega)]
    exact e
  | succ n ih =>
    intro out depth col p h4 h h1 ho hd0 hd1
    have j5 : ∀ (kind q : Int), Dr b q → ∃ o q2, Ev (fun k => spec_l1Rd_items.j5 k out cols depth line col ((n + 1 : Nat) : Int) kind b q) (o, q2) ∧ Dr b q2 ∧ o.length ≤ 5001 := by
      intro kind q hq
      obtain ⟨v, q2, e, _, _, hq2⟩ := below_ok hq 3
      have hd : ∀ d : Int, depth - 1 ≤ d → d ≤ depth + 1 → ∃ o q3, Ev (fun k => spec_l1Rd_items.l1 k (out ++ [⟨kind, line, col⟩]) cols d line (wrap64 (wrap64 (col + 1) + v)) n b q2) (o, q3) ∧ Dr b q3 ∧ o.length ≤ 5001 := fun d h0 h1 =>
        ih _ d _ q2 (by omega) hq2 (.inr (by simp)) (by simp; omega) (by omega) (by omega)
      have hwn : wrap64 (((n + 1 : Nat) : Int) - 1) = (n : Int) := by rw [wrap_id (by omega) (by omega)]; omega
      have hol : out.length < 5864062014805 := by omega
      by_cases h3 : kind = 3
      · obtain ⟨o, q3, e3, hq3, ho3⟩ := hd (depth + 1) (by omega) (by omega)
        refine ⟨o, q3, ?_, hq3, ho3⟩
        rw [ev_succ]
        simp only [spec_l1Rd_items.j5, ev_ite, e, Option.bind_some]
        rw [if_pos h3, if_neg (by omega), if_pos hol, hwn, wrap_id (x := depth + 1) (by omega) (by omega)]
        exact e3
      · by_cases h4 : kind = 4
        · obtain ⟨o, q3, e3, hq3, ho3⟩ := hd (depth - 1) (by omega) (by omega)
          refine ⟨o, q3, ?_, hq3, ho3⟩
          rw [ev_succ]
          simp only [spec_l1Rd_items.j5, ev_ite, e, Option.bind_some]
          rw [if_neg h3, if_pos h4, if_pos hol, hwn, wrap_id (x := depth - 1) (by omega) (by omega)]
          exact e3
        · obtain ⟨o, q3, e3, hq3, ho3⟩ := hd depth (by omega) (by omega)
          refine ⟨o, q3, ?_, hq3, ho3⟩
          rw [ev_succ]
          simp only [spec_l1Rd_items.j5, ev_ite, e, Option.bind_some]
          rw [if_neg h3, if_neg h4, if_pos hol, hwn]
          exact e3
    have j4 : ∀ (kind q : Int) (c : Bool), Dr b q → ∃ o q2, Ev (fun k => spec_l1Rd_items.j4 k out cols depth line col ((n + 1 : Nat) : Int) kind c b q) (o, q2) ∧ Dr b q2 ∧ o.length ≤ 5001 := by
      intro kind q c hq
      cases c
      · obtain ⟨o, q2, e, hq2, ho2⟩ := j5 kind q hq
        refine ⟨o, q2, ?_, hq2, ho2⟩
        rw [ev_succ]
        simp only [spec_l1Rd_items.j4, ev_ite]
        rw [if_neg (by simp)]
        exact e
      · obtain ⟨o, q2, e, hq2, ho2⟩ := j5 0 q hq
        refine ⟨o, q2, ?_, hq2, ho2⟩
        rw [ev_succ]
        simp only [spec_l1Rd_items.j4, ev_ite]
        rw [if_pos trivial]
        exact e
    obtain ⟨v, q, e, _, _, hq⟩ := below_ok h 5
    by_cases h4' : v = 4
    · by_cases h0 : depth = 0
      · obtain ⟨c, q2, e2, hq2⟩ := once_ok hq 20
        obtain ⟨o, q3, e3, hq3, ho3⟩ := j4 v q2 (!c) hq2
        refine ⟨o, q3, ?_, hq3, ho3⟩
        rw [ev_succ]
        simp only [spec_l1Rd_items.l1, ev_ite, e, Option.bind_some]
        rw [if_pos (by omega), if_pos h4', if_pos h0, e2]
        exact e3
      · obtain ⟨o, q3, e3, hq3, ho3⟩ := j4 v q false hq
        refine ⟨o, q3, ?_, hq3, ho3⟩
        rw [ev_succ]
        simp only [spec_l1Rd_items.l1, ev_ite, e, Option.bind_some]
        rw [if_pos (by omega), if_pos h4', if_neg h0]
        exact e3
    · obtain ⟨o, q3, e3, hq3, ho3⟩ := j4 v q false hq
      refine ⟨o, q3, ?_, hq3, ho3⟩
      rw [ev_succ]
      simp only [spec_l1Rd_items.l1, ev_ite, e, Option.bind_some]
      rw [if_pos (by omega), if_neg h4']
      exact e3
theorem items_j1_ok {b cols : List Int} {line : Int} (hl : 1 ≤ line ∧ line ≤ 9) (hN : NextOk b cols line) (out : List S73) (depth col p : Int) (h : Dr b p) (ho : (out.length : Int) ≤ 40 * (line - 1)) (hd0 : -4 * (line - 1) ≤ depth) (hd1 : depth ≤ 4 * (line - 1)) : ∃ o q, Ev (fun k => spec_l1Rd_items.j1 k out cols depth line col b p) (o, q) ∧ Dr b q ∧ o.length ≤ 5001 := by
  have j2 : ∀ (c q : Int), Dr b q → ∃ o q2, Ev (fun k => spec_l1Rd_items.j2 k out cols depth line c b q) (o, q2) ∧ Dr b q2 ∧ o.length ≤ 5001 := by
    intro c q hq
    obtain ⟨v, q2, e, h0, h1, hq2⟩ := below_ok hq 4
    have := h1 (by omega)
    obtain ⟨o, q3, e3, hq3, ho3⟩ := items_l1_ok hl hN (1 + v).toNat out depth c q2 (by omega) hq2 (.inl (by omega)) (by omega) (by omega) (by omega)
    refine ⟨o, q3, ?_, hq3, ho3⟩
    rw [ev_succ]
    simp only [spec_l1Rd_items.j2, e, Option.bind_some]
    rw [wrap_id (x := 1 + v) (by omega) (by omega)]
    rw [Int.toNat_of_nonneg (by omega)] at e3
    exact e3
  obtain ⟨c, q, e, hq⟩ := once_ok h 20
  cases c
  · obtain ⟨o, q2, e2, hq2, ho2⟩ := j2 col q hq
    refine ⟨o, q2, ?_, hq2, ho2⟩
    rw [ev_succ]
    simp only [spec_l1Rd_items.j1, e, Option.bind_some, ev_ite]
    rw [if_neg (by simp)]
    exact e2
  · obtain ⟨v, q1, e1, _, _, hq1⟩ := below_ok hq 6
    obtain ⟨o, q2, e2, hq2, ho2⟩ := j2 (wrap64 (1 + v)) q1 hq1
    refine ⟨o, q2, ?_, hq2, ho2⟩
    rw [ev_succ]
    simp only [spec_l1Rd_items.j1, e, e1, Option.bind_some, ev_ite]
    rw [if_pos trivial]
    exact e2
theorem items_out_ok {b : List Int} (line : Int) (cols : List Int) (out : List S73) (depth p v q : Int) (e : spec_l1Rd_size.f b p 4 9 = some (v, q)) (hq : Dr b q) (hlt : ¬ line ≤ v) (hout : 1 ≤ out.length) (ho : (out.length : Int) ≤ 5000) : ∃ o q, Ev (fun k => spec_l1Rd_items.l0 k out cols depth line b p) (o, q) ∧ Dr b q ∧ o.length ≤ 5001 := by
  obtain ⟨i, q1, e1, hi0, hi1, hq1⟩ := below_ok hq (out.length : Int)
  obtain ⟨c, q2, e2, _, _, hq2⟩ := below_ok hq1 40
  have hil := hi1 (by omega)
  obtain ⟨w, q3, e3, hq3⟩ := off_ok hq2 1 9 (by omega) (by omega)
  obtain ⟨o3, q4, e4, hq4, hl4⟩ := items_l3_ok (5001 - out.length) out q2 hq2 hout (by omega)
  have goal : ∃ o q, Ev (fun k => if c = 0 then (if 0 ≤ i then (if i < (out.length : Int) then (some (out.set i.toNat (⟨-1, (rd_T73 out i).f1, (rd_T73 out i).f2⟩ : S73), q2)) else none) else none) else (if c = 1 then ((spec_l1Rd_off.f k b q2 1 9).bind fun bt => (if 0 ≤ i then (if i < (out.length : Int) then (some (out.set i.toNat (⟨(rd_T73 out i).f0, bt.1, (rd_T73 out i).f2⟩ : S73), bt.2)) else none) else none)) else (if c = 2 then ((spec_l1Rd_off.f k b q2 1 9).bind fun bt => (if 0 ≤ i then (if i < (out.length : Int) then (some (out.set i.toNat (⟨(rd_T73 out i).f0, (rd_T73 out i).f1, bt.1⟩ : S73), bt.2)) else none) else none)) else (if c = 3 then (spec_l1Rd_items.l3 k out b q2) else (if c = 4 then (if 0 ≤ (out.length : Int) then (some (out.take (0 : Int).toNat, q2)) else none) else (some (out, q2))))))) (o, q) ∧ Dr b q ∧ o.length ≤ 5001 := by
    simp only [ev_ite, ev_bind e3]
    by_cases c0 : c = 0
    · exact ⟨_, _, by rw [if_pos c0, if_pos hi0, if_pos hil]; exact ev_some.2 rfl, hq2, by simp; omega⟩
    by_cases c1 : c = 1
    · exact ⟨_, _, by rw [if_neg c0, if_pos c1, if_pos hi0, if_pos hil]; exact ev_some.2 rfl, hq3, by simp; omega⟩
    by_cases c2 : c = 2
    · exact ⟨_, _, by rw [if_neg c0, if_neg c1, if_pos c2, if_pos hi0, if_pos hil]; exact ev_some.2 rfl, hq3, by simp; omega⟩
    by_cases c3 : c = 3
    · exact ⟨_, _, by rw [if_neg c0, if_neg c1, if_neg c2, if_pos c3]; exact e4, hq4, hl4⟩
    by_cases c4 : c = 4
    · exact ⟨_, _, by rw [if_neg c0, if_neg c1, if_neg c2, if_neg c3, if_pos c4, if_pos (by omega)]; exact ev_some.2 rfl, hq2, by simp⟩
    · exact ⟨_, _, by rw [if_neg c0, if_neg c1, if_neg c2, if_neg c3, if_neg c4]; exact ev_some.2 rfl, hq2, by omega⟩
  obtain ⟨o, q5, e5, hq5, ho5⟩ := goal
  refine ⟨o, q5, ?_, hq5, ho5⟩
  rw [ev_succ]
  simp only [spec_l1Rd_items.l0, e, Option.bind_some, ev_ite]
  rw [if_neg (by omega), e1]
  simp only [Option.bind_some, e2]
  simp only [ev_ite] at e5
  simpa only [ev_ite] using e5
theorem items_l0_ok {b : List Int} : ∀ (m : Nat) (line : Int) (cols : List Int) (out : List S73) (depth p : Int), line + m = 10 → 1 ≤ line → Dr b p → 1 ≤ cols.length → (cols.length : Int) ≤ line → (2 ≤ line → 1 ≤ out.length) → (out.length : Int) ≤ 40 * (line - 1) → -4 * (line - 1) ≤ depth → depth ≤ 4 * (line - 1) → ∃ o q, Ev (fun k => spec_l1Rd_items.l0 k out cols depth line b p) (o, q) ∧ Dr b q ∧ o.length ≤ 5001 := by
  intro m
  induction m with
  | zero =>
    intro line cols out depth p hm h1 h hc0 hc1 ho1 ho hd0 hd1
    obtain ⟨v, q, e, hv0, hv1, hq⟩ := size_ok h 4 9 (by omega) (by omega) (by omega)
    exact items_out_ok line cols out depth p v q e hq (by omega) (ho1 (by omega)) (by omega)
  | succ m ih =>
    intro line cols out depth p hm h1 h hc0 hc1 ho1 ho hd0 hd1
    obtain ⟨v, q, e, hv0, hv1, hq⟩ := size_ok h 4 9 (by omega) (by omega) (by omega)
    by_cases hlt : line ≤ v
    · have hN : ∀ cols2 : List Int, 1 ≤ cols2.length → (cols2.length : Int) ≤ line + 1 → NextOk b cols2 line := fun cols2 h2 h3 out2 d2 p2 hp2 ho2 ho3 hd2 hd3 => ih (line + 1) cols2 out2 d2 p2 (by omega) (by omega) hp2 h2 h3 (fun _ => ho2) (by omega) (by omega) (by omega)
      have hw : wrap64 ((cols.length : Int) - 1) = (cols.length : Int) - 1 := wrap_id (by omega) (by omega)
      obtain ⟨c, q1, e1, _, _, hq1⟩ := below_ok hq 4
      by_cases c0 : c = 0
      · obtain ⟨o, q2, e2, hq2, ho2⟩ := items_j1_ok (by omega) (hN (cols ++ [wrap64 (rd cols ((cols.length : Int) - 1) + 2)]) (by simp) (by simp; omega)) out depth (wrap64 (rd cols ((cols.length : Int) - 1) + 2)) q1 hq1 ho hd0 hd1
        refine ⟨o, q2, ?_, hq2, ho2⟩
        rw [ev_succ]
        simp only [spec_l1Rd_items.l0, e, Option.bind_some, ev_ite, hw]
        rw [if_pos hlt, if_pos (by omega), if_pos (by omega), e1]
        simp only [Option.bind_some, ev_ite]
        rw [if_pos c0, if_pos (by omega)]
        exact e2
      by_cases c1 : c = 1
      · obtain ⟨w, q3, e3, hw0, hw1, hq3⟩ := below_ok hq1 (cols.length : Int)
        have hwl := hw1 (by omega)
        have hlen : (cols.take (1 + w).toNat).length = (1 + w).toNat := by simp; omega
        obtain ⟨o, q2, e2, hq2, ho2⟩ := items_j1_ok (by omega) (hN (cols.take (1 + w).toNat) (by omega) (by omega)) out depth (rd (cols.take (1 + w).toNat) (((cols.take (1 + w).toNat).length : Int) - 1)) q3 hq3 ho hd0 hd1
        refine ⟨o, q2, ?_, hq2, ho2⟩
        rw [ev_succ]
        simp only [spec_l1Rd_items.l0, e, Option.bind_some, ev_ite, hw]
        rw [if_pos hlt, if_pos (by omega), if_pos (by omega), e1]
        simp only [Option.bind_some, ev_ite]
        rw [if_neg c0, if_pos c1, e3]
        simp only [Option.bind_some, ev_ite]
        rw [wrap_id (x := 1 + w) (by omega) (by omega), if_pos (by omega), if_pos (by omega), wrap_id (x := ((cols.take (1 + w).toNat).length : Int) - 1) (by omega) (by omega), if_pos (by omega), if_pos (by omega)]
        exact e2
      · obtain ⟨o, q2, e2, hq2, ho2⟩ := items_j1_ok (by omega) (hN cols hc0 (by omega)) out depth (rd cols ((cols.length : Int) - 1)) q1 hq1 ho hd0 hd1
        refine ⟨o, q2, ?_, hq2, ho2⟩
        rw [ev_succ]
        simp only [spec_l1Rd_items.l0, e, Option.bind_some, ev_ite, hw]
        rw [if_pos hlt, if_pos (by omega), if_pos (by omega), e1]
        simp only [Option.bind_some, ev_ite]
        rw [if_neg c0, if_neg c1]
        exact e2
    · exact items_out_ok line cols out depth p v q e hq hlt (ho1 (by omega)) (by omega)
theorem items_ok {b : List Int} {p : Int} (h : Dr b p) : ∃ o q, Ev (fun k => spec_l1Rd_items.f k b p) (o, q) ∧ Dr b q ∧ o.length ≤ 5001 :=
  items_l0_ok 9 1 [1] [] 0 p (by omega) (by omega) h (by simp) (by simp) (by omega) (by simp) (by omega) (by omega)
end Go.Proofs.Ytimdoghlnegpgaa.P
/- Statements put together are the items that were given semicolons; so are lines, and each has items of one Line alone; and without what is made the items are left. -/
namespace Go.Proofs.Ytimdoghlnegpgaa.P
open Go.RowKit Go.Proofs.YtimdoghlnegpgaaW.PrintWords Go.Proofs.YtimdoghlnegpgaaW.PrintLast Go.Proofs.YtimdoghlnegpgaaW.PrintMore Go.Proofs.YtimdoghlnegpgaaEv
set_option linter.unusedVariables false
set_option linter.unusedSimpArgs false
theorem itemsR_kind : ∀ (l : List S73) (last : Int), itemsR last l = true → ∀ x ∈ l, 0 ≤ x.f0 := by
  intro l
  induction l with
  | nil => intro last _ x hx; cases hx
  | cons y l ih =>
    intro last h x hx
    simp only [itemsR, itemB, Bool.and_eq_true, decide_eq_true_eq] at h
    rcases List.mem_cons.1 hx with rfl | hx
    · exact h.1.1.1.1
    · exact ih _ h.2 x hx
/-- Statements of items with semicolons, put together. -/
theorem stmts_flat (en : List Int) : ∀ (l : List S73) (out : List (List S73)) (now : List S73), (∀ x ∈ l, 0 ≤ x.f0) → (stmtsR (semiR en l) out now).flatten = out.flatten ++ now ++ l := by
  intro l
  induction l with
  | nil =>
    intro out now _
    simp only [semiR, stmtsR]
    split
    · simp
    · rename_i h
      have : now = [] := List.eq_nil_of_length_eq_zero (by omega)
      simp [this]
  | cons x l ih =>
    intro out now hx
    have h0 := hx x (by simp)
    have hl : ∀ y ∈ l, 0 ≤ y.f0 := fun y hy => hx y (by simp [hy])
    unfold semiR
    split
    · simp only [stmtsR]
      rw [if_neg (by omega), if_pos (by rfl), ih _ _ hl]
      simp
    · simp only [stmtsR]
      rw [if_neg (by omega), ih _ _ hl]
      simp
theorem plain_semi (en : List Int) : ∀ l : List S73, (∀ x ∈ l, 0 ≤ x.f0) → plainB (semiR en l) = l := by
  intro l
  unfold plainB
  induction l with
  | nil => intro _; rfl
  | cons x l ih =>
    intro hx
    have h0 := hx x (by simp)
    have := ih fun y hy => hx y (by simp [hy])
    unfold semiR
    split
    · rw [List.filter_cons_of_pos (by simp; omega), List.filter_cons_of_neg (by simp [semi]), this]
    · rw [List.filter_cons_of_pos (by simp; omega), this]
/-- Items of one line alone, at least one. -/
def OneLine (q : Int) (r : List S73) : Prop := r ≠ [] ∧ ∀ y ∈ r, y.f1 = q
theorem addLast_append (out : List (List S73)) (r : List S73) (x : S73) : addLast (out ++ [r]) x = out ++ [r ++ [x]] := by
  unfold addLast
  have : rd_L5 (out ++ [r]) (((out ++ [r]).length - 1 : Nat) : Int) = r := by
    rw [rd_L5_at _ _ (by simp)]
    simp
  rw [this]
  simp
theorem lines_flat : ∀ (l : List S73) (last : Int) (p : Option Int) (out : List (List S73)), itemsR last l = true → (∀ r ∈ out, ∃ q, OneLine q r) → (p = none → out = []) → (∀ q, p = some q → q = last ∧ ∃ o r, out = o ++ [r] ∧ OneLine q r) →
    (linesR p l out).flatten = out.flatten ++ l ∧ ∀ r ∈ linesR p l out, ∃ q, OneLine q r := by
  intro l
  induction l with
  | nil =>
    intro last p out _ ho _ _
    simp only [linesR]
    exact ⟨by simp, ho⟩
  | cons x l ih =>
    intro last p out hi ho hp0 hp1
    simp only [itemsR, itemB, Bool.and_eq_true, decide_eq_true_eq] at hi
    simp only [linesR]
    have fresh : (linesR (some x.f1) l (addLast (out ++ [[]]) x)).flatten = out.flatten ++ x :: l ∧ ∀ r ∈ linesR (some x.f1) l (addLast (out ++ [[]]) x), ∃ q, OneLine q r := by
      rw [addLast_append]
      have h1 : OneLine x.f1 [x] := ⟨by simp, fun y hy => by simp at hy; rw [hy]⟩
      obtain ⟨a, b⟩ := ih x.f1 (some x.f1) (out ++ [[x]]) hi.2 (fun r hr => by
        rcases List.mem_append.1 hr with h | h
        · exact ho r h
        · simp at h
          subst h
          exact ⟨_, h1⟩) (fun h => by cases h) (fun q hq => by
          cases hq
          exact ⟨rfl, out, [x], rfl, h1⟩)
      exact ⟨by simpa using a, by simpa using b⟩
    cases p with
    | none =>
      simp only [begins, if_true]
      exact fresh
    | some q =>
      by_cases hb : x.f1 > q
      · rw [if_pos (show begins (some q) x = true from decide_eq_true hb)]
        exact fresh
      · rw [if_neg (show ¬ begins (some q) x = true by rw [show begins (some q) x = false from decide_eq_false hb]; simp)]
        obtain ⟨hq, o, r, rfl, hr⟩ := hp1 q rfl
        rw [addLast_append]
        have hxq : x.f1 = q := by omega
        have h1 : OneLine x.f1 (r ++ [x]) := ⟨by simp, fun y hy => by
          rcases List.mem_append.1 hy with h | h
          · rw [hr.2 y h, hxq]
          · simp at h
            rw [h]⟩
        obtain ⟨a, b⟩ := ih x.f1 (some x.f1) (o ++ [r ++ [x]]) hi.2 (fun s hs => by
          rcases List.mem_append.1 hs with h | h
          · exact ho s (by simp [h])
          · simp at h
            subst h
            exact ⟨_, h1⟩) (fun h => by cases h) (fun q hq => by
            cases hq
            exact ⟨rfl, o, r ++ [x], rfl, h1⟩)
        exact ⟨by simpa using a, b⟩
theorem sameItems_self (l : List S73) (hl : l.length ≤ 9223372036854775807) : Ev (fun k => laws_sameItems.f k l l) true := by
  unfold laws_sameItems.f
  simp only [ev_ite, if_true]
  have key := ev_loop l.length (fun k i => laws_sameItems.l0 k l l (i : Nat)) (fun _ => true) ?_ ?_ 0 (by omega)
  · exact key
  · rw [ev_succ]
    simp [laws_sameItems.l0, ev_some]
  · intro i hi ih
    rw [ev_succ]
    simp only [laws_sameItems.l0, ev_ite, ev_some]
    rw [if_pos (by omega), if_pos (by omega), if_pos (by omega), if_neg (by simp), wrap_succ hi (by omega)]
    exact ih
theorem drawSemi_loop (o : List S73) (b : List Int) : ∀ (n : Nat) (i : Int) (en : List Int) (q : Int), Dr b q → 0 ≤ i → 5 - i = n → en.length ≤ i → ∃ e, Ev (fun k => spec_DrawSemicolons.l0 k o en i b q) (o, e) ∧ e.length ≤ 6 := by
  intro n
  induction n with
  | zero =>
    intro i en q h h0 hi he
    obtain ⟨v, q1, e1, hq1⟩ := once_ok h 20
    cases v
    · refine ⟨en, ?_, by omega⟩
      rw [ev_succ]
      simp only [spec_DrawSemicolons.l0, e1, Option.bind_some]
      rw [ev_ite, if_neg (by omega)]
      exact ev_some.2 rfl
    · obtain ⟨v2, q2, e2, hq2⟩ := off_ok hq1 0 9 (by omega) (by omega)
      refine ⟨en ++ [v2], ?_, by simp; omega⟩
      rw [ev_succ]
      simp only [spec_DrawSemicolons.l0, e1, Option.bind_some]
      rw [ev_ite, if_neg (by omega)]
      simp only [if_true]
      rw [ev_bind e2, ev_ite, if_pos (by omega)]
      exact ev_some.2 rfl
  | succ n ih =>
    intro i en q h h0 hi he
    obtain ⟨v, q1, e1, hq1⟩ := once_ok h 2
    have hw : wrap64 (i + 1) = i + 1 := wrap_id (by omega) (by omega)
    cases v
    · obtain ⟨e, a, c⟩ := ih (i + 1) en q1 hq1 (by omega) (by omega) (by omega)
      refine ⟨e, ?_, c⟩
      rw [ev_succ]
      simp only [spec_DrawSemicolons.l0, e1, Option.bind_some, hw]
      rw [ev_ite, if_pos (by omega)]
      simpa using a
    · obtain ⟨e, a, c⟩ := ih (i + 1) (en ++ [i]) q1 hq1 (by omega) (by omega) (by simp; omega)
      refine ⟨e, ?_, c⟩
      rw [ev_succ]
      simp only [spec_DrawSemicolons.l0, e1, Option.bind_some, hw, if_true]
      rw [ev_ite, if_pos (by omega), ev_ite, if_pos (by omega)]
      exact a
theorem drawSemi_ok {b : List Int} (hb : ∀ x ∈ b, 0 ≤ x ∧ x ≤ 255) (hl : b.length ≤ 1048576) : ∃ o e, Ev (fun k => spec_DrawSemicolons.f k b) (o, e) ∧ o.length ≤ 5001 ∧ e.length ≤ 6 := by
  have h0 : Dr b 0 := ⟨hb, by omega, by omega, hl⟩
  obtain ⟨o, q, e, hq, ho⟩ := items_ok h0
  obtain ⟨en, a, c⟩ := drawSemi_loop o b 5 0 [] q hq (by omega) rfl (by simp)
  refine ⟨o, en, ?_, ho, c⟩
  unfold spec_DrawSemicolons.f spec_l1Open.f
  simp only [Option.bind_some]
  rw [ev_bind e]
  exact a
end Go.Proofs.Ytimdoghlnegpgaa.P
/- The pure statement of the law FnStatements: over numbers and lists alone, the law's printed function answers true for every list of bytes. -/
namespace Go.Proofs.Ytimdoghlnegpgaa.fnStatements.Pure
open Go.RowKit Go.Proofs.YtimdoghlnegpgaaW.PrintWords Go.Proofs.YtimdoghlnegpgaaW.PrintLast Go.Proofs.Ytimdoghlnegpgaa.P Go.Proofs.YtimdoghlnegpgaaEv
set_option linter.unusedVariables false
set_option linter.unusedSimpArgs false
theorem wf8 {n : Int} (h : (Lit.int .u8 n).wf = true) : 0 ≤ n ∧ n ≤ 255 := by
  simp [Lit.wf, IntKind.min, IntKind.max, IntKind.signed, IntKind.bits] at h
  omega
theorem flat_drop (L : List (List S73)) (i : Nat) (h : i < L.length) : (L.drop i).flatten = rd_L5 L (i : Int) ++ (L.drop (i + 1)).flatten := by
  rw [List.drop_eq_getElem_cons h, List.flatten_cons, rd_L5_at L i h]
theorem join_l0 (o ou : List S73) (L : List (List S73)) (hL : L.length ≤ 1000000) (hf : L.flatten.length ≤ 1000000) (r : Bool) : ∀ i, i ≤ L.length → ∀ acc : List S73, acc.length + (L.drop i).flatten.length ≤ 1000000 → Ev (fun k => (impl_LinesOf.f k o).bind fun bt127 => laws_FnStatements.l1 k o ou (acc ++ (L.drop i).flatten) bt127.1 bt127.2 [] 0) r → Ev (fun k => laws_FnStatements.l0 k o ou acc L (i : Int)) r := by
  refine down L.length _ ?_ ?_
  · intro acc _ h
    rw [ev_succ]
    simp only [laws_FnStatements.l0, ev_ite]
    rw [if_neg (by omega)]
    simpa using h
  · intro i hi ih acc ha h
    rw [flat_drop L i hi] at h ha
    rw [ev_succ]
    simp only [laws_FnStatements.l0, ev_ite]
    rw [List.length_append] at ha
    rw [if_pos (by omega), if_pos (by omega), if_pos (by omega), wrap_succ hi (by omega)]
    exact ih _ (by rw [List.length_append]; omega) (by rw [List.append_assoc]; exact h)
theorem join_l2 (o ou al : List S73) (L : List (List S73)) (acc : List S73) (i : Nat) (hi : i < L.length) (q : Int) (hq : OneLine q (rd_L5 L (i : Int))) (ok r : Bool) (hn : (rd_L5 L (i : Int)).length ≤ 1000000) (ha : acc.length ≤ 1000000) (h : Ev (fun k => laws_FnStatements.l1 k o ou al L ok (acc ++ rd_L5 L (i : Int)) (wrap64 ((i : Int) + 1))) r) : ∀ j, j ≤ (rd_L5 L (i : Int)).length → 1 ≤ j → Ev (fun k => laws_FnStatements.l2 k o ou al L ok acc (i : Int) (j : Int)) r := by
  have hpos : 0 < (rd_L5 L (i : Int)).length := List.length_pos_iff.2 hq.1
  have hat : ∀ j : Nat, j < (rd_L5 L (i : Int)).length → (rd_T73 (rd_L5 L (i : Int)) (j : Int)).f1 = q := by
    intro j hj
    refine hq.2 _ ?_
    unfold rd_T73
    rw [List.getD_eq_getElem?_getD, Int.toNat_natCast, List.getElem?_eq_getElem hj]
    exact List.getElem_mem _
  refine down _ _ ?_ ?_
  · intro _
    rw [ev_succ]
    simp only [laws_FnStatements.l2, ev_ite]
    rw [if_pos (by omega), if_pos (by omega), if_neg (by omega), if_pos (by omega)]
    exact h
  · intro j hj ih hj1
    have h0 := hat 0 hpos
    rw [ev_succ]
    simp only [laws_FnStatements.l2, ev_ite]
    rw [if_pos (by omega), if_pos (by omega), if_pos (by omega), if_pos (by omega), if_pos (by omega), if_pos (by rw [hat j hj]; exact h0.symm), wrap_succ hj (by omega)]
    exact ih (by omega)
theorem join_l1 (o ou al : List S73) (L : List (List S73)) (hL : L.length ≤ 1000000) (hrow : ∀ r ∈ L, ∃ q, OneLine q r) (ok r : Bool) (hfin : Ev (fun k => if ok = true then ((laws_sameItems.f k al o).bind fun t143 => (if t143 = true then ((laws_sameItems.f k L.flatten o).bind fun t144 => (if t144 = true then ((impl_Plain.f ou).bind fun t145 => ((laws_sameItems.f k t145 o).bind fun t148 => (some t148))) else (some false))) else (some false))) else (some false)) r) : ∀ i, i ≤ L.length → ∀ acc : List S73, acc.length + (L.drop i).flatten.length ≤ 1000000 → acc ++ (L.drop i).flatten = L.flatten → Ev (fun k => laws_FnStatements.l1 k o ou al L ok acc (i : Int)) r := by
  refine down L.length _ ?_ ?_
  · intro acc _ h
    rw [ev_succ]
    simp only [laws_FnStatements.l1]
    rw [ev_ite, if_neg (by omega)]
    rw [List.drop_length, List.flatten_nil, List.append_nil] at h
    rw [h]
    exact hfin
  · intro i hi ih acc ha h
    rw [flat_drop L i hi] at h ha
    rw [List.length_append] at ha
    rw [ev_succ]
    simp only [laws_FnStatements.l1]
    rw [ev_ite, if_pos (by omega)]
    obtain ⟨q, hq⟩ := hrow (rd_L5 L (i : Int)) (by rw [rd_L5_at L i hi]; exact List.getElem_mem _)
    have hpos : 0 < (rd_L5 L (i : Int)).length := List.length_pos_iff.2 hq.1
    refine join_l2 o ou al L acc i hi q hq ok r (by omega) (by omega) ?_ 1 (by omega) (by omega)
    rw [wrap_succ hi (by omega)]
    exact ih _ (by rw [List.length_append]; omega) (by rw [List.append_assoc]; exact h)
theorem flat_mem_le {L : List (List S73)} {n : Nat} (h : L.flatten.length = n) (hne : ∀ r ∈ L, r ≠ []) : L.length ≤ n := by
  subst h
  induction L with
  | nil => simp
  | cons a L ih =>
    have := ih fun r hr => hne r (by simp [hr])
    have : 0 < a.length := List.length_pos_iff.2 (hne a (by simp))
    simp only [List.length_cons, List.flatten_cons, List.length_append]
    omega
theorem pure_FnStatements : ∀ (l0 : List Int), (l0.length ≤ maxLen ∧ ∀ y ∈ l0, (Lit.int .u8 y).wf = true) → ∃ k, laws_FnStatements.f k l0 = some true := by
  rintro l ⟨hm, hg⟩
  refine ev_get (g := fun k => laws_FnStatements.f k l) ?_
  unfold laws_FnStatements.f laws_big.f
  simp only [Option.bind_some, ev_ite]
  by_cases hl : l.length ≤ 1048576
  · rw [if_neg (by simp; omega)]
    obtain ⟨o, en, e, ho, hen⟩ := drawSemi_ok (fun x hx => wf8 (hg x hx)) hl
    have hs := semiB_length o en
    rw [ev_bind e, ev_bind (spec_Semicolons_ev o en (by omega) (by omega)), ev_bind (impl_Semicolons_ev o en (by omega) (by omega)), ev_ite, if_neg (by simp), ev_bind (sameItems_self _ (by omega)), ev_succ]
    simp only [laws_FnStatements.j0, Bool.not_true, Bool.false_eq_true, if_false]
    unfold semiB at hs ⊢
    by_cases hok : itemsB o = true ∧ kindsB en = true
    · rw [if_pos hok] at hs ⊢
      simp only [if_true]
      have hi := hok.1
      simp only [itemsB, Bool.and_eq_true, decide_eq_true_eq] at hi
      have hk := itemsR_kind o 0 hi.2
      have hfl : (stmtsB (semiR en o)).flatten = o := by
        unfold stmtsB
        rw [if_neg (by simp only at hs; omega), stmts_flat en o [] [] hk]
        simp
      have hfew := stmtsB_few (semiR en o)
      have hlin := lines_flat o 0 none [] hi.2 (fun r hr => by cases hr) (fun _ => rfl) (fun q hq => by cases hq)
      have hlf : (linesR none o []).flatten = o := by simpa using hlin.1
      have hll : (linesR none o []).length ≤ 5001 := Nat.le_trans (flat_mem_le (congrArg List.length hlf) fun r hr => (hlin.2 r hr).choose_spec.1) ho
      rw [ev_bind (impl_Statements_ev (semiR en o))]
      refine join_l0 o _ _ (by omega) (by rw [hfl]; omega) true 0 (by omega) [] (by simp [hfl]; omega) ?_
      rw [ev_bind (impl_LinesOf_ev o (by omega))]
      unfold linesB
      rw [hok.1, if_pos rfl, List.drop_zero, List.nil_append, hfl]
      refine join_l1 o _ o _ (by omega) hlin.2 true true ?_ 0 (by omega) [] (by simp [hlf]; omega) (by simp)
      rw [hlf]
      simp only [if_true]
      rw [ev_bind (sameItems_self o (by omega))]
      simp only [if_true]
      rw [ev_bind (sameItems_self o (by omega))]
      have hsl : (semiR en o).length ≤ 1048576 := by simp only at hs; omega
      simp only [if_true, impl_Plain.f]
      rw [if_pos hsl]
      simp only [Option.bind_some]
      rw [plain_semi en o hk, ev_bind (sameItems_self o (by omega))]
      exact ev_some.2 rfl
    · rw [if_neg hok]
      simp only [Bool.false_eq_true, if_false]
      exact ev_some.2 rfl
  · rw [if_pos (by simp; omega)]
    exact ev_some.2 rfl
end Go.Proofs.Ytimdoghlnegpgaa.fnStatements.Pure
-- The kit's printed words WSized, cut down by wip/gen/pack.py to what this proof reaches.
/- The law FnStatements holds: every call returns true and leaves its arguments as they were. Conditions: none beyond what the given row says. This text: the row, out of the walk's contract and the pure statement. -/
namespace Go.Proofs.Ytimdoghlnegpgaa.fnStatements
open Go.ChangeShapes Go.WideShapes Go.ChangeAt Go.RowKit Go.Proofs.YtimdoghlnegpgaaW.PrintWords Go.Proofs.YtimdoghlnegpgaaOpen Go.Proofs.Ytimdoghlnegpgaa.P
open Go.ChangeMaps (open_string shut_string)
set_option linter.unusedVariables false
set_option linter.unusedSimpArgs false
theorem own : ownKnob Try.prog.godebug = none := by kernel_rfl
theorem laidOut : laidOutB Try.prog = true := by kernel_rfl
set_option maxRecDepth 100000 in
theorem lifted (os : Os) (started : os.Started) (H : Type) (enc : TypeId × Value → H) :
    ReturnsInHanded {} Try.checked os 13 .any (Rows.fnStatementsSpec.pre6 enc Try.prog Try.f13 Rows.fnStatementsRow.domain false) (Rows.fnStatementsSpec.post enc Try.prog Try.f13 false true false false) := by
  refine returnsInHanded_of_change_sized (C := Try.checked) own started (by kernel_rfl) Try.func13
    (ChangeSpec.witness6 (enc := enc) (C := Try.checked) false ⟨#[], #[.slice none 0 0], []⟩ 8 (by kernel_rfl) (by kernel_rfl) (by kernel_rfl) (by kernel_rfl)) ?_
  intro W base args ds gs before hval0 hW hcnd hsz0 _
  have hsz : (DataW.weightsEach Try.prog (Try.f13.params.toList ++ Rows.fnStatementsSpec.plain.varTypes Try.prog) (ds ++ gs)).all (· ≤ reachBytes) = true := hsz0
  have hval : ∀ (j : Nat) t v, Try.f13.params[j]? = some t → args[j]? = some v → Value.okWide Try.prog W .any base t v := hval0
  have hW' := hW
  obtain ⟨p, q, hA0, hV, rfl, hfz, hnd⟩ := hW
  have hA : DataW.TrodAll enc Try.prog W 0 (fun _ => true) true Try.f13.params.toList args.toList ds p := hA0
  rw [Try.params13] at hA hval hsz
  obtain ⟨v0, vs0, d0, ds0, p0, q0, hargs, rfl, rfl, h0, r0⟩ := trodAll_cons hA
  obtain ⟨rfl, rfl, rfl⟩ := trodAll_nil r0
  obtain rfl : args = #[v0] := by cases args; simp_all
  obtain ⟨rfl, rfl⟩ := trodVars_none hV
  have k0' := h0
  have lt0 : ∀ x ∈ p0, x.block < W.heap.size := by obtain ⟨m, hm⟩ := k0'; exact DataW.trod_lt m _ _ _ hm
  obtain ⟨a0, len0, cap0, rfl⟩ := okWide_slice Try.underlying69 (hval 0 69 v0 rfl rfl)
  obtain ⟨fuel0, hf0⟩ := h0
  have hf0' : DataW.trod enc Try.prog W 0 (fun _ => true) true fuel0 69 [.slice a0 len0 cap0] = some (d0, p0) := hf0
  obtain ⟨x0, ⟨A0, c0, he0, hl0, hC0⟩, hG0⟩ := (opens_slice Try.underlying69 (by kernel_rfl) (opens_int Try.underlying5 (by kernel_rfl))).op enc W 0 (fun _ => true) true fuel0 _ _ hf0'
  obtain ⟨rfl, rfl, rfl⟩ : a0 = A0 ∧ len0 = x0.length ∧ cap0 = c0 := by simpa using he0
  clear hA0 hval0 hsz0 hsz
  obtain ⟨k, hk⟩ := Pure.pure_FnStatements x0 hG0
  refine (laws_FnStatements.calls k _ _ x0 true W hC0 hl0 hk).mono fun e W' ⟨he, bel0⟩ => ?_
  have bel : Below W.heap.size W W' := bel0
  subst he
  exact ⟨_, rfl, _, _, _, [], _, [], hW', trodAll_mk1 (shut_bool Try.underlying4 _), (trodAll_cons_mk (Below.trod laidOut (by kernel_rfl) (of_decide_eq_true (by kernel_rfl)) k0' bel lt0) trodAll_mk0), rfl, bel.frame _, fun h => by cases h⟩
theorem over : Rows.fnStatementsRow.holds Try.pinned (OpenSpec.ofChange Rows.fnStatementsSpec) :=
  OpenClaim.holds_of_wide 13 Try.f13 rfl rfl rfl rfl rfl rfl rfl ⟨rfl, rfl, rfl, rfl, rfl⟩ rfl rfl rfl rfl rfl (by kernel_rfl) Try.func13 (by kernel_rfl)
    (of_decide_eq_true (by kernel_rfl)) (by unfold Func.isWrapper; first | (rw [if_pos (by decide +kernel)]; kernel_rfl) | (rw [if_neg (by decide +kernel)]; exact ⟨rfl, rfl⟩))
    (fun os started H enc _ => lifted os started H enc)
theorem proved : Rows.FnStatementsSaid := over
#print axioms proved
end Go.Proofs.Ytimdoghlnegpgaa.fnStatements
namespace Go.Proofs.Ytimdoghlnegpgaa
/-- The row, under a short name, for the claim. -/
theorem fnStatements_holds : Rows.FnStatementsSaid := fnStatements.proved
end Go.Proofs.Ytimdoghlnegpgaa
