/- The law FnExactSemicolons holds for every call: part 6 of 6 of the proof (the row). Conditions: none beyond what the given row says. -/
import Derived.Test.YtimdoghlnegpgaaMFnExactSemicolons4
import Derived.Test.YtimdoghlnegpgaaMFnExactSemicolons1
import Derived.Test.YtimdoghlnegpgaaMFnExactSemicolons3
import Derived.Test.YtimdoghlnegpgaaMFnExactSemicolons2
import Derived.Test.YtimdoghlnegpgaaMFnExactSemicolons0
import Derived.SizedLaws
import Derived.ChangeSlices
import Derived.Test.YtimdoghlnegpgaaRows
import Derived.WalkKit
import Derived.ProofKit
import Derived.OpenShut
import Derived.ShutString
import Derived.ChangeOld
import Derived.Below
/- What the printed checks of rising kinds, and the searches in a list of numbers, answer. -/
namespace Go.Proofs.Ytimdoghlnegpgaa.P
open Go.RowKit Go.Proofs.YtimdoghlnegpgaaW.PrintWords Go.Proofs.YtimdoghlnegpgaaW.PrintLast Go.Proofs.YtimdoghlnegpgaaEv
set_option linter.unusedVariables false
set_option linter.unusedSimpArgs false

def kindsR : Int → List Int → Bool
  | _, [] => true
  | last, x :: rest => decide (0 ≤ x) && decide (last < x) && kindsR x rest
def kindsB (l : List Int) : Bool := decide (l.length ≤ 20) && kindsR (-1) l
theorem rd_nat (l : List Int) (i : Nat) : l.getD i 0 = rd l i := by simp [rd]
theorem impl_kindsOk_ev (l : List Int) (hl : l.length ≤ 9223372036854775807) : Ev (fun k => impl_kindsOk.f k l) (kindsB l) := by
  unfold impl_kindsOk.f kindsB
  have key := down l.length (fun i => ∀ last : Int, (i = 0 → last = -1) → (0 < i → last = rd l ((i - 1 : Nat) : Int)) → Ev (fun k => impl_kindsOk.l0 k l l l.length (i : Nat)) (decide (l.length ≤ 20) && kindsR last (l.drop i))) ?_ ?_ 0 (by omega) (-1) (fun _ => rfl) (by omega)
  · exact key
  · intro last _ _
    rw [ev_succ]
    simp only [impl_kindsOk.l0, ev_ite, ev_some]
    rw [if_neg (by omega), List.drop_length]
    simp only [kindsR, Bool.and_true]
    by_cases h : l.length ≤ 20
    · rw [decide_eq_true h, decide_eq_true (show (l.length : Int) ≤ 20 by omega)]
    · rw [decide_eq_false h, decide_eq_false (show ¬ (l.length : Int) ≤ 20 by omega)]
  · intro i hi ih last hl0 hl1
    rw [ev_succ, drop_cons l 0 i hi, rd_nat]
    have ih2 := ih (rd l i) (by omega) (fun _ => by rw [Nat.add_sub_cancel])
    simp only [impl_kindsOk.l0, Option.bind_some, ev_ite, ev_some, kindsR]
    rw [if_pos (by omega), if_pos (by omega), if_pos (by omega), wrap_succ hi (by omega)]
    have hprev : 0 < i → (0 ≤ wrap64 ((i : Int) - 1) ∧ wrap64 ((i : Int) - 1) < l.length ∧ rd l (wrap64 ((i : Int) - 1)) = last) := by
      intro hp
      rw [wrap_id (x := (i : Int) - 1) (by omega) (by omega)]
      exact ⟨by omega, by omega, by rw [hl1 hp, show ((i : Int) - 1) = ((i - 1 : Nat) : Int) by omega]⟩
    generalize decide (l.length ≤ 20) = D at *
    generalize (l.drop (i + 1)) = T at *
    generalize rd l (i : Int) = a at *
    generalize hG : (fun k => impl_kindsOk.l0 k l l (l.length : Int) ((i + 1 : Nat) : Int)) = G at *
    by_cases c1 : a < 0
    · rw [if_pos c1]; simp [show ¬ 0 ≤ a by omega]
    rw [if_neg c1]
    have hend : (last < a) → Ev G (D && (decide (0 ≤ a) && decide (last < a) && kindsR a T)) := by
      intro h5
      refine ev_congr ih2 ?_
      simp [show 0 ≤ a by omega, h5]
    by_cases h00 : i = 0
    · rw [if_neg (by omega)]
      exact hend (by have := hl0 h00; omega)
    · obtain ⟨h1', h2', h3'⟩ := hprev (by omega)
      rw [if_pos (by omega), if_pos h1', if_pos h2', h3']
      by_cases c5 : last ≥ a
      · rw [if_pos c5]; simp [show ¬ last < a by omega]
      · rw [if_neg c5]
        exact hend (by omega)
theorem spec_l16Kinds_ev (l : List Int) : Ev (fun k => spec_l16Kinds.f k l) (kindsB l) := by
  unfold spec_l16Kinds.f kindsB
  simp only [ev_ite]
  by_cases h6 : l.length ≤ 20
  · rw [if_neg (by omega), decide_eq_true h6, Bool.true_and]
    have key := down l.length (fun i => ∀ last : Int, (i = 0 → last = -1) → (0 < i → last = rd l ((i - 1 : Nat) : Int)) → Ev (fun k => spec_l16Kinds.l0 k l (i : Nat)) (kindsR last (l.drop i))) ?_ ?_ 0 (by omega) (-1) (fun _ => rfl) (by omega)
    · exact key
    · intro last _ _
      rw [ev_succ]
      simp only [spec_l16Kinds.l0, ev_ite, ev_some]
      rw [if_neg (by omega), List.drop_length]
      rfl
    · intro i hi ih last hl0 hl1
      rw [ev_succ, drop_cons l 0 i hi, rd_nat]
      have ih2 := ih (rd l i) (by omega) (fun _ => by rw [Nat.add_sub_cancel])
      simp only [spec_l16Kinds.l0, Option.bind_some, ev_ite, ev_some, kindsR]
      rw [if_pos (by omega), if_pos (by omega), wrap_succ hi (by omega)]
      have hprev : 0 < i → (0 ≤ wrap64 ((i : Int) - 1) ∧ wrap64 ((i : Int) - 1) < l.length ∧ rd l (wrap64 ((i : Int) - 1)) = last) := by
        intro hp
        rw [wrap_id (x := (i : Int) - 1) (by omega) (by omega)]
        exact ⟨by omega, by omega, by rw [hl1 hp, show ((i : Int) - 1) = ((i - 1 : Nat) : Int) by omega]⟩
      generalize (l.drop (i + 1)) = T at *
      generalize rd l (i : Int) = a at *
      generalize hG : (fun k => spec_l16Kinds.l0 k l ((i + 1 : Nat) : Int)) = G at *
      by_cases c1 : a < 0
      · rw [if_pos c1]; simp [show ¬ 0 ≤ a by omega]
      rw [if_neg c1]
      have hend : (last < a) → Ev G (decide (0 ≤ a) && decide (last < a) && kindsR a T) := by
        intro h5
        refine ev_congr ih2 ?_
        simp [show 0 ≤ a by omega, h5]
      by_cases h00 : i = 0
      · rw [if_neg (by omega)]
        exact hend (by have := hl0 h00; omega)
      · obtain ⟨h1', h2', h3'⟩ := hprev (by omega)
        rw [if_pos (by omega), if_pos h1', if_pos h2', h3']
        by_cases c5 : a ≤ last
        · rw [if_pos c5]; simp [show ¬ last < a by omega]
        · rw [if_neg c5]
          exact hend (by omega)
  · rw [if_pos (by omega)]
    exact ev_some.2 (by simp [h6])
theorem kindsB_len {l : List Int} (h : kindsB l = true) : l.length ≤ 20 := by
  simp only [kindsB, Bool.and_eq_true, decide_eq_true_eq] at h
  exact h.1

def hasB (l : List Int) (x : Int) : Bool := l.any (· == x)
theorem any_drop {α : Type} (l : List α) (d : α) (p : α → Bool) (i : Nat) (h : i < l.length) : (l.drop i).any p = (p (l.getD i d) || (l.drop (i + 1)).any p) := by
  rw [drop_cons l d i h, List.any_cons]
theorem spec_l1Has_ev (l : List Int) (x : Int) (hl : l.length ≤ 9223372036854775807) : Ev (fun k => spec_l1Has.f k l x) (hasB l x) := by
  unfold spec_l1Has.f hasB
  have key := ev_loop l.length (fun k i => spec_l1Has.l0 k l x (i : Nat)) (fun i => (l.drop i).any (· == x)) ?_ ?_ 0 (by omega)
  · exact key
  · rw [ev_succ]
    simp [spec_l1Has.l0, ev_some]
  · intro i hi ih
    rw [ev_succ, any_drop l 0 _ i hi, rd_nat]
    simp only [spec_l1Has.l0, ev_ite, ev_some]
    rw [if_pos (by omega), if_pos (by omega), wrap_succ hi (by omega)]
    by_cases h : rd l i = x
    · rw [if_pos h]; simp [h]
    · rw [if_neg h, beq_eq_false_iff_ne.2 h, Bool.false_or]
      exact ih
theorem slices_Contains_ev (l : List Int) (x : Int) (hl : l.length ≤ 9223372036854775807) : Ev (fun k => slices_Contains_int64_int64.f k l x) (hasB l x) := by
  have hi : ∃ r : Int, Ev (fun k => slices_Index_int64_int64.f k l x) r ∧ decide (r ≥ 0) = hasB l x := by
    unfold slices_Index_int64_int64.f hasB
    have key := down l.length (fun i => ∃ r : Int, Ev (fun k => slices_Index_int64_int64.l0 k l x l.length (i : Nat)) r ∧ decide (r ≥ 0) = (l.drop i).any (· == x)) ?_ ?_ 0 (by omega)
    · exact key
    · refine ⟨-1, ?_, by simp⟩
      rw [ev_succ]
      simp [slices_Index_int64_int64.l0, ev_some]
    · rintro i hi ⟨r, hr, hd⟩
      by_cases h : x = rd l i
      · refine ⟨i, ?_, ?_⟩
        · rw [ev_succ]
          simp only [slices_Index_int64_int64.l0, ev_ite, ev_some]
          rw [if_pos (by omega), if_pos (by omega), if_pos (by omega), if_pos h]
          trivial
        · rw [any_drop l 0 _ i hi, rd_nat, ← h]
          simp
      · refine ⟨r, ?_, ?_⟩
        · rw [ev_succ]
          simp only [slices_Index_int64_int64.l0, ev_ite, ev_some]
          rw [if_pos (by omega), if_pos (by omega), if_pos (by omega), if_neg h, wrap_succ hi (by omega)]
          exact hr
        · rw [any_drop l 0 _ i hi, rd_nat, hd, beq_eq_false_iff_ne.2 (Ne.symm h), Bool.false_or]
  obtain ⟨r, hr, hd⟩ := hi
  unfold slices_Contains_int64_int64.f
  rw [ev_bind hr]
  exact ev_some.2 hd
end Go.Proofs.Ytimdoghlnegpgaa.P
/- What the printed Semicolons of program and reference answer. -/
namespace Go.Proofs.Ytimdoghlnegpgaa.P
open Go.RowKit Go.Proofs.YtimdoghlnegpgaaW.PrintWords Go.Proofs.YtimdoghlnegpgaaW.PrintLast Go.Proofs.YtimdoghlnegpgaaW.PrintMore Go.Proofs.YtimdoghlnegpgaaEv
set_option linter.unusedVariables false
set_option linter.unusedSimpArgs false

def semi (x : S73) : S73 := ⟨-4, x.f1, mn 1000000000000 (wrap64 (x.f2 + 1))⟩
/-- Does the line end behind x? -/
def endsLine (x : S73) : List S73 → Bool
  | [] => true
  | y :: _ => decide (y.f1 > x.f1)
def semiR (enders : List Int) : List S73 → List S73
  | [] => []
  | x :: rest => if hasB enders x.f0 = true ∧ endsLine x rest = true then x :: semi x :: semiR enders rest else x :: semiR enders rest
def semiB (l : List S73) (enders : List Int) : List S73 × Bool := if itemsB l = true ∧ kindsB enders = true then (semiR enders l, true) else ([], false)
theorem semiR_length (enders : List Int) (l : List S73) : (semiR enders l).length ≤ 2 * l.length := by
  induction l with
  | nil => simp [semiR]
  | cons x l ih =>
    unfold semiR
    split <;> simp only [List.length_cons] <;> omega
theorem semiB_length (l : List S73) (enders : List Int) : (semiB l enders).1.length ≤ 10000 := by
  unfold semiB
  split
  · rename_i h
    have := semiR_length enders l
    have := itemsB_len h.1
    simp only
    omega
  · simp
theorem endsLine_at (l : List S73) (x : S73) (i : Nat) (hi : i < l.length) : endsLine x (l.drop (i + 1)) = if i + 1 = l.length then true else decide ((rd_T73 l ((i + 1 : Nat) : Int)).f1 > x.f1) := by
  by_cases h : i + 1 = l.length
  · rw [if_pos h, h, List.drop_length]
    rfl
  · rw [if_neg h, drop_cons l z73 (i + 1) (by omega)]
    have hr : l.getD (i + 1) z73 = rd_T73 l ((i + 1 : Nat) : Int) := by simp [rd_T73]
    rw [hr]
    rfl
theorem impl_Semicolons_ev (l : List S73) (enders : List Int) (hl : l.length ≤ 1048576) (he : enders.length ≤ 1048576) : Ev (fun k => impl_Semicolons.f k l enders) (semiB l enders) := by
  unfold impl_Semicolons.f semiB
  rw [ev_bind (impl_itemsOk_ev l (by omega)), ev_ite]
  cases h1 : itemsB l
  · rw [if_neg (by simp), if_neg (by simp), ev_succ]
    simp [impl_Semicolons.j0, ev_some]
  rw [if_pos rfl, ev_bind (impl_kindsOk_ev enders (by omega)), ev_succ]
  simp only [impl_Semicolons.j0, ev_ite]
  cases h2 : kindsB enders
  · simp [ev_some]
  rw [if_neg (by simp), if_pos (by simp)]
  have hlen := itemsB_len h1
  have key := down l.length (fun i => ∀ out : List S73, out.length ≤ 2 * i → Ev (fun k => impl_Semicolons.l0 k l enders out l l.length (i : Nat)) (out ++ semiR enders (l.drop i), true)) ?_ ?_ 0 (by omega) [] (by simp)
  · simpa using key
  · intro out ho
    rw [ev_succ]
    simp only [impl_Semicolons.l0, ev_ite]
    rw [if_neg (by omega)]
    exact ev_some.2 (by simp [semiR])
  · intro i hi ih out ho
    rw [ev_succ, drop_cons l z73 i hi]
    have hr : l.getD i z73 = rd_T73 l i := by simp [rd_T73]
    rw [hr]
    have hend := endsLine_at l (rd_T73 l i) i hi
    simp only [impl_Semicolons.l0, Option.bind_some, ev_ite, semiR, hend]
    rw [if_pos (by omega), if_pos (by omega), if_pos (by omega), if_pos (by omega), ev_bind (slices_Contains_ev enders _ (by omega)), wrap_succ hi (by omega), wrap_id (x := (l.length : Int) - 1) (by omega) (by omega)]
    simp only [ev_ite, List.length_append, List.length_singleton]
    have ih1 := ih (out ++ [rd_T73 l i]) (by simp; omega)
    have ih2 := ih (out ++ [rd_T73 l i] ++ [semi (rd_T73 l i)]) (by simp; omega)
    cases hb : hasB enders (rd_T73 l i).f0
    · rw [if_neg (by simp), if_neg (by simp)]
      simpa using ih1
    · rw [if_pos rfl]
      by_cases c1 : i + 1 = l.length
      · rw [if_pos (by omega), if_pos (by omega), if_pos (by simp [c1])]
        simpa [semi] using ih2
      · rw [if_neg (by omega), if_pos (by omega), if_pos (by omega), if_neg c1]
        by_cases c2 : (rd_T73 l ((i + 1 : Nat) : Int)).f1 > (rd_T73 l i).f1
        · rw [if_pos c2, if_pos (by omega), if_pos ⟨rfl, by simpa using c2⟩]
          simpa [semi] using ih2
        · rw [if_neg c2, if_neg (by simpa using c2)]
          simpa using ih1
theorem spec_Semicolons_ev (l : List S73) (enders : List Int) (hl : l.length ≤ 1048576) (he : enders.length ≤ 1048576) : Ev (fun k => spec_Semicolons.f k l enders) (semiB l enders) := by
  unfold spec_Semicolons.f semiB
  simp only [Option.bind_some]
  rw [ev_bind (spec_l16Items_ev l), ev_ite]
  cases h1 : itemsB l
  · rw [if_neg (by simp), if_neg (by simp), ev_succ]
    simp [spec_Semicolons.j0, ev_some]
  rw [if_pos rfl, ev_bind (spec_l16Kinds_ev enders), ev_succ]
  simp only [spec_Semicolons.j0, ev_ite]
  cases h2 : kindsB enders
  · simp [ev_some]
  rw [if_neg (by simp), if_pos (by simp)]
  have hlen := itemsB_len h1
  have key := down l.length (fun i => ∀ out : List S73, out.length ≤ 2 * i → Ev (fun k => spec_Semicolons.l0 k l enders out (i : Nat)) (out ++ semiR enders (l.drop i), true)) ?_ ?_ 0 (by omega) [] (by simp)
  · simpa using key
  · intro out ho
    rw [ev_succ]
    simp only [spec_Semicolons.l0, ev_ite]
    rw [if_neg (by omega)]
    exact ev_some.2 (by simp [semiR])
  · intro i hi ih out ho
    rw [ev_succ, drop_cons l z73 i hi]
    have hr : l.getD i z73 = rd_T73 l i := by simp [rd_T73]
    rw [hr]
    have hend := endsLine_at l (rd_T73 l i) i hi
    simp only [spec_Semicolons.l0, Option.bind_some, ev_ite, semiR, hend]
    rw [if_pos (by omega), if_pos (by omega), if_pos (by omega), ev_bind (spec_l1Has_ev enders _ (by omega)), wrap_succ hi (by omega)]
    simp only [ev_ite, List.length_append, List.length_singleton]
    have ih1 := ih (out ++ [rd_T73 l i]) (by simp; omega)
    have ih2 := ih (out ++ [rd_T73 l i] ++ [semi (rd_T73 l i)]) (by simp; omega)
    cases hb : hasB enders (rd_T73 l i).f0
    · rw [if_neg (by simp), if_neg (by simp)]
      simpa using ih1
    · rw [if_pos rfl]
      by_cases c1 : i + 1 = l.length
      · rw [if_pos (by omega), if_pos (by omega), if_pos (by simp [c1])]
        simpa [semi] using ih2
      · rw [if_neg (by omega), if_pos (by omega), if_pos (by omega), if_neg c1]
        by_cases c2 : (rd_T73 l ((i + 1 : Nat) : Int)).f1 > (rd_T73 l i).f1
        · rw [if_pos c2, if_pos (by omega), if_pos ⟨rfl, by simpa using c2⟩]
          simpa [semi] using ih2
        · rw [if_neg c2, if_neg (by simpa using c2)]
          simpa using ih1
end Go.Proofs.Ytimdoghlnegpgaa.P
/- What the laws' helpers on slices of Item answer: the copy is the list, a list equals itself, marks are held. -/
namespace Go.Proofs.Ytimdoghlnegpgaa.P
open Go.RowKit Go.Proofs.YtimdoghlnegpgaaW.PrintWords Go.Proofs.YtimdoghlnegpgaaW.PrintLast Go.Proofs.YtimdoghlnegpgaaEv
set_option linter.unusedVariables false
set_option linter.unusedSimpArgs false

def g89 (x : S89) : Prop := (Lit.int .i64 x.f0).wf = true ∧ (Lit.int .i64 x.f1).wf = true ∧ (Lit.int .i64 x.f2).wf = true
theorem laws_szItemS_eq (l : List S89) (a : Int) (hl : l.length ≤ 9223372036854775807) (h0 : 0 ≤ a) (h1 : a ≤ 1048576) : laws_szItemS.f l a = some (if a < l.length then -1 else a - l.length) := by
  unfold laws_szItemS.f
  rw [wrap_id (by omega) (by omega)]
  split <;> split <;> first | rfl | omega

def cItem (x : S89) : S73 := ⟨x.f0, x.f1, x.f2⟩
theorem laws_toItemS_ev (l : List S89) (hl : l.length ≤ 1048576) : Ev (fun k => laws_toItemS.f k l) (l.map cItem) := by
  unfold laws_toItemS.f
  simp only [ev_ite]
  rw [if_pos (by omega), if_pos (by omega)]
  have h := ev_loop l.length (fun k i => laws_toItemS.l0 k l (upTo cItem z73 l i) (i : Nat)) (fun _ => l.map cItem) ?_ ?_ 0 (by omega)
  · rw [upTo_zero] at h
    exact h
  · rw [ev_succ, upTo_all]
    simp [laws_toItemS.l0, ev_some]
  · intro i hi ih
    rw [ev_succ]
    simp only [laws_toItemS.l0, laws_toItem.f, Option.bind_some, ev_ite]
    rw [if_pos (by omega), if_pos (by omega), if_pos (by rw [upTo_length _ _ _ _ (by omega)]; omega), wrap_succ hi (by omega)]
    have := upTo_set cItem z73 l z89 i hi
    have e : (cItem (l.getD i z89)) = ⟨(rd_T89 l i).f0, (rd_T89 l i).f1, (rd_T89 l i).f2⟩ := by simp [rd_T89, cItem]
    rw [e] at this
    simp only [Int.toNat_natCast]
    rw [this]
    exact ih

theorem laws_eqItemS_ev (l : List S73) (hl : l.length ≤ 9223372036854775807) : Ev (fun k => laws_eqItemS.f k l l) true := by
  unfold laws_eqItemS.f
  simp only [ev_ite]
  rw [if_pos trivial]
  refine ev_loop l.length (fun k i => laws_eqItemS.l0 k l l (i : Nat)) (fun _ => true) ?_ ?_ 0 (by omega)
  · rw [ev_succ]
    simp [laws_eqItemS.l0, ev_some]
  · intro i hi ih
    rw [ev_succ]
    simp only [laws_eqItemS.l0, laws_eqItem.f, if_true, Option.bind_some, ev_ite]
    rw [if_pos (by omega), if_pos (by omega), wrap_succ hi (by omega), if_pos (by omega)]
    exact ih

/-- The j-th mark from a on. -/
def mkItem (a : Int) (j : Nat) : S73 := ⟨a + 3 * (j : Int), a + 3 * (j : Int) + 1, a + 3 * (j : Int) + 2⟩
theorem rd_T73_set (l : List S73) (i : Nat) (v : S73) (h : i < l.length) : rd_T73 (l.set i v) (i : Int) = v := by
  simp [rd_T73, h]

theorem laws_markItemS_ev (l : List S73) (a : Int) (h0 : 0 ≤ a) (h1 : a + 3 * l.length ≤ 9000000000000000000) : Ev (fun k => laws_markItemS.f k l a) (a + 3 * l.length, (List.range l.length).map (mkItem a)) := by
  unfold laws_markItemS.f
  have h := ev_loop l.length (fun k i => laws_markItemS.l0 k (marked (mkItem a) l i) (a + 3 * (i : Int)) (i : Nat)) (fun _ => (a + 3 * l.length, (List.range l.length).map (mkItem a))) ?_ ?_ 0 (by omega)
  · simpa [marked] using h
  · rw [ev_succ]
    simp [laws_markItemS.l0, ev_some, marked]
  · intro i hi ih
    rw [ev_succ]
    have hl : (marked (mkItem a) l i).length = l.length := marked_length _ _ _ (by omega)
    simp only [laws_markItemS.l0, Option.bind_some, ev_ite, hl, Int.toNat_natCast]
    rw [if_pos (by omega), if_pos (by omega)]
    simp only [rd_T73_set, List.length_set, hl, hi, List.set_set]
    rw [wrap_succ hi (by omega)]
    have e : ∀ x : Int, 0 ≤ x → x ≤ 9000000000000000100 → wrap64 (x + 1) = x + 1 := fun x hx hy => wrap_id (by omega) (by omega)
    rw [e _ (by omega) (by omega)]
    repeat rw [e _ (by omega) (by omega)]
    have hm := marked_set (mkItem a) l i hi
    have ih' : Ev (fun k => laws_markItemS.l0 k (marked (mkItem a) l (i + 1)) (a + 3 * ((i + 1 : Nat) : Int)) ((i + 1 : Nat) : Int)) _ := ih
    rw [← hm, show a + 3 * ((i + 1 : Nat) : Int) = a + 3 * (i : Int) + 3 by omega] at ih'
    simpa [mkItem, Int.add_assoc] using ih'

theorem laws_heldItemS_ev (n : Nat) (a : Int) (h0 : 0 ≤ a) (h1 : a + 3 * n ≤ 9000000000000000000) : Ev (fun k => laws_heldItemS.f k ((List.range n).map (mkItem a)) a) (a + 3 * n) := by
  unfold laws_heldItemS.f
  have h := ev_loop n (fun k i => laws_heldItemS.l0 k ((List.range n).map (mkItem a)) (a + 3 * (i : Int)) (i : Nat)) (fun _ => a + 3 * n) ?_ ?_ 0 (by omega)
  · simpa using h
  · rw [ev_succ]
    simp [laws_heldItemS.l0, ev_some]
  · intro i hi ih
    rw [ev_succ]
    have hr : rd_T73 ((List.range n).map (mkItem a)) (i : Int) = mkItem a i := by simp [rd_T73, hi]
    have e : ∀ x : Int, 0 ≤ x → x ≤ 9000000000000000100 → wrap64 (x + 1) = x + 1 := fun x hx hy => wrap_id (by omega) (by omega)
    simp only [laws_heldItemS.l0, ev_ite, hr, mkItem, List.length_map, List.length_range]
    rw [if_pos (by omega), if_pos (by omega), wrap_succ hi (by omega)]
    repeat rw [e _ (by omega) (by omega)]
    have ih' : Ev (fun k => laws_heldItemS.l0 k ((List.range n).map (mkItem a)) (a + 3 * ((i + 1 : Nat) : Int)) ((i + 1 : Nat) : Int)) _ := ih
    rw [show a + 3 * ((i + 1 : Nat) : Int) = a + 3 * (i : Int) + 3 by omega] at ih'
    simpa [Int.add_assoc] using ih'

end Go.Proofs.Ytimdoghlnegpgaa.P
/- What the laws' helpers on []int64 answer: the copy is the list, a list equals itself. -/
namespace Go.Proofs.Ytimdoghlnegpgaa.P
open Go.RowKit Go.Proofs.YtimdoghlnegpgaaW.PrintWords Go.Proofs.YtimdoghlnegpgaaW.PrintLast Go.Proofs.YtimdoghlnegpgaaEv
set_option linter.unusedVariables false
set_option linter.unusedSimpArgs false

theorem laws_toInt64S_ev (l : List Int) (hl : l.length ≤ 1048576) : Ev (fun k => laws_toInt64S.f k l) l := by
  unfold laws_toInt64S.f
  simp only [ev_ite]
  rw [if_pos (by omega), if_pos (by omega)]
  have h := ev_loop l.length (fun k i => laws_toInt64S.l0 k l (upTo (fun x : Int => x) 0 l i) (i : Nat)) (fun _ => l.map (fun x : Int => x)) ?_ ?_ 0 (by omega)
  · rw [upTo_zero, List.map_id'] at h
    exact h
  · rw [ev_succ, upTo_all]
    simp [laws_toInt64S.l0, ev_some]
  · intro i hi ih
    rw [ev_succ]
    simp only [laws_toInt64S.l0, ev_ite]
    rw [if_pos (by omega), if_pos (by omega), if_pos (by rw [upTo_length _ _ _ _ (by omega)]; omega), wrap_succ hi (by omega)]
    have := upTo_set (fun x : Int => x) 0 l 0 i hi
    have e : l.getD i 0 = rd l i := by simp [rd]
    rw [e] at this
    simp only [Int.toNat_natCast]
    rw [this]
    exact ih
theorem laws_eqInt64S_ev (l : List Int) (hl : l.length ≤ 9223372036854775807) : Ev (fun k => laws_eqInt64S.f k l l) true := by
  unfold laws_eqInt64S.f
  simp only [ev_ite]
  rw [if_pos trivial]
  refine ev_loop l.length (fun k i => laws_eqInt64S.l0 k l l (i : Nat)) (fun _ => true) ?_ ?_ 0 (by omega)
  · rw [ev_succ]
    simp [laws_eqInt64S.l0, ev_some]
  · intro i hi ih
    rw [ev_succ]
    simp only [laws_eqInt64S.l0, if_true, ev_ite]
    rw [if_pos (by omega), if_pos (by omega), wrap_succ hi (by omega), if_pos (by omega)]
    exact ih
end Go.Proofs.Ytimdoghlnegpgaa.P
-- Made by wip/gen/pp.py of this session over the kit's print of the loaded program: a function, and the contract of its walk. Lean checks it.
namespace Go.Proofs.Ytimdoghlnegpgaa.P
open Go.RowKit Go.Proofs.YtimdoghlnegpgaaW.PrintWords Go.Proofs.YtimdoghlnegpgaaW.PrintLast Go.Proofs.YtimdoghlnegpgaaW.PrintMore
attribute [local go_sem] max2_int min2_int max_two min_two max_three min_three max_four min_four   -- for this text's walks alone
set_option linter.unusedVariables false
set_option linter.unusedSimpArgs false

/-! ### laws_heldInt64S: function 31 -/
def laws_heldInt64S.l0 : Nat → List Int → Int → Int → Option (Int)
 | 0, _, _, _ => none
 | k + 1, x0, x1, x5 => if x5 < (x0.length : Int) then (if 0 ≤ x5 then (if (rd x0 x5) = x1 then (laws_heldInt64S.l0 k x0 (wrap64 (x1 + 1)) (wrap64 (x5 + 1))) else (some (-1))) else (none)) else (some x1)
def laws_heldInt64S.f (k : Nat) (l0 : List Int) (a1 : Int) : Option (Int) := laws_heldInt64S.l0 k l0 a1 0
theorem laws_heldInt64S.mono_l : ∀ k, (∀ y0 y1 y2, LeO (laws_heldInt64S.l0 k y0 y1 y2) (laws_heldInt64S.l0 (k + 1) y0 y1 y2))
 | 0 => fun _ _ _ r h => by simp [laws_heldInt64S.l0] at h
 | k + 1 => by
  have ih0 := laws_heldInt64S.mono_l k
  ·intro y0 y1 y2
   unfold laws_heldInt64S.l0
   repeat' first
   | (with_reducible exact ih0 _ _ _)
   | (with_reducible exact LeO.refl _)
   | (with_reducible exact LeO.none _)
   | (with_reducible refine LeO.ite ?_ ?_)
   | (with_reducible refine LeO.bind ?_ (fun _ => ?_))
   | exact ih0 _ _ _
   | exact LeO.none _
   | refine LeO.ite ?_ ?_
   | refine LeO.bind ?_ (fun _ => ?_)
theorem laws_heldInt64S.mono : ∀ a0 a1 k, LeO (laws_heldInt64S.f k a0 a1) (laws_heldInt64S.f (k + 1) a0 a1) := by
 intro a0 a1 k
 have ih0 := laws_heldInt64S.mono_l k
 unfold laws_heldInt64S.f
 repeat' first
   | (with_reducible exact ih0 _ _ _)
   | (with_reducible exact LeO.refl _)
   | (with_reducible exact LeO.none _)
   | (with_reducible refine LeO.ite ?_ ?_)
   | (with_reducible refine LeO.bind ?_ (fun _ => ?_))
   | exact ih0 _ _ _
   | exact LeO.none _
   | refine LeO.ite ?_ ?_
   | refine LeO.bind ?_ (fun _ => ?_)
set_option maxHeartbeats 8000000 in
set_option maxRecDepth 100000 in
theorem laws_heldInt64S.calls (k : Nat) (A0 : Option Addr) (c0 : Nat) (l0 : List Int) (a1 : Int) (r : Int) (w : World) (hr0 : Kd.C (Kd.int .i64) w A0 l0.length l0) (hc0 : l0.length ≤ c0) (h : laws_heldInt64S.f k l0 a1 = some r) :
  Calls Try.prog 31 #[.slice A0 l0.length c0, .int .i64 a1] w fun e w' => e = .returned (.int .i64 r) ∧ Drawn0 w w' := by
 have HR0 := Aside0.mk hr0
 have HC0 := Aside0.mk hc0
 clear hr0 hc0
 have H : (laws_heldInt64S.l0 k l0 a1 0) = some r := h
 clear h
 have H' := Aside0.mk H
 clear H
 go_enter Try.func31, Try.ntmps31
 go_wp2
 go_loopg [1, 5] k (fun kq v1 v5 w' => ∃ (x1_1 : Int) (x5_1 : Int), v1 = .int .i64 x1_1 ∧ v5 = .int .i64 x5_1 ∧ Aside0 (laws_heldInt64S.l0 kq l0 x1_1 x5_1 = some r) ∧ Aside0 (kq ≤ k) ∧ Drawn0 w w')
 case atStart => exact ⟨(a1), (0), (by first | rfl | (simp; done) | (simp [*]; done)), (by first | rfl | (simp; done) | (simp [*]; done)), H', ⟨Nat.le_refl _⟩, by repeat (first | exact Drawn0.refl _ | apply Drawn0.step)⟩
 case round =>
  clear H'
  try clear p2
  obtain ⟨x1_1, x5_1, rfl, rfl, HA, HK1, ⟨m1, rfl⟩⟩ := hrel
  cases gk with
  | zero => exact absurd HA.out (by simp [laws_heldInt64S.l0])
  | succ k1 =>
   have H := HA.out
   clear HA
   simp only [laws_heldInt64S.l0] at H
   by_cases c3 : x5_1 < (l0.length : Int)
   ·rw [if_pos c3] at H
    have c3b0 : decide (x5_1 < (l0.length : Int)) = true := decide_eq_true c3
    clear c3
    by_cases c4 : 0 ≤ x5_1
    ·rw [if_pos c4] at H
     have c4b0 : decide (0 ≤ x5_1) = true := decide_eq_true c4
     clear c4
     by_cases c5 : (rd l0 x5_1) = x1_1
     ·rw [if_pos c5] at H
      have c5b0 : ((rd l0 x5_1) == x1_1) = true := beq_iff_eq.mpr c5
      have c5b1 : ((rd l0 x5_1) != x1_1) = false := bne_eq_false_iff_eq.mpr c5
      clear c5
      have H' := Aside0.mk H
      clear H
      have p101 : 0 ≤ (x5_1 : Int) := of_decide_eq_true (by first | (with_reducible assumption) | assumption)
      have q101 : x5_1 < (l0.length : Int) := of_decide_eq_true (by first | (with_reducible assumption) | assumption)
      obtain ⟨ad101, e101, hx101_0⟩ := Kd.at_int HR0.out x5_1 p101 q101
      cases e101
      replace p101 := eq_true p101
      replace q101 := eq_true q101
      go_wp2
      go_roundg k1
      case measure => have := HK1.out; omega
      case rel => exact ⟨(wrap64 (x1_1 + 1)), (wrap64 (x5_1 + 1)), (by first | rfl | (simp; done) | (simp [*]; done)), (by first | rfl | (simp; done) | (simp [*]; done)), H', ⟨by have := HK1.out; omega⟩, by repeat (first | exact Drawn0.refl _ | apply Drawn0.step)⟩
     ·rw [if_neg c5] at H
      have c5b0 : ((rd l0 x5_1) == x1_1) = false := beq_eq_false_iff_ne.mpr c5
      have c5b1 : ((rd l0 x5_1) != x1_1) = true := bne_iff_ne.mpr c5
      obtain rfl := Option.some.inj H
      have p101 : 0 ≤ (x5_1 : Int) := of_decide_eq_true (by first | (with_reducible assumption) | assumption)
      have q101 : x5_1 < (l0.length : Int) := of_decide_eq_true (by first | (with_reducible assumption) | assumption)
      obtain ⟨ad101, e101, hx101_0⟩ := Kd.at_int HR0.out x5_1 p101 q101
      cases e101
      replace p101 := eq_true p101
      replace q101 := eq_true q101
      go_wp2
      go_ret
      exact ⟨by first | rfl | (simp; done) | (simp [*]; done), by repeat (first | exact Drawn0.refl _ | apply Drawn0.step)⟩
    ·rw [if_neg c4] at H
     exact absurd H (by simp)
   ·rw [if_neg c3] at H
    have c3b0 : decide (x5_1 < (l0.length : Int)) = false := decide_eq_false c3
    clear c3
    obtain rfl := Option.some.inj H
    go_wp2
    go_ret
    exact ⟨by first | rfl | (simp; done) | (simp [*]; done), by repeat (first | exact Drawn0.refl _ | apply Drawn0.step)⟩

end Go.Proofs.Ytimdoghlnegpgaa.P
/- What the laws' marks on []int64 answer. -/
namespace Go.Proofs.Ytimdoghlnegpgaa.P
open Go.RowKit Go.Proofs.YtimdoghlnegpgaaW.PrintWords Go.Proofs.YtimdoghlnegpgaaW.PrintLast Go.Proofs.YtimdoghlnegpgaaEv
set_option linter.unusedVariables false
set_option linter.unusedSimpArgs false

theorem laws_markInt64S_ev (l : List Int) (a : Int) (h0 : 0 ≤ a) (h1 : a + l.length ≤ 9000000000000000000) : Ev (fun k => laws_markInt64S.f k l a) (a + l.length, (List.range l.length).map (fun j : Nat => a + (j : Int))) := by
  unfold laws_markInt64S.f
  have h := ev_loop l.length (fun k i => laws_markInt64S.l0 k (marked (fun j : Nat => a + (j : Int)) l i) (a + (i : Int)) (i : Nat)) (fun _ => (a + l.length, (List.range l.length).map (fun j : Nat => a + (j : Int)))) ?_ ?_ 0 (by omega)
  · simpa [marked] using h
  · rw [ev_succ]
    simp [laws_markInt64S.l0, ev_some, marked]
  · intro i hi ih
    rw [ev_succ]
    have hl : (marked (fun j : Nat => a + (j : Int)) l i).length = l.length := marked_length _ _ _ (by omega)
    simp only [laws_markInt64S.l0, ev_ite, hl, Int.toNat_natCast]
    rw [if_pos (by omega), if_pos (by omega), wrap_succ hi (by omega), wrap_id (by omega) (by omega)]
    have hm := marked_set (fun j : Nat => a + (j : Int)) l i hi
    have ih' : Ev (fun k => laws_markInt64S.l0 k (marked (fun j : Nat => a + (j : Int)) l (i + 1)) (a + ((i + 1 : Nat) : Int)) ((i + 1 : Nat) : Int)) _ := ih
    rw [← hm, show a + ((i + 1 : Nat) : Int) = a + (i : Int) + 1 by omega] at ih'
    exact ih'
theorem laws_heldInt64S_ev (n : Nat) (a : Int) (h0 : 0 ≤ a) (h1 : a + n ≤ 9000000000000000000) : Ev (fun k => laws_heldInt64S.f k ((List.range n).map (fun j : Nat => a + (j : Int))) a) (a + n) := by
  unfold laws_heldInt64S.f
  have h := ev_loop n (fun k i => laws_heldInt64S.l0 k ((List.range n).map (fun j : Nat => a + (j : Int))) (a + (i : Int)) (i : Nat)) (fun _ => a + n) ?_ ?_ 0 (by omega)
  · simpa using h
  · rw [ev_succ]
    simp [laws_heldInt64S.l0, ev_some]
  · intro i hi ih
    rw [ev_succ]
    have hr : rd ((List.range n).map (fun j : Nat => a + (j : Int))) (i : Int) = a + i := by simp [rd, hi]
    simp only [laws_heldInt64S.l0, ev_ite, hr, List.length_map, List.length_range]
    rw [if_pos (by omega), if_pos (by omega), wrap_succ hi (by omega), if_pos trivial, wrap_id (by omega) (by omega)]
    have ih' : Ev (fun k => laws_heldInt64S.l0 k ((List.range n).map (fun j : Nat => a + (j : Int))) (a + ((i + 1 : Nat) : Int)) ((i + 1 : Nat) : Int)) _ := ih
    rw [show a + ((i + 1 : Nat) : Int) = a + (i : Int) + 1 by omega] at ih'
    exact ih'
end Go.Proofs.Ytimdoghlnegpgaa.P
/- The pure statement of the law FnExactSemicolons: over numbers and lists alone, the law's printed function answers true. -/
namespace Go.Proofs.Ytimdoghlnegpgaa.fnExactSemicolons.Pure
open Go.RowKit Go.Proofs.YtimdoghlnegpgaaW.PrintWords Go.Proofs.YtimdoghlnegpgaaW.PrintLast Go.Proofs.Ytimdoghlnegpgaa.P Go.Proofs.YtimdoghlnegpgaaEv
set_option linter.unusedVariables false
set_option linter.unusedSimpArgs false
theorem pure_FnExactSemicolons : ∀ (l0 : List S89) (l1 : List Int), (l0.length ≤ maxLen ∧ ∀ y ∈ l0, g89 y) → (l1.length ≤ maxLen ∧ ∀ y ∈ l1, (Lit.int .i64 y).wf = true) → ∃ k, laws_FnExactSemicolons.f k l0 l1 = some true := by
  rintro l e ⟨hm, _⟩ ⟨hme, _⟩
  have hm' := Nat.le_trans hm maxLen_le
  refine ev_get (g := fun k => laws_FnExactSemicolons.f k l e) ?_
  unfold laws_FnExactSemicolons.f
  rw [laws_szItemS_eq l _ hm' (by omega) (by omega)]
  simp only [Option.bind_some, ev_ite]
  by_cases hs : (e.length : Int) > 1048576
  · rw [if_pos hs]
    exact ev_some.2 rfl
  rw [if_neg hs]
  have he : e.length ≤ 1048576 := by omega
  by_cases hl : l.length ≤ 1048576
  · rw [if_neg (by rw [if_neg (by omega)]; omega)]
    have hl' : (l.map cItem).length ≤ 1048576 := by simpa using hl
    have hw := semiB_length (l.map cItem) e
    have it := laws_toItemS_ev l hl
    have te := laws_toInt64S_ev e he
    have im := impl_Semicolons_ev _ _ hl' he
    rw [ev_bind it, ev_bind te, ev_bind (spec_Semicolons_ev _ _ hl' he), ev_bind it, ev_bind te, ev_bind im, ev_bind (laws_eqItemS_ev _ (by omega))]
    simp only [if_true, bne_self_eq_false]
    rw [ev_succ]
    simp only [laws_FnExactSemicolons.j0, Bool.false_eq_true, if_false]
    rw [ev_bind it, ev_bind (laws_eqItemS_ev _ (by omega))]
    simp only [if_true]
    rw [ev_bind te, ev_bind (laws_eqInt64S_ev _ (by omega))]
    simp only [if_true]
    rw [ev_bind (laws_markItemS_ev _ 1 (by omega) (by omega))]
    simp only
    rw [ev_bind (laws_markInt64S_ev _ _ (by omega) (by omega)), ev_ite, if_neg (by simp only; omega), ev_bind (laws_eqItemS_ev _ (by omega))]
    simp only [if_true, bne_self_eq_false]
    rw [ev_succ]
    simp only [laws_FnExactSemicolons.j1, Bool.false_eq_true, if_false]
    rw [ev_bind (laws_markItemS_ev _ 1 (by omega) (by omega))]
    simp only
    rw [ev_bind (laws_heldItemS_ev _ 1 (by omega) (by omega)), ev_ite, if_neg (by omega)]
    simp only [if_true]
    rw [ev_bind it, ev_bind te, ev_bind im, ev_bind (laws_eqItemS_ev _ (by omega))]
    simp only [if_true, bne_self_eq_false]
    rw [ev_succ]
    simp only [laws_FnExactSemicolons.j2, Bool.false_eq_true, if_false]
    rw [ev_bind (laws_heldItemS_ev _ 1 (by omega) (by omega)), ev_ite, if_neg (by omega)]
    simp only [if_true]
    exact ev_some.2 rfl
  · rw [if_pos (by rw [if_pos (by omega)]; omega)]
    exact ev_some.2 rfl
end Go.Proofs.Ytimdoghlnegpgaa.fnExactSemicolons.Pure
-- The kit's printed words WSized, cut down by wip/gen/pack.py to what this proof reaches.
/- The law FnExactSemicolons holds: every call returns true and leaves its arguments as they were. Conditions: none beyond what the given row says. This text: the row, out of the walk's contract and the pure statement. -/
namespace Go.Proofs.Ytimdoghlnegpgaa.fnExactSemicolons
open Go.ChangeShapes Go.WideShapes Go.ChangeAt Go.RowKit Go.Proofs.YtimdoghlnegpgaaW.PrintWords Go.Proofs.YtimdoghlnegpgaaOpen Go.Proofs.Ytimdoghlnegpgaa.P
open Go.ChangeMaps (open_string shut_string)
set_option linter.unusedVariables false
set_option linter.unusedSimpArgs false
theorem own : ownKnob Try.prog.godebug = none := by kernel_rfl
theorem laidOut : laidOutB Try.prog = true := by kernel_rfl
theorem o89 : Opens Try.prog 89 k89 g89 := opens_imp (opens_iso (fun x : S89 => (x.f0, x.f1, x.f2)) (fun p => ⟨p.1, p.2.1, p.2.2⟩) (fun _ => rfl) (opens_struct Try.underlying89 (by kernel_rfl) (fields_cons (opens_int Try.underlying2 (by kernel_rfl)) (fields_cons (opens_int Try.underlying2 (by kernel_rfl)) (fields_one (opens_int Try.underlying2 (by kernel_rfl))))))) (fun _ h => h)
set_option maxRecDepth 100000 in
theorem lifted (os : Os) (started : os.Started) (H : Type) (enc : TypeId × Value → H) :
    ReturnsInHanded {} Try.checked os 10 .any (Rows.fnExactSemicolonsSpec.pre6 enc Try.prog Try.f10 Rows.fnExactSemicolonsRow.domain false) (Rows.fnExactSemicolonsSpec.post enc Try.prog Try.f10 false true false false) := by
  refine returnsInHanded_of_change_sized (C := Try.checked) own started (by kernel_rfl) Try.func10
    (ChangeSpec.witness6 (enc := enc) (C := Try.checked) false ⟨#[], #[.slice none 0 0, .slice none 0 0], []⟩ 8 (by kernel_rfl) (by kernel_rfl) (by kernel_rfl) (by kernel_rfl)) ?_
  intro W base args ds gs before hval0 hW hcnd hsz0 _
  have hsz : (DataW.weightsEach Try.prog (Try.f10.params.toList ++ Rows.fnExactSemicolonsSpec.plain.varTypes Try.prog) (ds ++ gs)).all (· ≤ reachBytes) = true := hsz0
  have hval : ∀ (j : Nat) t v, Try.f10.params[j]? = some t → args[j]? = some v → Value.okWide Try.prog W .any base t v := hval0
  have hW' := hW
  obtain ⟨p, q, hA0, hV, rfl, hfz, hnd⟩ := hW
  have hA : DataW.TrodAll enc Try.prog W 0 (fun _ => true) true Try.f10.params.toList args.toList ds p := hA0
  rw [Try.params10] at hA hval hsz
  obtain ⟨v0, vs0, d0, ds0, p0, q0, hargs, rfl, rfl, h0, r0⟩ := trodAll_cons hA
  obtain ⟨v1, vs1, d1, ds1, p1, q1, rfl, rfl, rfl, h1, r1⟩ := trodAll_cons r0
  obtain ⟨rfl, rfl, rfl⟩ := trodAll_nil r1
  obtain rfl : args = #[v0, v1] := by cases args; simp_all
  obtain ⟨rfl, rfl⟩ := trodVars_none hV
  have k0' := h0
  have lt0 : ∀ x ∈ p0, x.block < W.heap.size := by obtain ⟨m, hm⟩ := k0'; exact DataW.trod_lt m _ _ _ hm
  obtain ⟨a0, len0, cap0, rfl⟩ := okWide_slice Try.underlying29 (hval 0 29 v0 rfl rfl)
  obtain ⟨fuel0, hf0⟩ := h0
  have hf0' : DataW.trod enc Try.prog W 0 (fun _ => true) true fuel0 29 [.slice a0 len0 cap0] = some (d0, p0) := hf0
  obtain ⟨x0, ⟨A0, c0, he0, hl0, hC0⟩, hG0⟩ := (opens_slice Try.underlying29 (by kernel_rfl) o89).op enc W 0 (fun _ => true) true fuel0 _ _ hf0'
  obtain ⟨rfl, rfl, rfl⟩ : a0 = A0 ∧ len0 = x0.length ∧ cap0 = c0 := by simpa using he0
  have k1' := h1
  have lt1 : ∀ x ∈ p1, x.block < W.heap.size := by obtain ⟨m, hm⟩ := k1'; exact DataW.trod_lt m _ _ _ hm
  obtain ⟨a1, len1, cap1, rfl⟩ := okWide_slice Try.underlying37 (hval 1 37 v1 rfl rfl)
  obtain ⟨fuel1, hf1⟩ := h1
  have hf1' : DataW.trod enc Try.prog W 0 (fun _ => true) true fuel1 37 [.slice a1 len1 cap1] = some (d1, p1) := hf1
  obtain ⟨x1, ⟨A1, c1, he1, hl1, hC1⟩, hG1⟩ := (opens_slice Try.underlying37 (by kernel_rfl) (opens_int Try.underlying2 (by kernel_rfl))).op enc W 0 (fun _ => true) true fuel1 _ _ hf1'
  obtain ⟨rfl, rfl, rfl⟩ : a1 = A1 ∧ len1 = x1.length ∧ cap1 = c1 := by simpa using he1
  clear hA0 hval0 hsz0 hsz
  obtain ⟨k, hk⟩ := Pure.pure_FnExactSemicolons x0 x1 hG0 hG1
  refine (laws_FnExactSemicolons.calls k _ _ x0 _ _ x1 true W hC0 hl0 hC1 hl1 hk).mono fun e W' ⟨he, bel0⟩ => ?_
  have bel : Below W.heap.size W W' := bel0
  subst he
  exact ⟨_, rfl, _, _, _, [], _, [], hW', trodAll_mk1 (shut_bool Try.underlying4 _), (trodAll_cons_mk (Below.trod laidOut (by kernel_rfl) (of_decide_eq_true (by kernel_rfl)) k0' bel lt0) (trodAll_cons_mk (Below.trod laidOut (by kernel_rfl) (of_decide_eq_true (by kernel_rfl)) k1' bel lt1) trodAll_mk0)), rfl, bel.frame _, fun h => by cases h⟩
theorem over : Rows.fnExactSemicolonsRow.holds Try.pinned (OpenSpec.ofChange Rows.fnExactSemicolonsSpec) :=
  OpenClaim.holds_of_wide 10 Try.f10 rfl rfl rfl rfl rfl rfl rfl ⟨rfl, rfl, rfl, rfl, rfl⟩ rfl rfl rfl rfl rfl (by kernel_rfl) Try.func10 (by kernel_rfl)
    (of_decide_eq_true (by kernel_rfl)) (by unfold Func.isWrapper; first | (rw [if_pos (by decide +kernel)]; kernel_rfl) | (rw [if_neg (by decide +kernel)]; exact ⟨rfl, rfl⟩))
    (fun os started H enc _ => lifted os started H enc)
theorem proved : Rows.FnExactSemicolonsSaid := over
#print axioms proved
end Go.Proofs.Ytimdoghlnegpgaa.fnExactSemicolons
namespace Go.Proofs.Ytimdoghlnegpgaa
/-- The row, under a short name, for the claim. -/
theorem fnExactSemicolons_holds : Rows.FnExactSemicolonsSaid := fnExactSemicolons.proved
end Go.Proofs.Ytimdoghlnegpgaa
