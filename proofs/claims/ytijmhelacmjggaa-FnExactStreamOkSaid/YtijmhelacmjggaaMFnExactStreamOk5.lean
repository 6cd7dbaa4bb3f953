/- The law FnExactStreamOk holds for every call: part 6 of 6 of the proof (the row). Conditions: none beyond what the given row says. -/
import Derived.Test.YtijmhelacmjggaaMFnExactStreamOk2
import Derived.Test.YtijmhelacmjggaaMFnExactStreamOk0
import Derived.Test.YtijmhelacmjggaaMFnExactStreamOk1
import Derived.Test.YtijmhelacmjggaaMFnExactStreamOk4
import Derived.Test.YtijmhelacmjggaaMFnExactStreamOk3
import Derived.SizedLaws
import Derived.ChangeSlices
import Derived.Test.YtijmhelacmjggaaRows
import Derived.WalkKit
import Derived.ProofKit
import Derived.OpenShut
import Derived.ShutString
import Derived.ChangeOld
import Derived.Below
namespace Go.Proofs.Ytijmhelacmjggaa.P
open Go.RowKit Go.Proofs.YtijmhelacmjggaaW.PrintWords Go.Proofs.YtijmhelacmjggaaW.PrintLast Go.Proofs.YtijmhelacmjggaaEv
set_option linter.unusedVariables false
set_option linter.unusedSimpArgs false
def g210 (x : S210) : Prop := (Lit.int .i64 x.f0).wf = true ∧ (Lit.int .i64 x.f1).wf = true
def cSpan (x : S210) : S103 := ⟨x.f0, x.f1⟩
theorem laws_szSpanS_eq (l : List S210) (a : Int) (hl : l.length ≤ 9223372036854775807) (h0 : 0 ≤ a) (h1 : a ≤ 1048576) : laws_szSpanS.f l a = some (if a < l.length then -1 else a - l.length) := by
  unfold laws_szSpanS.f
  rw [wrap_id (by omega) (by omega)]
  split <;> split <;> first | rfl | omega
theorem laws_toSpanS_ev (l : List S210) (hl : l.length ≤ 1048576) : Ev (fun k => laws_toSpanS.f k l) (l.map cSpan) := by
  unfold laws_toSpanS.f
  simp only [ev_ite]
  rw [if_pos (by omega), if_pos (by omega)]
  have h := ev_loop l.length (fun k i => laws_toSpanS.l0 k l (upTo cSpan z103 l i) (i : Nat)) (fun _ => l.map cSpan) ?_ ?_ 0 (by omega)
  · rw [upTo_zero] at h
    exact h
  · rw [ev_succ, upTo_all]
    simp [laws_toSpanS.l0, ev_some]
  · intro i hi ih
    have hr : l.getD i z210 = rd_T210 l i := by simp [rd_T210]
    skip
    rw [ev_succ]
    simp only [laws_toSpanS.l0, laws_toSpan.f, Option.bind_some, ev_ite]
    rw [if_pos (by omega), if_pos (by omega)]
    skip
    (try simp only [ev_ite])
    rw [if_pos (by rw [upTo_length _ _ _ _ (by omega)]; omega), wrap_succ hi (by omega)]
    have := upTo_set cSpan z103 l z210 i hi
    rw [hr] at this
    simp only [Int.toNat_natCast]
    simp only [cSpan] at this ih ⊢
    rw [this]
    exact ih
theorem laws_eqSpanS_ev (l : List S103) (hl : l.length ≤ 9223372036854775807) : Ev (fun k => laws_eqSpanS.f k l l) true := by
  unfold laws_eqSpanS.f
  simp only [ev_ite]
  rw [if_pos trivial]
  refine ev_loop l.length (fun k i => laws_eqSpanS.l0 k l l (i : Nat)) (fun _ => true) ?_ ?_ 0 (by omega)
  · rw [ev_succ]
    simp [laws_eqSpanS.l0, ev_some]
  · intro i hi ih
    skip
    rw [ev_succ]
    simp only [laws_eqSpanS.l0, laws_eqSpan.f, if_true, bne_self_eq_false, Bool.false_eq_true, if_false, Option.bind_some, ev_ite]
    rw [if_pos (by omega), if_pos (by omega), wrap_succ hi (by omega)]
    (try rw [if_pos (by omega)])
    skip
    (try simp only [if_true, ev_ite])
    exact ih
def g152 (x : S152) : Prop := (Lit.int .i64 x.f0).wf = true ∧ (x.f1.length ≤ maxLen ∧ ∀ y ∈ x.f1, g210 y) ∧ (x.f2.length ≤ maxLen ∧ ∀ y ∈ x.f2, (Lit.int .i64 y).wf = true) ∧ (Lit.int .i64 x.f3).wf = true ∧ (Lit.int .i64 x.f4).wf = true
def h156 (x : S156) : Prop := x.f1.length ≤ 9223372036854775807 ∧ x.f2.length ≤ 9223372036854775807
def cRNode (x : S152) : S156 := ⟨x.f0, (x.f1.map cSpan), x.f2, x.f3, x.f4⟩
def wRNode (x : S152) : Nat := x.f1.length + x.f2.length
theorem hRNode_of_g {x : S152} (hg : g152 x) : h156 (cRNode x) :=
  ⟨by simpa [h156, cRNode] using Nat.le_trans hg.2.1.1 maxLen_le, Nat.le_trans hg.2.2.1.1 maxLen_le⟩
theorem laws_szRNode_ev (v0 : Int) (v1 : List S210) (v2 : List Int) (v3 : Int) (v4 : Int) (a : Int) (h0 : 0 ≤ a) (h1 : a ≤ 1048576) (hb_v1 : v1.length ≤ 9223372036854775807) (hb_v2 : v2.length ≤ 9223372036854775807) : laws_szRNode.f v0 v1 v2 v3 v4 a = some (if a < ((v1.length + v2.length : Nat) : Int) then -1 else a - ((v1.length + v2.length : Nat) : Int)) := by
  unfold laws_szRNode.f
  rw [laws_szSpanS_eq v1 _ hb_v1 (by omega) (by omega)]
  simp only [Option.bind_some]
  by_cases c0_ : a < ((v1.length : Nat) : Int)
  · rw [if_pos c0_, if_pos (by omega)]
    skip
    (try first | rfl | rw [if_pos (by omega)])
  rw [if_neg c0_, if_neg (by omega)]
  rw [laws_szInt64S_eq v2 _ hb_v2 (by omega) (by omega)]
  simp only [Option.bind_some]
  by_cases c1_ : (a - ((v1.length : Nat) : Int)) < ((v2.length : Nat) : Int)
  · rw [if_pos c1_, if_pos (by omega)]
    skip
    (try first | rfl | rw [if_pos (by omega)])
  rw [if_neg c1_, if_neg (by omega)]
  skip
  (try rw [if_neg (by omega)])
  (try (first | rfl | omega | (congr 1; omega)))
theorem laws_toRNode_ev (v0 : Int) (v1 : List S210) (v2 : List Int) (v3 : Int) (v4 : Int) (hw_v1 : v1.length ≤ 1048576) (hw_v2 : v2.length ≤ 1048576) : Ev (fun k => laws_toRNode.f k v0 v1 v2 v3 v4) (v0, (v1.map cSpan), v2, v3, v4) := by
  unfold laws_toRNode.f
  rw [ev_bind (laws_toSpanS_ev v1 hw_v1)]
  rw [ev_bind (laws_toInt64S_ev v2 hw_v2)]
  exact ev_some.2 rfl
theorem laws_eqRNode_ev (v0 : Int) (v1 : List S103) (v2 : List Int) (v3 : Int) (v4 : Int) (hb_v1 : v1.length ≤ 9223372036854775807) (hb_v2 : v2.length ≤ 9223372036854775807) : Ev (fun k => laws_eqRNode.f k v0 v1 v2 v3 v4 v0 v1 v2 v3 v4) true := by
  unfold laws_eqRNode.f
  (try simp only [if_true, ev_ite, bne_self_eq_false, Bool.false_eq_true, if_false, ev_some])
  rw [ev_bind (laws_eqSpanS_ev v1 hb_v1)]
  (try simp only [if_true, ev_ite, bne_self_eq_false, Bool.false_eq_true, if_false, ev_some])
  rw [ev_bind (laws_eqInt64S_ev v2 hb_v2)]
  (try simp only [if_true, ev_ite, bne_self_eq_false, Bool.false_eq_true, if_false, ev_some])
theorem laws_szRNodeS_ev (l : List S152) (a : Int) (h0 : 0 ≤ a) (h1 : a ≤ 1048576) (hl : l.length ≤ 9223372036854775807) (hg : ∀ x ∈ l, g152 x) : Ev (fun k => laws_szRNodeS.f k l a) (if a < ((l.length + ws wRNode l : Nat) : Int) then -1 else a - ((l.length + ws wRNode l : Nat) : Int)) := by
  unfold laws_szRNodeS.f
  rw [wrap_id (by omega) (by omega)]
  simp only [ev_ite]
  by_cases c0 : a - (l.length : Int) < 0
  · rw [if_pos c0]
    exact ev_some.2 (by rw [if_pos (by omega)])
  rw [if_neg c0]
  have key := down l.length (fun i => ∀ x1 : Int, 0 ≤ x1 → x1 ≤ 1048576 → Ev (fun k => laws_szRNodeS.l0 k l x1 (i : Nat)) (if x1 < ((ws wRNode (l.drop i) : Nat) : Int) then -1 else x1 - ((ws wRNode (l.drop i) : Nat) : Int))) ?_ ?_ 0 (by omega) (a - (l.length : Int)) (by omega) (by omega)
  · refine ev_congr key ?_
    rw [List.drop_zero]
    split <;> split <;> first | rfl | omega
  · intro x1 h0 h1
    rw [ev_succ]
    simp only [laws_szRNodeS.l0, ev_ite, ev_some]
    rw [if_neg (by omega), List.drop_length]
    simp [ws]
    omega
  · intro i hi ih x1 h0 h1
    rw [ev_succ, ws_drop wRNode l z152 i hi]
    have hr : l.getD i z152 = rd_T152 l i := by simp [rd_T152]
    rw [hr]
    have hgy : g152 (rd_T152 l i) := by
      rw [← hr, List.getD_eq_getElem?_getD, List.getElem?_eq_getElem hi]
      exact hg _ (List.getElem_mem _)
    simp only [laws_szRNodeS.l0, ev_ite]
    rw [if_pos (by omega), if_pos (by omega), wrap_succ hi (by omega)]
    rw [laws_szRNode_ev _ _ _ _ _ x1 h0 h1 (Nat.le_trans (hgy).2.1.1 maxLen_le) (Nat.le_trans (hgy).2.2.1.1 maxLen_le)]
    simp only [Option.bind_some, ev_ite]
    have e : ((wRNode (rd_T152 l i) : Nat) : Int) = (((rd_T152 l i).f1.length + (rd_T152 l i).f2.length : Nat) : Int) := rfl
    by_cases c : x1 < ((wRNode (rd_T152 l i) : Nat) : Int)
    · have c' : x1 < (((rd_T152 l i).f1.length + (rd_T152 l i).f2.length : Nat) : Int) := by rw [← e]; exact c
      simp only [if_pos c']
      rw [if_pos (by omega)]
      exact ev_some.2 (by rw [if_pos (by omega)])
    · have c' : ¬ x1 < (((rd_T152 l i).f1.length + (rd_T152 l i).f2.length : Nat) : Int) := by rw [← e]; exact c
      simp only [if_neg c']
      rw [if_neg (by rw [← e]; omega)]
      refine ev_congr (ih _ (by rw [← e]; omega) (by rw [← e]; omega)) ?_
      rw [← e]
      split <;> split <;> first | rfl | omega
theorem laws_toRNodeS_ev (l : List S152) (hl : l.length + ws wRNode l ≤ 1048576) : Ev (fun k => laws_toRNodeS.f k l) (l.map cRNode) := by
  unfold laws_toRNodeS.f
  simp only [ev_ite]
  rw [if_pos (by omega), if_pos (by omega)]
  have h := ev_loop l.length (fun k i => laws_toRNodeS.l0 k l (upTo cRNode z156 l i) (i : Nat)) (fun _ => l.map cRNode) ?_ ?_ 0 (by omega)
  · rw [upTo_zero] at h
    exact h
  · rw [ev_succ, upTo_all]
    simp [laws_toRNodeS.l0, ev_some]
  · intro i hi ih
    have hr : l.getD i z152 = rd_T152 l i := by simp [rd_T152]
    have hwi : wRNode (rd_T152 l i) ≤ 1048576 := by
      rw [← hr]
      have := ws_le wRNode l z152 i hi
      omega
    rw [ev_succ]
    simp only [laws_toRNodeS.l0, ev_ite]
    rw [if_pos (by omega), if_pos (by omega)]
    rw [ev_bind (laws_toRNode_ev _ _ _ _ _ (by have e : (rd_T152 l i).f1.length ≤ wRNode (rd_T152 l i) := (by simp only [wRNode]; omega); omega) (by have e : (rd_T152 l i).f2.length ≤ wRNode (rd_T152 l i) := (by simp only [wRNode]; omega); omega))]
    (try simp only [ev_ite])
    rw [if_pos (by rw [upTo_length _ _ _ _ (by omega)]; omega), wrap_succ hi (by omega)]
    have := upTo_set cRNode z156 l z152 i hi
    rw [hr] at this
    simp only [Int.toNat_natCast]
    simp only [cRNode] at this ih ⊢
    rw [this]
    exact ih
theorem laws_eqRNodeS_ev (l : List S156) (hl : l.length ≤ 9223372036854775807) (hh : ∀ x ∈ l, h156 x) : Ev (fun k => laws_eqRNodeS.f k l l) true := by
  unfold laws_eqRNodeS.f
  simp only [ev_ite]
  rw [if_pos trivial]
  refine ev_loop l.length (fun k i => laws_eqRNodeS.l0 k l l (i : Nat)) (fun _ => true) ?_ ?_ 0 (by omega)
  · rw [ev_succ]
    simp [laws_eqRNodeS.l0, ev_some]
  · intro i hi ih
    have hhy : h156 (rd_T156 l i) := by
      have hr : l.getD i z156 = rd_T156 l i := by simp [rd_T156]
      rw [← hr, List.getD_eq_getElem?_getD, List.getElem?_eq_getElem hi]
      exact hh _ (List.getElem_mem _)
    rw [ev_succ]
    simp only [laws_eqRNodeS.l0, ev_ite]
    rw [if_pos (by omega), if_pos (by omega), wrap_succ hi (by omega)]
    (try rw [if_pos (by omega)])
    rw [ev_bind (laws_eqRNode_ev _ _ _ _ _ (hhy.1) (hhy.2))]
    (try simp only [if_true, ev_ite])
    exact ih
def g24 (x : S24) : Prop := (x.f0.length ≤ maxLen ∧ ∀ y ∈ x.f0, g152 y)
def h29 (x : S29) : Prop := (x.f0.length ≤ 9223372036854775807 ∧ ∀ y ∈ x.f0, h156 y)
def cRx (x : S24) : S29 := ⟨(x.f0.map cRNode)⟩
theorem hRx_of_g {x : S24} (hg : g24 x) : h29 (cRx x) :=
  ⟨by simpa [cRx] using Nat.le_trans hg.1 maxLen_le, fun y hy => by
    obtain ⟨z, hz, rfl⟩ := List.mem_map.1 hy
    exact hRNode_of_g (hg.2 z hz)⟩
theorem laws_szRx_ev (v0 : List S152) (a : Int) (h0 : 0 ≤ a) (h1 : a ≤ 1048576) (hb_v0 : v0.length ≤ 9223372036854775807) (hg_v0 : ∀ x ∈ v0, g152 x) : Ev (fun k => laws_szRx.f k v0 a) (if a < (((v0.length + ws wRNode v0) : Nat) : Int) then -1 else a - (((v0.length + ws wRNode v0) : Nat) : Int)) := by
  unfold laws_szRx.f
  rw [ev_bind (laws_szRNodeS_ev v0 _ (by omega) (by omega) hb_v0 hg_v0)]
  simp only [Option.bind_some, ev_ite]
  by_cases c0_ : a < (((v0.length + ws wRNode v0) : Nat) : Int)
  · rw [if_pos c0_, if_pos (by omega)]
    refine ev_some.2 ?_
    (try first | rfl | rw [if_pos (by omega)])
  rw [if_neg c0_, if_neg (by omega)]
  refine ev_some.2 ?_
  (try rw [if_neg (by omega)])
  (try (first | rfl | omega | (congr 1; omega)))
theorem laws_toRx_ev (v0 : List S152) (hw_v0 : (v0.length + ws wRNode v0) ≤ 1048576) : Ev (fun k => laws_toRx.f k v0) (v0.map cRNode) := by
  unfold laws_toRx.f
  rw [ev_bind (laws_toRNodeS_ev v0 hw_v0)]
  exact ev_some.2 rfl
theorem laws_eqRx_ev (v0 : List S156) (hb_v0 : v0.length ≤ 9223372036854775807) (hh_v0 : ∀ x ∈ v0, h156 x) : Ev (fun k => laws_eqRx.f k v0 v0) true := by
  unfold laws_eqRx.f
  (try simp only [if_true, ev_ite, bne_self_eq_false, Bool.false_eq_true, if_false, ev_some])
  rw [ev_bind (laws_eqRNodeS_ev v0 hb_v0 hh_v0)]
  (try simp only [if_true, ev_ite, bne_self_eq_false, Bool.false_eq_true, if_false, ev_some])
def g218 (x : S218) : Prop := x.f0.size ≤ maxLen ∧ g24 x.f1 ∧ True ∧ (Lit.int .i64 x.f3).wf = true ∧ x.f4.size ≤ maxLen
def h113 (x : S113) : Prop := h29 x.f1
def cRule (x : S218) : S113 := ⟨x.f0, cRx x.f1, x.f2, x.f3, x.f4⟩
def wRule (x : S218) : Nat := x.f0.size + (x.f1.f0.length + ws wRNode x.f1.f0) + x.f4.size
theorem hRule_of_g {x : S218} (hg : g218 x) : h113 (cRule x) :=
  hRx_of_g hg.2.1
theorem laws_szRule_ev (v0 : ByteArray) (v1 : List S152) (v2 : Bool) (v3 : Int) (v4 : ByteArray) (a : Int) (h0 : 0 ≤ a) (h1 : a ≤ 1048576) (hb_v0 : v0.size ≤ 9223372036854775807) (hb_v1 : v1.length ≤ 9223372036854775807) (hg_v1 : ∀ x ∈ v1, g152 x) (hb_v4 : v4.size ≤ 9223372036854775807) : Ev (fun k => laws_szRule.f k v0 v1 v2 v3 v4 a) (if a < ((v0.size + (v1.length + ws wRNode v1) + v4.size : Nat) : Int) then -1 else a - ((v0.size + (v1.length + ws wRNode v1) + v4.size : Nat) : Int)) := by
  unfold laws_szRule.f
  rw [wrap_id (x := a - (v0.size : Int)) (by omega) (by omega)]
  (try simp only [ev_ite])
  by_cases c_v0 : a - (v0.size : Int) < 0
  · rw [if_pos c_v0]
    refine ev_some.2 ?_
    (try first | rfl | rw [if_pos (by omega)])
  rw [if_neg c_v0]
  rw [ev_bind (laws_szRx_ev v1 _ (by omega) (by omega) hb_v1 hg_v1)]
  (try simp only [Option.bind_some, ev_ite])
  by_cases c1_ : (a - (v0.size : Int)) < (((v1.length + ws wRNode v1) : Nat) : Int)
  · rw [if_pos c1_, if_pos (by omega)]
    refine ev_some.2 ?_
    (try first | rfl | rw [if_pos (by omega)])
  rw [if_neg c1_, if_neg (by omega)]
  rw [wrap_id (x := ((a - (v0.size : Int)) - (((v1.length + ws wRNode v1) : Nat) : Int)) - (v4.size : Int)) (by omega) (by omega)]
  (try simp only [ev_ite])
  by_cases c_v4 : ((a - (v0.size : Int)) - (((v1.length + ws wRNode v1) : Nat) : Int)) - (v4.size : Int) < 0
  · rw [if_pos c_v4]
    refine ev_some.2 ?_
    (try first | rfl | rw [if_pos (by omega)])
  rw [if_neg c_v4]
  refine ev_some.2 ?_
  (try rw [if_neg (by omega)])
  (try (first | rfl | omega | (congr 1; omega)))
theorem laws_toRule_ev (v0 : ByteArray) (v1 : List S152) (v2 : Bool) (v3 : Int) (v4 : ByteArray) (hw_v1 : (v1.length + ws wRNode v1) ≤ 1048576) : Ev (fun k => laws_toRule.f k v0 v1 v2 v3 v4) (v0, (v1.map cRNode), v2, v3, v4) := by
  unfold laws_toRule.f
  rw [ev_bind (laws_toRx_ev v1 hw_v1)]
  exact ev_some.2 rfl
theorem laws_eqRule_ev (v0 : ByteArray) (v1 : List S156) (v2 : Bool) (v3 : Int) (v4 : ByteArray) (hb_v1 : v1.length ≤ 9223372036854775807) (hh_v1 : ∀ x ∈ v1, h156 x) : Ev (fun k => laws_eqRule.f k v0 v1 v2 v3 v4 v0 v1 v2 v3 v4) true := by
  unfold laws_eqRule.f
  (try simp only [if_true, ev_ite, bne_self_eq_false, Bool.false_eq_true, if_false, ev_some])
  rw [ev_bind (laws_eqRx_ev v1 hb_v1 hh_v1)]
  (try simp only [if_true, ev_ite, bne_self_eq_false, Bool.false_eq_true, if_false, ev_some])
theorem laws_szRuleS_ev (l : List S218) (a : Int) (h0 : 0 ≤ a) (h1 : a ≤ 1048576) (hl : l.length ≤ 9223372036854775807) (hg : ∀ x ∈ l, g218 x) : Ev (fun k => laws_szRuleS.f k l a) (if a < ((l.length + ws wRule l : Nat) : Int) then -1 else a - ((l.length + ws wRule l : Nat) : Int)) := by
  unfold laws_szRuleS.f
  rw [wrap_id (by omega) (by omega)]
  simp only [ev_ite]
  by_cases c0 : a - (l.length : Int) < 0
  · rw [if_pos c0]
    exact ev_some.2 (by rw [if_pos (by omega)])
  rw [if_neg c0]
  have key := down l.length (fun i => ∀ x1 : Int, 0 ≤ x1 → x1 ≤ 1048576 → Ev (fun k => laws_szRuleS.l0 k l x1 (i : Nat)) (if x1 < ((ws wRule (l.drop i) : Nat) : Int) then -1 else x1 - ((ws wRule (l.drop i) : Nat) : Int))) ?_ ?_ 0 (by omega) (a - (l.length : Int)) (by omega) (by omega)
  · refine ev_congr key ?_
    rw [List.drop_zero]
    split <;> split <;> first | rfl | omega
  · intro x1 h0 h1
    rw [ev_succ]
    simp only [laws_szRuleS.l0, ev_ite, ev_some]
    rw [if_neg (by omega), List.drop_length]
    simp [ws]
    omega
  · intro i hi ih x1 h0 h1
    rw [ev_succ, ws_drop wRule l z218 i hi]
    have hr : l.getD i z218 = rd_T218 l i := by simp [rd_T218]
    rw [hr]
    have hgy : g218 (rd_T218 l i) := by
      rw [← hr, List.getD_eq_getElem?_getD, List.getElem?_eq_getElem hi]
      exact hg _ (List.getElem_mem _)
    simp only [laws_szRuleS.l0, ev_ite]
    rw [if_pos (by omega), if_pos (by omega), wrap_succ hi (by omega)]
    rw [ev_bind (laws_szRule_ev _ _ _ _ _ x1 h0 h1 (Nat.le_trans (hgy).1 maxLen_le) (Nat.le_trans (hgy).2.1.1 maxLen_le) (hgy).2.1.2 (Nat.le_trans (hgy).2.2.2.2 maxLen_le))]
    simp only [Option.bind_some, ev_ite]
    have e : ((wRule (rd_T218 l i) : Nat) : Int) = (((rd_T218 l i).f0.size + ((rd_T218 l i).f1.f0.length + ws wRNode (rd_T218 l i).f1.f0) + (rd_T218 l i).f4.size : Nat) : Int) := rfl
    by_cases c : x1 < ((wRule (rd_T218 l i) : Nat) : Int)
    · have c' : x1 < (((rd_T218 l i).f0.size + ((rd_T218 l i).f1.f0.length + ws wRNode (rd_T218 l i).f1.f0) + (rd_T218 l i).f4.size : Nat) : Int) := by rw [← e]; exact c
      simp only [if_pos c']
      rw [if_pos (by omega)]
      exact ev_some.2 (by rw [if_pos (by omega)])
    · have c' : ¬ x1 < (((rd_T218 l i).f0.size + ((rd_T218 l i).f1.f0.length + ws wRNode (rd_T218 l i).f1.f0) + (rd_T218 l i).f4.size : Nat) : Int) := by rw [← e]; exact c
      simp only [if_neg c']
      rw [if_neg (by rw [← e]; omega)]
      refine ev_congr (ih _ (by rw [← e]; omega) (by rw [← e]; omega)) ?_
      rw [← e]
      split <;> split <;> first | rfl | omega
theorem laws_toRuleS_ev (l : List S218) (hl : l.length + ws wRule l ≤ 1048576) : Ev (fun k => laws_toRuleS.f k l) (l.map cRule) := by
  unfold laws_toRuleS.f
  simp only [ev_ite]
  rw [if_pos (by omega), if_pos (by omega)]
  have h := ev_loop l.length (fun k i => laws_toRuleS.l0 k l (upTo cRule z113 l i) (i : Nat)) (fun _ => l.map cRule) ?_ ?_ 0 (by omega)
  · rw [upTo_zero] at h
    exact h
  · rw [ev_succ, upTo_all]
    simp [laws_toRuleS.l0, ev_some]
  · intro i hi ih
    have hr : l.getD i z218 = rd_T218 l i := by simp [rd_T218]
    have hwi : wRule (rd_T218 l i) ≤ 1048576 := by
      rw [← hr]
      have := ws_le wRule l z218 i hi
      omega
    rw [ev_succ]
    simp only [laws_toRuleS.l0, ev_ite]
    rw [if_pos (by omega), if_pos (by omega)]
    rw [ev_bind (laws_toRule_ev _ _ _ _ _ (by have e : ((rd_T218 l i).f1.f0.length + ws wRNode (rd_T218 l i).f1.f0) ≤ wRule (rd_T218 l i) := (by simp only [wRule]; omega); omega))]
    (try simp only [ev_ite])
    rw [if_pos (by rw [upTo_length _ _ _ _ (by omega)]; omega), wrap_succ hi (by omega)]
    have := upTo_set cRule z113 l z218 i hi
    rw [hr] at this
    simp only [Int.toNat_natCast]
    simp only [cRule, cRx] at this ih ⊢
    rw [this]
    exact ih
theorem laws_eqRuleS_ev (l : List S113) (hl : l.length ≤ 9223372036854775807) (hh : ∀ x ∈ l, h113 x) : Ev (fun k => laws_eqRuleS.f k l l) true := by
  unfold laws_eqRuleS.f
  simp only [ev_ite]
  rw [if_pos trivial]
  refine ev_loop l.length (fun k i => laws_eqRuleS.l0 k l l (i : Nat)) (fun _ => true) ?_ ?_ 0 (by omega)
  · rw [ev_succ]
    simp [laws_eqRuleS.l0, ev_some]
  · intro i hi ih
    have hhy : h113 (rd_T113 l i) := by
      have hr : l.getD i z113 = rd_T113 l i := by simp [rd_T113]
      rw [← hr, List.getD_eq_getElem?_getD, List.getElem?_eq_getElem hi]
      exact hh _ (List.getElem_mem _)
    rw [ev_succ]
    simp only [laws_eqRuleS.l0, ev_ite]
    rw [if_pos (by omega), if_pos (by omega), wrap_succ hi (by omega)]
    (try rw [if_pos (by omega)])
    rw [ev_bind (laws_eqRule_ev _ _ _ _ _ (hhy.1) (hhy.2))]
    (try simp only [if_true, ev_ite])
    exact ih
def g171 (x : S171) : Prop := x.f0.size ≤ maxLen ∧ (x.f1.length ≤ maxLen ∧ ∀ y ∈ x.f1, g218 y)
def h108 (x : S108) : Prop := (x.f1.length ≤ 9223372036854775807 ∧ ∀ y ∈ x.f1, h113 y)
def cMode (x : S171) : S108 := ⟨x.f0, (x.f1.map cRule)⟩
def wMode (x : S171) : Nat := x.f0.size + (x.f1.length + ws wRule x.f1)
theorem hMode_of_g {x : S171} (hg : g171 x) : h108 (cMode x) :=
  ⟨by simpa [cMode] using Nat.le_trans hg.2.1 maxLen_le, fun y hy => by
    obtain ⟨z, hz, rfl⟩ := List.mem_map.1 hy
    exact hRule_of_g (hg.2.2 z hz)⟩
theorem laws_szMode_ev (v0 : ByteArray) (v1 : List S218) (a : Int) (h0 : 0 ≤ a) (h1 : a ≤ 1048576) (hb_v0 : v0.size ≤ 9223372036854775807) (hb_v1 : v1.length ≤ 9223372036854775807) (hg_v1 : ∀ x ∈ v1, g218 x) : Ev (fun k => laws_szMode.f k v0 v1 a) (if a < ((v0.size + (v1.length + ws wRule v1) : Nat) : Int) then -1 else a - ((v0.size + (v1.length + ws wRule v1) : Nat) : Int)) := by
  unfold laws_szMode.f
  rw [wrap_id (x := a - (v0.size : Int)) (by omega) (by omega)]
  simp only [ev_ite]
  by_cases c_v0 : a - (v0.size : Int) < 0
  · rw [if_pos c_v0]
    refine ev_some.2 ?_
    (try first | rfl | rw [if_pos (by omega)])
  rw [if_neg c_v0]
  rw [ev_bind (laws_szRuleS_ev v1 _ (by omega) (by omega) hb_v1 hg_v1)]
  simp only [Option.bind_some, ev_ite]
  by_cases c1_ : (a - (v0.size : Int)) < (((v1.length + ws wRule v1) : Nat) : Int)
  · rw [if_pos c1_, if_pos (by omega)]
    refine ev_some.2 ?_
    (try first | rfl | rw [if_pos (by omega)])
  rw [if_neg c1_, if_neg (by omega)]
  refine ev_some.2 ?_
  (try rw [if_neg (by omega)])
  (try (first | rfl | omega | (congr 1; omega)))
theorem laws_toMode_ev (v0 : ByteArray) (v1 : List S218) (hw_v1 : (v1.length + ws wRule v1) ≤ 1048576) : Ev (fun k => laws_toMode.f k v0 v1) (v0, (v1.map cRule)) := by
  unfold laws_toMode.f
  rw [ev_bind (laws_toRuleS_ev v1 hw_v1)]
  exact ev_some.2 rfl
theorem laws_eqMode_ev (v0 : ByteArray) (v1 : List S113) (hb_v1 : v1.length ≤ 9223372036854775807) (hh_v1 : ∀ x ∈ v1, h113 x) : Ev (fun k => laws_eqMode.f k v0 v1 v0 v1) true := by
  unfold laws_eqMode.f
  (try simp only [if_true, ev_ite, bne_self_eq_false, Bool.false_eq_true, if_false, ev_some])
  rw [ev_bind (laws_eqRuleS_ev v1 hb_v1 hh_v1)]
  (try simp only [if_true, ev_ite, bne_self_eq_false, Bool.false_eq_true, if_false, ev_some])
theorem laws_szModeS_ev (l : List S171) (a : Int) (h0 : 0 ≤ a) (h1 : a ≤ 1048576) (hl : l.length ≤ 9223372036854775807) (hg : ∀ x ∈ l, g171 x) : Ev (fun k => laws_szModeS.f k l a) (if a < ((l.length + ws wMode l : Nat) : Int) then -1 else a - ((l.length + ws wMode l : Nat) : Int)) := by
  unfold laws_szModeS.f
  rw [wrap_id (by omega) (by omega)]
  simp only [ev_ite]
  by_cases c0 : a - (l.length : Int) < 0
  · rw [if_pos c0]
    exact ev_some.2 (by rw [if_pos (by omega)])
  rw [if_neg c0]
  have key := down l.length (fun i => ∀ x1 : Int, 0 ≤ x1 → x1 ≤ 1048576 → Ev (fun k => laws_szModeS.l0 k l x1 (i : Nat)) (if x1 < ((ws wMode (l.drop i) : Nat) : Int) then -1 else x1 - ((ws wMode (l.drop i) : Nat) : Int))) ?_ ?_ 0 (by omega) (a - (l.length : Int)) (by omega) (by omega)
  · refine ev_congr key ?_
    rw [List.drop_zero]
    split <;> split <;> first | rfl | omega
  · intro x1 h0 h1
    rw [ev_succ]
    simp only [laws_szModeS.l0, ev_ite, ev_some]
    rw [if_neg (by omega), List.drop_length]
    simp [ws]
    omega
  · intro i hi ih x1 h0 h1
    rw [ev_succ, ws_drop wMode l z171 i hi]
    have hr : l.getD i z171 = rd_T171 l i := by simp [rd_T171]
    rw [hr]
    have hgy : g171 (rd_T171 l i) := by
      rw [← hr, List.getD_eq_getElem?_getD, List.getElem?_eq_getElem hi]
      exact hg _ (List.getElem_mem _)
    simp only [laws_szModeS.l0, ev_ite]
    rw [if_pos (by omega), if_pos (by omega), wrap_succ hi (by omega)]
    rw [ev_bind (laws_szMode_ev _ _ x1 h0 h1 (Nat.le_trans (hgy).1 maxLen_le) (Nat.le_trans (hgy).2.1 maxLen_le) (hgy).2.2)]
    simp only [Option.bind_some, ev_ite]
    have e : ((wMode (rd_T171 l i) : Nat) : Int) = (((rd_T171 l i).f0.size + ((rd_T171 l i).f1.length + ws wRule (rd_T171 l i).f1) : Nat) : Int) := rfl
    by_cases c : x1 < ((wMode (rd_T171 l i) : Nat) : Int)
    · have c' : x1 < (((rd_T171 l i).f0.size + ((rd_T171 l i).f1.length + ws wRule (rd_T171 l i).f1) : Nat) : Int) := by rw [← e]; exact c
      simp only [if_pos c']
      rw [if_pos (by omega)]
      exact ev_some.2 (by rw [if_pos (by omega)])
    · have c' : ¬ x1 < (((rd_T171 l i).f0.size + ((rd_T171 l i).f1.length + ws wRule (rd_T171 l i).f1) : Nat) : Int) := by rw [← e]; exact c
      simp only [if_neg c']
      rw [if_neg (by rw [← e]; omega)]
      refine ev_congr (ih _ (by rw [← e]; omega) (by rw [← e]; omega)) ?_
      rw [← e]
      split <;> split <;> first | rfl | omega
theorem laws_toModeS_ev (l : List S171) (hl : l.length + ws wMode l ≤ 1048576) : Ev (fun k => laws_toModeS.f k l) (l.map cMode) := by
  unfold laws_toModeS.f
  simp only [ev_ite]
  rw [if_pos (by omega), if_pos (by omega)]
  have h := ev_loop l.length (fun k i => laws_toModeS.l0 k l (upTo cMode z108 l i) (i : Nat)) (fun _ => l.map cMode) ?_ ?_ 0 (by omega)
  · rw [upTo_zero] at h
    exact h
  · rw [ev_succ, upTo_all]
    simp [laws_toModeS.l0, ev_some]
  · intro i hi ih
    have hr : l.getD i z171 = rd_T171 l i := by simp [rd_T171]
    have hwi : wMode (rd_T171 l i) ≤ 1048576 := by
      rw [← hr]
      have := ws_le wMode l z171 i hi
      omega
    rw [ev_succ]
    simp only [laws_toModeS.l0, ev_ite]
    rw [if_pos (by omega), if_pos (by omega)]
    rw [ev_bind (laws_toMode_ev _ _ (by have e : ((rd_T171 l i).f1.length + ws wRule (rd_T171 l i).f1) ≤ wMode (rd_T171 l i) := (by simp only [wMode]; omega); omega))]
    (try simp only [ev_ite])
    rw [if_pos (by rw [upTo_length _ _ _ _ (by omega)]; omega), wrap_succ hi (by omega)]
    have := upTo_set cMode z108 l z171 i hi
    rw [hr] at this
    simp only [Int.toNat_natCast]
    simp only [cMode] at this ih ⊢
    rw [this]
    exact ih
theorem laws_eqModeS_ev (l : List S108) (hl : l.length ≤ 9223372036854775807) (hh : ∀ x ∈ l, h108 x) : Ev (fun k => laws_eqModeS.f k l l) true := by
  unfold laws_eqModeS.f
  simp only [ev_ite]
  rw [if_pos trivial]
  refine ev_loop l.length (fun k i => laws_eqModeS.l0 k l l (i : Nat)) (fun _ => true) ?_ ?_ 0 (by omega)
  · rw [ev_succ]
    simp [laws_eqModeS.l0, ev_some]
  · intro i hi ih
    have hhy : h108 (rd_T108 l i) := by
      have hr : l.getD i z108 = rd_T108 l i := by simp [rd_T108]
      rw [← hr, List.getD_eq_getElem?_getD, List.getElem?_eq_getElem hi]
      exact hh _ (List.getElem_mem _)
    rw [ev_succ]
    simp only [laws_eqModeS.l0, ev_ite]
    rw [if_pos (by omega), if_pos (by omega), wrap_succ hi (by omega)]
    (try rw [if_pos (by omega)])
    rw [ev_bind (laws_eqMode_ev _ _ (hhy.1) (hhy.2))]
    (try simp only [if_true, ev_ite])
    exact ih
theorem laws_szGrammar_ev (v0 : List S171) (a : Int) (h0 : 0 ≤ a) (h1 : a ≤ 1048576) (hb_v0 : v0.length ≤ 9223372036854775807) (hg_v0 : ∀ x ∈ v0, g171 x) : Ev (fun k => laws_szGrammar.f k v0 a) (if a < (((v0.length + ws wMode v0) : Nat) : Int) then -1 else a - (((v0.length + ws wMode v0) : Nat) : Int)) := by
  unfold laws_szGrammar.f
  rw [ev_bind (laws_szModeS_ev v0 _ (by omega) (by omega) hb_v0 hg_v0)]
  simp only [Option.bind_some, ev_ite]
  by_cases c0_ : a < (((v0.length + ws wMode v0) : Nat) : Int)
  · rw [if_pos c0_, if_pos (by omega)]
    refine ev_some.2 ?_
    (try first | rfl | rw [if_pos (by omega)])
  rw [if_neg c0_, if_neg (by omega)]
  refine ev_some.2 ?_
  (try rw [if_neg (by omega)])
  (try (first | rfl | omega | (congr 1; omega)))
theorem laws_toGrammar_ev (v0 : List S171) (hw_v0 : (v0.length + ws wMode v0) ≤ 1048576) : Ev (fun k => laws_toGrammar.f k v0) (v0.map cMode) := by
  unfold laws_toGrammar.f
  rw [ev_bind (laws_toModeS_ev v0 hw_v0)]
  exact ev_some.2 rfl
theorem laws_eqGrammar_ev (v0 : List S108) (hb_v0 : v0.length ≤ 9223372036854775807) (hh_v0 : ∀ x ∈ v0, h108 x) : Ev (fun k => laws_eqGrammar.f k v0 v0) true := by
  unfold laws_eqGrammar.f
  (try simp only [if_true, ev_ite, bne_self_eq_false, Bool.false_eq_true, if_false, ev_some])
  rw [ev_bind (laws_eqModeS_ev v0 hb_v0 hh_v0)]
  (try simp only [if_true, ev_ite, bne_self_eq_false, Bool.false_eq_true, if_false, ev_some])
theorem smallR_of (x : S218) (hw : wRule x ≤ 1048576) (hg : g218 x) : smallR (cRule x) := by
  have e : x.f0.size + (x.f1.f0.length + ws wRNode x.f1.f0) + x.f4.size ≤ 1048576 := hw
  refine ⟨by show x.f0.size ≤ _; omega, by show (x.f1.f0.map cRNode).length ≤ _; rw [List.length_map]; omega, fun y hy => ?_⟩
  obtain ⟨z, hz, rfl⟩ := List.mem_map.1 (show y ∈ x.f1.f0.map cRNode from hy)
  exact (hRNode_of_g (hg.2.1.2 z hz)).2
theorem smallM_of (x : S171) (hw : wMode x ≤ 1048576) (hg : g171 x) : smallM (cMode x) := by
  have e : x.f0.size + (x.f1.length + ws wRule x.f1) ≤ 1048576 := hw
  refine ⟨by show x.f0.size ≤ _; omega, by show (x.f1.map cRule).length ≤ _; rw [List.length_map]; omega, fun y hy => ?_⟩
  obtain ⟨z, hz, rfl⟩ := List.mem_map.1 (show y ∈ x.f1.map cRule from hy)
  have := ws_mem wRule _ z hz
  exact smallR_of z (by omega) (hg.2.2 z hz)
theorem smallG_of (l : List S171) (hw : l.length + ws wMode l ≤ 1048576) (hg : ∀ y ∈ l, g171 y) : smallG (l.map cMode) := by
  refine ⟨by rw [List.length_map]; omega, fun y hy => ?_⟩
  obtain ⟨z, hz, rfl⟩ := List.mem_map.1 hy
  have := ws_mem wMode _ z hz
  exact smallM_of z (by omega) (hg z hz)
theorem hMode_all (l : List S171) (hg : ∀ y ∈ l, g171 y) : ∀ x ∈ l.map cMode, h108 x := fun y hy => by
  obtain ⟨z, hz, rfl⟩ := List.mem_map.1 hy
  exact hMode_of_g (hg z hz)
theorem impl_GrammarOk_eq (g : List S108) (h : smallG g) : impl_GrammarOk.f g = some (grammarB g) := if_pos ((smallG_iff g).2 h)
def placeB (p l c e : Int) : Bool := decide (0 ≤ p ∧ p ≤ 1000000000000) && (decide (1 ≤ l ∧ l ≤ 1000000000000) && (decide (1 ≤ c ∧ c ≤ 1000000000000) && (decide (e = 0) || decide (2 ≤ e ∧ e ≤ 4))))
def streamB (n : Int) (st : List Int) (held : ByteArray) (p l c e : Int) : Bool := decide (1 ≤ st.length ∧ st.length ≤ 20) && (decide (held.size ≤ 20000) && ((st.all fun x => decide (0 ≤ x ∧ x ≤ n - 1)) && placeB p l c e))
theorem any_not_all' {α : Type} (l : List α) (p : α → Bool) : (!(l.any fun x => !p x)) = l.all p := by
  rw [any_not_all, Bool.not_not]
theorem impl_streamOk_ev (n : Int) (h0 : 0 ≤ n) (h1 : n ≤ 1048576) (st : List Int) (held : ByteArray) (p l c e : Int) : Ev (fun k => impl_streamOk.f k n st held p l c e) (streamB n st held p l c e) := by
  have hj : ∀ x : Bool, Ev (fun k => impl_streamOk.j0 k x st held p l c e) (!x && placeB p l c e) := by
    intro x
    rw [ev_succ]
    cases x
    · simp only [impl_streamOk.j0, Bool.false_eq_true, if_false, impl_within_eq, Option.bind_some, Bool.not_false, Bool.true_and]
      unfold placeB
      cases decide (0 ≤ p ∧ p ≤ 1000000000000)
      · exact ev_some.2 rfl
      cases decide (1 ≤ l ∧ l ≤ 1000000000000)
      · exact ev_some.2 rfl
      cases decide (1 ≤ c ∧ c ≤ 1000000000000)
      · exact ev_some.2 rfl
      by_cases he : e = 0
      · rw [if_pos rfl, if_pos rfl, if_pos rfl, if_pos he, decide_eq_true he]
        exact ev_some.2 rfl
      · rw [if_pos rfl, if_pos rfl, if_pos rfl, if_neg he, decide_eq_false he]
        exact ev_some.2 (by simp)
    · simp only [impl_streamOk.j0, if_true]
      exact ev_some.2 rfl
  unfold impl_streamOk.f streamB
  simp only [impl_size_int64.f, impl_within_eq, Option.bind_some, impl_areWithin.f, areB]
  rw [any_not_all', wrap_id (x := n - 1) (by omega) (by omega)]
  have hd : decide (1 ≤ (st.length : Int) ∧ (st.length : Int) ≤ 20) = decide (1 ≤ st.length ∧ st.length ≤ 20) := decide_eq_decide.2 (by omega)
  have hz : decide ((held.size : Int) > 20000) = !decide (held.size ≤ 20000) := by
    rw [← decide_not]
    exact decide_eq_decide.2 (by omega)
  rw [hd, hz]
  cases decide (1 ≤ st.length ∧ st.length ≤ 20)
  · simp only [Bool.false_eq_true, if_false]
    exact ev_congr (hj true) (by simp)
  cases (st.all fun x => decide (0 ≤ x ∧ x ≤ n - 1))
  · simp only [if_true, Bool.false_eq_true, if_false]
    exact ev_congr (hj true) (by simp)
  · simp only [if_true]
    exact ev_congr (hj _) (by simp)
theorem impl_StreamOk_ev (g : List S108) (hg : smallG g) (st : List Int) (held : ByteArray) (p l c e : Int) : Ev (fun k => impl_StreamOk.f k g st held p l c e) (grammarB g && streamB (g.length : Int) st held p l c e) := by
  have hgl := hg.1
  unfold impl_StreamOk.f
  simp only [impl_GrammarOk_eq g hg, impl_Mode_80.f, Option.bind_some]
  cases grammarB g
  · simp only [Bool.false_eq_true, if_false]
    exact ev_some.2 rfl
  · simp only [if_true]
    rw [ev_bind (impl_streamOk_ev _ (by omega) (by omega) st held p l c e)]
    exact ev_some.2 (by simp)
theorem spec_StreamOk_l0_ev (g : List S108) (hg : smallG g) (st : List Int) (hst : st.length ≤ 1048576) (held : ByteArray) (p l c e : Int) : Ev (fun k => spec_StreamOk.l0 k 0 g st held p l c e) ((st.all fun x => decide (0 ≤ x ∧ x ≤ (g.length : Int) - 1)) && placeB p l c e) := by
  have hgl := hg.1
  refine ev_congr (ev_loop st.length (fun k i => spec_StreamOk.l0 k (i : Nat) g st held p l c e) (fun i => ((st.drop i).all fun x => decide (0 ≤ x ∧ x ≤ (g.length : Int) - 1)) && placeB p l c e) ?_ ?_ 0 (by omega)) (by simp)
  · rw [ev_succ]
    simp only [spec_StreamOk.l0, ev_ite]
    rw [if_neg (by omega), List.drop_length, List.all_nil, Bool.true_and]
    simp only [spec_l1In_eq, Option.bind_some]
    unfold placeB
    cases decide (0 ≤ p ∧ p ≤ 1000000000000)
    · exact ev_some.2 rfl
    cases decide (1 ≤ l ∧ l ≤ 1000000000000)
    · exact ev_some.2 rfl
    cases decide (1 ≤ c ∧ c ≤ 1000000000000)
    · exact ev_some.2 rfl
    by_cases he : e = 0
    · rw [if_pos rfl, if_pos rfl, if_pos rfl, if_pos he, decide_eq_true he]
      exact ev_some.2 rfl
    · rw [if_pos rfl, if_pos rfl, if_pos rfl, if_neg he, decide_eq_false he]
      exact ev_some.2 (by simp)
  · intro i hi ih
    rw [ev_succ, all_drop st 0 _ i hi]
    have hr : st.getD i 0 = rd st (i : Int) := by simp [rd]
    rw [hr]
    simp only [spec_StreamOk.l0, ev_ite, spec_l1In_eq, Option.bind_some]
    rw [if_pos (by omega), if_pos (by omega), wrap_succ hi (by omega), wrap_id (x := (g.length : Int) - 1) (by omega) (by omega)]
    cases decide (0 ≤ rd st (i : Int) ∧ rd st (i : Int) ≤ (g.length : Int) - 1)
    · exact ev_some.2 (by simp)
    · simp only [if_true, Bool.true_and]
      exact ih
theorem spec_StreamOk_ev (g : List S108) (hg : smallG g) (st : List Int) (hst : st.length ≤ 1048576) (held : ByteArray) (p l c e : Int) : Ev (fun k => spec_StreamOk.f k g st held p l c e) (grammarB g && streamB (g.length : Int) st held p l c e) := by
  have hj : ∀ x : Bool, Ev (fun k => spec_StreamOk.j0 k x g st held p l c e) (!x && ((st.all fun x => decide (0 ≤ x ∧ x ≤ (g.length : Int) - 1)) && placeB p l c e)) := by
    intro x
    rw [ev_succ]
    cases x
    · simp only [spec_StreamOk.j0, Bool.false_eq_true, if_false]
      exact ev_congr (spec_StreamOk_l0_ev g hg st hst held p l c e) (by simp)
    · simp only [spec_StreamOk.j0, if_true]
      exact ev_some.2 rfl
  unfold spec_StreamOk.f streamB
  rw [ev_bind (spec_GrammarOk_ev g hg)]
  cases grammarB g
  · simp only [Bool.false_eq_true, if_false]
    exact ev_congr (hj true) (by simp)
  simp only [if_true, ev_ite]
  by_cases c1 : (st.length : Int) < 1
  · rw [if_pos c1, decide_eq_false (by omega)]
    exact ev_congr (hj true) (by simp)
  rw [if_neg c1]
  by_cases c2 : (st.length : Int) > 20
  · rw [if_pos c2, decide_eq_false (by omega)]
    exact ev_congr (hj true) (by simp)
  rw [if_neg c2, decide_eq_true (show 1 ≤ st.length ∧ st.length ≤ 20 by omega)]
  have hz : decide ((held.size : Int) > 20000) = !decide (held.size ≤ 20000) := by
    rw [← decide_not]
    exact decide_eq_decide.2 (by omega)
  rw [hz]
  exact ev_congr (hj _) (by simp)
theorem laws_szStream_eq (st : List Int) (held : ByteArray) (p l c e a : Int) (hl : st.length ≤ 9223372036854775807) (hs : held.size ≤ 9223372036854775807) (h0 : 0 ≤ a) (h1 : a ≤ 1048576) : laws_szStream.f st held p l c e a = some (if a < (st.length : Int) + held.size then -1 else a - st.length - held.size) := by
  unfold laws_szStream.f
  rw [laws_szInt64S_eq st a hl h0 h1]
  simp only [Option.bind_some]
  by_cases c1 : a < (st.length : Int)
  · rw [if_pos c1, if_pos (by omega), if_pos (by omega)]
  · rw [if_neg c1, if_neg (by omega), wrap_id (by omega) (by omega)]
    by_cases c2 : a - (st.length : Int) - held.size < 0
    · rw [if_pos c2, if_pos (by omega)]
    · rw [if_neg c2, if_neg (by omega)]
theorem laws_toStream_ev (st : List Int) (held : ByteArray) (p l c e : Int) (hl : st.length ≤ 1048576) : Ev (fun k => laws_toStream.f k st held p l c e) (st, held, p, l, c, e) := by
  unfold laws_toStream.f
  rw [ev_bind (laws_toInt64S_ev st hl)]
  exact ev_some.2 rfl
theorem laws_eqStream_ev (st : List Int) (held : ByteArray) (p l c e : Int) (hl : st.length ≤ 1048576) : Ev (fun k => laws_eqStream.f k st held p l c e st held p l c e) true := by
  unfold laws_eqStream.f
  rw [ev_bind (laws_eqInt64S_ev st (by omega))]
  simp only [if_true]
  exact ev_some.2 rfl
end Go.Proofs.Ytijmhelacmjggaa.P
namespace Go.Proofs.Ytijmhelacmjggaa.fnExactStreamOk.Pure
open Go.RowKit Go.Proofs.YtijmhelacmjggaaW.PrintWords Go.Proofs.YtijmhelacmjggaaW.PrintLast Go.Proofs.Ytijmhelacmjggaa.P Go.Proofs.YtijmhelacmjggaaEv
set_option linter.unusedVariables false
set_option linter.unusedSimpArgs false
theorem pure_FnExactStreamOk : ∀ (l0_0 : List S171) (l1_0 : List Int) (a1_1 : ByteArray) (a1_2 : Int) (a1_3 : Int) (a1_4 : Int) (a1_5 : Int), (l0_0.length ≤ maxLen ∧ ∀ y ∈ l0_0, g171 y) → (l1_0.length ≤ maxLen ∧ ∀ y ∈ l1_0, (Lit.int .i64 y).wf = true) → a1_1.size ≤ maxLen → (Lit.int .i64 a1_2).wf = true → (Lit.int .i64 a1_3).wf = true → (Lit.int .i64 a1_4).wf = true → (Lit.int .i64 a1_5).wf = true → ∃ k, laws_FnExactStreamOk.f k l0_0 l1_0 a1_1 a1_2 a1_3 a1_4 a1_5 = some true := by
  rintro l st held p n c e ⟨hm, hg⟩ ⟨hst, -⟩ hh - - - -
  have hm' := Nat.le_trans hm maxLen_le
  have hst' := Nat.le_trans hst maxLen_le
  have hh' := Nat.le_trans hh maxLen_le
  refine ev_get (g := fun k => laws_FnExactStreamOk.f k l st held p n c e) ?_
  unfold laws_FnExactStreamOk.f
  rw [ev_bind (laws_szGrammar_ev l _ (by omega) (by omega) hm' hg)]
  simp only [ev_ite]
  by_cases hl : l.length + ws wMode l ≤ 1048576
  · have e1 : (if (1048576 : Int) < ((l.length + ws wMode l : Nat) : Int) then (-1 : Int) else 1048576 - ((l.length + ws wMode l : Nat) : Int)) = 1048576 - ((l.length + ws wMode l : Nat) : Int) := if_neg (by omega)
    rw [e1, if_neg (by omega), laws_szStream_eq st held p n c e _ hst' hh' (by omega) (by omega)]
    simp only [Option.bind_some, ev_ite]
    by_cases hz : 1048576 - ((l.length + ws wMode l : Nat) : Int) < (st.length : Int) + held.size
    · rw [if_pos (by rw [if_pos hz]; omega)]
      exact ev_some.2 rfl
    · rw [if_neg (by rw [if_neg hz]; omega)]
      have hs := smallG_of l hl hg
      have hl' := hs.1
      have hst2 : st.length ≤ 1048576 := by omega
      rw [ev_bind (laws_toGrammar_ev l hl), ev_bind (laws_toStream_ev st held p n c e hst2), ev_bind (spec_StreamOk_ev _ hs st hst2 held p n c e), ev_bind (laws_toGrammar_ev l hl), ev_bind (laws_toStream_ev st held p n c e hst2), ev_bind (impl_StreamOk_ev _ hs st held p n c e), ev_ite, if_neg (by simp), ev_bind (laws_toGrammar_ev l hl), ev_bind (laws_eqGrammar_ev _ (by omega) (hMode_all l hg))]
      simp only [if_true]
      rw [ev_bind (laws_toStream_ev st held p n c e hst2), ev_bind (laws_eqStream_ev st held p n c e hst2)]
      exact ev_some.2 rfl
  · rw [if_pos (by rw [if_pos (by omega)]; omega)]
    exact ev_some.2 rfl
end Go.Proofs.Ytijmhelacmjggaa.fnExactStreamOk.Pure
-- The kit's printed words WSized, cut down by wip/gen/pack.py to what this proof reaches.
namespace Go.Proofs.Ytijmhelacmjggaa.fnExactStreamOk
open Go.ChangeShapes Go.WideShapes Go.ChangeAt Go.RowKit Go.Proofs.YtijmhelacmjggaaW.PrintWords Go.Proofs.YtijmhelacmjggaaOpen Go.Proofs.Ytijmhelacmjggaa.P
open Go.ChangeMaps (open_string shut_string)
set_option linter.unusedVariables false
set_option linter.unusedSimpArgs false
theorem own : ownKnob Try.prog.godebug = none := by kernel_rfl
theorem laidOut : laidOutB Try.prog = true := by kernel_rfl
theorem o210 : Opens Try.prog 210 k210 g210 := opens_imp (opens_iso (fun x : S210 => (x.f0, x.f1)) (fun p => ⟨p.1, p.2⟩) (fun _ => rfl) (opens_struct Try.underlying210 (by kernel_rfl) (fields_cons (opens_int Try.underlying2 (by kernel_rfl)) (fields_one (opens_int Try.underlying2 (by kernel_rfl)))))) (fun _ h => h)
theorem o152 : Opens Try.prog 152 k152 g152 := opens_imp (opens_iso (fun x : S152 => (x.f0, x.f1, x.f2, x.f3, x.f4)) (fun p => ⟨p.1, p.2.1, p.2.2.1, p.2.2.2.1, p.2.2.2.2⟩) (fun _ => rfl) (opens_struct Try.underlying152 (by kernel_rfl) (fields_cons (opens_int Try.underlying2 (by kernel_rfl)) (fields_cons (opens_slice Try.underlying150 (by kernel_rfl) o210) (fields_cons (opens_slice Try.underlying56 (by kernel_rfl) (opens_int Try.underlying2 (by kernel_rfl))) (fields_cons (opens_int Try.underlying2 (by kernel_rfl)) (fields_one (opens_int Try.underlying2 (by kernel_rfl))))))))) (fun _ h => h)
theorem o24 : Opens Try.prog 24 k24 g24 := opens_imp (opens_iso (fun x : S24 => x.f0) (fun p => ⟨p⟩) (fun _ => rfl) (opens_struct Try.underlying24 (by kernel_rfl) (fields_one (opens_slice Try.underlying22 (by kernel_rfl) o152)))) (fun _ h => h)
theorem o218 : Opens Try.prog 218 k218 g218 := opens_imp (opens_iso (fun x : S218 => (x.f0, x.f1, x.f2, x.f3, x.f4)) (fun p => ⟨p.1, p.2.1, p.2.2.1, p.2.2.2.1, p.2.2.2.2⟩) (fun _ => rfl) (opens_struct Try.underlying218 (by kernel_rfl) (fields_cons (opens_string Try.underlying9 (by kernel_rfl)) (fields_cons o24 (fields_cons (opens_bool Try.underlying4 (by kernel_rfl)) (fields_cons (opens_int Try.underlying2 (by kernel_rfl)) (fields_one (opens_string Try.underlying9 (by kernel_rfl))))))))) (fun _ h => h)
theorem o171 : Opens Try.prog 171 k171 g171 := opens_imp (opens_iso (fun x : S171 => (x.f0, x.f1)) (fun p => ⟨p.1, p.2⟩) (fun _ => rfl) (opens_struct Try.underlying171 (by kernel_rfl) (fields_cons (opens_string Try.underlying9 (by kernel_rfl)) (fields_one (opens_slice Try.underlying169 (by kernel_rfl) o218))))) (fun _ h => h)
set_option maxRecDepth 100000 in
theorem lifted (os : Os) (started : os.Started) (H : Type) (enc : TypeId × Value → H) :
    ReturnsInHanded {} Try.checked os 8 .any (Rows.fnExactStreamOkSpec.pre6 enc Try.prog Try.f8 Rows.fnExactStreamOkRow.domain false) (Rows.fnExactStreamOkSpec.post enc Try.prog Try.f8 false true false false) := by
  refine returnsInHanded_of_change_sized (C := Try.checked) own started (by kernel_rfl) Try.func8
    (ChangeSpec.witness6 (enc := enc) (C := Try.checked) false ⟨#[], #[.agg #[.slice none 0 0], .agg #[.slice none 0 0, .string ByteArray.empty, .int .i64 0, .int .i64 0, .int .i64 0, .int .i64 0]], []⟩ 8 (by kernel_rfl) (by kernel_rfl) (by kernel_rfl) (by kernel_rfl)) ?_
  intro W base args ds gs before hval0 hW hcnd hsz0 _
  have hsz : (DataW.weightsEach Try.prog (Try.f8.params.toList ++ Rows.fnExactStreamOkSpec.plain.varTypes Try.prog) (ds ++ gs)).all (· ≤ reachBytes) = true := hsz0
  have hval : ∀ (j : Nat) t v, Try.f8.params[j]? = some t → args[j]? = some v → Value.okWide Try.prog W .any base t v := hval0
  have hW' := hW
  obtain ⟨p, q, hA0, hV, rfl, hfz, hnd⟩ := hW
  have hA : DataW.TrodAll enc Try.prog W 0 (fun _ => true) true Try.f8.params.toList args.toList ds p := hA0
  rw [Try.params8] at hA hval hsz
  obtain ⟨v0, vs0, d0, ds0, p0, q0, hargs, rfl, rfl, h0, r0⟩ := trodAll_cons hA
  obtain ⟨v1, vs1, d1, ds1, p1, q1, rfl, rfl, rfl, h1, r1⟩ := trodAll_cons r0
  obtain ⟨rfl, rfl, rfl⟩ := trodAll_nil r1
  obtain rfl : args = #[v0, v1] := by cases args; simp_all
  obtain ⟨rfl, rfl⟩ := trodVars_none hV
  have k0' := h0
  have lt0 : ∀ x ∈ p0, x.block < W.heap.size := by obtain ⟨m, hm⟩ := k0'; exact DataW.trod_lt m _ _ _ hm
  obtain ⟨cs0, rfl, hn0⟩ := okWide_struct Try.underlying41 (hval 0 41 v0 rfl rfl)
  obtain ⟨fuel0, hf0⟩ := h0
  have hf0' : DataW.trod enc Try.prog W 0 (fun _ => true) true fuel0 41 cs0.toList = some (d0, p0) := hf0
  obtain ⟨x0, hK0, hG0⟩ := (opens_struct Try.underlying41 (by kernel_rfl) (fields_one (opens_slice Try.underlying39 (by kernel_rfl) o171))).op enc W 0 (fun _ => true) true fuel0 _ _ hf0'
  have hG0' := hG0
  obtain ⟨A0_0, c0_0, hs0_0, hl0_0, hC0_0⟩ := hK0
  obtain rfl : cs0 = #[.slice A0_0 x0.length c0_0] := by
    apply Array.ext'
    simp only [hs0_0, List.cons_append, List.nil_append]
  have k1' := h1
  have lt1 : ∀ x ∈ p1, x.block < W.heap.size := by obtain ⟨m, hm⟩ := k1'; exact DataW.trod_lt m _ _ _ hm
  obtain ⟨cs1, rfl, hn1⟩ := okWide_struct Try.underlying58 (hval 1 58 v1 rfl rfl)
  obtain ⟨fuel1, hf1⟩ := h1
  have hf1' : DataW.trod enc Try.prog W 0 (fun _ => true) true fuel1 58 cs1.toList = some (d1, p1) := hf1
  obtain ⟨x1, hK1, hG1⟩ := (opens_struct Try.underlying58 (by kernel_rfl) (fields_cons (opens_slice Try.underlying56 (by kernel_rfl) (opens_int Try.underlying2 (by kernel_rfl))) (fields_cons (opens_string Try.underlying9 (by kernel_rfl)) (fields_cons (opens_int Try.underlying2 (by kernel_rfl)) (fields_cons (opens_int Try.underlying2 (by kernel_rfl)) (fields_cons (opens_int Try.underlying2 (by kernel_rfl)) (fields_one (opens_int Try.underlying2 (by kernel_rfl))))))))).op enc W 0 (fun _ => true) true fuel1 _ _ hf1'
  have hG1' := hG1
  obtain ⟨ca1_0, cb1_0, he1_0, hx1_0, hy1_0⟩ := hK1
  obtain ⟨ga1_0, gb1_0⟩ := hG1'
  obtain ⟨A1_0, c1_0, hs1_0, hl1_0, hC1_0⟩ := hx1_0
  obtain ⟨ca1_1, cb1_1, he1_1, hx1_1, hy1_1⟩ := hy1_0
  obtain ⟨ga1_1, gb1_1⟩ := gb1_0
  have hs1_1 : _ = [Value.string (((x1).2).1)] := hx1_1
  obtain ⟨ca1_2, cb1_2, he1_2, hx1_2, hy1_2⟩ := hy1_1
  obtain ⟨ga1_2, gb1_2⟩ := gb1_1
  have hs1_2 : _ = [Value.int .i64 ((((x1).2).2).1)] := hx1_2
  obtain ⟨ca1_3, cb1_3, he1_3, hx1_3, hy1_3⟩ := hy1_2
  obtain ⟨ga1_3, gb1_3⟩ := gb1_2
  have hs1_3 : _ = [Value.int .i64 (((((x1).2).2).2).1)] := hx1_3
  obtain ⟨ca1_4, cb1_4, he1_4, hx1_4, hy1_4⟩ := hy1_3
  obtain ⟨ga1_4, gb1_4⟩ := gb1_3
  have hs1_4 : _ = [Value.int .i64 ((((((x1).2).2).2).2).1)] := hx1_4
  have hs1_5 : _ = [Value.int .i64 ((((((x1).2).2).2).2).2)] := hy1_4
  obtain rfl : cs1 = #[.slice A1_0 (x1).1.length c1_0, .string ((x1).2).1, .int .i64 (((x1).2).2).1, .int .i64 ((((x1).2).2).2).1, .int .i64 (((((x1).2).2).2).2).1, .int .i64 (((((x1).2).2).2).2).2] := by
    apply Array.ext'
    simp only [he1_0, hs1_0, he1_1, hs1_1, he1_2, hs1_2, he1_3, hs1_3, he1_4, hs1_4, hs1_5, List.cons_append, List.nil_append]
  clear hA0 hval0 hsz0 hsz
  obtain ⟨k, hk⟩ := Pure.pure_FnExactStreamOk _ _ _ _ _ _ _ hG0' ga1_0 ga1_1 ga1_2 ga1_3 ga1_4 gb1_4
  refine (laws_FnExactStreamOk.calls k A0_0 c0_0 _ A1_0 c1_0 _ _ _ _ _ _ true W hC0_0 hl0_0 hC1_0 hl1_0 hk).mono fun e W' ⟨he, bel0⟩ => ?_
  have bel : Below W.heap.size W W' := bel0
  subst he
  exact ⟨_, rfl, _, _, _, [], _, [], hW', trodAll_mk1 (shut_bool Try.underlying4 _), (trodAll_cons_mk (Below.trod laidOut (by kernel_rfl) (of_decide_eq_true (by kernel_rfl)) k0' bel lt0) (trodAll_cons_mk (Below.trod laidOut (by kernel_rfl) (of_decide_eq_true (by kernel_rfl)) k1' bel lt1) trodAll_mk0)), rfl, bel.frame _, fun h => by cases h⟩
theorem over : Rows.fnExactStreamOkRow.holds Try.pinned (OpenSpec.ofChange Rows.fnExactStreamOkSpec) :=
  OpenClaim.holds_of_wide 8 Try.f8 rfl rfl rfl rfl rfl rfl rfl ⟨rfl, rfl, rfl, rfl, rfl⟩ rfl rfl rfl rfl rfl (by kernel_rfl) Try.func8 (by kernel_rfl)
    (of_decide_eq_true (by kernel_rfl)) (by unfold Func.isWrapper; first | (rw [if_pos (by decide +kernel)]; kernel_rfl) | (rw [if_neg (by decide +kernel)]; exact ⟨rfl, rfl⟩))
    (fun os started H enc _ => lifted os started H enc)
theorem proved : Rows.FnExactStreamOkSaid := over
#print axioms proved
end Go.Proofs.Ytijmhelacmjggaa.fnExactStreamOk
namespace Go.Proofs.Ytijmhelacmjggaa
/-- The row, under a short name, for the claim. -/
theorem fnExactStreamOk_holds : Rows.FnExactStreamOkSaid := fnExactStreamOk.proved
end Go.Proofs.Ytijmhelacmjggaa
