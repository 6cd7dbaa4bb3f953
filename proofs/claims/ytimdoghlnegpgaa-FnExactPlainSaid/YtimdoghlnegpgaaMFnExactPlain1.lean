/- The law FnExactPlain holds for every call: part 2 of 2 of the proof (the row). Conditions: none beyond what the given row says. -/
import Derived.Test.YtimdoghlnegpgaaMFnExactPlain0
import Derived.Lib.SliceRun
import Derived.Shelf.Abstract
import Derived.Lib.Hide
import Derived.ChangeSlices
import Derived.ChangeArms
import Derived.SizedLaws
import Derived.Test.YtimdoghlnegpgaaRows
import Derived.WalkKit
import Derived.ProofKit
import Derived.OpenShut
import Derived.ShutString
import Derived.ChangeOld
import Derived.Below
-- Made by wip/gen/pp.py of this session over the kit's print of the loaded program: a function, and the contract of its walk. Lean checks it.
namespace Go.Proofs.Ytimdoghlnegpgaa.P
open Go.RowKit Go.Proofs.YtimdoghlnegpgaaW.PrintWords Go.Proofs.YtimdoghlnegpgaaW.PrintLast Go.Proofs.YtimdoghlnegpgaaW.PrintMore
attribute [local go_sem] max2_int min2_int max_two min_two max_three min_three max_four min_four   -- for this text's walks alone
set_option linter.unusedVariables false
set_option linter.unusedSimpArgs false

/-! ### laws_heldItemS: function 26 -/
def laws_heldItemS.l0 : Nat → List (S73) → Int → Int → Option (Int)
 | 0, _, _, _ => none
 | k + 1, x0, x1, x5 => if x5 < (x0.length : Int) then (if 0 ≤ x5 then (if ((rd_T73 x0 x5).f0) = x1 then (if ((rd_T73 x0 x5).f1) = (wrap64 (x1 + 1)) then (if ((rd_T73 x0 x5).f2) = (wrap64 ((wrap64 (x1 + 1)) + 1)) then (laws_heldItemS.l0 k x0 (wrap64 ((wrap64 ((wrap64 (x1 + 1)) + 1)) + 1)) (wrap64 (x5 + 1))) else (some (-1))) else (some (-1))) else (some (-1))) else (none)) else (some x1)
def laws_heldItemS.f (k : Nat) (l0 : List (S73)) (a1 : Int) : Option (Int) := laws_heldItemS.l0 k l0 a1 0
theorem laws_heldItemS.mono_l : ∀ k, (∀ y0 y1 y2, LeO (laws_heldItemS.l0 k y0 y1 y2) (laws_heldItemS.l0 (k + 1) y0 y1 y2))
 | 0 => fun _ _ _ r h => by simp [laws_heldItemS.l0] at h
 | k + 1 => by
  have ih0 := laws_heldItemS.mono_l k
  ·intro y0 y1 y2
   unfold laws_heldItemS.l0
   repeat' first
   | (with_reducible exact ih0 _ _ _)
   | (with_reducible exact LeO.refl _)
   | (with_reducible exact LeO.none _)
   | (with_reducible refine LeO.ite ?_ ?_)
   | (with_reducible refine LeO.bind ?_ (fun _ => ?_))
   | exact ih0 _ _ _
   | exact LeO.none _
   | refine LeO.ite ?_ ?_
   | refine LeO.bind ?_ (fun _ => ?_)
theorem laws_heldItemS.mono : ∀ a0 a1 k, LeO (laws_heldItemS.f k a0 a1) (laws_heldItemS.f (k + 1) a0 a1) := by
 intro a0 a1 k
 have ih0 := laws_heldItemS.mono_l k
 unfold laws_heldItemS.f
 repeat' first
   | (with_reducible exact ih0 _ _ _)
   | (with_reducible exact LeO.refl _)
   | (with_reducible exact LeO.none _)
   | (with_reducible refine LeO.ite ?_ ?_)
   | (with_reducible refine LeO.bind ?_ (fun _ => ?_))
   | exact ih0 _ _ _
   | exact LeO.none _
   | refine LeO.ite ?_ ?_
   | refine LeO.bind ?_ (fun _ => ?_)
set_option maxHeartbeats 8000000 in
set_option maxRecDepth 100000 in
theorem laws_heldItemS.calls (k : Nat) (A0 : Option Addr) (c0 : Nat) (l0 : List (S73)) (a1 : Int) (r : Int) (w : World) (hr0 : Kd.C k73 w A0 l0.length l0) (hc0 : l0.length ≤ c0) (h : laws_heldItemS.f k l0 a1 = some r) :
  Calls Try.prog 26 #[.slice A0 l0.length c0, .int .i64 a1] w fun e w' => e = .returned (.int .i64 r) ∧ Drawn0 w w' := by
 have HR0 := Aside0.mk hr0
 have HC0 := Aside0.mk hc0
 clear hr0 hc0
 have H : (laws_heldItemS.l0 k l0 a1 0) = some r := h
 clear h
 have H' := Aside0.mk H
 clear H
 go_enter Try.func26, Try.ntmps26
 go_wp2
 go_loopg [1, 5] k (fun kq v1 v5 w' => ∃ (x1_1 : Int) (x5_1 : Int), v1 = .int .i64 x1_1 ∧ v5 = .int .i64 x5_1 ∧ Aside0 (laws_heldItemS.l0 kq l0 x1_1 x5_1 = some r) ∧ Aside0 (kq ≤ k) ∧ Drawn0 w w')
 case atStart => exact ⟨(a1), (0), (by first | rfl | (simp; done) | (simp [*]; done)), (by first | rfl | (simp; done) | (simp [*]; done)), H', ⟨Nat.le_refl _⟩, by repeat (first | exact Drawn0.refl _ | apply Drawn0.step)⟩
 case round =>
  clear H'
  try clear c2
  try clear p2
  obtain ⟨x1_1, x5_1, rfl, rfl, HA, HK1, ⟨m1, rfl⟩⟩ := hrel
  cases gk with
  | zero => exact absurd HA.out (by simp [laws_heldItemS.l0])
  | succ k1 =>
   have H := HA.out
   clear HA
   simp only [laws_heldItemS.l0] at H
   by_cases c3 : x5_1 < (l0.length : Int)
   ·rw [if_pos c3] at H
    have c3b0 : decide (x5_1 < (l0.length : Int)) = true := decide_eq_true c3
    clear c3
    by_cases c4 : 0 ≤ x5_1
    ·rw [if_pos c4] at H
     have c4b0 : decide (0 ≤ x5_1) = true := decide_eq_true c4
     clear c4
     by_cases c5 : ((rd_T73 l0 x5_1).f0) = x1_1
     ·rw [if_pos c5] at H
      have c5b0 : (((rd_T73 l0 x5_1).f0) == x1_1) = true := beq_iff_eq.mpr c5
      have c5b1 : (((rd_T73 l0 x5_1).f0) != x1_1) = false := bne_eq_false_iff_eq.mpr c5
      clear c5
      by_cases c6 : ((rd_T73 l0 x5_1).f1) = (wrap64 (x1_1 + 1))
      ·rw [if_pos c6] at H
       have c6b0 : (((rd_T73 l0 x5_1).f1) == (wrap64 (x1_1 + 1))) = true := beq_iff_eq.mpr c6
       have c6b1 : (((rd_T73 l0 x5_1).f1) != (wrap64 (x1_1 + 1))) = false := bne_eq_false_iff_eq.mpr c6
       clear c6
       by_cases c7 : ((rd_T73 l0 x5_1).f2) = (wrap64 ((wrap64 (x1_1 + 1)) + 1))
       ·rw [if_pos c7] at H
        have c7b0 : (((rd_T73 l0 x5_1).f2) == (wrap64 ((wrap64 (x1_1 + 1)) + 1))) = true := beq_iff_eq.mpr c7
        have c7b1 : (((rd_T73 l0 x5_1).f2) != (wrap64 ((wrap64 (x1_1 + 1)) + 1))) = false := bne_eq_false_iff_eq.mpr c7
        clear c7
        have H' := Aside0.mk H
        clear H
        have p101 : 0 ≤ (x5_1 : Int) := of_decide_eq_true (by first | (with_reducible assumption) | assumption)
        have q101 : x5_1 < (l0.length : Int) := of_decide_eq_true (by first | (with_reducible assumption) | assumption)
        obtain ⟨ad101, e101, hx101_0, hx101_1, hx101_2⟩ := at_T73 HR0.out x5_1 p101 q101
        cases e101
        replace p101 := eq_true p101
        replace q101 := eq_true q101
        have p102 : 0 ≤ (x5_1 : Int) := of_decide_eq_true (by first | (with_reducible assumption) | assumption)
        have q102 : x5_1 < (l0.length : Int) := of_decide_eq_true (by first | (with_reducible assumption) | assumption)
        obtain ⟨ad102, e102, hx102_0, hx102_1, hx102_2⟩ := at_T73 HR0.out x5_1 p102 q102
        obtain rfl : ad101 = ad102 := (by injection e102)
        replace p102 := eq_true p102
        replace q102 := eq_true q102
        have p103 : 0 ≤ (x5_1 : Int) := of_decide_eq_true (by first | (with_reducible assumption) | assumption)
        have q103 : x5_1 < (l0.length : Int) := of_decide_eq_true (by first | (with_reducible assumption) | assumption)
        obtain ⟨ad103, e103, hx103_0, hx103_1, hx103_2⟩ := at_T73 HR0.out x5_1 p103 q103
        obtain rfl : ad101 = ad103 := (by injection e103)
        replace p103 := eq_true p103
        replace q103 := eq_true q103
        go_wp2
        go_roundg k1
        case measure => have := HK1.out; omega
        case rel => exact ⟨(wrap64 ((wrap64 ((wrap64 (x1_1 + 1)) + 1)) + 1)), (wrap64 (x5_1 + 1)), (by first | rfl | (simp; done) | (simp [*]; done)), (by first | rfl | (simp; done) | (simp [*]; done)), H', ⟨by have := HK1.out; omega⟩, by repeat (first | exact Drawn0.refl _ | apply Drawn0.step)⟩
       ·rw [if_neg c7] at H
        have c7b0 : (((rd_T73 l0 x5_1).f2) == (wrap64 ((wrap64 (x1_1 + 1)) + 1))) = false := beq_eq_false_iff_ne.mpr c7
        have c7b1 : (((rd_T73 l0 x5_1).f2) != (wrap64 ((wrap64 (x1_1 + 1)) + 1))) = true := bne_iff_ne.mpr c7
        obtain rfl := Option.some.inj H
        have p101 : 0 ≤ (x5_1 : Int) := of_decide_eq_true (by first | (with_reducible assumption) | assumption)
        have q101 : x5_1 < (l0.length : Int) := of_decide_eq_true (by first | (with_reducible assumption) | assumption)
        obtain ⟨ad101, e101, hx101_0, hx101_1, hx101_2⟩ := at_T73 HR0.out x5_1 p101 q101
        cases e101
        replace p101 := eq_true p101
        replace q101 := eq_true q101
        have p102 : 0 ≤ (x5_1 : Int) := of_decide_eq_true (by first | (with_reducible assumption) | assumption)
        have q102 : x5_1 < (l0.length : Int) := of_decide_eq_true (by first | (with_reducible assumption) | assumption)
        obtain ⟨ad102, e102, hx102_0, hx102_1, hx102_2⟩ := at_T73 HR0.out x5_1 p102 q102
        obtain rfl : ad101 = ad102 := (by injection e102)
        replace p102 := eq_true p102
        replace q102 := eq_true q102
        have p103 : 0 ≤ (x5_1 : Int) := of_decide_eq_true (by first | (with_reducible assumption) | assumption)
        have q103 : x5_1 < (l0.length : Int) := of_decide_eq_true (by first | (with_reducible assumption) | assumption)
        obtain ⟨ad103, e103, hx103_0, hx103_1, hx103_2⟩ := at_T73 HR0.out x5_1 p103 q103
        obtain rfl : ad101 = ad103 := (by injection e103)
        replace p103 := eq_true p103
        replace q103 := eq_true q103
        go_wp2
        go_ret
        exact ⟨by first | rfl | (simp; done) | (simp [*]; done), by repeat (first | exact Drawn0.refl _ | apply Drawn0.step)⟩
      ·rw [if_neg c6] at H
       have c6b0 : (((rd_T73 l0 x5_1).f1) == (wrap64 (x1_1 + 1))) = false := beq_eq_false_iff_ne.mpr c6
       have c6b1 : (((rd_T73 l0 x5_1).f1) != (wrap64 (x1_1 + 1))) = true := bne_iff_ne.mpr c6
       obtain rfl := Option.some.inj H
       have p101 : 0 ≤ (x5_1 : Int) := of_decide_eq_true (by first | (with_reducible assumption) | assumption)
       have q101 : x5_1 < (l0.length : Int) := of_decide_eq_true (by first | (with_reducible assumption) | assumption)
       obtain ⟨ad101, e101, hx101_0, hx101_1, hx101_2⟩ := at_T73 HR0.out x5_1 p101 q101
       cases e101
       replace p101 := eq_true p101
       replace q101 := eq_true q101
       have p102 : 0 ≤ (x5_1 : Int) := of_decide_eq_true (by first | (with_reducible assumption) | assumption)
       have q102 : x5_1 < (l0.length : Int) := of_decide_eq_true (by first | (with_reducible assumption) | assumption)
       obtain ⟨ad102, e102, hx102_0, hx102_1, hx102_2⟩ := at_T73 HR0.out x5_1 p102 q102
       obtain rfl : ad101 = ad102 := (by injection e102)
       replace p102 := eq_true p102
       replace q102 := eq_true q102
       go_wp2
       go_ret
       exact ⟨by first | rfl | (simp; done) | (simp [*]; done), by repeat (first | exact Drawn0.refl _ | apply Drawn0.step)⟩
     ·rw [if_neg c5] at H
      have c5b0 : (((rd_T73 l0 x5_1).f0) == x1_1) = false := beq_eq_false_iff_ne.mpr c5
      have c5b1 : (((rd_T73 l0 x5_1).f0) != x1_1) = true := bne_iff_ne.mpr c5
      obtain rfl := Option.some.inj H
      have p101 : 0 ≤ (x5_1 : Int) := of_decide_eq_true (by first | (with_reducible assumption) | assumption)
      have q101 : x5_1 < (l0.length : Int) := of_decide_eq_true (by first | (with_reducible assumption) | assumption)
      obtain ⟨ad101, e101, hx101_0, hx101_1, hx101_2⟩ := at_T73 HR0.out x5_1 p101 q101
      cases e101
      replace p101 := eq_true p101
      replace q101 := eq_true q101
      go_wp2
      go_ret
      exact ⟨by first | rfl | (simp; done) | (simp [*]; done), by repeat (first | exact Drawn0.refl _ | apply Drawn0.step)⟩
    ·rw [if_neg c4] at H
     exact absurd H (by simp)
   ·rw [if_neg c3] at H
    have c3b0 : decide (x5_1 < (l0.length : Int)) = false := decide_eq_false c3
    clear c3
    obtain rfl := Option.some.inj H
    go_wp2
    go_ret
    exact ⟨by first | rfl | (simp; done) | (simp [*]; done), by repeat (first | exact Drawn0.refl _ | apply Drawn0.step)⟩

end Go.Proofs.Ytimdoghlnegpgaa.P
/- What the laws' helpers on slices of Item answer: the copy is the list, a list equals itself, marks are held. -/
namespace Go.Proofs.Ytimdoghlnegpgaa.P
open Go.RowKit Go.Proofs.YtimdoghlnegpgaaW.PrintWords Go.Proofs.YtimdoghlnegpgaaW.PrintLast Go.Proofs.YtimdoghlnegpgaaEv
set_option linter.unusedVariables false
set_option linter.unusedSimpArgs false

def g89 (x : S89) : Prop := (Lit.int .i64 x.f0).wf = true ∧ (Lit.int .i64 x.f1).wf = true ∧ (Lit.int .i64 x.f2).wf = true
theorem laws_szItemS_eq (l : List S89) (a : Int) (hl : l.length ≤ 9223372036854775807) (h0 : 0 ≤ a) (h1 : a ≤ 1048576) : laws_szItemS.f l a = some (if a < l.length then -1 else a - l.length) := by
  unfold laws_szItemS.f
  rw [wrap_id (by omega) (by omega)]
  split <;> split <;> first | rfl | omega

def cItem (x : S89) : S73 := ⟨x.f0, x.f1, x.f2⟩
theorem laws_toItemS_ev (l : List S89) (hl : l.length ≤ 1048576) : Ev (fun k => laws_toItemS.f k l) (l.map cItem) := by
  unfold laws_toItemS.f
  simp only [ev_ite]
  rw [if_pos (by omega), if_pos (by omega)]
  have h := ev_loop l.length (fun k i => laws_toItemS.l0 k l (upTo cItem z73 l i) (i : Nat)) (fun _ => l.map cItem) ?_ ?_ 0 (by omega)
  · rw [upTo_zero] at h
    exact h
  · rw [ev_succ, upTo_all]
    simp [laws_toItemS.l0, ev_some]
  · intro i hi ih
    rw [ev_succ]
    simp only [laws_toItemS.l0, laws_toItem.f, Option.bind_some, ev_ite]
    rw [if_pos (by omega), if_pos (by omega), if_pos (by rw [upTo_length _ _ _ _ (by omega)]; omega), wrap_succ hi (by omega)]
    have := upTo_set cItem z73 l z89 i hi
    have e : (cItem (l.getD i z89)) = ⟨(rd_T89 l i).f0, (rd_T89 l i).f1, (rd_T89 l i).f2⟩ := by simp [rd_T89, cItem]
    rw [e] at this
    simp only [Int.toNat_natCast]
    rw [this]
    exact ih

theorem laws_eqItemS_ev (l : List S73) (hl : l.length ≤ 9223372036854775807) : Ev (fun k => laws_eqItemS.f k l l) true := by
  unfold laws_eqItemS.f
  simp only [ev_ite]
  rw [if_pos trivial]
  refine ev_loop l.length (fun k i => laws_eqItemS.l0 k l l (i : Nat)) (fun _ => true) ?_ ?_ 0 (by omega)
  · rw [ev_succ]
    simp [laws_eqItemS.l0, ev_some]
  · intro i hi ih
    rw [ev_succ]
    simp only [laws_eqItemS.l0, laws_eqItem.f, if_true, Option.bind_some, ev_ite]
    rw [if_pos (by omega), if_pos (by omega), wrap_succ hi (by omega), if_pos (by omega)]
    exact ih

/-- The j-th mark from a on. -/
def mkItem (a : Int) (j : Nat) : S73 := ⟨a + 3 * (j : Int), a + 3 * (j : Int) + 1, a + 3 * (j : Int) + 2⟩
theorem rd_T73_set (l : List S73) (i : Nat) (v : S73) (h : i < l.length) : rd_T73 (l.set i v) (i : Int) = v := by
  simp [rd_T73, h]

theorem laws_markItemS_ev (l : List S73) (a : Int) (h0 : 0 ≤ a) (h1 : a + 3 * l.length ≤ 9000000000000000000) : Ev (fun k => laws_markItemS.f k l a) (a + 3 * l.length, (List.range l.length).map (mkItem a)) := by
  unfold laws_markItemS.f
  have h := ev_loop l.length (fun k i => laws_markItemS.l0 k (marked (mkItem a) l i) (a + 3 * (i : Int)) (i : Nat)) (fun _ => (a + 3 * l.length, (List.range l.length).map (mkItem a))) ?_ ?_ 0 (by omega)
  · simpa [marked] using h
  · rw [ev_succ]
    simp [laws_markItemS.l0, ev_some, marked]
  · intro i hi ih
    rw [ev_succ]
    have hl : (marked (mkItem a) l i).length = l.length := marked_length _ _ _ (by omega)
    simp only [laws_markItemS.l0, Option.bind_some, ev_ite, hl, Int.toNat_natCast]
    rw [if_pos (by omega), if_pos (by omega)]
    simp only [rd_T73_set, List.length_set, hl, hi, List.set_set]
    rw [wrap_succ hi (by omega)]
    have e : ∀ x : Int, 0 ≤ x → x ≤ 9000000000000000100 → wrap64 (x + 1) = x + 1 := fun x hx hy => wrap_id (by omega) (by omega)
    rw [e _ (by omega) (by omega)]
    repeat rw [e _ (by omega) (by omega)]
    have hm := marked_set (mkItem a) l i hi
    have ih' : Ev (fun k => laws_markItemS.l0 k (marked (mkItem a) l (i + 1)) (a + 3 * ((i + 1 : Nat) : Int)) ((i + 1 : Nat) : Int)) _ := ih
    rw [← hm, show a + 3 * ((i + 1 : Nat) : Int) = a + 3 * (i : Int) + 3 by omega] at ih'
    simpa [mkItem, Int.add_assoc] using ih'

theorem laws_heldItemS_ev (n : Nat) (a : Int) (h0 : 0 ≤ a) (h1 : a + 3 * n ≤ 9000000000000000000) : Ev (fun k => laws_heldItemS.f k ((List.range n).map (mkItem a)) a) (a + 3 * n) := by
  unfold laws_heldItemS.f
  have h := ev_loop n (fun k i => laws_heldItemS.l0 k ((List.range n).map (mkItem a)) (a + 3 * (i : Int)) (i : Nat)) (fun _ => a + 3 * n) ?_ ?_ 0 (by omega)
  · simpa using h
  · rw [ev_succ]
    simp [laws_heldItemS.l0, ev_some]
  · intro i hi ih
    rw [ev_succ]
    have hr : rd_T73 ((List.range n).map (mkItem a)) (i : Int) = mkItem a i := by simp [rd_T73, hi]
    have e : ∀ x : Int, 0 ≤ x → x ≤ 9000000000000000100 → wrap64 (x + 1) = x + 1 := fun x hx hy => wrap_id (by omega) (by omega)
    simp only [laws_heldItemS.l0, ev_ite, hr, mkItem, List.length_map, List.length_range]
    rw [if_pos (by omega), if_pos (by omega), wrap_succ hi (by omega)]
    repeat rw [e _ (by omega) (by omega)]
    have ih' : Ev (fun k => laws_heldItemS.l0 k ((List.range n).map (mkItem a)) (a + 3 * ((i + 1 : Nat) : Int)) ((i + 1 : Nat) : Int)) _ := ih
    rw [show a + 3 * ((i + 1 : Nat) : Int) = a + 3 * (i : Int) + 3 by omega] at ih'
    simpa [Int.add_assoc] using ih'

end Go.Proofs.Ytimdoghlnegpgaa.P
/- What slices.Clone does at a slice of items: a row of the call's own, or nil for nil. -/
namespace Go.Proofs.Ytimdoghlnegpgaa.P
open Go.RowKit Go.Proofs.YtimdoghlnegpgaaW.PrintWords Go.Proofs.YtimdoghlnegpgaaW.PrintLast Go.Proofs.YtimdoghlnegpgaaW.PrintMore Go.Proofs.YtimdoghlnegpgaaEv
set_option linter.unusedVariables false
set_option linter.unusedSimpArgs false
set_option maxHeartbeats 8000000 in
set_option maxRecDepth 100000 in
theorem Clone_Item (A : Option Addr) (c : Nat) (l : List S73) (w : World) (hr : Kd.C k73 w A l.length l) (hl : l.length ≤ 1048576) :
    Calls Try.prog 69 #[.slice A l.length c] w fun e w' => ∃ v, e = .returned v ∧ Kd.R k73 73 w' w.heap.size (fun _ => True) v l ∧ Below w.heap.size w w' := by
  have HR := Aside0.mk hr
  have HB := Aside0.mk (Below.refl w.heap.size w)
  have hu := Try.underlying31
  rcases A with _ | ad
  · have h0 : l = [] := by
      rcases l with _ | ⟨x, xs⟩
      · rfl
      · obtain ⟨ad, h, _⟩ := hr.2.2 (by simp)
        cases h
    subst h0
    clear hr
    go_enter Try.func69, Try.ntmps69
    go_wp2_with fail
    rw [Go.Lib.run_eql_slice_nil _ _ _ _ _ _ _ _ hu]
    go_wp2_with fail
    go_ret
    exact ⟨_, rfl, Kd.R_nil _ _ _ _ _, HB.out⟩
  · clear hr
    go_enter Try.func69, Try.ntmps69
    go_wp2_with fail
    rw [Go.Lib.run_eql_slice_nil _ _ _ _ _ _ _ _ hu]
    go_wp2_with (first
      | ((with_reducible refine gate_dst (N := 5) rfl ?_); refine Kd.R_lit k73 _ 73 ?hg (N := 5) ?hd (xs := ([] : List S73)) (inner := []) (ok := fun _ => True) (okp := fun _ => True) ?hr ?hp (fun _ hk => hk) trivial (Below.refl _ _) (Nat.le_refl _) (by simp) ?_; (case hd => rfl); (case hg => rfl); (case hr => first | (go_simp; done) | (go_simp; rfl)); (case hp => exact (Reps.none _ _)); intro v1 w1 ho hb _ _; have HO := Aside0.mk (Kd.R_lower ho HB.out.size); replace HB := Aside0.mk (below_step HB.out hb); clear ho hb)
      | ((with_reducible refine gate_builtin (b := .append) (xs := #[.tmp 5, .tmp 6]) rfl ?_); at_builtin; refine Kd.R_append_rows k73 (w0 := w) w.heap.size rfl (.tmp 5) (.tmp 6) 31 73 (.agg #[(.int .i64 0), (.int .i64 0), (.int .i64 0)]) 24 rfl Try.underlying31 info73 rfl (by decide) (by omega) v1 [] l _ _ _ (fun _ => True) (fun _ => False) rfl rfl ?aO ?aR (fun _ _ h => h) (fun _ h => h.elim) ?aF ?aB ?aS ?aL ?_; (case aO => exact HO.out); (case aR => exact Kd.C_below HR.out HB.out); (case aF => exact fun _ _ => trivial); (case aB => exact HB.out); (case aS => exact HB.out.size); (case aL => simp; omega); intro v2 w2 ho hb _ _; have HV := Aside0.mk ho; replace HB := Aside0.mk hb; clear ho hb))
    go_ret
    exact ⟨_, rfl, HV.out, HB.out⟩
end Go.Proofs.Ytimdoghlnegpgaa.P
/- What slices.IndexFunc and slices.DeleteFunc answer at a slice of items, for whatever predicate that makes nothing but new blocks. -/
namespace Go.Proofs.Ytimdoghlnegpgaa.P
open Go.RowKit Go.Shelf Go.Proofs.YtimdoghlnegpgaaW.PrintWords Go.Proofs.YtimdoghlnegpgaaW.PrintLast Go.Proofs.YtimdoghlnegpgaaW.PrintMore Go.Proofs.YtimdoghlnegpgaaEv
set_option linter.unusedVariables false
set_option linter.unusedSimpArgs false

theorem IndexFunc_Item (g : Nat) (lb : Array Value) (eg : ∀ args w, (callFunc g args).run Try.prog w = .ok (.enter g args) w) (p : S73 → Bool) (A0 : Option Addr) (c0 : Nat) (l0 : List S73) (w : World) (hr0 : Kd.C k73 w A0 l0.length l0) (hn : (l0.length : Int) ≤ 9000000000000000000)
    (hp : ∀ (W : World) (x : S73), Calls Try.prog g (#[.agg #[.int .i64 x.f0, .int .i64 x.f1, .int .i64 x.f2]] ++ lb) W fun e w' => e = .returned (.bool (p x)) ∧ Below W.heap.size W w') :
    Calls Try.prog 97 #[.slice A0 l0.length c0, .func (.func g) #[] lb] w fun e w' => e = .returned (.int .i64 (idxP p l0 0)) ∧ Below w.heap.size w w' := by
  have HP := Lib.hid hp
  clear hp
  have HR := Aside0.mk hr0
  clear hr0
  go_enter Try.func97, Try.ntmps97
  go_wp2
  go_loopg [5, 8] l0.length (fun gg _ s8 wr => ∃ kk : Nat, kk ≤ l0.length ∧ l0.length - kk ≤ gg ∧ s8 = .int .i64 kk ∧ Aside0 (Below w.heap.size w wr) ∧ Aside0 (idxP p l0 0 = idxP p (l0.drop kk) kk))
  case atStart => exact ⟨0, Nat.zero_le _, by omega, rfl, ⟨Below.refl _ w⟩, ⟨by simp⟩⟩
  case round =>
    obtain ⟨kk, hkk, hg, rfl, BW, HA⟩ := hrel
    by_cases hlt : kk < l0.length
    · have hltz : (kk : Int) < (l0.length : Int) := by omega
      obtain ⟨ad, rfl, hx0, hx1, hx2⟩ := at_T73 HR.out (kk : Int) (by omega) hltz
      rw [Int.toNat_natCast] at hx0 hx1 hx2
      replace hx0 := (BW.out.cell (World.block_lt_of_cell? w _ hx0)).trans hx0
      replace hx1 := (BW.out.cell (World.block_lt_of_cell? w _ hx1)).trans hx1
      replace hx2 := (BW.out.cell (World.block_lt_of_cell? w _ hx2)).trans hx2
      have hcall := HP.out wr (rd_T73 l0 (kk : Int))
      have hstep : Aside0 (idxP p l0 0 = if p (rd_T73 l0 (kk : Int)) then (kk : Int) else idxP p (l0.drop (kk + 1)) ((kk + 1 : Nat) : Int)) := ⟨by
        rw [HA.out, drop_cons l0 z73 kk hlt]
        have hr : l0.getD kk z73 = rd_T73 l0 (kk : Int) := by simp [rd_T73]
        rw [hr]
        rfl⟩
      generalize rd_T73 l0 (kk : Int) = y at *
      cases hq : p y with
      | true =>
        rw [hq] at hcall
        have hs2 : Aside0 (idxP p l0 0 = (kk : Int)) := ⟨by rw [hstep.out, hq]; rfl⟩
        clear hstep hq HA
        go_wp2_with (go_at_fn g; refine hcall.mono ?_; rintro e w' ⟨rfl, hb'⟩)
        go_ret
        exact ⟨by (rw [hs2.out]; try rfl), below_then BW.out BW.out.size hb'⟩
      | false =>
        rw [hq] at hcall
        have hs2 : Aside0 (idxP p l0 0 = idxP p (l0.drop (kk + 1)) ((kk + 1 : Nat) : Int)) := ⟨by rw [hstep.out, hq]; rfl⟩
        clear hstep hq HA
        go_wp2_with (go_at_fn g; refine hcall.mono ?_; rintro e w' ⟨rfl, hb'⟩)
        go_roundg (l0.length - (kk + 1))
        case measure => omega
        case rel => exact ⟨kk + 1, by omega, by omega, by go_num, ⟨below_then BW.out BW.out.size hb'⟩, hs2⟩
    · have hltz : ¬ (kk : Int) < (l0.length : Int) := by omega
      have hk : kk = l0.length := by omega
      have hs2 : Aside0 (idxP p l0 0 = -1) := ⟨by rw [HA.out, hk]; simp [idxP]⟩
      clear hk HA
      go_wp2
      go_ret
      exact ⟨by (rw [hs2.out]; try rfl), BW.out⟩
/-- Nothing is found just where the predicate holds nowhere. -/
theorem idxP_cases {α : Type} (p : α → Bool) (l : List α) : ∀ i : Int, 0 ≤ i → (idxP p l i = -1 ∧ l.filter (fun x => !p x) = l) ∨ (∃ k : Nat, k < l.length ∧ idxP p l i = i + k ∧ (l.take k).filter (fun x => !p x) = l.take k ∧ ∃ x, l[k]? = some x ∧ p x = true) := by
  induction l with
  | nil => intro i _; left; simp [idxP]
  | cons x xs ih =>
    intro i hi
    unfold idxP
    cases hx : p x
    · rcases ih (i + 1) (by omega) with ⟨h1, h2⟩ | ⟨k, hk, h1, h2, h3⟩
      · left
        simp [h1, h2, hx]
      · right
        refine ⟨k + 1, by simpa using hk, ?_, by simp [hx, h2], by simpa using h3⟩
        simp only [Bool.false_eq_true, if_false]
        rw [h1]
        omega
    · right
      exact ⟨0, by simp, by simp, by simp, x, by simp, hx⟩
/-! ### 'clear' of the rest of a row of items -/
theorem setCells_append (b : Nat) : ∀ (xs ys : List Value) (o : Nat) (w : World), w.setCells b o (xs ++ ys) = (w.setCells b o xs).setCells b (o + xs.length) ys
  | [], _, _, _ => rfl
  | x :: xs, ys, o, w => by
    simp only [List.cons_append, World.setCells, List.length_cons]
    rw [setCells_append b xs ys (o + 1), show o + 1 + xs.length = o + (xs.length + 1) by omega]
theorem setCells_below {w W : World} {g : Nat} (hb : Below w.heap.size w W) (hg : w.heap.size ≤ g) : ∀ (xs : List Value) (o : Nat), Below w.heap.size w (W.setCells g o xs) := by
  intro xs
  induction xs generalizing W with
  | nil => intro _; exact hb
  | cons x xs ih => intro o; exact ih (below_set hb hg) (o + 1)
theorem zero_cells (n : Nat) : (Builtin.zeroCells #[Value.int .i64 0, Value.int .i64 0, Value.int .i64 0] n).toList = List.replicate (n * 3) (Value.int .i64 0) := by
  unfold Builtin.zeroCells
  apply List.ext_getElem
  · simp
  · intro i h1 h2
    have h3 : i % 3 = 0 ∨ i % 3 = 1 ∨ i % 3 = 2 := by omega
    simp
    rcases h3 with h | h | h <;> simp [h]
theorem run_clear_items (w : World) (b o n c : Nat) (hn : 0 < n) (hc : ∀ j, j < n * 3 → (w.cell? ⟨b, o + j, none⟩).isSome = true) (hf : ∀ j, j < n * 3 → w.frozen? ⟨b, o + j, none⟩ = false) :
    (Builtin.clear_ #[31] 0 #[.slice (some ⟨b, o, none⟩) n c]).run Try.prog w = .ok (.tuple #[]) (w.setCells b o (List.replicate (n * 3) (.int .i64 0))) := by
  obtain ⟨i, hi, hz⟩ := Option.map_eq_some_iff.1 info73
  simp only [Prod.mk.injEq] at hz
  have hv : ∀ w, (zeroValue 73).run Try.prog w = .ok (.agg #[.int .i64 0, .int .i64 0, .int .i64 0]) w := fun w => by
    simp [zeroValue, typeInfo, hi, hz.1]
  have hst := run_storeCells_cells (P := Try.prog) b o (List.replicate (n * 3) (.int .i64 0)) 0 w (by simpa using hc) (by simpa using hf) (by intro v hv'; rw [List.eq_of_mem_replicate hv']; rfl)
  simp only [Nat.add_zero] at hst
  have hu := Try.underlying31
  obtain ⟨m, rfl⟩ : ∃ m, n = m + 1 := ⟨n - 1, by omega⟩
  have hzc := zero_cells (m + 1)
  simp [Builtin.clear_, run_underlying hu, hv, Value.cells, hzc, hst]
theorem R_zeros {w : World} {base gb len c : Nat} {P : Nat → Prop} {ys : List S73} (h : Kd.R k73 73 w base P (.slice (some ⟨gb, 0, none⟩) len c) ys) (ii : Nat) : ∀ m : Nat, ii + m ≤ ys.length →
    Kd.R k73 73 (w.setCells gb (ii * 3) (List.replicate (m * 3) (.int .i64 0))) base P (.slice (some ⟨gb, 0, none⟩) len c) (ys.take ii ++ (List.replicate m z73 ++ ys.drop (ii + m))) := by
  intro m
  induction m with
  | zero =>
    intro _
    simpa [World.setCells] using h
  | succ m ih =>
    intro hm
    have hR := ih (by omega)
    have hlen := (Kd.R_reads' h).1
    obtain ⟨ce, hcl, hM, hcc, _⟩ := Kd.R_elem hR z73 ((ii + m : Nat) : Int) (by omega) (by omega)
    have hs := (Kd.R_seg hR ((ii + m : Nat) : Int) (by omega) (by omega) (seg := [.int .i64 0, .int .i64 0, .int .i64 0]) (j := 0) hcl hcc (by rw [show k73.sz = 3 from rfl]; decide) (x' := z73) (by
      have hce : ce.length = 3 := hcl
      rw [List.take_zero, List.nil_append, show 0 + [Value.int IntKind.i64 0, Value.int IntKind.i64 0, Value.int IntKind.i64 0].length = 3 from rfl, List.drop_eq_nil_of_le (by omega), List.append_nil]
      exact k73_mkM _ _ _ z73) (okp := fun k => P k ∧ k ≠ gb) (fun _ hk => hk)).1
    rw [show (m + 1) * 3 = m * 3 + 3 by omega, ← List.replicate_append_replicate, setCells_append, List.length_replicate, show ii * 3 + m * 3 = (ii + m) * 3 by omega]
    rw [Int.toNat_natCast, show k73.sz = 3 from rfl, Nat.add_zero] at hs
    have hlist : (ys.take ii ++ (List.replicate m z73 ++ ys.drop (ii + m))).set (ii + m) z73 = ys.take ii ++ (List.replicate (m + 1) z73 ++ ys.drop (ii + (m + 1))) := by
      have ht : (ys.take ii).length = ii := by simp; omega
      rw [List.set_append_right _ _ (by omega), ht, List.set_append_right _ _ (by simp), List.length_replicate, show ii + m - ii - m = 0 by omega, List.drop_eq_getElem_cons (show ii + m < ys.length by omega), List.set_cons_zero, List.replicate_succ', List.append_assoc]
      rfl
    rw [hlist] at hs
    exact hs
set_option maxHeartbeats 8000000 in
set_option maxRecDepth 100000 in
theorem DeleteFunc_Item (g : Nat) (lb : Array Value) (eg : ∀ args w, (callFunc g args).run Try.prog w = .ok (.enter g args) w) (p : S73 → Bool) (P : Nat → Prop) (u : Value) (l : List S73) (hn : (l.length : Int) ≤ 1048576) (w0 w : World) (hB : Below w0.heap.size w0 w) (ho : Kd.R k73 73 w w0.heap.size P u l)
    (hp : ∀ (W : World) (x : S73), Calls Try.prog g (#[.agg #[.int .i64 x.f0, .int .i64 x.f1, .int .i64 x.f2]] ++ lb) W fun e w' => e = .returned (.bool (p x)) ∧ Below W.heap.size W w') :
    Calls Try.prog 68 #[u, .func (.func g) #[] lb] w fun e w' => ∃ v, e = .returned v ∧ Kd.R k73 73 w' w0.heap.size P v (l.filter fun x => !p x) ∧ Below w0.heap.size w0 w' := by
  obtain ⟨A, c, rfl⟩ := Kd.R_slice ho
  have HO := Aside0.mk ho
  have HB := Aside0.mk hB
  have HP := Lib.hid hp
  have T1 : Aside0 True := ⟨trivial⟩
  have hidx := IndexFunc_Item g lb eg p A c l w (Kd.R_reads' ho).2.2 (by omega) hp
  clear ho hB hp
  rcases idxP_cases p l 0 (by omega) with ⟨h1, h2⟩ | ⟨k, hk, h1, h2, x0, hx0, hpx⟩
  · rw [h1] at hidx
    rw [h2]
    clear h1 h2
    go_enter Try.func68, Try.ntmps68
    go_wp2_with (go_at_call 97; clear T1; refine hidx.mono ?_; rintro e w1 ⟨rfl, hb⟩; replace HO := Aside0.mk (Kd.R_below HO.out hb); replace HB := Aside0.mk (below_then HB.out HB.out.size hb); clear hb)
    go_ret
    exact ⟨_, rfl, HO.out, HB.out⟩
  · rw [h1, Int.zero_add] at hidx
    have HX := Aside0.mk hx0
    have HQ := Aside0.mk hpx
    have HT := Aside0.mk h2
    clear h1 h2 hx0 hpx
    have hkz : ((k : Int) == -1) = false := beq_eq_false_iff_ne.mpr (by omega)
    have hk1 : IntKind.i64.wrap ((k : Int) + 1) = ((k + 1 : Nat) : Int) := by rw [i64_w]; exact wrap_succ hk (by omega)
    go_enter Try.func68, Try.ntmps68
    go_wp2_with (go_at_call 97; clear T1; refine hidx.mono ?_; rintro e w1 ⟨rfl, hb⟩; replace HO := Aside0.mk (Kd.R_below HO.out hb); replace HB := Aside0.mk (below_then HB.out HB.out.size hb); clear hb)
    go_loopg [5, 6] l.length (fun gg v5 v6 w' => ∃ (ii jj : Nat) (ys : List S73), ii < jj ∧ jj ≤ l.length ∧ l.length - jj ≤ gg ∧ v5 = .int .i64 ii ∧ v6 = .int .i64 jj ∧ ys.length = l.length ∧ Aside0 (ys.take ii = (l.take jj).filter fun x => !p x) ∧ Aside0 (ys.drop jj = l.drop jj) ∧ Aside0 (Kd.R k73 73 w' w0.heap.size P (.slice A l.length c) ys) ∧ Aside0 (Below w0.heap.size w0 w'))
    case atStart =>
      refine ⟨k, k + 1, l, by omega, by omega, by omega, rfl, by first | rfl | go_num, rfl, ⟨?_⟩, ⟨rfl⟩, HO, HB⟩
      obtain ⟨hk2, hxe⟩ := List.getElem?_eq_some_iff.1 HX.out
      rw [List.take_succ_eq_append_getElem hk2, List.filter_append, HT.out, hxe]
      simp [HQ.out]
    case round =>
      clear HO HB HX HQ HT hk1 hkz hk
      obtain ⟨ii, jj, ys, hij, hjl, hgm, rfl, rfl, hyl, HT, HD, HO, HB⟩ := hrel
      by_cases hlt : jj < l.length
      · have hltz : (jj : Int) < (l.length : Int) := by omega
        obtain ⟨gb, cap, hv, hgw, _, _⟩ := Kd.R_form HO.out (by omega)
        have hA : A = some ⟨gb, 0, none⟩ := by injection hv
        subst hA
        clear hv
        obtain ⟨ce, hcl, hM, hcc, hfr⟩ := Kd.R_elem HO.out z73 (jj : Int) (by omega) hltz
        obtain rfl := k73_openM hM
        have hlx : ys.getD (jj : Int).toNat z73 = l[jj] := by
          have h2 : (ys.drop jj)[0]? = (l.drop jj)[0]? := by rw [HD.out]
          simp only [List.getElem?_drop, Nat.add_zero] at h2
          rw [Int.toNat_natCast, List.getD_eq_getElem?_getD, h2, List.getElem?_eq_getElem hlt]
          rfl
        rw [hlx] at hcc
        have hx0 : wr.cell? ⟨gb, jj * 3, none⟩ = some (.int .i64 l[jj].f0) := hcc 0 _ rfl
        have hx1 : wr.cell? ⟨gb, jj * 3 + 1, none⟩ = some (.int .i64 l[jj].f1) := hcc 1 _ rfl
        have hx2 : wr.cell? ⟨gb, jj * 3 + 2, none⟩ = some (.int .i64 l[jj].f2) := hcc 2 _ rfl
        have T1 : Aside0 True := ⟨trivial⟩
        have hcall := HP.out
        have HL := Aside0.mk (show l[jj]? = some l[jj] from List.getElem?_eq_getElem hlt)
        clear hcl hM hcc hfr hlx
        generalize l[jj] = y at *
        go_wp2_with fail
        obtain ⟨w2, hW⟩ : ∃ w_ : World, w_ = wr.alloc (.cells #[.int .i64 y.f0, .int .i64 y.f1, .int .i64 y.f2] 73) := ⟨_, rfl⟩
        obtain ⟨gv, hgv⟩ : ∃ g_ : Nat, g_ = wr.heap.size := ⟨_, rfl⟩
        rw [← hW, ← hgv]
        have hb2 : Below wr.heap.size wr w2 := (by rw [hW]; exact below_alloc (Below.refl _ _) _)
        have hbox : w2.heap[gv]? = some (.cells #[.int .i64 y.f0, .int .i64 y.f1, .int .i64 y.f2] 73 (0, 0)) := (by rw [hW, hgv]; exact blk_new _ _)
        refine (hcall w2 y).mono ?_
        rintro e w3 ⟨rfl, hb3⟩
        have hO3 := Kd.R_below (Kd.R_below HO.out hb2) hb3
        have hB3 := below_then HB.out HB.out.size (below_step hb2 hb3)
        have hbk := blk_below hbox hb3
        have hz0 : w3.cell? ⟨gv, 0, none⟩ = some (.int .i64 y.f0) := (blk_cell hbk 0).trans rfl
        have hz1 : w3.cell? ⟨gv, 1, none⟩ = some (.int .i64 y.f1) := (blk_cell hbk 1).trans rfl
        have hz2 : w3.cell? ⟨gv, 2, none⟩ = some (.int .i64 y.f2) := (blk_cell hbk 2).trans rfl
        clear hb2 hb3 hbox hbk hW hgv hcall
        have HO3 := Aside0.mk hO3
        have HB3 := Aside0.mk hB3
        have hdrop : ys.drop (jj + 1) = l.drop (jj + 1) := by
          have h2 : (ys.drop jj).drop 1 = (l.drop jj).drop 1 := by rw [HD.out]
          simpa [List.drop_drop, Nat.add_comm] using h2
        have htake : (l.take (jj + 1)).filter (fun x => !p x) = (l.take jj).filter (fun x => !p x) ++ (if p y then [] else [y]) := by
          have h2 := HL.out
          obtain ⟨hj2, hxe⟩ := List.getElem?_eq_some_iff.1 h2
          rw [List.take_succ_eq_append_getElem hj2, List.filter_append, hxe]
          cases hpy : p y <;> simp [hpy]
        have HDR := Aside0.mk hdrop
        have HTK := Aside0.mk htake
        have hj1 : IntKind.i64.wrap ((jj : Int) + 1) = ((jj + 1 : Nat) : Int) := by rw [i64_w]; exact wrap_succ hlt (by omega)
        have hi1 : IntKind.i64.wrap ((ii : Int) + 1) = ((ii + 1 : Nat) : Int) := by rw [i64_w]; exact wrap_succ (show ii < l.length by omega) (by omega)
        clear hO3 hB3 hdrop htake
        cases hq : p y with
        | true =>
          have HQ := Aside0.mk hq
          clear hq
          go_wp2_with fail
          go_roundg (l.length - (jj + 1))
          case measure => omega
          case rel => exact ⟨ii, jj + 1, ys, by omega, by omega, by omega, rfl, by first | rfl | go_num, hyl, ⟨by rw [HTK.out, HQ.out, HT.out]; simp⟩, HDR, HO3, HB3⟩
        | false =>
          have HQ := Aside0.mk hq
          clear hq
          have hiz : (ii : Int) < (l.length : Int) := by omega
          obtain ⟨ce, hcl, hM, hcc, hfr⟩ := Kd.R_elem HO3.out z73 (ii : Int) (by omega) hiz
          obtain rfl := k73_openM hM
          have hs := Kd.R_seg HO3.out (ii : Int) (by omega) hiz (seg := [.int .i64 y.f0, .int .i64 y.f1, .int .i64 y.f2]) (j := 0) hcl hcc (show 3 ≤ 3 from by decide) (x' := y) (k73_mkM _ _ _ y) (fun _ hk => hk)
          have HS := Aside0.mk hs
          have hx0' : w3.cell? ⟨gb, ii * 3, none⟩ = some (.int .i64 (ys.getD (ii : Int).toNat z73).f0) := hcc 0 _ rfl
          have hx1' : w3.cell? ⟨gb, ii * 3 + 1, none⟩ = some (.int .i64 (ys.getD (ii : Int).toNat z73).f1) := hcc 1 _ rfl
          have hx2' : w3.cell? ⟨gb, ii * 3 + 2, none⟩ = some (.int .i64 (ys.getD (ii : Int).toNat z73).f2) := hcc 2 _ rfl
          have hf0 : w3.frozen? ⟨gb, ii * 3, none⟩ = false := hfr 0
          have hf1 : w3.frozen? ⟨gb, ii * 3 + 1, none⟩ = false := hfr 1
          have hf2 : w3.frozen? ⟨gb, ii * 3 + 2, none⟩ = false := hfr 2
          clear hcl hM hcc hfr hs
          go_wp2_with fail
          go_roundg (l.length - (jj + 1))
          case measure => omega
          case rel =>
            refine ⟨ii + 1, jj + 1, ys.set ii y, by omega, by omega, by omega, by first | rfl | go_num, by first | rfl | go_num, by simpa using hyl, ⟨?_⟩, ⟨?_⟩, ⟨HS.out.1⟩, ⟨below_set (below_set (below_set HB3.out hgw) hgw) hgw⟩⟩
            · rw [HTK.out, HQ.out, ← HT.out]
              simp only [Bool.false_eq_true, if_false]
              rw [List.take_set, List.take_succ_eq_append_getElem (by omega), List.set_append_right _ _ (by simp; omega)]
              simp [hyl]
              rw [show ii - min ii l.length = 0 by omega]
              rfl
            · rw [List.drop_set, if_pos (by omega)]
              exact HDR.out
      · have hltz : ¬ (jj : Int) < (l.length : Int) := by omega
        have hje : jj = l.length := by omega
        subst hje
        have hil : ii < l.length := hij
        obtain ⟨gb, cap, hv, hgw, _, _⟩ := Kd.R_form HO.out (by omega)
        have hA : A = some ⟨gb, 0, none⟩ := by injection hv
        subst hA
        clear hv
        have hcap := (Kd.R_reads' HO.out).2.1
        have hcl := Aside0.mk (run_clear_items wr gb (ii * 3) (l.length - ii) (c - ii) (by omega) (fun j hj => by
          obtain ⟨ce, hcl, hM, hcc, hfr⟩ := Kd.R_elem HO.out z73 ((ii + j / 3 : Nat) : Int) (by omega) (by omega)
          have h3 : j % 3 < ce.length := by rw [hcl]; exact Nat.mod_lt _ (by decide)
          have h4 := hcc (j % 3) _ (List.getElem?_eq_getElem h3)
          rw [Int.toNat_natCast, show k73.sz = 3 from rfl, show (ii + j / 3) * 3 + j % 3 = ii * 3 + j by omega] at h4
          rw [h4]
          rfl) (fun j hj => by
          obtain ⟨ce, hcl, hM, hcc, hfr⟩ := Kd.R_elem HO.out z73 ((ii + j / 3 : Nat) : Int) (by omega) (by omega)
          have h4 := hfr (j % 3)
          rw [Int.toNat_natCast, show k73.sz = 3 from rfl, show (ii + j / 3) * 3 + j % 3 = ii * 3 + j by omega] at h4
          exact h4))
        have hz := Kd.R_take (R_zeros HO.out ii (l.length - ii) (by omega)) (m := ii) (by simp; omega)
        have HZ := Aside0.mk hz
        clear hz
        have hBz : Below w0.heap.size w0 (wr.setCells gb (ii * 3) (List.replicate ((l.length - ii) * 3) (.int .i64 0))) := setCells_below HB.out hgw _ _
        have HBZ := Aside0.mk hBz
        have hlist : (ys.take ii ++ (List.replicate (l.length - ii) z73 ++ ys.drop (ii + (l.length - ii)))).take ii = l.filter (fun x => !p x) := by
          rw [List.take_append_of_le_length (by simp; omega), List.take_take, Nat.min_self, HT.out, List.take_length]
        have HL := Aside0.mk hlist
        clear hBz hlist
        go_wp2_with fail
        rw [hcl.out]
        generalize wr.setCells gb (ii * 3) (List.replicate ((l.length - ii) * 3) (.int .i64 0)) = wz at *
        go_wp2_with fail
        go_ret
        refine ⟨_, rfl, ?_, HBZ.out⟩
        have hz := HZ.out
        rw [HL.out] at hz
        exact hz
end Go.Proofs.Ytimdoghlnegpgaa.P
/- The walk of impl.Plain: a clone of the items, those of a kind below 0 taken out. -/
namespace Go.Proofs.Ytimdoghlnegpgaa.P
open Go.RowKit Go.Shelf Go.Proofs.YtimdoghlnegpgaaW.PrintWords Go.Proofs.YtimdoghlnegpgaaW.PrintLast Go.Proofs.YtimdoghlnegpgaaW.PrintMore Go.Proofs.YtimdoghlnegpgaaEv
set_option linter.unusedVariables false
set_option linter.unusedSimpArgs false
/-- The items of no kind of the layout's own. -/
def plainB (l : List S73) : List S73 := l.filter fun x => !decide (x.f0 < 0)
set_option maxHeartbeats 8000000 in
set_option maxRecDepth 100000 in
theorem Plain_1_calls (W : World) (x : S73) : Calls Try.prog 70 (#[.agg #[.int .i64 x.f0, .int .i64 x.f1, .int .i64 x.f2]] ++ #[]) W fun e w' => e = .returned (.bool (decide (x.f0 < 0))) ∧ Below W.heap.size W w' := by
  rw [Array.append_empty]
  go_enter Try.func70, Try.ntmps70
  go_wp2_with fail
  go_ret
  exact ⟨rfl, by repeat (first | exact Below.refl _ _ | apply below_alloc | apply pw_below_drewN | apply below_drew1)⟩
set_option maxHeartbeats 8000000 in
set_option maxRecDepth 100000 in
theorem Plain_hand (A0 : Option Addr) (c0 : Nat) (l0 : List S73) (w : World) (hr0 : Kd.C k73 w A0 l0.length l0) (hl : l0.length ≤ 1048576) :
    Calls Try.prog 23 #[.slice A0 l0.length c0] w fun e w' => ∃ v, e = .returned v ∧ Kd.R k73 73 w' w.heap.size (fun _ => True) v (plainB l0) ∧ Below w.heap.size w w' := by
  have HR := Aside0.mk hr0
  clear hr0
  have T1 : Aside0 True := ⟨trivial⟩
  have T2 : Aside0 True := ⟨trivial⟩
  have eg : ∀ args w, (callFunc 70 args).run Try.prog w = .ok (.enter 70 args) w := enters_of Try.func70 (by kernel_rfl) rfl
  go_enter Try.func23, Try.ntmps23
  go_wp2_with (go_at_call 69; clear T1; refine (Clone_Item A0 c0 l0 _ HR.out hl).mono ?_; rintro e w1 ⟨v, rfl, hO, hb⟩; have HO := Aside0.mk hO; have HB := Aside0.mk hb; clear hO hb)
  go_wp2_with (go_at_call 68; clear T2; refine (DeleteFunc_Item 70 #[] eg (fun x => decide (x.f0 < 0)) (fun _ => True) v l0 (by omega) w w1 HB.out HO.out (fun W x => Plain_1_calls W x)).mono ?_; rintro e w2 ⟨v2, rfl, hO, hb⟩; replace HO := Aside0.mk hO; replace HB := Aside0.mk hb; clear hO hb)
  go_ret
  exact ⟨_, rfl, HO.out, HB.out⟩
end Go.Proofs.Ytimdoghlnegpgaa.P
-- Made by wip/gen/pp.py of this session over the kit's print of the loaded program: a function, and the contract of its walk. Lean checks it.
namespace Go.Proofs.Ytimdoghlnegpgaa.P
open Go.RowKit Go.Proofs.YtimdoghlnegpgaaW.PrintWords Go.Proofs.YtimdoghlnegpgaaW.PrintLast Go.Proofs.YtimdoghlnegpgaaW.PrintMore
attribute [local go_sem] max2_int min2_int max_two min_two max_three min_three max_four min_four   -- for this text's walks alone
set_option linter.unusedVariables false
set_option linter.unusedSimpArgs false

/-! ### impl_Plain: function 23 -/
def impl_Plain.f (l0 : List (S73)) : Option (List (S73)) := if l0.length ≤ 1048576 then some (plainB l0) else none
theorem impl_Plain.calls (A0 : Option Addr) (c0 : Nat) (l0 : List (S73)) (r : List (S73)) (w : World) (hr0 : Kd.C k73 w A0 l0.length l0) (hc0 : l0.length ≤ c0) (h : impl_Plain.f l0 = some r) :
    Calls Try.prog 23 #[.slice A0 l0.length c0] w fun e w' => ∃ v0_ : Value, e = .returned (v0_) ∧ Kd.R k73 73 w' w.heap.size (fun _ => True) v0_ r ∧ Below w.heap.size w w' := by
  unfold impl_Plain.f at h
  split at h
  · obtain rfl := Option.some.inj h
    exact Plain_hand A0 c0 l0 w hr0 (by assumption)
  · simp at h

end Go.Proofs.Ytimdoghlnegpgaa.P
-- Made by wip/gen/pp.py of this session over the kit's print of the loaded program: a function, and the contract of its walk. Lean checks it.
namespace Go.Proofs.Ytimdoghlnegpgaa.P
open Go.RowKit Go.Proofs.YtimdoghlnegpgaaW.PrintWords Go.Proofs.YtimdoghlnegpgaaW.PrintLast Go.Proofs.YtimdoghlnegpgaaW.PrintMore
attribute [local go_sem] max2_int min2_int max_two min_two max_three min_three max_four min_four   -- for this text's walks alone
set_option linter.unusedVariables false
set_option linter.unusedSimpArgs false

/-! ### spec_Plain: function 21 -/
def spec_Plain.l0 : Nat → List (S73) → List (S73) → Int → Option ((List (S73)))
 | 0, _, _, _ => none
 | k + 1, x0, x3, x4 => if x4 < (x0.length : Int) then (if 0 ≤ x4 then (if ((rd_T73 x0 x4).f0) ≥ 0 then (if x3.length < 5864062014805 then (spec_Plain.l0 k x0 (x3 ++ [(⟨(rd_T73 x0 x4).f0, (rd_T73 x0 x4).f1, (rd_T73 x0 x4).f2⟩ : S73)]) (wrap64 (x4 + 1))) else (none)) else (spec_Plain.l0 k x0 x3 (wrap64 (x4 + 1)))) else (none)) else (some x3)
def spec_Plain.f (k : Nat) (l0 : List (S73)) : Option ((List (S73))) := spec_Plain.l0 k l0 (([] : List (S73))) 0
theorem spec_Plain.mono_l : ∀ k, (∀ y0 y1 y2, LeO (spec_Plain.l0 k y0 y1 y2) (spec_Plain.l0 (k + 1) y0 y1 y2))
 | 0 => fun _ _ _ r h => by simp [spec_Plain.l0] at h
 | k + 1 => by
  have ih0 := spec_Plain.mono_l k
  ·intro y0 y1 y2
   unfold spec_Plain.l0
   repeat' first
   | (with_reducible exact ih0 _ _ _)
   | (with_reducible exact LeO.refl _)
   | (with_reducible exact LeO.none _)
   | (with_reducible refine LeO.ite ?_ ?_)
   | (with_reducible refine LeO.bind ?_ (fun _ => ?_))
   | exact ih0 _ _ _
   | exact LeO.none _
   | refine LeO.ite ?_ ?_
   | refine LeO.bind ?_ (fun _ => ?_)
theorem spec_Plain.mono : ∀ a0 k, LeO (spec_Plain.f k a0) (spec_Plain.f (k + 1) a0) := by
 intro a0 k
 have ih0 := spec_Plain.mono_l k
 unfold spec_Plain.f
 repeat' first
   | (with_reducible exact ih0 _ _ _)
   | (with_reducible exact LeO.refl _)
   | (with_reducible exact LeO.none _)
   | (with_reducible refine LeO.ite ?_ ?_)
   | (with_reducible refine LeO.bind ?_ (fun _ => ?_))
   | exact ih0 _ _ _
   | exact LeO.none _
   | refine LeO.ite ?_ ?_
   | refine LeO.bind ?_ (fun _ => ?_)
set_option maxHeartbeats 8000000 in
set_option maxRecDepth 100000 in
theorem spec_Plain.calls (k : Nat) (A0 : Option Addr) (c0 : Nat) (l0 : List (S73)) (r : List (S73)) (w : World) (hr0 : Kd.C k73 w A0 l0.length l0) (hc0 : l0.length ≤ c0) (h : spec_Plain.f k l0 = some r) :
  Calls Try.prog 21 #[.slice A0 l0.length c0] w fun e w' => ∃ v0_ : Value, e = .returned (v0_) ∧ Kd.R k73 73 w' w.heap.size (fun _ => True) v0_ r ∧ Below w.heap.size w w' := by
 have hu73 := Try.underlying73
 have HR0 := Aside0.mk hr0
 have HC0 := Aside0.mk hc0
 clear hr0 hc0
 have HB := Aside0.mk (Below.refl w.heap.size w)
 have H : (spec_Plain.l0 k l0 (([] : List (S73))) 0) = some r := h
 clear h
 obtain ⟨y101, hy101⟩ : ∃ y_ : List (S73), y_ = (([] : List (S73))) := ⟨_, rfl⟩
 replace H : (spec_Plain.l0 k l0 y101 0) = some r := by first | (rw [hy101]; with_reducible exact H) | (have H2_ := (Option.bind_some _ _).symm.trans H; rw [hy101]; with_reducible exact H2_) | (have H2_ := (Option.bind_some _ _).symm.trans H; with_reducible exact H2_) | with_reducible exact H | (rw [hy101]; exact H) | exact H
 have Ny101 := Aside0.mk hy101
 clear hy101
 have H' := Aside0.mk H
 clear H
 go_enter Try.func21, Try.ntmps21
 go_wp2_with (first | ((with_reducible refine gate_dst (N := 5) rfl ?_); refine Kd.R_lit k73 _ 73 ?hg (N := 5) ?hd (xs := ([] : List (S73))) (inner := []) (ok := fun _ => True) (okp := fun _ => True) ?hr ?hp (fun _ hk => hk) trivial (Below.refl _ _) (Nat.le_refl _) (by simp) ?_; (case hd => rfl); (case hg => rfl); (case hr => first | (go_simp; done) | (go_simp; rfl)); (case hp => exact (Reps.none _ _)); intro v102 w2 ho3 hb hg_ hnew_; clear hg_ hnew_; (first | rw [← Ny101.out] at ho3 | (simp only [Int.reduceToNat] at ho3; rw [← Ny101.out] at ho3)); have n0_ := Aside0.mk (Kd.R_lower ho3 (below_size (by repeat (first | (with_reducible first | exact HB.out | apply below_alloc | apply pw_below_drewN | apply below_drew1) | exact HB.out)))); have n1_ := Aside0.mk (below_step (by repeat (first | (with_reducible first | exact HB.out | apply below_alloc | apply pw_below_drewN | apply below_drew1) | exact HB.out)) hb); clear HB; have HO103 := n0_; have HB := n1_; clear n0_ n1_; clear hb ho3))
 go_loopg [3, 4] k (fun kq v3 v4 w' => ∃ (x3_1 : List (S73)) (x4_1 : Int), v4 = .int .i64 x4_1 ∧ Aside0 (spec_Plain.l0 kq l0 x3_1 x4_1 = some r) ∧ Aside0 (kq ≤ k) ∧ Aside0 (Kd.R k73 73 w' w.heap.size (fun _ => True) v3 x3_1) ∧ Aside0 (Below w.heap.size w w'))
 case atStart => exact ⟨(y101), (0), (by first | rfl | (simp; done) | (simp [*]; done)), H', ⟨Nat.le_refl _⟩, ⟨by (with_reducible repeat (first | apply Kd.R_alloc | apply Kd.R_drewN | apply Kd.R_drew)); exact HO103.out⟩, ⟨by repeat (first | (with_reducible first | exact HB.out | apply below_alloc | apply pw_below_drewN | apply below_drew1) | exact HB.out)⟩⟩
 case round =>
  clear H'
  try clear c2
  try clear p2
  obtain ⟨x3_1, x4_1, rfl, HA, HK1, HO_3, HB⟩ := hrel
  cases gk with
  | zero => exact absurd HA.out (by simp [spec_Plain.l0])
  | succ k1 =>
   have H := HA.out
   clear HA
   simp only [spec_Plain.l0] at H
   by_cases c4 : x4_1 < (l0.length : Int)
   ·rw [if_pos c4] at H
    have c4b0 : decide (x4_1 < (l0.length : Int)) = true := decide_eq_true c4
    clear c4
    by_cases c5 : 0 ≤ x4_1
    ·rw [if_pos c5] at H
     have c5b0 : decide (0 ≤ x4_1) = true := decide_eq_true c5
     clear c5
     by_cases c6 : ((rd_T73 l0 x4_1).f0) ≥ 0
     ·rw [if_pos c6] at H
      have c6b0 : decide (0 ≤ ((rd_T73 l0 x4_1).f0)) = true := decide_eq_true c6
      clear c6
      by_cases c7 : x3_1.length < 5864062014805
      ·rw [if_pos c7] at H
       have LMc7 := Aside0.mk c7
       clear c7
       obtain ⟨y106, hy106⟩ : ∃ y_ : List (S73), y_ = (x3_1 ++ [(⟨(rd_T73 l0 x4_1).f0, (rd_T73 l0 x4_1).f1, (rd_T73 l0 x4_1).f2⟩ : S73)]) := ⟨_, rfl⟩
       replace H : (spec_Plain.l0 k1 l0 y106 (wrap64 (x4_1 + 1))) = some r := by first | (rw [hy106]; with_reducible exact H) | (have H2_ := (Option.bind_some _ _).symm.trans H; rw [hy106]; with_reducible exact H2_) | (have H2_ := (Option.bind_some _ _).symm.trans H; with_reducible exact H2_) | with_reducible exact H | (rw [hy106]; exact H) | exact H
       have Ny106 := Aside0.mk hy106
       clear hy106
       have H' := Aside0.mk H
       clear H
       have p104 : 0 ≤ (x4_1 : Int) := of_decide_eq_true (by first | (with_reducible assumption) | assumption)
       have q104 : x4_1 < (l0.length : Int) := of_decide_eq_true (by first | (with_reducible assumption) | assumption)
       obtain ⟨ad104, e104, hx104_0, hx104_1, hx104_2⟩ := at_T73 HR0.out x4_1 p104 q104
       cases e104
       replace hx104_0 := (HB.out.cell (World.block_lt_of_cell? w _ hx104_0)).trans hx104_0
       replace hx104_1 := (HB.out.cell (World.block_lt_of_cell? w _ hx104_1)).trans hx104_1
       replace hx104_2 := (HB.out.cell (World.block_lt_of_cell? w _ hx104_2)).trans hx104_2
       replace p104 := eq_true p104
       replace q104 := eq_true q104
       have p105 : 0 ≤ (x4_1 : Int) := of_decide_eq_true (by first | (with_reducible assumption) | assumption)
       have q105 : x4_1 < (l0.length : Int) := of_decide_eq_true (by first | (with_reducible assumption) | assumption)
       obtain ⟨ad105, e105, hx105_0, hx105_1, hx105_2⟩ := at_T73 HR0.out x4_1 p105 q105
       obtain rfl : ad104 = ad105 := (by injection e105)
       replace hx105_0 := (HB.out.cell (World.block_lt_of_cell? w _ hx105_0)).trans hx105_0
       replace hx105_1 := (HB.out.cell (World.block_lt_of_cell? w _ hx105_1)).trans hx105_1
       replace hx105_2 := (HB.out.cell (World.block_lt_of_cell? w _ hx105_2)).trans hx105_2
       replace p105 := eq_true p105
       replace q105 := eq_true q105
       go_wp2_with (first | ((with_reducible refine gate_builtin (b := .append) (xs := #[.tmp 18, .tmp 23]) rfl ?_); at_builtin; refine Kd.R_append k73 (w0 := w) w.heap.size rfl (.tmp 18) (.tmp 23) 31 73 (.agg #[(.int .i64 0), (.int .i64 0), (.int .i64 0)]) 24 rfl Try.underlying31 info73 rfl (by decide) (by omega) u3 x3_1 (⟨(rd_T73 l0 x4_1).f0, (rd_T73 l0 x4_1).f1, (rd_T73 l0 x4_1).f2⟩ : S73) [.int .i64 ((rd_T73 l0 x4_1).f0), .int .i64 ((rd_T73 l0 x4_1).f1), .int .i64 ((rd_T73 l0 x4_1).f2)] (fun _ => True) (fun _ => False) rfl rfl ?aP (fun _ hk => hk.elim) ?aF ?aO ?aB ?aS ?aL ?_; (case aP => exact k73_mkM _ _ _ (⟨(rd_T73 l0 x4_1).f0, (rd_T73 l0 x4_1).f1, (rd_T73 l0 x4_1).f2⟩ : S73)); (case aB => exact (by repeat (first | (with_reducible first | exact HB.out | apply below_alloc | apply pw_below_drewN | apply below_drew1) | exact HB.out))); (case aF => exact (fun _ _ => trivial)); (case aO => exact (by (with_reducible repeat (first | apply Kd.R_alloc | apply Kd.R_drewN | apply Kd.R_drew)); exact HO_3.out)); (case aS => exact (below_size (by repeat (first | (with_reducible first | exact HB.out | apply below_alloc | apply pw_below_drewN | apply below_drew1) | exact HB.out)))); (case aL => have := LMc7.out; omega); intro v107 w8 ho hb hg hat; rw [← Ny106.out] at ho; have n0_ := Aside0.mk (hb); have n1_ := Aside0.mk (ho); clear HB; clear HO_3; have HB := n0_; have HO108 := n1_; clear n0_ n1_; clear ho hb hg hat))
       go_roundg k1
       case measure => have := HK1.out; omega
       case rel => exact ⟨(y106), (wrap64 (x4_1 + 1)), (by first | rfl | (simp; done) | (simp [*]; done)), H', ⟨by have := HK1.out; omega⟩, ⟨by (with_reducible repeat (first | apply Kd.R_alloc | apply Kd.R_drewN | apply Kd.R_drew)); exact HO108.out⟩, ⟨by repeat (first | (with_reducible first | exact HB.out | apply below_alloc | apply pw_below_drewN | apply below_drew1) | exact HB.out)⟩⟩
      ·rw [if_neg c7] at H
       exact absurd H (by simp)
     ·rw [if_neg c6] at H
      have c6b0 : decide (0 ≤ ((rd_T73 l0 x4_1).f0)) = false := decide_eq_false c6
      clear c6
      have H' := Aside0.mk H
      clear H
      have p104 : 0 ≤ (x4_1 : Int) := of_decide_eq_true (by first | (with_reducible assumption) | assumption)
      have q104 : x4_1 < (l0.length : Int) := of_decide_eq_true (by first | (with_reducible assumption) | assumption)
      obtain ⟨ad104, e104, hx104_0, hx104_1, hx104_2⟩ := at_T73 HR0.out x4_1 p104 q104
      cases e104
      replace hx104_0 := (HB.out.cell (World.block_lt_of_cell? w _ hx104_0)).trans hx104_0
      replace hx104_1 := (HB.out.cell (World.block_lt_of_cell? w _ hx104_1)).trans hx104_1
      replace hx104_2 := (HB.out.cell (World.block_lt_of_cell? w _ hx104_2)).trans hx104_2
      replace p104 := eq_true p104
      replace q104 := eq_true q104
      go_wp2
      go_roundg k1
      case measure => have := HK1.out; omega
      case rel => exact ⟨(x3_1), (wrap64 (x4_1 + 1)), (by first | rfl | (simp; done) | (simp [*]; done)), H', ⟨by have := HK1.out; omega⟩, ⟨by (with_reducible repeat (first | apply Kd.R_alloc | apply Kd.R_drewN | apply Kd.R_drew)); exact HO_3.out⟩, ⟨by repeat (first | (with_reducible first | exact HB.out | apply below_alloc | apply pw_below_drewN | apply below_drew1) | exact HB.out)⟩⟩
    ·rw [if_neg c5] at H
     exact absurd H (by simp)
   ·rw [if_neg c4] at H
    have c4b0 : decide (x4_1 < (l0.length : Int)) = false := decide_eq_false c4
    clear c4
    obtain rfl := Option.some.inj H
    go_wp2
    go_ret
    exact ⟨_, by first | rfl | (simp [errW_none, errW_some] <;> rfl) | (simp [*, errW_none, errW_some] <;> rfl), by (with_reducible repeat (first | apply Kd.R_alloc | apply Kd.R_drewN | apply Kd.R_drew)); exact HO_3.out, by repeat (first | (with_reducible first | exact HB.out | apply below_alloc | apply pw_below_drewN | apply below_drew1) | exact HB.out)⟩

end Go.Proofs.Ytimdoghlnegpgaa.P
/- What the printed Plain of the reference answers: the items of a kind of 0 or more. -/
namespace Go.Proofs.Ytimdoghlnegpgaa.P
open Go.RowKit Go.Proofs.YtimdoghlnegpgaaW.PrintWords Go.Proofs.YtimdoghlnegpgaaW.PrintLast Go.Proofs.YtimdoghlnegpgaaW.PrintMore Go.Proofs.YtimdoghlnegpgaaEv
set_option linter.unusedVariables false
set_option linter.unusedSimpArgs false
theorem plainB_le (l : List S73) : (plainB l).length ≤ l.length := List.length_filter_le _ _
theorem spec_Plain_ev (l : List S73) (hl : l.length ≤ 1048576) : Ev (fun k => spec_Plain.f k l) (plainB l) := by
  unfold spec_Plain.f plainB
  have key := down l.length (fun i => ∀ out : List S73, out.length ≤ i → Ev (fun k => spec_Plain.l0 k l out (i : Nat)) (out ++ (l.drop i).filter fun x => !decide (x.f0 < 0))) ?_ ?_ 0 (by omega) [] (by simp)
  · exact key
  · intro out ho
    rw [ev_succ]
    simp only [spec_Plain.l0, ev_ite, ev_some]
    rw [if_neg (by omega), List.drop_length]
    simp
  · intro i hi ih out ho
    rw [ev_succ, drop_cons l z73 i hi]
    have hr : l.getD i z73 = rd_T73 l i := by simp [rd_T73]
    rw [hr]
    simp only [spec_Plain.l0, ev_ite]
    rw [if_pos (by omega), if_pos (by omega), wrap_succ hi (by omega)]
    by_cases h0 : (rd_T73 l i).f0 ≥ 0
    · rw [if_pos h0, if_pos (by omega)]
      refine ev_congr (ih _ (by simp; omega)) ?_
      rw [List.filter_cons, if_pos (by simp; omega), List.append_assoc]
      rfl
    · rw [if_neg h0]
      refine ev_congr (ih _ (by omega)) ?_
      rw [List.filter_cons, if_neg (by simp; omega)]
end Go.Proofs.Ytimdoghlnegpgaa.P
/- The law FnExactPlain, walked as a whole along the way that it goes, for arguments as its row says. -/
set_option linter.unusedVariables false
set_option linter.unusedSimpArgs false
namespace Go.Proofs.Ytimdoghlnegpgaa.P
open Go.RowKit Go.Proofs.YtimdoghlnegpgaaW.PrintWords Go.Proofs.YtimdoghlnegpgaaW.PrintLast Go.Proofs.YtimdoghlnegpgaaW.PrintMore Go.Proofs.YtimdoghlnegpgaaEv
def laws_FnExactPlain.dom_ (l0 : List S89) : Prop := (l0.length ≤ maxLen)
open Classical in
noncomputable def laws_FnExactPlain.f (k : Nat) (l0 : List S89) : Option Bool := if laws_FnExactPlain.dom_ l0 then some true else none
set_option maxHeartbeats 8000000 in
set_option maxRecDepth 100000 in
theorem laws_FnExactPlain.calls (k : Nat) (A0 : Option Addr) (c0 : Nat) (l0 : List S89) (r : Bool) (w : World) (hr0 : Kd.C k89 w A0 l0.length l0) (hc0 : l0.length ≤ c0) (h : laws_FnExactPlain.f k l0 = some r) :
  Calls Try.prog 4 #[.slice A0 l0.length c0] w fun e w' => e = .returned (.bool r) ∧ Below w.heap.size w w' := by
  have hok : laws_FnExactPlain.dom_ l0 := by
    unfold laws_FnExactPlain.f at h
    split at h
    · assumption
    · simp at h
  have hr : r = true := by
    unfold laws_FnExactPlain.f at h
    rw [if_pos hok] at h
    simpa using h.symm
  subst hr
  clear h
  have HR_l0 := Aside0.mk hr0
  have HC_l0 := Aside0.mk hc0
  clear hr0 hc0
  have HB := Aside0.mk (Below.refl w.heap.size w)
  by_cases hsmall : l0.length ≤ 1048576
  · have hm := Nat.le_trans hok maxLen_le
    have hl' : (l0.map cItem).length ≤ 1048576 := by simpa using hsmall
    have hf := plainB_le (l0.map cItem)
    have E0 := Aside0.mk (laws_szItemS_eq l0 1048576 hm (by omega) (by omega))
    rw [if_neg (by omega)] at E0
    obtain ⟨_, h1⟩ := ev_get (laws_toItemS_ev l0 hsmall)
    obtain ⟨_, h2⟩ := ev_get (spec_Plain_ev (l0.map cItem) hl')
    have h3 : impl_Plain.f (l0.map cItem) = some (plainB (l0.map cItem)) := if_pos hl'
    obtain ⟨_, h4⟩ := ev_get (laws_eqItemS_ev (plainB (l0.map cItem)) (by omega))
    obtain ⟨_, h5⟩ := ev_get (laws_eqItemS_ev (l0.map cItem) (by omega))
    obtain ⟨_, h6⟩ := ev_get (laws_markItemS_ev (l0.map cItem) 1 (by omega) (by omega))
    obtain ⟨_, h7⟩ := ev_get (laws_markItemS_ev (plainB (l0.map cItem)) 1 (by omega) (by omega))
    obtain ⟨_, h8⟩ := ev_get (laws_heldItemS_ev (plainB (l0.map cItem)).length 1 (by omega) (by omega))
    have E1 := Aside0.mk h1
    have E2 := Aside0.mk h2
    have E3 := Aside0.mk h3
    have E4 := Aside0.mk h4
    have E5 := Aside0.mk h5
    have E6 := Aside0.mk h6
    have E7 := Aside0.mk h7
    have E8 := Aside0.mk h8
    clear h1 h2 h3 h4 h5 h6 h7 h8
    have n1 : decide ((1048576 : Int) - (l0.length : Int) < 0) = false := decide_eq_false (by omega)
    have n2 : decide ((1 : Int) + 3 * ((l0.map cItem).length : Int) < 0) = false := decide_eq_false (by omega)
    have n3 : decide ((1 : Int) + 3 * ((plainB (l0.map cItem)).length : Int) < 0) = false := decide_eq_false (by omega)
    clear hf hl' hm hok
    generalize plainB (l0.map cItem) = W at *
    generalize l0.map cItem = X at *
    have T1 : Aside0 True := ⟨trivial⟩
    have T2 : Aside0 True := ⟨trivial⟩
    have T3 : Aside0 True := ⟨trivial⟩
    have T4 : Aside0 True := ⟨trivial⟩
    have T5 : Aside0 True := ⟨trivial⟩
    have T6 : Aside0 True := ⟨trivial⟩
    have T7 : Aside0 True := ⟨trivial⟩
    have T8 : Aside0 True := ⟨trivial⟩
    have T9 : Aside0 True := ⟨trivial⟩
    have T10 : Aside0 True := ⟨trivial⟩
    have T11 : Aside0 True := ⟨trivial⟩
    have T12 : Aside0 True := ⟨trivial⟩
    have T13 : Aside0 True := ⟨trivial⟩
    have T14 : Aside0 True := ⟨trivial⟩
    have T15 : Aside0 True := ⟨trivial⟩
    have T16 : Aside0 True := ⟨trivial⟩
    go_enter Try.func4, Try.ntmps4
    go_wp2_with (go_at_call 20; clear T1; refine (laws_szItemS.calls _ _ _ _ _ _ (Kd.C_below HR_l0.out HB.out) (HC_l0.out) E0.out).mono ?_; rintro e w1 ⟨rfl, hd⟩; have hb := below_drawn hd; have Y1 := Aside0.mk hb.size; replace HB := Aside0.mk (below_step HB.out hb); clear hb)
    go_wp2_with (go_at_call 22; clear T2; refine (laws_toItemS.calls _ _ _ _ _ _ (Kd.C_below HR_l0.out HB.out) (HC_l0.out) E1.out).mono ?_; rintro e w2 ⟨v_a, rfl, hO, hb⟩; obtain ⟨lo_a, hi_a, hz, hO⟩ := R_born hO HB.out; have Z_a := Aside0.mk hz; clear hz; obtain ⟨A_a, c_a, rfl⟩ := Kd.R_slice hO; have O_a := Aside0.mk hO; clear hO; have Y2 := Aside0.mk hb.size; replace HB := Aside0.mk (below_step HB.out hb); clear hb)
    go_wp2_with (go_at_call 21; clear T3; refine (spec_Plain.calls _ _ _ _ _ _ (C_of_R O_a.out) (L_of_R O_a.out) E2.out).mono ?_; rintro e w3 ⟨v_w0, rfl, hO, hb⟩; replace O_a := Aside0.mk (Kd.R_below O_a.out hb); obtain ⟨lo_w0, hi_w0, hz, hO⟩ := R_born hO HB.out; have Z_w0 := Aside0.mk hz; clear hz; obtain ⟨A_w0, c_w0, rfl⟩ := Kd.R_slice hO; have O_w0 := Aside0.mk hO; clear hO; have Y3 := Aside0.mk hb.size; replace HB := Aside0.mk (below_step HB.out hb); clear hb)
    go_wp2_with (go_at_call 22; clear T4; refine (laws_toItemS.calls _ _ _ _ _ _ (Kd.C_below HR_l0.out HB.out) (HC_l0.out) E1.out).mono ?_; rintro e w4 ⟨v_x, rfl, hO, hb⟩; replace O_a := Aside0.mk (Kd.R_below O_a.out hb); replace O_w0 := Aside0.mk (Kd.R_below O_w0.out hb); obtain ⟨lo_x, hi_x, hz, hO⟩ := R_born hO HB.out; have Z_x := Aside0.mk hz; clear hz; obtain ⟨A_x, c_x, rfl⟩ := Kd.R_slice hO; have O_x := Aside0.mk hO; clear hO; have Y4 := Aside0.mk hb.size; replace HB := Aside0.mk (below_step HB.out hb); clear hb)
    go_wp2_with (go_at_call 23; clear T5; refine (impl_Plain.calls _ _ _ _ _ (C_of_R O_x.out) (L_of_R O_x.out) E3.out).mono ?_; rintro e w5 ⟨v_g, rfl, hO, hb⟩; replace O_a := Aside0.mk (Kd.R_below O_a.out hb); replace O_w0 := Aside0.mk (Kd.R_below O_w0.out hb); replace O_x := Aside0.mk (Kd.R_below O_x.out hb); obtain ⟨lo_g, hi_g, hz, hO⟩ := R_born hO HB.out; have Z_g := Aside0.mk hz; clear hz; obtain ⟨A_g, c_g, rfl⟩ := Kd.R_slice hO; have O_g := Aside0.mk hO; clear hO; have Y5 := Aside0.mk hb.size; replace HB := Aside0.mk (below_step HB.out hb); clear hb)
    go_wp2_with (go_at_call 24; clear T6; refine (laws_eqItemS.calls _ _ _ _ _ _ _ _ _ (C_of_R O_g.out) (L_of_R O_g.out) (C_of_R O_w0.out) (L_of_R O_w0.out) E4.out).mono ?_; rintro e w6 ⟨rfl, hb⟩; replace O_a := Aside0.mk (Kd.R_below O_a.out hb); replace O_w0 := Aside0.mk (Kd.R_below O_w0.out hb); replace O_x := Aside0.mk (Kd.R_below O_x.out hb); replace O_g := Aside0.mk (Kd.R_below O_g.out hb); have Y6 := Aside0.mk hb.size; replace HB := Aside0.mk (below_step HB.out hb); clear hb)
    go_wp2_with (go_at_call 22; clear T7; refine (laws_toItemS.calls _ _ _ _ _ _ (Kd.C_below HR_l0.out HB.out) (HC_l0.out) E1.out).mono ?_; rintro e w7 ⟨v_b, rfl, hO, hb⟩; replace O_a := Aside0.mk (Kd.R_below O_a.out hb); replace O_w0 := Aside0.mk (Kd.R_below O_w0.out hb); replace O_x := Aside0.mk (Kd.R_below O_x.out hb); replace O_g := Aside0.mk (Kd.R_below O_g.out hb); obtain ⟨lo_b, hi_b, hz, hO⟩ := R_born hO HB.out; have Z_b := Aside0.mk hz; clear hz; obtain ⟨A_b, c_b, rfl⟩ := Kd.R_slice hO; have O_b := Aside0.mk hO; clear hO; have Y7 := Aside0.mk hb.size; replace HB := Aside0.mk (below_step HB.out hb); clear hb)
    go_wp2_with (go_at_call 24; clear T8; refine (laws_eqItemS.calls _ _ _ _ _ _ _ _ _ (C_of_R O_x.out) (L_of_R O_x.out) (C_of_R O_b.out) (L_of_R O_b.out) E5.out).mono ?_; rintro e w8 ⟨rfl, hb⟩; replace O_a := Aside0.mk (Kd.R_below O_a.out hb); replace O_w0 := Aside0.mk (Kd.R_below O_w0.out hb); replace O_x := Aside0.mk (Kd.R_below O_x.out hb); replace O_g := Aside0.mk (Kd.R_below O_g.out hb); replace O_b := Aside0.mk (Kd.R_below O_b.out hb); have Y8 := Aside0.mk hb.size; replace HB := Aside0.mk (below_step HB.out hb); clear hb)
    go_wp2_with (go_at_call 25; clear T9; refine (laws_markItemS.calls _ _ _ _ _ _ _ w _ HB.out O_x.out E6.out).mono ?_; rintro e w9 ⟨rfl, hO, hB2, hK⟩; replace O_a := Aside0.mk (R_beside O_a.out (by have z0 := Y1.out; have z1 := Z_a.out; have z2 := Y2.out; have z3 := Z_w0.out; have z4 := Y3.out; have z5 := Z_x.out; have z6 := Y4.out; have z7 := Z_g.out; have z8 := Y5.out; have z9 := Y6.out; have z10 := Z_b.out; have z11 := Y7.out; have z12 := Y8.out; omega) hK (by have z0 := Y1.out; have z1 := Z_a.out; have z2 := Y2.out; have z3 := Z_w0.out; have z4 := Y3.out; have z5 := Z_x.out; have z6 := Y4.out; have z7 := Z_g.out; have z8 := Y5.out; have z9 := Y6.out; have z10 := Z_b.out; have z11 := Y7.out; have z12 := Y8.out; omega)); replace O_w0 := Aside0.mk (R_beside O_w0.out (by have z0 := Y1.out; have z1 := Z_a.out; have z2 := Y2.out; have z3 := Z_w0.out; have z4 := Y3.out; have z5 := Z_x.out; have z6 := Y4.out; have z7 := Z_g.out; have z8 := Y5.out; have z9 := Y6.out; have z10 := Z_b.out; have z11 := Y7.out; have z12 := Y8.out; omega) hK (by have z0 := Y1.out; have z1 := Z_a.out; have z2 := Y2.out; have z3 := Z_w0.out; have z4 := Y3.out; have z5 := Z_x.out; have z6 := Y4.out; have z7 := Z_g.out; have z8 := Y5.out; have z9 := Y6.out; have z10 := Z_b.out; have z11 := Y7.out; have z12 := Y8.out; omega)); replace O_g := Aside0.mk (R_beside O_g.out (by have z0 := Y1.out; have z1 := Z_a.out; have z2 := Y2.out; have z3 := Z_w0.out; have z4 := Y3.out; have z5 := Z_x.out; have z6 := Y4.out; have z7 := Z_g.out; have z8 := Y5.out; have z9 := Y6.out; have z10 := Z_b.out; have z11 := Y7.out; have z12 := Y8.out; omega) hK (by have z0 := Y1.out; have z1 := Z_a.out; have z2 := Y2.out; have z3 := Z_w0.out; have z4 := Y3.out; have z5 := Z_x.out; have z6 := Y4.out; have z7 := Z_g.out; have z8 := Y5.out; have z9 := Y6.out; have z10 := Z_b.out; have z11 := Y7.out; have z12 := Y8.out; omega)); replace O_b := Aside0.mk (R_beside O_b.out (by have z0 := Y1.out; have z1 := Z_a.out; have z2 := Y2.out; have z3 := Z_w0.out; have z4 := Y3.out; have z5 := Z_x.out; have z6 := Y4.out; have z7 := Z_g.out; have z8 := Y5.out; have z9 := Y6.out; have z10 := Z_b.out; have z11 := Y7.out; have z12 := Y8.out; omega) hK (by have z0 := Y1.out; have z1 := Z_a.out; have z2 := Y2.out; have z3 := Z_w0.out; have z4 := Y3.out; have z5 := Z_x.out; have z6 := Y4.out; have z7 := Z_g.out; have z8 := Y5.out; have z9 := Y6.out; have z10 := Z_b.out; have z11 := Y7.out; have z12 := Y8.out; omega)); replace O_x := Aside0.mk (R_marked O_x.out hO rfl); have Y9 := Aside0.mk hK.1; replace HB := Aside0.mk hB2; clear hO hB2 hK)
    go_wp2_with (go_at_call 24; clear T10; refine (laws_eqItemS.calls _ _ _ _ _ _ _ _ _ (C_of_R O_g.out) (L_of_R O_g.out) (C_of_R O_w0.out) (L_of_R O_w0.out) E4.out).mono ?_; rintro e w10 ⟨rfl, hb⟩; replace O_a := Aside0.mk (Kd.R_below O_a.out hb); replace O_w0 := Aside0.mk (Kd.R_below O_w0.out hb); replace O_x := Aside0.mk (Kd.R_below O_x.out hb); replace O_g := Aside0.mk (Kd.R_below O_g.out hb); replace O_b := Aside0.mk (Kd.R_below O_b.out hb); have Y10 := Aside0.mk hb.size; replace HB := Aside0.mk (below_step HB.out hb); clear hb)
    go_wp2_with (go_at_call 25; clear T11; refine (laws_markItemS.calls _ _ _ _ _ _ _ w _ HB.out O_g.out E7.out).mono ?_; rintro e w11 ⟨rfl, hO, hB2, hK⟩; replace O_a := Aside0.mk (R_beside O_a.out (by have z0 := Y1.out; have z1 := Z_a.out; have z2 := Y2.out; have z3 := Z_w0.out; have z4 := Y3.out; have z5 := Z_x.out; have z6 := Y4.out; have z7 := Z_g.out; have z8 := Y5.out; have z9 := Y6.out; have z10 := Z_b.out; have z11 := Y7.out; have z12 := Y8.out; have z13 := Y9.out; have z14 := Y10.out; omega) hK (by have z0 := Y1.out; have z1 := Z_a.out; have z2 := Y2.out; have z3 := Z_w0.out; have z4 := Y3.out; have z5 := Z_x.out; have z6 := Y4.out; have z7 := Z_g.out; have z8 := Y5.out; have z9 := Y6.out; have z10 := Z_b.out; have z11 := Y7.out; have z12 := Y8.out; have z13 := Y9.out; have z14 := Y10.out; omega)); replace O_w0 := Aside0.mk (R_beside O_w0.out (by have z0 := Y1.out; have z1 := Z_a.out; have z2 := Y2.out; have z3 := Z_w0.out; have z4 := Y3.out; have z5 := Z_x.out; have z6 := Y4.out; have z7 := Z_g.out; have z8 := Y5.out; have z9 := Y6.out; have z10 := Z_b.out; have z11 := Y7.out; have z12 := Y8.out; have z13 := Y9.out; have z14 := Y10.out; omega) hK (by have z0 := Y1.out; have z1 := Z_a.out; have z2 := Y2.out; have z3 := Z_w0.out; have z4 := Y3.out; have z5 := Z_x.out; have z6 := Y4.out; have z7 := Z_g.out; have z8 := Y5.out; have z9 := Y6.out; have z10 := Z_b.out; have z11 := Y7.out; have z12 := Y8.out; have z13 := Y9.out; have z14 := Y10.out; omega)); replace O_x := Aside0.mk (R_beside O_x.out (by have z0 := Y1.out; have z1 := Z_a.out; have z2 := Y2.out; have z3 := Z_w0.out; have z4 := Y3.out; have z5 := Z_x.out; have z6 := Y4.out; have z7 := Z_g.out; have z8 := Y5.out; have z9 := Y6.out; have z10 := Z_b.out; have z11 := Y7.out; have z12 := Y8.out; have z13 := Y9.out; have z14 := Y10.out; omega) hK (by have z0 := Y1.out; have z1 := Z_a.out; have z2 := Y2.out; have z3 := Z_w0.out; have z4 := Y3.out; have z5 := Z_x.out; have z6 := Y4.out; have z7 := Z_g.out; have z8 := Y5.out; have z9 := Y6.out; have z10 := Z_b.out; have z11 := Y7.out; have z12 := Y8.out; have z13 := Y9.out; have z14 := Y10.out; omega)); replace O_b := Aside0.mk (R_beside O_b.out (by have z0 := Y1.out; have z1 := Z_a.out; have z2 := Y2.out; have z3 := Z_w0.out; have z4 := Y3.out; have z5 := Z_x.out; have z6 := Y4.out; have z7 := Z_g.out; have z8 := Y5.out; have z9 := Y6.out; have z10 := Z_b.out; have z11 := Y7.out; have z12 := Y8.out; have z13 := Y9.out; have z14 := Y10.out; omega) hK (by have z0 := Y1.out; have z1 := Z_a.out; have z2 := Y2.out; have z3 := Z_w0.out; have z4 := Y3.out; have z5 := Z_x.out; have z6 := Y4.out; have z7 := Z_g.out; have z8 := Y5.out; have z9 := Y6.out; have z10 := Z_b.out; have z11 := Y7.out; have z12 := Y8.out; have z13 := Y9.out; have z14 := Y10.out; omega)); replace O_g := Aside0.mk (R_marked O_g.out hO rfl); have Y11 := Aside0.mk hK.1; replace HB := Aside0.mk hB2; clear hO hB2 hK)
    go_wp2_with (go_at_call 26; clear T12; refine (len_R O_g.out (laws_heldItemS.calls _ _ _ _ _ _ _ (C_of_R O_g.out) (L_of_R O_g.out) E8.out)).mono ?_; rintro e w12 ⟨rfl, hd⟩; have hb := below_drawn hd; replace O_a := Aside0.mk (Kd.R_below O_a.out hb); replace O_w0 := Aside0.mk (Kd.R_below O_w0.out hb); replace O_x := Aside0.mk (Kd.R_below O_x.out hb); replace O_g := Aside0.mk (Kd.R_below O_g.out hb); replace O_b := Aside0.mk (Kd.R_below O_b.out hb); have Y12 := Aside0.mk hb.size; replace HB := Aside0.mk (below_step HB.out hb); clear hb)
    go_wp2_with (go_at_call 22; clear T13; refine (laws_toItemS.calls _ _ _ _ _ _ (Kd.C_below HR_l0.out HB.out) (HC_l0.out) E1.out).mono ?_; rintro e w13 ⟨v_c, rfl, hO, hb⟩; replace O_a := Aside0.mk (Kd.R_below O_a.out hb); replace O_w0 := Aside0.mk (Kd.R_below O_w0.out hb); replace O_x := Aside0.mk (Kd.R_below O_x.out hb); replace O_g := Aside0.mk (Kd.R_below O_g.out hb); replace O_b := Aside0.mk (Kd.R_below O_b.out hb); obtain ⟨lo_c, hi_c, hz, hO⟩ := R_born hO HB.out; have Z_c := Aside0.mk hz; clear hz; obtain ⟨A_c, c_c, rfl⟩ := Kd.R_slice hO; have O_c := Aside0.mk hO; clear hO; have Y13 := Aside0.mk hb.size; replace HB := Aside0.mk (below_step HB.out hb); clear hb)
    go_wp2_with (go_at_call 23; clear T14; refine (impl_Plain.calls _ _ _ _ _ (C_of_R O_c.out) (L_of_R O_c.out) E3.out).mono ?_; rintro e w14 ⟨v_h, rfl, hO, hb⟩; replace O_a := Aside0.mk (Kd.R_below O_a.out hb); replace O_w0 := Aside0.mk (Kd.R_below O_w0.out hb); replace O_x := Aside0.mk (Kd.R_below O_x.out hb); replace O_g := Aside0.mk (Kd.R_below O_g.out hb); replace O_b := Aside0.mk (Kd.R_below O_b.out hb); replace O_c := Aside0.mk (Kd.R_below O_c.out hb); obtain ⟨lo_h, hi_h, hz, hO⟩ := R_born hO HB.out; have Z_h := Aside0.mk hz; clear hz; obtain ⟨A_h, c_h, rfl⟩ := Kd.R_slice hO; have O_h := Aside0.mk hO; clear hO; have Y14 := Aside0.mk hb.size; replace HB := Aside0.mk (below_step HB.out hb); clear hb)
    go_wp2_with (go_at_call 24; clear T15; refine (laws_eqItemS.calls _ _ _ _ _ _ _ _ _ (C_of_R O_h.out) (L_of_R O_h.out) (C_of_R O_w0.out) (L_of_R O_w0.out) E4.out).mono ?_; rintro e w15 ⟨rfl, hb⟩; replace O_a := Aside0.mk (Kd.R_below O_a.out hb); replace O_w0 := Aside0.mk (Kd.R_below O_w0.out hb); replace O_x := Aside0.mk (Kd.R_below O_x.out hb); replace O_g := Aside0.mk (Kd.R_below O_g.out hb); replace O_b := Aside0.mk (Kd.R_below O_b.out hb); replace O_c := Aside0.mk (Kd.R_below O_c.out hb); replace O_h := Aside0.mk (Kd.R_below O_h.out hb); have Y15 := Aside0.mk hb.size; replace HB := Aside0.mk (below_step HB.out hb); clear hb)
    go_wp2_with (go_at_call 26; clear T16; refine (len_R O_g.out (laws_heldItemS.calls _ _ _ _ _ _ _ (C_of_R O_g.out) (L_of_R O_g.out) E8.out)).mono ?_; rintro e w16 ⟨rfl, hd⟩; have hb := below_drawn hd; replace O_a := Aside0.mk (Kd.R_below O_a.out hb); replace O_w0 := Aside0.mk (Kd.R_below O_w0.out hb); replace O_x := Aside0.mk (Kd.R_below O_x.out hb); replace O_g := Aside0.mk (Kd.R_below O_g.out hb); replace O_b := Aside0.mk (Kd.R_below O_b.out hb); replace O_c := Aside0.mk (Kd.R_below O_c.out hb); replace O_h := Aside0.mk (Kd.R_below O_h.out hb); have Y16 := Aside0.mk hb.size; replace HB := Aside0.mk (below_step HB.out hb); clear hb)
    go_ret
    exact ⟨rfl, HB.out⟩
  · have hm := Nat.le_trans hok maxLen_le
    have E0 := Aside0.mk (laws_szItemS_eq l0 1048576 hm (by omega) (by omega))
    rw [if_pos (by omega)] at E0
    have T1 : Aside0 True := ⟨trivial⟩
    go_enter Try.func4, Try.ntmps4
    go_wp2_with (go_at_call 20; clear T1; refine (laws_szItemS.calls _ _ _ _ _ _ (Kd.C_below HR_l0.out HB.out) (HC_l0.out) E0.out).mono ?_; rintro e w1 ⟨rfl, hd⟩; have hb := below_drawn hd; have Y1 := Aside0.mk hb.size; replace HB := Aside0.mk (below_step HB.out hb); clear hb)
    go_ret
    exact ⟨rfl, HB.out⟩
end Go.Proofs.Ytimdoghlnegpgaa.P
/- Arguments of plain data (nested slices and structs) read as the printed walks' kinds say, over any program whose types are as told. -/
namespace Go.Proofs.YtimdoghlnegpgaaOpen
open Go.RowKit Go.ChangeShapes Go.WideShapes Go.Proofs.YtimdoghlnegpgaaW.PrintWords
set_option linter.unusedVariables false
set_option linter.unusedSimpArgs false

structure Opens {α : Type} (P : Program) (t : TypeId) (k : Kd α) (G : α → Prop) : Prop where
  sz : P.cellsOf t = k.sz
  op : ∀ {H : Type} (enc : TypeId × Value → H) (w : World) (base : Nat) (spare : Nat → Bool) (held : Bool) (fuel : Nat) (cs : List Value) (x : DataW H × List MemPlace), DataW.trod enc P w base spare held fuel t cs = some x → ∃ v, k.K w v cs ∧ G v

variable {P : Program} {t e : TypeId}

theorem opens_int {k : IntKind} (ht : P.underlying t = some (.int k)) (hc : P.cellsOf t = 1) : Opens P t (Kd.int k) (fun n => (Lit.int k n).wf = true) where
  sz := hc
  op := fun enc w base spare held fuel cs x h => by
    obtain ⟨n, rfl, _, hw⟩ := DataW.trod_int ht h
    exact ⟨n, rfl, hw⟩
theorem opens_bool (ht : P.underlying t = some .bool) (hc : P.cellsOf t = 1) : Opens P t Kd.bool (fun _ => True) where
  sz := hc
  op := fun enc w base spare held fuel cs x h => by
    obtain ⟨b, rfl, _⟩ := DataW.trod_bool ht h
    exact ⟨b, rfl, trivial⟩
theorem opens_string (ht : P.underlying t = some .string) (hc : P.cellsOf t = 1) : Opens P t Kd.string (fun s => s.size ≤ maxLen) where
  sz := hc
  op := fun enc w base spare held fuel cs x h => by
    obtain ⟨s, rfl, _, hs⟩ := DataW.trod_string ht h
    exact ⟨s, rfl, hs⟩

theorem exists_list {α : Type} {p : Nat → α → Prop} : ∀ n, (∀ i, i < n → ∃ v, p i v) → ∃ xs : List α, xs.length = n ∧ ∀ i v, xs[i]? = some v → p i v
  | 0, _ => ⟨[], rfl, fun i v h => by simp at h⟩
  | n + 1, h => by
    obtain ⟨xs, hl, hx⟩ := exists_list n (fun i hi => h i (by omega))
    obtain ⟨v, hv⟩ := h n (by omega)
    refine ⟨xs ++ [v], by simp [hl], fun i u hu => ?_⟩
    by_cases hi : i < n
    · rw [List.getElem?_append_left (by omega)] at hu
      exact hx i u hu
    · rw [List.getElem?_append_right (by omega)] at hu
      have : i - xs.length = 0 := by
        have := (List.getElem?_eq_some_iff.1 hu).1
        simp at this
        omega
      rw [this] at hu
      have hi' : i = n := by omega
      subst hi'
      simp at hu
      subst hu
      exact hv

theorem opens_slice {α : Type} {k : Kd α} {G : α → Prop} (ht : P.underlying t = some (.slice e)) (hc : P.cellsOf t = 1) (h : Opens P e k G) : Opens P t (Kd.slice e k) (fun xs => xs.length ≤ maxLen ∧ ∀ x ∈ xs, G x) where
  sz := hc
  op := fun enc w base spare held fuel cs x hx => by
    rcases DataW.trod_slice ht hx with ⟨rfl, rfl⟩ | ⟨a, len, cap, elems, rest, n, _, rfl, _, _, hl, hm, hlen, hel, _, _⟩
    · exact ⟨[], ⟨none, 0, rfl, Nat.le_refl _, Kd.C_nil k w⟩, by simp, fun x hx => absurd hx List.not_mem_nil⟩
    · have each : ∀ i, i < len → ∃ v, G v ∧ ∃ c, c.length = k.sz ∧ k.K w v c ∧ ∀ j u, c[j]? = some u → w.cell? (a.add (i * k.sz + j)) = some u := by
        intro i hi
        have h1 := hel i hi
        rw [List.getElem?_eq_getElem (by omega), Option.bind_eq_some_iff, h.sz] at h1
        obtain ⟨c, hc1, hc2⟩ := h1
        obtain ⟨v, hv, hg⟩ := h.op enc w base spare held n c _ hc2
        obtain ⟨_, hcl, hcell⟩ := World.cells?_some hc1
        refine ⟨v, hg, c, hcl, hv, fun j u hu => ?_⟩
        have hj : j < k.sz := by
          have := (List.getElem?_eq_some_iff.1 hu).1
          omega
        rw [← Addr.add_add, hcell j hj]
        exact hu
      obtain ⟨xs, hxl, hx⟩ := exists_list len each
      have hmx : (maxLen : Nat) ≤ 9223372036854775807 := by unfold maxLen; omega
      refine ⟨xs, ⟨some a, cap, by rw [hxl], by omega, ?_⟩, by omega, fun x hx' => ?_⟩
      · refine ⟨rfl, by omega, fun _ => ⟨a, rfl, fun j p hp => ?_⟩⟩
        obtain ⟨_, c, h1, h2, h3⟩ := hx j p hp
        exact ⟨c, h1, h2, h3⟩
      · obtain ⟨i, hi⟩ := List.mem_iff_getElem?.1 hx'
        exact (hx i x hi).1

/-- A struct's fields from a cell on. -/
structure Fields {α : Type} (P : Program) (fs : List Field) (off : Nat) (k : Kd α) (G : α → Prop) : Prop where
  from_ : ∀ f ∈ fs, off ≤ f.offset
  op : ∀ {H : Type} (enc : TypeId × Value → H) (w : World) (base : Nat) (spare : Nat → Bool) (held : Bool) (n : Nat) (cs : List Value), cs.length = k.sz → (∀ f ∈ fs, ∃ y, DataW.trod enc P w base spare held n f.type ((cs.drop (f.offset - off)).take (P.cellsOf f.type)) = some y) → ∃ v, k.K w v cs ∧ G v

theorem fields_one {α : Type} {k : Kd α} {G : α → Prop} {f : Field} (h : Opens P f.type k G) : Fields P [f] f.offset k G where
  from_ := fun g hg => by rw [List.mem_singleton.1 hg]; exact Nat.le_refl _
  op := fun enc w base spare held n cs hl hf => by
    obtain ⟨y, hy⟩ := hf f (by simp)
    rw [Nat.sub_self, List.drop_zero, h.sz, ← hl, List.take_length] at hy
    exact h.op enc w base spare held n cs y hy
theorem fields_cons {α β : Type} {k : Kd α} {k' : Kd β} {G : α → Prop} {G' : β → Prop} {f : Field} {fs : List Field} (h : Opens P f.type k G) (hs : Fields P fs (f.offset + k.sz) k' G') : Fields P (f :: fs) f.offset (Kd.pair k k') (fun x => G x.1 ∧ G' x.2) where
  from_ := fun g hg => by
    rcases List.mem_cons.1 hg with rfl | hg
    · exact Nat.le_refl _
    · have := hs.from_ g hg
      omega
  op := fun enc w base spare held n cs hl hf => by
    have hl' : cs.length = k.sz + k'.sz := hl
    obtain ⟨y, hy⟩ := hf f (by simp)
    rw [Nat.sub_self, List.drop_zero, h.sz] at hy
    obtain ⟨v, hv, hg⟩ := h.op enc w base spare held n _ y hy
    obtain ⟨u, hu, hg'⟩ := hs.op enc w base spare held n (cs.drop k.sz) (by rw [List.length_drop]; omega) (fun g hg => by
      obtain ⟨y, hy⟩ := hf g (by simp [hg])
      refine ⟨y, ?_⟩
      have := hs.from_ g hg
      rw [List.drop_drop, show k.sz + (g.offset - (f.offset + k.sz)) = g.offset - f.offset by omega]
      exact hy)
    exact ⟨(v, u), ⟨cs.take k.sz, cs.drop k.sz, (List.take_append_drop _ _).symm, hv, hu⟩, hg, hg'⟩
theorem opens_struct {α : Type} {k : Kd α} {G : α → Prop} {fs : Array Field} (ht : P.underlying t = some (.struct fs)) (hc : P.cellsOf t = k.sz) (h : Fields P fs.toList 0 k G) : Opens P t k G where
  sz := hc
  op := fun enc w base spare held fuel cs x hx => by
    obtain ⟨xs, n, _, _, hl, hlen, hf⟩ := DataW.trod_struct ht hx
    refine h.op enc w base spare held n cs (hl.trans hc) (fun f hf' => ?_)
    obtain ⟨i, hi⟩ := List.mem_iff_getElem?.1 hf'
    rw [Array.getElem?_toList] at hi
    have h1 := hf i f hi
    have : i < fs.size := by
      have := (Array.getElem?_eq_some_iff.1 hi).1
      exact this
    rw [List.getElem?_eq_getElem (by omega)] at h1
    rw [Nat.sub_zero]
    exact ⟨_, h1⟩
theorem opens_iso {α β : Type} {k : Kd α} {G : α → Prop} (f : β → α) (g : α → β) (hfg : ∀ x, f (g x) = x) (h : Opens P t k G) : Opens P t (Kd.iso k f) (fun y => G (f y)) where
  sz := h.sz
  op := fun enc w base spare held fuel cs x hx => by
    obtain ⟨v, hv, hg⟩ := h.op enc w base spare held fuel cs x hx
    exact ⟨g v, by show k.K w (f (g v)) cs; rw [hfg]; exact hv, by rw [hfg]; exact hg⟩
theorem opens_imp {α : Type} {k : Kd α} {G G' : α → Prop} (h : Opens P t k G) (hg : ∀ x, G x → G' x) : Opens P t k G' where
  sz := h.sz
  op := fun enc w base spare held fuel cs x hx => by
    obtain ⟨v, hv, hh⟩ := h.op enc w base spare held fuel cs x hx
    exact ⟨v, hv, hg v hh⟩
end Go.Proofs.YtimdoghlnegpgaaOpen
/- The pure statement of the law FnExactPlain: its arguments are those that its walk is told of. -/
set_option linter.unusedVariables false
namespace Go.Proofs.Ytimdoghlnegpgaa.fnExactPlain.Pure
open Go.RowKit Go.Proofs.YtimdoghlnegpgaaW.PrintWords Go.Proofs.YtimdoghlnegpgaaW.PrintLast Go.Proofs.Ytimdoghlnegpgaa.P Go.Proofs.YtimdoghlnegpgaaEv
theorem pure_FnExactPlain : ∀ (l0 : List S89), (l0.length ≤ maxLen ∧ ∀ y ∈ l0, g89 y) → ∃ k, laws_FnExactPlain.f k l0 = some true := by
  intro l0 h0
  exact ⟨0, if_pos (h0.1)⟩
end Go.Proofs.Ytimdoghlnegpgaa.fnExactPlain.Pure
-- The kit's printed words WSized, cut down by wip/gen/pack.py to what this proof reaches.
/- The law FnExactPlain holds: every call returns true and leaves its arguments as they were. Conditions: none beyond what the given row says. This text: the row, out of the walk's contract and the pure statement. -/
namespace Go.Proofs.Ytimdoghlnegpgaa.fnExactPlain
open Go.ChangeShapes Go.WideShapes Go.ChangeAt Go.RowKit Go.Proofs.YtimdoghlnegpgaaW.PrintWords Go.Proofs.YtimdoghlnegpgaaOpen Go.Proofs.Ytimdoghlnegpgaa.P
open Go.ChangeMaps (open_string shut_string)
set_option linter.unusedVariables false
set_option linter.unusedSimpArgs false
theorem own : ownKnob Try.prog.godebug = none := by kernel_rfl
theorem laidOut : laidOutB Try.prog = true := by kernel_rfl
theorem o89 : Opens Try.prog 89 k89 g89 := opens_imp (opens_iso (fun x : S89 => (x.f0, x.f1, x.f2)) (fun p => ⟨p.1, p.2.1, p.2.2⟩) (fun _ => rfl) (opens_struct Try.underlying89 (by kernel_rfl) (fields_cons (opens_int Try.underlying2 (by kernel_rfl)) (fields_cons (opens_int Try.underlying2 (by kernel_rfl)) (fields_one (opens_int Try.underlying2 (by kernel_rfl))))))) (fun _ h => h)
set_option maxRecDepth 100000 in
theorem lifted (os : Os) (started : os.Started) (H : Type) (enc : TypeId × Value → H) :
    ReturnsInHanded {} Try.checked os 4 .any (Rows.fnExactPlainSpec.pre6 enc Try.prog Try.f4 Rows.fnExactPlainRow.domain false) (Rows.fnExactPlainSpec.post enc Try.prog Try.f4 false true false false) := by
  refine returnsInHanded_of_change_sized (C := Try.checked) own started (by kernel_rfl) Try.func4
    (ChangeSpec.witness6 (enc := enc) (C := Try.checked) false ⟨#[], #[.slice none 0 0], []⟩ 8 (by kernel_rfl) (by kernel_rfl) (by kernel_rfl) (by kernel_rfl)) ?_
  intro W base args ds gs before hval0 hW hcnd hsz0 _
  have hsz : (DataW.weightsEach Try.prog (Try.f4.params.toList ++ Rows.fnExactPlainSpec.plain.varTypes Try.prog) (ds ++ gs)).all (· ≤ reachBytes) = true := hsz0
  have hval : ∀ (j : Nat) t v, Try.f4.params[j]? = some t → args[j]? = some v → Value.okWide Try.prog W .any base t v := hval0
  have hW' := hW
  obtain ⟨p, q, hA0, hV, rfl, hfz, hnd⟩ := hW
  have hA : DataW.TrodAll enc Try.prog W 0 (fun _ => true) true Try.f4.params.toList args.toList ds p := hA0
  rw [Try.params4] at hA hval hsz
  obtain ⟨v0, vs0, d0, ds0, p0, q0, hargs, rfl, rfl, h0, r0⟩ := trodAll_cons hA
  obtain ⟨rfl, rfl, rfl⟩ := trodAll_nil r0
  obtain rfl : args = #[v0] := by cases args; simp_all
  obtain ⟨rfl, rfl⟩ := trodVars_none hV
  have k0' := h0
  have lt0 : ∀ x ∈ p0, x.block < W.heap.size := by obtain ⟨m, hm⟩ := k0'; exact DataW.trod_lt m _ _ _ hm
  obtain ⟨a0, len0, cap0, rfl⟩ := okWide_slice Try.underlying29 (hval 0 29 v0 rfl rfl)
  obtain ⟨fuel0, hf0⟩ := h0
  have hf0' : DataW.trod enc Try.prog W 0 (fun _ => true) true fuel0 29 [.slice a0 len0 cap0] = some (d0, p0) := hf0
  obtain ⟨x0, ⟨A0, c0, he0, hl0, hC0⟩, hG0⟩ := (opens_slice Try.underlying29 (by kernel_rfl) o89).op enc W 0 (fun _ => true) true fuel0 _ _ hf0'
  obtain ⟨rfl, rfl, rfl⟩ : a0 = A0 ∧ len0 = x0.length ∧ cap0 = c0 := by simpa using he0
  clear hA0 hval0 hsz0 hsz
  obtain ⟨k, hk⟩ := Pure.pure_FnExactPlain x0 hG0
  refine (laws_FnExactPlain.calls k _ _ x0 true W hC0 hl0 hk).mono fun e W' ⟨he, bel0⟩ => ?_
  have bel : Below W.heap.size W W' := bel0
  subst he
  exact ⟨_, rfl, _, _, _, [], _, [], hW', trodAll_mk1 (shut_bool Try.underlying4 _), (trodAll_cons_mk (Below.trod laidOut (by kernel_rfl) (of_decide_eq_true (by kernel_rfl)) k0' bel lt0) trodAll_mk0), rfl, bel.frame _, fun h => by cases h⟩
theorem over : Rows.fnExactPlainRow.holds Try.pinned (OpenSpec.ofChange Rows.fnExactPlainSpec) :=
  OpenClaim.holds_of_wide 4 Try.f4 rfl rfl rfl rfl rfl rfl rfl ⟨rfl, rfl, rfl, rfl, rfl⟩ rfl rfl rfl rfl rfl (by kernel_rfl) Try.func4 (by kernel_rfl)
    (of_decide_eq_true (by kernel_rfl)) (by unfold Func.isWrapper; first | (rw [if_pos (by decide +kernel)]; kernel_rfl) | (rw [if_neg (by decide +kernel)]; exact ⟨rfl, rfl⟩))
    (fun os started H enc _ => lifted os started H enc)
theorem proved : Rows.FnExactPlainSaid := over
#print axioms proved
end Go.Proofs.Ytimdoghlnegpgaa.fnExactPlain
namespace Go.Proofs.Ytimdoghlnegpgaa
/-- The row, under a short name, for the claim. -/
theorem fnExactPlain_holds : Rows.FnExactPlainSaid := fnExactPlain.proved
end Go.Proofs.Ytimdoghlnegpgaa
