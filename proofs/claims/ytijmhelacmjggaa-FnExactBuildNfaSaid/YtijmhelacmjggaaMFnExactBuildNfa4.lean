/- The law FnExactBuildNfa holds for every call: part 5 of 5 of the proof (the row). Conditions: none beyond what the given row says. -/
import Derived.Test.YtijmhelacmjggaaMFnExactBuildNfa0
import Derived.Test.YtijmhelacmjggaaMFnExactBuildNfa1
import Derived.Test.YtijmhelacmjggaaMFnExactBuildNfa3
import Derived.ChangeSlices
import Derived.ChangeArms
import Derived.SizedLaws
import Derived.Test.YtijmhelacmjggaaRows
import Derived.WalkKit
import Derived.ProofKit
import Derived.OpenShut
import Derived.ShutString
import Derived.ChangeOld
import Derived.Below
set_option maxHeartbeats 16000000
set_option maxRecDepth 100000
namespace Go.Proofs.Ytijmhelacmjggaa.P
open Go.RowKit Go.Proofs.YtijmhelacmjggaaW.PrintWords Go.Proofs.YtijmhelacmjggaaW.PrintLast Go.Proofs.YtijmhelacmjggaaW.PrintMore
attribute [local go_sem] max2_int min2_int max_two min_two max_three min_three max_four min_four
set_option linter.unusedVariables false
set_option linter.unusedSimpArgs false
/-! ### laws_eqEdge: function 147 -/
def laws_eqEdge.f (k : Nat) (a0_0 : Int) (a0_1 : Int) (l0_2 : List (S103)) (a1_0 : Int) (a1_1 : Int) (l1_2 : List (S103)) : Option (Bool) := if a0_0 = a1_0 then (if a0_1 = a1_1 then ((laws_eqSpanS.f k l0_2 l1_2).bind fun t103 => (if t103 = true then (some true) else (none))) else (none)) else (none)
theorem laws_eqEdge.calls (k : Nat) (a0_0 : Int) (a0_1 : Int) (A0_2 : Option Addr) (c0_2 : Nat) (l0_2 : List (S103)) (a1_0 : Int) (a1_1 : Int) (A1_2 : Option Addr) (c1_2 : Nat) (l1_2 : List (S103)) (r : Bool) (w : World) (hr0_2 : Kd.C k103 w A0_2 l0_2.length l0_2) (hc0_2 : l0_2.length ≤ c0_2) (hr1_2 : Kd.C k103 w A1_2 l1_2.length l1_2) (hc1_2 : l1_2.length ≤ c1_2) (h : laws_eqEdge.f k a0_0 a0_1 l0_2 a1_0 a1_1 l1_2 = some r) :
  Calls Try.prog 147 #[.agg #[.int .i64 a0_0, .int .i64 a0_1, .slice A0_2 l0_2.length c0_2], .agg #[.int .i64 a1_0, .int .i64 a1_1, .slice A1_2 l1_2.length c1_2]] w fun e w' => e = .returned (.bool r) ∧ Below w.heap.size w w' := by
 have hu187 := Try.underlying187; have HR0_2 := q_ hr0_2; have HC0_2 := q_ hc0_2; clear hr0_2 hc0_2; have HR1_2 := q_ hr1_2; have HC1_2 := q_ hc1_2; clear hr1_2 hc1_2; have HB := q_ (Below.refl w.heap.size w)
 have H : (if a0_0 = a1_0 then (if a0_1 = a1_1 then ((laws_eqSpanS.f k l0_2 l1_2).bind fun t103 => (if t103 = true then (some true) else (none))) else (none)) else (none)) = some r := h
 clear h
 by_cases c3 : a0_0 = a1_0
 ·rw [if_pos c3] at H
  have c3b0 : (a0_0 == a1_0) = true := beq_iff_eq.mpr c3
  have c3b1 : (a0_0 != a1_0) = false := bne_eq_false_iff_eq.mpr c3
  clear c3
  by_cases c4 : a0_1 = a1_1
  ·rw [if_pos c4] at H
   have c4b0 : (a0_1 == a1_1) = true := beq_iff_eq.mpr c4
   have c4b1 : (a0_1 != a1_1) = false := bne_eq_false_iff_eq.mpr c4
   clear c4; obtain ⟨t103, A5, H⟩ := ob_ H
   by_cases c6 : t103 = true
   ·subst c6; rw [if_pos rfl] at H; obtain rfl := Option.some.inj H
    go_enter Try.func147, Try.ntmps147
    go_wp2_with (first | ((with_reducible refine gate_dst (N := 2) rfl ?_); refine bx_ 2 #[.int .i64 a0_0, .int .i64 a0_1, .slice A0_2 l0_2.length c0_2] 187 ?_; intro gb101 hg w7 hbox hb; have BK101 := q_ (hbox); have GE101 := ge_ hg HB; replace HB := sb_ HB hb; clear hb hbox hg) | ((with_reducible refine gate_dst (N := 3) rfl ?_); refine bx_ 3 #[.int .i64 a1_0, .int .i64 a1_1, .slice A1_2 l1_2.length c1_2] 187 ?_; intro gb102 hg w8 hbox hb; have BK102 := q_ (hbox); have GE102 := ge1_ hg HB GE101; have NB101_102 := nl_ hg BK101; have NB102_101 := ng_ hg BK101; replace BK101 := lb_ BK101 hb; replace HB := sb1_ HB GE101 hb; clear hb hbox hg; have hnb9 := NB101_102.o; have hnc9 := NB102_101.o; obtain ⟨hcz10_0, hcz10_1, hcz10_2, hfz10_0, hfz10_1, hfz10_2⟩ := d3_ BK101; obtain ⟨hcz11_0, hcz11_1, hcz11_2, hfz11_0, hfz11_1, hfz11_2⟩ := d3_ BK102) | ((with_reducible refine gate_callee (f := 21) rfl ?_); refine gl_ (some 19) rfl rfl Try.func21 #[.slice A0_2 l0_2.length c0_2, .slice A1_2 l1_2.length c1_2] ?_; (with_reducible refine (laws_eqSpanS.calls k _ _ l0_2 _ _ l1_2 true _ ?side1 ?side2 ?side3 ?side4 A5.o).mono ?_); (case side1 => exact Kd.C_below HR0_2.o (be_ HB.o)); (case side2 => exact HC0_2.o); (case side3 => exact Kd.C_below HR1_2.o (be_ HB.o)); (case side4 => exact HC1_2.o); rintro e w12 ⟨rfl, hb⟩; refine ⟨_, rfl, ?_⟩; replace BK101 := lb_ BK101 hb; replace BK102 := lb_ BK102 hb; replace HB := sb2_ HB GE101 GE102 hb; (try clear hb)))
    go_ret
    exact ⟨rt_, be2_ HB.o GE101.o GE102.o⟩
   ·replace c6 := Bool.eq_false_iff.mpr c6; subst c6; rw [if_neg nft_] at H
    exact absurd H (by simp)
  ·rw [if_neg c4] at H
   have c4b0 : (a0_1 == a1_1) = false := beq_eq_false_iff_ne.mpr c4
   have c4b1 : (a0_1 != a1_1) = true := bne_iff_ne.mpr c4
   exact absurd H (by simp)
 ·rw [if_neg c3] at H
  have c3b0 : (a0_0 == a1_0) = false := beq_eq_false_iff_ne.mpr c3
  have c3b1 : (a0_0 != a1_0) = true := bne_iff_ne.mpr c3
  exact absurd H (by simp)
/-! ### laws_eqEdgeS: function 109 -/
def laws_eqEdgeS.l0 : Nat → List (S187) → List (S187) → Int → Option (Bool)
 | 0, _, _, _ => none
 | k + 1, x0, x1, x5 => if x5 < (x0.length : Int) then (if 0 ≤ x5 then (if x5 < (x1.length : Int) then ((laws_eqEdge.f k ((rd_T187 x0 x5).f0) ((rd_T187 x0 x5).f1) ((rd_T187 x0 x5).f2) ((rd_T187 x1 x5).f0) ((rd_T187 x1 x5).f1) ((rd_T187 x1 x5).f2)).bind fun t103 => (if t103 = true then (laws_eqEdgeS.l0 k x0 x1 (wrap64 (x5 + 1))) else (none))) else (none)) else (none)) else (some true)
def laws_eqEdgeS.f (k : Nat) (l0 : List (S187)) (l1 : List (S187)) : Option (Bool) := if (l0.length : Int) = (l1.length : Int) then (laws_eqEdgeS.l0 k l0 l1 0) else (none)
def laws_eqEdgeS.T6 : Bool × List (List Nat × List Nat) := (true, [([], []), ([], []), ([0, 1], [0, 1]), ([2], [2]), ([], []), ([], []), ([4, 5], [4, 5]), ([6], [6]), ([3, 7], [3, 7]), ([8], [8])])
def laws_eqEdgeS.B6 : List Nat := [0, 0, 3, 7, 0, 0, 48, 112, 255, 511]
theorem laws_eqEdgeS.tab6 : rtab .any (opsOf Try.f109 6) = laws_eqEdgeS.T6 := by kernel_rfl
theorem laws_eqEdgeS.bits6 : waitsOk laws_eqEdgeS.T6.2 laws_eqEdgeS.B6 = true := by kernel_rfl
theorem laws_eqEdgeS.calls (k : Nat) (A0 : Option Addr) (c0 : Nat) (l0 : List (S187)) (A1 : Option Addr) (c1 : Nat) (l1 : List (S187)) (r : Bool) (w : World) (hr0 : Kd.C k187 w A0 l0.length l0) (hc0 : l0.length ≤ c0) (hr1 : Kd.C k187 w A1 l1.length l1) (hc1 : l1.length ≤ c1) (h : laws_eqEdgeS.f k l0 l1 = some r) :
  Calls Try.prog 109 #[.slice A0 l0.length c0, .slice A1 l1.length c1] w fun e w' => e = .returned (.bool r) ∧ Below w.heap.size w w' := by
 have hu187 := Try.underlying187; have HR0 := q_ hr0; have HC0 := q_ hc0; clear hr0 hc0; have HR1 := q_ hr1; have HC1 := q_ hc1; clear hr1 hc1; have HB := q_ (Below.refl w.heap.size w)
 have H : (if (l0.length : Int) = (l1.length : Int) then (laws_eqEdgeS.l0 k l0 l1 0) else (none)) = some r := h
 clear h
 by_cases c3 : (l0.length : Int) = (l1.length : Int)
 ·rw [if_pos c3] at H
  have c3b0 : ((l0.length : Int) == (l1.length : Int)) = true := beq_iff_eq.mpr c3
  have c3b1 : ((l0.length : Int) != (l1.length : Int)) = false := bne_eq_false_iff_eq.mpr c3
  have c3b2 : (l0.length == l1.length) = true := by first | simpa using c3 | (simp at c3 ⊢; omega)
  clear c3
  have H' := q_ H
  clear H
  go_enter Try.func109, Try.ntmps109
  go_wp2
  go_loopg [5] k (fun kq v5 w' => ∃ (x5_1 : Int), v5 = .int .i64 x5_1 ∧ J0 (laws_eqEdgeS.l0 kq l0 l1 x5_1 = some r) ∧ J0 (kq ≤ k) ∧ J0 (Below w.heap.size w w'))
  case atStart => exact ⟨(0), rs_, H', ⟨Nat.le_refl _⟩, ⟨be_ HB.o⟩⟩
  case round =>
   clear H'; (try clear c1); (try clear c3); (try clear c3b0); (try clear c3b1); (try clear c3b2); obtain ⟨x5_1, rfl, HA, HK1, HB⟩ := hrel
   cases gk with
   | zero => exact absurd HA.o (by simp [laws_eqEdgeS.l0])
   | succ k1 =>
    have H := HA.o; clear HA
    simp only [laws_eqEdgeS.l0] at H
    by_cases c4 : x5_1 < (l0.length : Int)
    ·rw [if_pos c4] at H; have c4b0 := dt_ c4; clear c4
     by_cases c5 : 0 ≤ x5_1
     ·rw [if_pos c5] at H; have c5b0 := dt_ c5; clear c5
      by_cases c6 : x5_1 < (l1.length : Int)
      ·rw [if_pos c6] at H; have c6b0 := dt_ c6; clear c6; obtain ⟨t103, A7, H⟩ := ob_ H
       by_cases c8 : t103 = true
       ·subst c8; rw [if_pos rfl] at H
        have H' := q_ H
        clear H
        try go_wp2
        replace HB := q_ (below_drew1 HB.o)
        have p101 : 0 ≤ (x5_1 : Int) := of_decide_eq_true as_
        have q101 : x5_1 < (l0.length : Int) := of_decide_eq_true as_
        obtain ⟨ad101, A101_2, c101_2, e101, hx101_0, hx101_1, hx101_2, hl101_2, hi101_2⟩ := at_T187 HR0.o x5_1 p101 q101; have hw101_2 := hx101_2; have hw101_1 := hx101_1; have hw101_0 := hx101_0
        cases e101
        replace hx101_0 := mv_ HB.o hx101_0; replace hx101_1 := mv_ HB.o hx101_1; replace hx101_2 := mv_ HB.o hx101_2; have HR101_2 := q_ hi101_2; have HC101_2 := q_ hl101_2; clear hi101_2 hl101_2; replace p101 := eq_true p101; replace q101 := eq_true q101
        have p102 : 0 ≤ (x5_1 : Int) := of_decide_eq_true as_
        have q102 : x5_1 < (l1.length : Int) := of_decide_eq_true as_
        obtain ⟨ad102, A102_2, c102_2, e102, hx102_0, hx102_1, hx102_2, hl102_2, hi102_2⟩ := at_T187 HR1.o x5_1 p102 q102; have hw102_2 := hx102_2; have hw102_1 := hx102_1; have hw102_0 := hx102_0
        cases e102
        replace hx102_0 := mv_ HB.o hx102_0; replace hx102_1 := mv_ HB.o hx102_1; replace hx102_2 := mv_ HB.o hx102_2; have HR102_2 := q_ hi102_2; have HC102_2 := q_ hl102_2; clear hi102_2 hl102_2; replace p102 := eq_true p102; replace q102 := eq_true q102
        refine start_ (n := 10) (S := fun w' => w'.cell? (ad101.add ((x5_1).toNat * 3)) = some (.int .i64 ((rd_T187 l0 x5_1).f0)) ∧ w'.cell? ⟨(ad101.add ((x5_1).toNat * 3)).block, (ad101.add ((x5_1).toNat * 3)).off + 1, none⟩ = some (.int .i64 ((rd_T187 l0 x5_1).f1)) ∧ w'.cell? ⟨(ad101.add ((x5_1).toNat * 3)).block, (ad101.add ((x5_1).toNat * 3)).off + 2, none⟩ = some (.slice A101_2 ((rd_T187 l0 x5_1).f2).length c101_2) ∧ w'.cell? (ad102.add ((x5_1).toNat * 3)) = some (.int .i64 ((rd_T187 l1 x5_1).f0)) ∧ w'.cell? ⟨(ad102.add ((x5_1).toNat * 3)).block, (ad102.add ((x5_1).toNat * 3)).off + 1, none⟩ = some (.int .i64 ((rd_T187 l1 x5_1).f1)) ∧ w'.cell? ⟨(ad102.add ((x5_1).toNat * 3)).block, (ad102.add ((x5_1).toNat * 3)).off + 2, none⟩ = some (.slice A102_2 ((rd_T187 l1 x5_1).f2).length c102_2)) (ds := []) (bb 10 0) (by kernel_rfl) rfl rfl ⟨(mv_ HB.o hw101_0), (mv_ HB.o hw101_1), (mv_ HB.o hw101_2), (mv_ HB.o hw102_0), (mv_ HB.o hw102_1), (mv_ HB.o hw102_2)⟩ (fun hHeld => ?_); refine with_tabW laws_eqEdgeS.tab6 laws_eqEdgeS.bits6 (fun HT_ HW_ => ?_)
        generalize wr.drew = w9 at HB HR101_2 HR102_2 hx101_0 hx101_1 hx101_2 hx102_0 hx102_1 hx102_2 hHeld ⊢
        refine pv_ 0 17 1 HT_.o ?_; refine pv_ 1 18 3 HT_.o ?_; refine pv_ 2 19 7 HT_.o ?_; refine pv_ 4 21 23 HT_.o ?_; refine pv_ 5 22 55 HT_.o ?_; refine pv_ 6 23 119 HT_.o ?_; refine tv_ 3 20 127 HT_.o HW_.o hHeld ?_; refine tv_ 7 24 255 HT_.o HW_.o hHeld ?_
        refine one_ (i := 8) (N := some 25) (bb 10 511) rfl rfl (one_of HT_.o (by kernel_rfl)) (by decide) (fun K hK => ?_)
        refine gs_ Try.func147 #[.agg #[.int .i64 ((rd_T187 l0 x5_1).f0), .int .i64 ((rd_T187 l0 x5_1).f1), .slice A101_2 ((rd_T187 l0 x5_1).f2).length c101_2], .agg #[.int .i64 ((rd_T187 l1 x5_1).f0), .int .i64 ((rd_T187 l1 x5_1).f1), .slice A102_2 ((rd_T187 l1 x5_1).f2).length c102_2]] ?_
        with_reducible refine (laws_eqEdge.calls k1 ((rd_T187 l0 x5_1).f0) ((rd_T187 l0 x5_1).f1) _ _ ((rd_T187 l0 x5_1).f2) ((rd_T187 l1 x5_1).f0) ((rd_T187 l1 x5_1).f1) _ _ ((rd_T187 l1 x5_1).f2) true _ ?side1 ?side2 ?side3 ?side4 A7.o).mono ?_
        (case side1 => exact Kd.C_below HR101_2.o (be_ HB.o))
        (case side2 => exact HC101_2.o)
        (case side3 => exact Kd.C_below HR102_2.o (be_ HB.o))
        (case side4 => exact HC102_2.o)
        rintro e w10 ⟨rfl, hb⟩
        refine ⟨_, rfl, ?_⟩; replace HB := sb_ HB hb
        (try clear hb)
        (try clear hb2)
        (try clear hk)
        (try clear hi)
        refine hK.out _ _ ⟨(mv_ HB.o hw101_0), (mv_ HB.o hw101_1), (mv_ HB.o hw101_2), (mv_ HB.o hw102_0), (mv_ HB.o hw102_1), (mv_ HB.o hw102_2)⟩ (fun hHeld => ?_)
        clear hK K; refine no_ (some 25) ?_; refine pv_ 9 26 1023 HT_.o ?_
        refine done_ (done_of HT_.o (by kernel_rfl)) ?_
        try go_wp2
        go_roundg k1
        case measure => have := HK1.o; omega
        case rel => exact ⟨(wrap64 (x5_1 + 1)), rs_, H', ⟨by have := HK1.o; omega⟩, ⟨be_ HB.o⟩⟩
       ·replace c8 := Bool.eq_false_iff.mpr c8; subst c8; rw [if_neg nft_] at H
        exact absurd H (by simp)
      ·rw [if_neg c6] at H
       exact absurd H (by simp)
     ·rw [if_neg c5] at H
      exact absurd H (by simp)
    ·rw [if_neg c4] at H; have c4b0 := df_ c4; clear c4; obtain rfl := Option.some.inj H
     go_wp2
     go_ret
     exact ⟨rt_, be_ HB.o⟩
 ·rw [if_neg c3] at H
  have c3b0 : ((l0.length : Int) == (l1.length : Int)) = false := beq_eq_false_iff_ne.mpr c3
  have c3b1 : ((l0.length : Int) != (l1.length : Int)) = true := bne_iff_ne.mpr c3
  have c3b2 : (l0.length == l1.length) = false := by first | simpa using c3 | (simp at c3 ⊢; omega)
  exact absurd H (by simp)
/-! ### laws_eqEnd: function 148 -/
def laws_eqEnd.f (a0_0 : Int) (a0_1 : Int) (a1_0 : Int) (a1_1 : Int) : Option (Bool) := if a0_0 = a1_0 then (if a0_1 = a1_1 then (some true) else (none)) else (none)
theorem laws_eqEnd.calls (a0_0 : Int) (a0_1 : Int) (a1_0 : Int) (a1_1 : Int) (r : Bool) (w : World) (h : laws_eqEnd.f a0_0 a0_1 a1_0 a1_1 = some r) :
  Calls Try.prog 148 #[.agg #[.int .i64 a0_0, .int .i64 a0_1], .agg #[.int .i64 a1_0, .int .i64 a1_1]] w fun e w' => e = .returned (.bool r) ∧ Below w.heap.size w w' := by
 have hu138 := Try.underlying138; have HB := q_ (Below.refl w.heap.size w)
 have H : (if a0_0 = a1_0 then (if a0_1 = a1_1 then (some true) else (none)) else (none)) = some r := h
 clear h
 by_cases c3 : a0_0 = a1_0
 ·rw [if_pos c3] at H
  have c3b0 : (a0_0 == a1_0) = true := beq_iff_eq.mpr c3
  have c3b1 : (a0_0 != a1_0) = false := bne_eq_false_iff_eq.mpr c3
  clear c3
  by_cases c4 : a0_1 = a1_1
  ·rw [if_pos c4] at H
   have c4b0 : (a0_1 == a1_1) = true := beq_iff_eq.mpr c4
   have c4b1 : (a0_1 != a1_1) = false := bne_eq_false_iff_eq.mpr c4
   clear c4; obtain rfl := Option.some.inj H
   go_enter Try.func148, Try.ntmps148
   go_wp2_with (first | ((with_reducible refine gate_dst (N := 2) rfl ?_); refine bx_ 2 #[.int .i64 a0_0, .int .i64 a0_1] 138 ?_; intro gb101 hg w5 hbox hb; have BK101 := q_ (hbox); have GE101 := ge_ hg HB; replace HB := sb_ HB hb; clear hb hbox hg) | ((with_reducible refine gate_dst (N := 3) rfl ?_); refine bx_ 3 #[.int .i64 a1_0, .int .i64 a1_1] 138 ?_; intro gb102 hg w6 hbox hb; have BK102 := q_ (hbox); have GE102 := ge1_ hg HB GE101; have NB101_102 := nl_ hg BK101; have NB102_101 := ng_ hg BK101; replace BK101 := lb_ BK101 hb; replace HB := sb1_ HB GE101 hb; clear hb hbox hg; have hnb7 := NB101_102.o; have hnc7 := NB102_101.o; obtain ⟨hcz8_0, hcz8_1, hfz8_0, hfz8_1⟩ := d2_ BK101; obtain ⟨hcz9_0, hcz9_1, hfz9_0, hfz9_1⟩ := d2_ BK102))
   go_ret
   exact ⟨rt_, be2_ HB.o GE101.o GE102.o⟩
  ·rw [if_neg c4] at H
   have c4b0 : (a0_1 == a1_1) = false := beq_eq_false_iff_ne.mpr c4
   have c4b1 : (a0_1 != a1_1) = true := bne_iff_ne.mpr c4
   exact absurd H (by simp)
 ·rw [if_neg c3] at H
  have c3b0 : (a0_0 == a1_0) = false := beq_eq_false_iff_ne.mpr c3
  have c3b1 : (a0_0 != a1_0) = true := bne_iff_ne.mpr c3
  exact absurd H (by simp)
/-! ### laws_eqEndS: function 110 -/
def laws_eqEndS.l0 : Nat → List (S138) → List (S138) → Int → Option (Bool)
 | 0, _, _, _ => none
 | k + 1, x0, x1, x5 => if x5 < (x0.length : Int) then (if 0 ≤ x5 then (if x5 < (x1.length : Int) then ((laws_eqEnd.f ((rd_T138 x0 x5).f0) ((rd_T138 x0 x5).f1) ((rd_T138 x1 x5).f0) ((rd_T138 x1 x5).f1)).bind fun t103 => (if t103 = true then (laws_eqEndS.l0 k x0 x1 (wrap64 (x5 + 1))) else (none))) else (none)) else (none)) else (some true)
def laws_eqEndS.f (k : Nat) (l0 : List (S138)) (l1 : List (S138)) : Option (Bool) := if (l0.length : Int) = (l1.length : Int) then (laws_eqEndS.l0 k l0 l1 0) else (none)
def laws_eqEndS.T6 : Bool × List (List Nat × List Nat) := (true, [([], []), ([], []), ([0, 1], [0, 1]), ([2], [2]), ([], []), ([], []), ([4, 5], [4, 5]), ([6], [6]), ([3, 7], [3, 7]), ([8], [8])])
def laws_eqEndS.B6 : List Nat := [0, 0, 3, 7, 0, 0, 48, 112, 255, 511]
theorem laws_eqEndS.tab6 : rtab .any (opsOf Try.f110 6) = laws_eqEndS.T6 := by kernel_rfl
theorem laws_eqEndS.bits6 : waitsOk laws_eqEndS.T6.2 laws_eqEndS.B6 = true := by kernel_rfl
theorem laws_eqEndS.calls (k : Nat) (A0 : Option Addr) (c0 : Nat) (l0 : List (S138)) (A1 : Option Addr) (c1 : Nat) (l1 : List (S138)) (r : Bool) (w : World) (hr0 : Kd.C k138 w A0 l0.length l0) (hc0 : l0.length ≤ c0) (hr1 : Kd.C k138 w A1 l1.length l1) (hc1 : l1.length ≤ c1) (h : laws_eqEndS.f k l0 l1 = some r) :
  Calls Try.prog 110 #[.slice A0 l0.length c0, .slice A1 l1.length c1] w fun e w' => e = .returned (.bool r) ∧ Below w.heap.size w w' := by
 have hu138 := Try.underlying138; have HR0 := q_ hr0; have HC0 := q_ hc0; clear hr0 hc0; have HR1 := q_ hr1; have HC1 := q_ hc1; clear hr1 hc1; have HB := q_ (Below.refl w.heap.size w)
 have H : (if (l0.length : Int) = (l1.length : Int) then (laws_eqEndS.l0 k l0 l1 0) else (none)) = some r := h
 clear h
 by_cases c3 : (l0.length : Int) = (l1.length : Int)
 ·rw [if_pos c3] at H
  have c3b0 : ((l0.length : Int) == (l1.length : Int)) = true := beq_iff_eq.mpr c3
  have c3b1 : ((l0.length : Int) != (l1.length : Int)) = false := bne_eq_false_iff_eq.mpr c3
  have c3b2 : (l0.length == l1.length) = true := by first | simpa using c3 | (simp at c3 ⊢; omega)
  clear c3
  have H' := q_ H
  clear H
  go_enter Try.func110, Try.ntmps110
  go_wp2
  go_loopg [5] k (fun kq v5 w' => ∃ (x5_1 : Int), v5 = .int .i64 x5_1 ∧ J0 (laws_eqEndS.l0 kq l0 l1 x5_1 = some r) ∧ J0 (kq ≤ k) ∧ J0 (Below w.heap.size w w'))
  case atStart => exact ⟨(0), rs_, H', ⟨Nat.le_refl _⟩, ⟨be_ HB.o⟩⟩
  case round =>
   clear H'; (try clear c1); (try clear c3); (try clear c3b0); (try clear c3b1); (try clear c3b2); obtain ⟨x5_1, rfl, HA, HK1, HB⟩ := hrel
   cases gk with
   | zero => exact absurd HA.o (by simp [laws_eqEndS.l0])
   | succ k1 =>
    have H := HA.o; clear HA
    simp only [laws_eqEndS.l0] at H
    by_cases c4 : x5_1 < (l0.length : Int)
    ·rw [if_pos c4] at H; have c4b0 := dt_ c4; clear c4
     by_cases c5 : 0 ≤ x5_1
     ·rw [if_pos c5] at H; have c5b0 := dt_ c5; clear c5
      by_cases c6 : x5_1 < (l1.length : Int)
      ·rw [if_pos c6] at H; have c6b0 := dt_ c6; clear c6; obtain ⟨t103, A7, H⟩ := ob_ H
       by_cases c8 : t103 = true
       ·subst c8; rw [if_pos rfl] at H
        have H' := q_ H
        clear H
        try go_wp2
        replace HB := q_ (below_drew1 HB.o)
        have p101 : 0 ≤ (x5_1 : Int) := of_decide_eq_true as_
        have q101 : x5_1 < (l0.length : Int) := of_decide_eq_true as_
        obtain ⟨ad101, e101, hx101_0, hx101_1⟩ := at_T138 HR0.o x5_1 p101 q101; have hw101_1 := hx101_1; have hw101_0 := hx101_0
        cases e101
        replace hx101_0 := mv_ HB.o hx101_0; replace hx101_1 := mv_ HB.o hx101_1; replace p101 := eq_true p101; replace q101 := eq_true q101
        have p102 : 0 ≤ (x5_1 : Int) := of_decide_eq_true as_
        have q102 : x5_1 < (l1.length : Int) := of_decide_eq_true as_
        obtain ⟨ad102, e102, hx102_0, hx102_1⟩ := at_T138 HR1.o x5_1 p102 q102; have hw102_1 := hx102_1; have hw102_0 := hx102_0
        cases e102
        replace hx102_0 := mv_ HB.o hx102_0; replace hx102_1 := mv_ HB.o hx102_1; replace p102 := eq_true p102; replace q102 := eq_true q102
        refine start_ (n := 10) (S := fun w' => w'.cell? (ad101.add ((x5_1).toNat * 2)) = some (.int .i64 ((rd_T138 l0 x5_1).f0)) ∧ w'.cell? ⟨(ad101.add ((x5_1).toNat * 2)).block, (ad101.add ((x5_1).toNat * 2)).off + 1, none⟩ = some (.int .i64 ((rd_T138 l0 x5_1).f1)) ∧ w'.cell? (ad102.add ((x5_1).toNat * 2)) = some (.int .i64 ((rd_T138 l1 x5_1).f0)) ∧ w'.cell? ⟨(ad102.add ((x5_1).toNat * 2)).block, (ad102.add ((x5_1).toNat * 2)).off + 1, none⟩ = some (.int .i64 ((rd_T138 l1 x5_1).f1))) (ds := []) (bb 10 0) (by kernel_rfl) rfl rfl ⟨(mv_ HB.o hw101_0), (mv_ HB.o hw101_1), (mv_ HB.o hw102_0), (mv_ HB.o hw102_1)⟩ (fun hHeld => ?_); refine with_tabW laws_eqEndS.tab6 laws_eqEndS.bits6 (fun HT_ HW_ => ?_)
        generalize wr.drew = w9 at HB hx101_0 hx101_1 hx102_0 hx102_1 hHeld ⊢
        refine pv_ 0 17 1 HT_.o ?_; refine pv_ 1 18 3 HT_.o ?_; refine pv_ 2 19 7 HT_.o ?_; refine pv_ 4 21 23 HT_.o ?_; refine pv_ 5 22 55 HT_.o ?_; refine pv_ 6 23 119 HT_.o ?_; refine tv_ 3 20 127 HT_.o HW_.o hHeld ?_; refine tv_ 7 24 255 HT_.o HW_.o hHeld ?_
        refine one_ (i := 8) (N := some 25) (bb 10 511) rfl rfl (one_of HT_.o (by kernel_rfl)) (by decide) (fun K hK => ?_)
        refine gs_ Try.func148 #[.agg #[.int .i64 ((rd_T138 l0 x5_1).f0), .int .i64 ((rd_T138 l0 x5_1).f1)], .agg #[.int .i64 ((rd_T138 l1 x5_1).f0), .int .i64 ((rd_T138 l1 x5_1).f1)]] ?_
        with_reducible refine (laws_eqEnd.calls ((rd_T138 l0 x5_1).f0) ((rd_T138 l0 x5_1).f1) ((rd_T138 l1 x5_1).f0) ((rd_T138 l1 x5_1).f1) true _ A7.o).mono ?_
        rintro e w10 ⟨rfl, hb⟩
        refine ⟨_, rfl, ?_⟩; replace HB := sb_ HB hb
        (try clear hb)
        (try clear hb2)
        (try clear hk)
        (try clear hi)
        refine hK.out _ _ ⟨(mv_ HB.o hw101_0), (mv_ HB.o hw101_1), (mv_ HB.o hw102_0), (mv_ HB.o hw102_1)⟩ (fun hHeld => ?_)
        clear hK K; refine no_ (some 25) ?_; refine pv_ 9 26 1023 HT_.o ?_
        refine done_ (done_of HT_.o (by kernel_rfl)) ?_
        try go_wp2
        go_roundg k1
        case measure => have := HK1.o; omega
        case rel => exact ⟨(wrap64 (x5_1 + 1)), rs_, H', ⟨by have := HK1.o; omega⟩, ⟨be_ HB.o⟩⟩
       ·replace c8 := Bool.eq_false_iff.mpr c8; subst c8; rw [if_neg nft_] at H
        exact absurd H (by simp)
      ·rw [if_neg c6] at H
       exact absurd H (by simp)
     ·rw [if_neg c5] at H
      exact absurd H (by simp)
    ·rw [if_neg c4] at H; have c4b0 := df_ c4; clear c4; obtain rfl := Option.some.inj H
     go_wp2
     go_ret
     exact ⟨rt_, be_ HB.o⟩
 ·rw [if_neg c3] at H
  have c3b0 : ((l0.length : Int) == (l1.length : Int)) = false := beq_eq_false_iff_ne.mpr c3
  have c3b1 : ((l0.length : Int) != (l1.length : Int)) = true := bne_iff_ne.mpr c3
  have c3b2 : (l0.length == l1.length) = false := by first | simpa using c3 | (simp at c3 ⊢; omega)
  exact absurd H (by simp)
/-! ### laws_eqNfa: function 53 -/
def laws_eqNfa.f (k : Nat) (a0_0 : Int) (l0_1 : List (S187)) (l0_2 : List (S138)) (a1_0 : Int) (l1_1 : List (S187)) (l1_2 : List (S138)) : Option (Bool) := if a0_0 = a1_0 then ((laws_eqEdgeS.f k l0_1 l1_1).bind fun t103 => (if t103 = true then ((laws_eqEndS.f k l0_2 l1_2).bind fun t104 => (if t104 = true then (some true) else (none))) else (none))) else (none)
theorem laws_eqNfa.calls (k : Nat) (a0_0 : Int) (A0_1 : Option Addr) (c0_1 : Nat) (l0_1 : List (S187)) (A0_2 : Option Addr) (c0_2 : Nat) (l0_2 : List (S138)) (a1_0 : Int) (A1_1 : Option Addr) (c1_1 : Nat) (l1_1 : List (S187)) (A1_2 : Option Addr) (c1_2 : Nat) (l1_2 : List (S138)) (r : Bool) (w : World) (hr0_1 : Kd.C k187 w A0_1 l0_1.length l0_1) (hc0_1 : l0_1.length ≤ c0_1) (hr0_2 : Kd.C k138 w A0_2 l0_2.length l0_2) (hc0_2 : l0_2.length ≤ c0_2) (hr1_1 : Kd.C k187 w A1_1 l1_1.length l1_1) (hc1_1 : l1_1.length ≤ c1_1) (hr1_2 : Kd.C k138 w A1_2 l1_2.length l1_2) (hc1_2 : l1_2.length ≤ c1_2) (h : laws_eqNfa.f k a0_0 l0_1 l0_2 a1_0 l1_1 l1_2 = some r) :
  Calls Try.prog 53 #[.agg #[.int .i64 a0_0, .slice A0_1 l0_1.length c0_1, .slice A0_2 l0_2.length c0_2], .agg #[.int .i64 a1_0, .slice A1_1 l1_1.length c1_1, .slice A1_2 l1_2.length c1_2]] w fun e w' => e = .returned (.bool r) ∧ Below w.heap.size w w' := by
 have hu78 := Try.underlying78; have HR0_1 := q_ hr0_1; have HC0_1 := q_ hc0_1; clear hr0_1 hc0_1; have HR0_2 := q_ hr0_2; have HC0_2 := q_ hc0_2; clear hr0_2 hc0_2; have HR1_1 := q_ hr1_1; have HC1_1 := q_ hc1_1; clear hr1_1 hc1_1; have HR1_2 := q_ hr1_2; have HC1_2 := q_ hc1_2; clear hr1_2 hc1_2; have HB := q_ (Below.refl w.heap.size w)
 have H : (if a0_0 = a1_0 then ((laws_eqEdgeS.f k l0_1 l1_1).bind fun t103 => (if t103 = true then ((laws_eqEndS.f k l0_2 l1_2).bind fun t104 => (if t104 = true then (some true) else (none))) else (none))) else (none)) = some r := h
 clear h
 by_cases c3 : a0_0 = a1_0
 ·rw [if_pos c3] at H
  have c3b0 : (a0_0 == a1_0) = true := beq_iff_eq.mpr c3
  have c3b1 : (a0_0 != a1_0) = false := bne_eq_false_iff_eq.mpr c3
  clear c3; obtain ⟨t103, A4, H⟩ := ob_ H
  by_cases c5 : t103 = true
  ·subst c5; rw [if_pos rfl] at H; obtain ⟨t104, A6, H⟩ := ob_ H
   by_cases c7 : t104 = true
   ·subst c7; rw [if_pos rfl] at H; obtain rfl := Option.some.inj H
    go_enter Try.func53, Try.ntmps53
    go_wp2_with (first | ((with_reducible refine gate_dst (N := 2) rfl ?_); refine bx_ 2 #[.int .i64 a0_0, .slice A0_1 l0_1.length c0_1, .slice A0_2 l0_2.length c0_2] 78 ?_; intro gb101 hg w8 hbox hb; have BK101 := q_ (hbox); have GE101 := ge_ hg HB; replace HB := sb_ HB hb; clear hb hbox hg) | ((with_reducible refine gate_dst (N := 3) rfl ?_); refine bx_ 3 #[.int .i64 a1_0, .slice A1_1 l1_1.length c1_1, .slice A1_2 l1_2.length c1_2] 78 ?_; intro gb102 hg w9 hbox hb; have BK102 := q_ (hbox); have GE102 := ge1_ hg HB GE101; have NB101_102 := nl_ hg BK101; have NB102_101 := ng_ hg BK101; replace BK101 := lb_ BK101 hb; replace HB := sb1_ HB GE101 hb; clear hb hbox hg; have hnb10 := NB101_102.o; have hnc10 := NB102_101.o; obtain ⟨hcz11_0, hcz11_1, hcz11_2, hfz11_0, hfz11_1, hfz11_2⟩ := d3_ BK101; obtain ⟨hcz12_0, hcz12_1, hcz12_2, hfz12_0, hfz12_1, hfz12_2⟩ := d3_ BK102) | ((with_reducible refine gate_callee (f := 109) rfl ?_); refine gl_ (some 14) rfl rfl Try.func109 #[.slice A0_1 l0_1.length c0_1, .slice A1_1 l1_1.length c1_1] ?_; (with_reducible refine (laws_eqEdgeS.calls k _ _ l0_1 _ _ l1_1 true _ ?side1 ?side2 ?side3 ?side4 A4.o).mono ?_); (case side1 => exact Kd.C_below HR0_1.o (be_ HB.o)); (case side2 => exact HC0_1.o); (case side3 => exact Kd.C_below HR1_1.o (be_ HB.o)); (case side4 => exact HC1_1.o); rintro e w13 ⟨rfl, hb⟩; refine ⟨_, rfl, ?_⟩; replace BK101 := lb_ BK101 hb; replace BK102 := lb_ BK102 hb; replace HB := sb2_ HB GE101 GE102 hb; (try clear hb); obtain ⟨hcz14_0, hcz14_1, hcz14_2, hfz14_0, hfz14_1, hfz14_2⟩ := d3_ BK101; obtain ⟨hcz15_0, hcz15_1, hcz15_2, hfz15_0, hfz15_1, hfz15_2⟩ := d3_ BK102) | ((with_reducible refine gate_callee (f := 110) rfl ?_); refine gl_ (some 20) rfl rfl Try.func110 #[.slice A0_2 l0_2.length c0_2, .slice A1_2 l1_2.length c1_2] ?_; (with_reducible refine (laws_eqEndS.calls k _ _ l0_2 _ _ l1_2 true _ ?side1 ?side2 ?side3 ?side4 A6.o).mono ?_); (case side1 => exact Kd.C_below HR0_2.o (be_ HB.o)); (case side2 => exact HC0_2.o); (case side3 => exact Kd.C_below HR1_2.o (be_ HB.o)); (case side4 => exact HC1_2.o); rintro e w16 ⟨rfl, hb⟩; refine ⟨_, rfl, ?_⟩; replace BK101 := lb_ BK101 hb; replace BK102 := lb_ BK102 hb; replace HB := sb2_ HB GE101 GE102 hb; (try clear hb)))
    go_ret
    exact ⟨rt_, be2_ HB.o GE101.o GE102.o⟩
   ·replace c7 := Bool.eq_false_iff.mpr c7; subst c7; rw [if_neg nft_] at H
    exact absurd H (by simp)
  ·replace c5 := Bool.eq_false_iff.mpr c5; subst c5; rw [if_neg nft_] at H
   exact absurd H (by simp)
 ·rw [if_neg c3] at H
  have c3b0 : (a0_0 == a1_0) = false := beq_eq_false_iff_ne.mpr c3
  have c3b1 : (a0_0 != a1_0) = true := bne_iff_ne.mpr c3
  exact absurd H (by simp)
end Go.Proofs.Ytijmhelacmjggaa.P
namespace Go.Proofs.Ytijmhelacmjggaa.P
open Go.RowKit Go.Proofs.YtijmhelacmjggaaW.PrintWords Go.Proofs.YtijmhelacmjggaaW.PrintLast Go.Proofs.YtijmhelacmjggaaEv
set_option linter.unusedVariables false
set_option linter.unusedSimpArgs false
def h187 (x : S187) : Prop := x.f2.length ≤ 9223372036854775807
theorem laws_eqEdge_ev (v0 : Int) (v1 : Int) (v2 : List S103) (hb_v2 : v2.length ≤ 9223372036854775807) : Ev (fun k => laws_eqEdge.f k v0 v1 v2 v0 v1 v2) true := by
  unfold laws_eqEdge.f
  (try simp only [if_true, ev_ite, bne_self_eq_false, Bool.false_eq_true, if_false, ev_some])
  rw [ev_bind (laws_eqSpanS_ev v2 hb_v2)]
  (try simp only [if_true, ev_ite, bne_self_eq_false, Bool.false_eq_true, if_false, ev_some])
theorem laws_eqEdgeS_ev (l : List S187) (hl : l.length ≤ 9223372036854775807) (hh : ∀ x ∈ l, h187 x) : Ev (fun k => laws_eqEdgeS.f k l l) true := by
  unfold laws_eqEdgeS.f
  simp only [ev_ite]
  rw [if_pos trivial]
  refine ev_loop l.length (fun k i => laws_eqEdgeS.l0 k l l (i : Nat)) (fun _ => true) ?_ ?_ 0 (by omega)
  · rw [ev_succ]
    simp [laws_eqEdgeS.l0, ev_some]
  · intro i hi ih
    have hhy : h187 (rd_T187 l i) := by
      have hr : l.getD i z187 = rd_T187 l i := by simp [rd_T187]
      rw [← hr, List.getD_eq_getElem?_getD, List.getElem?_eq_getElem hi]
      exact hh _ (List.getElem_mem _)
    rw [ev_succ]
    simp only [laws_eqEdgeS.l0, ev_ite]
    rw [if_pos (by omega), if_pos (by omega), wrap_succ hi (by omega)]
    (try rw [if_pos (by omega)])
    rw [ev_bind (laws_eqEdge_ev _ _ _ (hhy))]
    (try simp only [if_true, ev_ite])
    exact ih
theorem laws_eqEndS_ev (l : List S138) (hl : l.length ≤ 9223372036854775807) : Ev (fun k => laws_eqEndS.f k l l) true := by
  unfold laws_eqEndS.f
  simp only [ev_ite]
  rw [if_pos trivial]
  refine ev_loop l.length (fun k i => laws_eqEndS.l0 k l l (i : Nat)) (fun _ => true) ?_ ?_ 0 (by omega)
  · rw [ev_succ]
    simp [laws_eqEndS.l0, ev_some]
  · intro i hi ih
    skip
    rw [ev_succ]
    simp only [laws_eqEndS.l0, laws_eqEnd.f, if_true, bne_self_eq_false, Bool.false_eq_true, if_false, Option.bind_some, ev_ite]
    rw [if_pos (by omega), if_pos (by omega), wrap_succ hi (by omega)]
    (try rw [if_pos (by omega)])
    skip
    (try simp only [if_true, ev_ite])
    exact ih
theorem laws_eqNfa_ev (v0 : Int) (v1 : List S187) (v2 : List S138) (hb_v1 : v1.length ≤ 9223372036854775807) (hh_v1 : ∀ x ∈ v1, h187 x) (hb_v2 : v2.length ≤ 9223372036854775807) : Ev (fun k => laws_eqNfa.f k v0 v1 v2 v0 v1 v2) true := by
  unfold laws_eqNfa.f
  (try simp only [if_true, ev_ite, bne_self_eq_false, Bool.false_eq_true, if_false, ev_some])
  rw [ev_bind (laws_eqEdgeS_ev v1 hb_v1 hh_v1)]
  (try simp only [if_true, ev_ite, bne_self_eq_false, Bool.false_eq_true, if_false, ev_some])
  rw [ev_bind (laws_eqEndS_ev v2 hb_v2)]
  (try simp only [if_true, ev_ite, bne_self_eq_false, Bool.false_eq_true, if_false, ev_some])
end Go.Proofs.Ytijmhelacmjggaa.P
namespace Go.Proofs.Ytijmhelacmjggaa.P
open Go.RowKit Go.Proofs.YtijmhelacmjggaaW.PrintWords Go.Proofs.YtijmhelacmjggaaW.PrintLast Go.Proofs.YtijmhelacmjggaaW.PrintMore
attribute [local go_sem] max2_int min2_int max_two min_two max_three min_three max_four min_four
set_option linter.unusedVariables false
set_option linter.unusedSimpArgs false
/-! ### laws_markSpanS: function 23 -/
def laws_markSpanS.l0 : Nat → List (S103) → Int → Int → Option (Int × (List (S103)))
 | 0, _, _, _ => none
 | k + 1, x0, x1, x5 => if x5 < (x0.length : Int) then (if 0 ≤ x5 then ((some (x0.set (x5 : Int).toNat (⟨x1, (rd_T103 x0 x5).f1⟩ : S103) : List (S103))).bind fun y101 => (laws_markSpanS.l0 k (y101.set (x5 : Int).toNat (⟨(rd_T103 y101 x5).f0, wrap64 (x1 + 1)⟩ : S103)) (wrap64 ((wrap64 (x1 + 1)) + 1)) (wrap64 (x5 + 1)))) else (none)) else (some (x1, x0))
def laws_markSpanS.f (k : Nat) (l0 : List (S103)) (a1 : Int) : Option (Int × (List (S103))) := laws_markSpanS.l0 k l0 a1 0
theorem laws_markSpanS.calls (k : Nat) (P0_ : Nat → Prop) (u9000_ : Value) (l0 : List (S103)) (a1 : Int) (r1 : Int) (r2 : List (S103)) (w0 w : World) (hB : Below w0.heap.size w0 w) (ho0 : Kd.R k103 103 w w0.heap.size P0_ u9000_ l0) (h : laws_markSpanS.f k l0 a1 = some (r1, r2)) :
  Calls Try.prog 23 #[u9000_, .int .i64 a1] w fun e w' => e = .returned (.int .i64 r1) ∧ Kd.R k103 103 w' w0.heap.size (fun k_ => (P0_ k_ ∨ w.heap.size ≤ k_)) u9000_ r2 ∧ Below w0.heap.size w0 w' ∧ Kept w w' (fun k_ => P0_ k_) := by
 have HO0 := q_ (show Kd.R k103 103 w w0.heap.size (fun k_ => (P0_ k_ ∨ w.heap.size ≤ k_)) u9000_ l0 from Kd.R_mono ho0 (fun k_ hk => (.inl hk)))
 have HK := q_ (Kept.refl w (fun k_ => P0_ k_))
 have HW0 := q_ hB.size; have HB := q_ hB; clear hB
 have H : (laws_markSpanS.l0 k l0 a1 0) = some (r1, r2) := h
 clear h
 have H' := q_ H
 clear H
 go_enter Try.func23, Try.ntmps23
 go_wp2
 go_loopg [1, 5] k (fun kq v1 v5 w' => ∃ (x0_1 : List (S103)) (x1_1 : Int) (x5_1 : Int), v1 = .int .i64 x1_1 ∧ v5 = .int .i64 x5_1 ∧ J0 (laws_markSpanS.l0 kq x0_1 x1_1 x5_1 = some (r1, r2)) ∧ J0 (kq ≤ k) ∧ J0 (Kd.R k103 103 w' w0.heap.size (fun k_ => (P0_ k_ ∨ w.heap.size ≤ k_)) u9000_ x0_1) ∧ J0 (Kept w w' (fun k_ => P0_ k_)) ∧ J0 (Below w0.heap.size w0 w'))
 case atStart => exact ⟨(l0), (a1), (0), rs_, rs_, H', ⟨Nat.le_refl _⟩, ⟨ra_ HO0.o⟩, ⟨by repeat (first | (with_reducible first | exact HK.o | apply Kept.alloc | apply Kept.drewN | apply Kept.drew) | exact HK.o)⟩, ⟨be_ HB.o⟩⟩
 case round =>
  clear H'; obtain ⟨x0_1, x1_1, x5_1, rfl, rfl, HA, HK1, HO_0, HK, HB⟩ := hrel
  cases gk with
  | zero => exact absurd HA.o (by simp [laws_markSpanS.l0])
  | succ k1 =>
   have H := HA.o; clear HA
   simp only [laws_markSpanS.l0] at H
   by_cases c3 : x5_1 < (x0_1.length : Int)
   ·rw [if_pos c3] at H; have c3b0 := dt_ c3; clear c3
    by_cases c4 : 0 ≤ x5_1
    ·rw [if_pos c4] at H; have c4b0 := dt_ c4; clear c4
     obtain ⟨y101, hy101⟩ : ∃ y_ : List (S103), y_ = (x0_1.set (x5_1 : Int).toNat (⟨x1_1, (rd_T103 x0_1 x5_1).f1⟩ : S103)) := ⟨_, rfl⟩
     replace H : (laws_markSpanS.l0 k1 (y101.set (x5_1 : Int).toNat (⟨(rd_T103 y101 x5_1).f0, wrap64 (x1_1 + 1)⟩ : S103)) (wrap64 ((wrap64 (x1_1 + 1)) + 1)) (wrap64 (x5_1 + 1))) = some (r1, r2) := by first | (rw [hy101]; with_reducible exact H) | (have H2_ := (Option.bind_some _ _).symm.trans H; rw [hy101]; with_reducible exact H2_) | (have H2_ := (Option.bind_some _ _).symm.trans H; with_reducible exact H2_) | with_reducible exact H | (rw [hy101]; exact H) | exact H
     have Ny101 := q_ hy101; clear hy101
     obtain ⟨y102, hy102⟩ : ∃ y_ : List (S103), y_ = (y101.set (x5_1 : Int).toNat (⟨(rd_T103 y101 x5_1).f0, wrap64 (x1_1 + 1)⟩ : S103)) := ⟨_, rfl⟩
     replace H : (laws_markSpanS.l0 k1 y102 (wrap64 ((wrap64 (x1_1 + 1)) + 1)) (wrap64 (x5_1 + 1))) = some (r1, r2) := by first | (rw [hy102]; with_reducible exact H) | (have H2_ := (Option.bind_some _ _).symm.trans H; rw [hy102]; with_reducible exact H2_) | (have H2_ := (Option.bind_some _ _).symm.trans H; with_reducible exact H2_) | with_reducible exact H | (rw [hy102]; exact H) | exact H
     have Ny102 := q_ hy102; clear hy102
     have H' := q_ H
     clear H; obtain ⟨Ao7, co7, eo7⟩ := Kd.R_slice HO_0.o; subst eo7
     have p5 : 0 ≤ (x5_1 : Int) := of_decide_eq_true as_
     have q5 : (x5_1 : Int) < ((x0_1.length : Int) : Int) := of_decide_eq_true as_
     obtain ⟨go5, co5, eo5, gb5, gl5, cl5, HG5⟩ := Kd.R_form HO_0.o (by omega)
     (first | cases eo5 | (injection eo5 with ea_ en_ ec_; (first | subst ea_ | (injection ea_ with ea_; subst ea_)); subst ec_; clear en_))
     have GB5 := q_ gb5; have GG5 := q_ HG5; clear gb5 gl5 HG5
     have HMgo5 := q_ (show (P0_ go5 ∨ w.heap.size ≤ go5) from (HO_0.o.1 _ rfl))
     obtain ⟨ce5, hcl5, hM5, hcc5, hfr5⟩ := Kd.R_elem HO_0.o z103 (x5_1 : Int) p5 q5
     obtain rfl := k103_openM hM5
     have hx5_0 : wr.cell? ⟨go5, (x5_1 : Int).toNat * 2, none⟩ = some (.int .i64 ((rd_T103 x0_1 x5_1).f0)) := hcc5 0 _ rfl
     have hx5_1 : wr.cell? ⟨go5, (x5_1 : Int).toNat * 2 + 1, none⟩ = some (.int .i64 ((rd_T103 x0_1 x5_1).f1)) := hcc5 1 _ rfl
     have hf5_0 : wr.frozen? ⟨go5, (x5_1 : Int).toNat * 2, none⟩ = false := hfr5 0
     have hf5_1 : wr.frozen? ⟨go5, (x5_1 : Int).toNat * 2 + 1, none⟩ = false := hfr5 1
     clear hcl5 hcc5 hfr5 hM5; replace p5 := eq_true p5; replace q5 := eq_true q5
     have HX8 := q_ (show Kd.R k103 103 wr w0.heap.size (fun k_ => (P0_ k_ ∨ w.heap.size ≤ k_)) (.slice (some ⟨go5, 0, none⟩) x0_1.length co7) x0_1 from (ra_ HO_0.o))
     obtain ⟨ce8, hcl8, hM8, hcc8, hfr8⟩ := Kd.R_elem HX8.o z103 (x5_1 : Int) (of_decide_eq_true as_) (by have h_ : (x5_1 : Int) < ((x0_1.length : Int) : Int) := of_decide_eq_true as_; first | exact h_ | (have e_ := (Kd.R_reads' HO_0.o).1; omega) | simpa using h_)
     obtain rfl := k103_openM hM8
     have HP8 := Kd.R_seg HX8.o (x5_1 : Int) (of_decide_eq_true as_) (by have h_ : (x5_1 : Int) < ((x0_1.length : Int) : Int) := of_decide_eq_true as_; first | exact h_ | (have e_ := (Kd.R_reads' HO_0.o).1; omega) | simpa using h_) (seg := [.int .i64 x1_1]) (j := 0) hcl8 hcc8 (show 1 ≤ 2 from by decide) (x' := (⟨x1_1, (rd_T103 x0_1 x5_1).f1⟩ : S103)) (k103_mkM _ _ _ (⟨x1_1, (rd_T103 x0_1 x5_1).f1⟩ : S103) ) (fun _ hk => hk)
     have hx8_0 := hcc8 0 _ rfl
     (try simp only [show (k103).sz = 2 from rfl, Nat.mul_one, Nat.add_zero] at hx8_0)
     have hf8_0 := hfr8 0
     (try simp only [show (k103).sz = 2 from rfl, Nat.mul_one, Nat.add_zero] at hf8_0)
     clear hcl8 hcc8 hfr8 hM8
     go_wp2_with (first | ((with_reducible refine gate_store (t := 2) (p := 16) rfl ?_); refine store_event (t := 2) (p := 16) (v := ?vo_w9) (w1 := (wr.setCell ⟨go5, (x5_1 : Int).toNat * 2, none⟩ (.int .i64 x1_1))) ?hg ?ho ?hn ?hr ?_; (case ho => rfl); (case hg => rfl); (case hn => rfl); (case hr => first | (go_simp; done) | (go_simp; rfl)); intro w9 hw; have hg : wr.grownBy w9 (some go5) := (by rw [hw]; exact HP8.2); have hp_ : Kd.R k103 103 w9 w0.heap.size (fun k_ => (P0_ k_ ∨ w.heap.size ≤ k_)) (.slice (some ⟨go5, 0, none⟩) x0_1.length co7) y101 := (by rw [hw, Ny101.o]; exact HP8.1); clear HP8; replace HB := q_ ((by rw [hw]; exact below_set (HB.o) GB5.out : Below w0.heap.size w0 w9)); replace HK := q_ (Kept.of_grown (S := (fun k_ => P0_ k_)) hg (by repeat (first | (with_reducible first | exact HK.o | apply Kept.alloc | apply Kept.drewN | apply Kept.drew) | exact HK.o)) (fun k_ e_ => (HO_0.o.1 k_ e_))); replace HO_0 := q_ (hp_); clear hg hw hp_; have p6 : 0 ≤ (x5_1 : Int) := of_decide_eq_true as_; have q6 : (x5_1 : Int) < ((x0_1.length : Int) : Int) := of_decide_eq_true as_; obtain ⟨ce6, hcl6, hM6, hcc6, hfr6⟩ := Kd.R_elem HO_0.o z103 (x5_1 : Int) p6 q6; obtain rfl := k103_openM hM6; have hx6_0 : w9.cell? ⟨go5, (x5_1 : Int).toNat * 2, none⟩ = some (.int .i64 ((rd_T103 y101 x5_1).f0)) := hcc6 0 _ rfl; have hx6_1 : w9.cell? ⟨go5, (x5_1 : Int).toNat * 2 + 1, none⟩ = some (.int .i64 ((rd_T103 y101 x5_1).f1)) := hcc6 1 _ rfl; have hf6_0 : w9.frozen? ⟨go5, (x5_1 : Int).toNat * 2, none⟩ = false := hfr6 0; have hf6_1 : w9.frozen? ⟨go5, (x5_1 : Int).toNat * 2 + 1, none⟩ = false := hfr6 1; clear hcl6 hcc6 hfr6 hM6; replace p6 := eq_true p6; replace q6 := eq_true q6; have HX10 := q_ (show Kd.R k103 103 w9 w0.heap.size (fun k_ => (P0_ k_ ∨ w.heap.size ≤ k_)) (.slice (some ⟨go5, 0, none⟩) x0_1.length co7) y101 from (ra_ HO_0.o)); obtain ⟨ce10, hcl10, hM10, hcc10, hfr10⟩ := Kd.R_elem HX10.o z103 (x5_1 : Int) (of_decide_eq_true as_) (by have h_ : (x5_1 : Int) < ((x0_1.length : Int) : Int) := of_decide_eq_true as_; first | exact h_ | (have e_ := (Kd.R_reads' HO_0.o).1; omega) | simpa using h_); obtain rfl := k103_openM hM10; have HP10 := Kd.R_seg HX10.o (x5_1 : Int) (of_decide_eq_true as_) (by have h_ : (x5_1 : Int) < ((x0_1.length : Int) : Int) := of_decide_eq_true as_; first | exact h_ | (have e_ := (Kd.R_reads' HO_0.o).1; omega) | simpa using h_) (seg := [.int .i64 (wrap64 (x1_1 + 1))]) (j := 1) hcl10 hcc10 (show 2 ≤ 2 from by decide) (x' := (⟨(rd_T103 y101 x5_1).f0, wrap64 (x1_1 + 1)⟩ : S103)) (k103_mkM _ _ _ (⟨(rd_T103 y101 x5_1).f0, wrap64 (x1_1 + 1)⟩ : S103) ) (fun _ hk => hk); have hx10_1 := hcc10 1 _ rfl; (try simp only [show (k103).sz = 2 from rfl, Nat.mul_one, Nat.add_zero] at hx10_1); have hf10_1 := hfr10 1; (try simp only [show (k103).sz = 2 from rfl, Nat.mul_one, Nat.add_zero] at hf10_1); clear hcl10 hcc10 hfr10 hM10) | ((with_reducible refine gate_store (t := 2) (p := 23) rfl ?_); refine store_event (t := 2) (p := 23) (v := ?vo_w11) (w1 := (w9.setCell ⟨go5, (x5_1 : Int).toNat * 2 + 1, none⟩ (.int .i64 (wrap64 (x1_1 + 1))))) ?hg ?ho ?hn ?hr ?_; (case ho => rfl); (case hg => rfl); (case hn => rfl); (case hr => first | (go_simp; done) | (go_simp; rfl)); intro w11 hw; have hg : w9.grownBy w11 (some go5) := (by rw [hw]; exact HP10.2); have hp_ : Kd.R k103 103 w11 w0.heap.size (fun k_ => (P0_ k_ ∨ w.heap.size ≤ k_)) (.slice (some ⟨go5, 0, none⟩) x0_1.length co7) y102 := (by rw [hw, Ny102.o]; exact HP10.1); clear HP10; replace HB := q_ ((by rw [hw]; exact below_set (HB.o) GB5.out : Below w0.heap.size w0 w11)); replace HK := q_ (Kept.of_grown (S := (fun k_ => P0_ k_)) hg (by repeat (first | (with_reducible first | exact HK.o | apply Kept.alloc | apply Kept.drewN | apply Kept.drew) | exact HK.o)) (fun k_ e_ => (HO_0.o.1 k_ e_))); replace HO_0 := q_ (hp_); clear hg hw hp_))
     go_roundg k1
     case measure => have := HK1.o; omega
     case rel => exact ⟨(y102), (wrap64 ((wrap64 (x1_1 + 1)) + 1)), (wrap64 (x5_1 + 1)), rs_, rs_, H', ⟨by have := HK1.o; omega⟩, ⟨ra_ HO_0.o⟩, ⟨by repeat (first | (with_reducible first | exact HK.o | apply Kept.alloc | apply Kept.drewN | apply Kept.drew) | exact HK.o)⟩, ⟨be_ HB.o⟩⟩
    ·rw [if_neg c4] at H
     exact absurd H (by simp)
   ·rw [if_neg c3] at H; have c3b0 := df_ c3; clear c3
    simp only [Option.some.injEq, Prod.mk.injEq] at H
    obtain ⟨rfl, rfl⟩ := H; obtain ⟨Ao12, co12, eo12⟩ := Kd.R_slice HO_0.o; subst eo12
    go_wp2
    go_ret
    exact ⟨rt_, ra_ HO_0.o, be_ HB.o, by repeat (first | (with_reducible first | exact HK.o | apply Kept.alloc | apply Kept.drewN | apply Kept.drew) | exact HK.o)⟩
/-! ### laws_heldSpanS: function 24 -/
def laws_heldSpanS.l0 : Nat → List (S103) → Int → Int → Option (Int)
 | 0, _, _, _ => none
 | k + 1, x0, x1, x5 => if x5 < (x0.length : Int) then (if 0 ≤ x5 then (if ((rd_T103 x0 x5).f0) = x1 then (if ((rd_T103 x0 x5).f1) = (wrap64 (x1 + 1)) then (laws_heldSpanS.l0 k x0 (wrap64 ((wrap64 (x1 + 1)) + 1)) (wrap64 (x5 + 1))) else (some (-1))) else (some (-1))) else (none)) else (some x1)
def laws_heldSpanS.f (k : Nat) (l0 : List (S103)) (a1 : Int) : Option (Int) := laws_heldSpanS.l0 k l0 a1 0
theorem laws_heldSpanS.calls (k : Nat) (A0 : Option Addr) (c0 : Nat) (l0 : List (S103)) (a1 : Int) (r : Int) (w : World) (hr0 : Kd.C k103 w A0 l0.length l0) (hc0 : l0.length ≤ c0) (h : laws_heldSpanS.f k l0 a1 = some r) :
  Calls Try.prog 24 #[.slice A0 l0.length c0, .int .i64 a1] w fun e w' => e = .returned (.int .i64 r) ∧ Drawn0 w w' := by
 have HR0 := q_ hr0; have HC0 := q_ hc0; clear hr0 hc0
 have H : (laws_heldSpanS.l0 k l0 a1 0) = some r := h
 clear h
 have H' := q_ H
 clear H
 go_enter Try.func24, Try.ntmps24
 go_wp2
 go_loopg [1, 5] k (fun kq v1 v5 w' => ∃ (x1_1 : Int) (x5_1 : Int), v1 = .int .i64 x1_1 ∧ v5 = .int .i64 x5_1 ∧ J0 (laws_heldSpanS.l0 kq l0 x1_1 x5_1 = some r) ∧ J0 (kq ≤ k) ∧ Drawn0 w w')
 case atStart => exact ⟨(a1), (0), rs_, rs_, H', ⟨Nat.le_refl _⟩, by repeat (first | exact Drawn0.refl _ | apply Drawn0.step)⟩
 case round =>
  clear H'
  obtain ⟨x1_1, x5_1, rfl, rfl, HA, HK1, ⟨m1, rfl⟩⟩ := hrel
  cases gk with
  | zero => exact absurd HA.o (by simp [laws_heldSpanS.l0])
  | succ k1 =>
   have H := HA.o; clear HA
   simp only [laws_heldSpanS.l0] at H
   by_cases c3 : x5_1 < (l0.length : Int)
   ·rw [if_pos c3] at H; have c3b0 := dt_ c3; clear c3
    by_cases c4 : 0 ≤ x5_1
    ·rw [if_pos c4] at H; have c4b0 := dt_ c4; clear c4
     by_cases c5 : ((rd_T103 l0 x5_1).f0) = x1_1
     ·rw [if_pos c5] at H
      have c5b0 : (((rd_T103 l0 x5_1).f0) == x1_1) = true := beq_iff_eq.mpr c5
      have c5b1 : (((rd_T103 l0 x5_1).f0) != x1_1) = false := bne_eq_false_iff_eq.mpr c5
      clear c5
      by_cases c6 : ((rd_T103 l0 x5_1).f1) = (wrap64 (x1_1 + 1))
      ·rw [if_pos c6] at H
       have c6b0 : (((rd_T103 l0 x5_1).f1) == (wrap64 (x1_1 + 1))) = true := beq_iff_eq.mpr c6
       have c6b1 : (((rd_T103 l0 x5_1).f1) != (wrap64 (x1_1 + 1))) = false := bne_eq_false_iff_eq.mpr c6
       clear c6
       have H' := q_ H
       clear H
       have p101 : 0 ≤ (x5_1 : Int) := of_decide_eq_true as_
       have q101 : x5_1 < (l0.length : Int) := of_decide_eq_true as_
       obtain ⟨ad101, e101, hx101_0, hx101_1⟩ := at_T103 HR0.o x5_1 p101 q101
       cases e101
       replace p101 := eq_true p101; replace q101 := eq_true q101
       go_wp2
       go_roundg k1
       case measure => have := HK1.o; omega
       case rel => exact ⟨(wrap64 ((wrap64 (x1_1 + 1)) + 1)), (wrap64 (x5_1 + 1)), rs_, rs_, H', ⟨by have := HK1.o; omega⟩, by repeat (first | exact Drawn0.refl _ | apply Drawn0.step)⟩
      ·rw [if_neg c6] at H
       have c6b0 : (((rd_T103 l0 x5_1).f1) == (wrap64 (x1_1 + 1))) = false := beq_eq_false_iff_ne.mpr c6
       have c6b1 : (((rd_T103 l0 x5_1).f1) != (wrap64 (x1_1 + 1))) = true := bne_iff_ne.mpr c6
       obtain rfl := Option.some.inj H
       have p101 : 0 ≤ (x5_1 : Int) := of_decide_eq_true as_
       have q101 : x5_1 < (l0.length : Int) := of_decide_eq_true as_
       obtain ⟨ad101, e101, hx101_0, hx101_1⟩ := at_T103 HR0.o x5_1 p101 q101
       cases e101
       replace p101 := eq_true p101; replace q101 := eq_true q101
       go_wp2
       go_ret
       exact ⟨by first | rfl | (simp; done) | (simp [*]; done), by repeat (first | exact Drawn0.refl _ | apply Drawn0.step)⟩
     ·rw [if_neg c5] at H
      have c5b0 : (((rd_T103 l0 x5_1).f0) == x1_1) = false := beq_eq_false_iff_ne.mpr c5
      have c5b1 : (((rd_T103 l0 x5_1).f0) != x1_1) = true := bne_iff_ne.mpr c5
      obtain rfl := Option.some.inj H
      have p101 : 0 ≤ (x5_1 : Int) := of_decide_eq_true as_
      have q101 : x5_1 < (l0.length : Int) := of_decide_eq_true as_
      obtain ⟨ad101, e101, hx101_0, hx101_1⟩ := at_T103 HR0.o x5_1 p101 q101
      cases e101
      replace p101 := eq_true p101; replace q101 := eq_true q101
      go_wp2
      go_ret
      exact ⟨by first | rfl | (simp; done) | (simp [*]; done), by repeat (first | exact Drawn0.refl _ | apply Drawn0.step)⟩
    ·rw [if_neg c4] at H
     exact absurd H (by simp)
   ·rw [if_neg c3] at H; have c3b0 := df_ c3; clear c3; obtain rfl := Option.some.inj H
    go_wp2
    go_ret
    exact ⟨by first | rfl | (simp; done) | (simp [*]; done), by repeat (first | exact Drawn0.refl _ | apply Drawn0.step)⟩
end Go.Proofs.Ytijmhelacmjggaa.P
namespace Go.Proofs.Ytijmhelacmjggaa.P
open Go.RowKit Go.Proofs.YtijmhelacmjggaaW.PrintWords Go.Proofs.YtijmhelacmjggaaW.PrintLast Go.Proofs.YtijmhelacmjggaaEv
set_option linter.unusedVariables false
set_option linter.unusedSimpArgs false
def mkSpan (a : Int) (j : Nat) : S103 := ⟨a + 2 * (j : Int), a + 2 * (j : Int) + 1⟩
theorem rd_T103_set (l : List S103) (i : Nat) (v : S103) (h : i < l.length) : rd_T103 (l.set i v) (i : Int) = v := by
  simp [rd_T103, h]
theorem laws_markSpanS_ev (l : List S103) (a : Int) (h0 : 0 ≤ a) (h1 : a + 2 * l.length ≤ 9000000000000000000) : Ev (fun k => laws_markSpanS.f k l a) (a + 2 * l.length, (List.range l.length).map (mkSpan a)) := by
  unfold laws_markSpanS.f
  have h := ev_loop l.length (fun k i => laws_markSpanS.l0 k (marked (mkSpan a) l i) (a + 2 * (i : Int)) (i : Nat)) (fun _ => (a + 2 * l.length, (List.range l.length).map (mkSpan a))) ?_ ?_ 0 (by omega)
  · simpa [marked] using h
  · rw [ev_succ]
    simp [laws_markSpanS.l0, ev_some, marked]
  · intro i hi ih
    rw [ev_succ]
    have hl : (marked (mkSpan a) l i).length = l.length := marked_length _ _ _ (by omega)
    simp only [laws_markSpanS.l0, Option.bind_some, ev_ite, hl, Int.toNat_natCast]
    rw [if_pos (by omega), if_pos (by omega)]
    simp only [rd_T103_set, List.length_set, hl, hi, List.set_set]
    rw [wrap_succ hi (by omega)]
    have e : ∀ x : Int, 0 ≤ x → x ≤ 9000000000000000100 → wrap64 (x + 1) = x + 1 := fun x hx hy => wrap_id (by omega) (by omega)
    rw [e _ (by omega) (by omega)]
    repeat rw [e _ (by omega) (by omega)]
    have hm := marked_set (mkSpan a) l i hi
    have ih' : Ev (fun k => laws_markSpanS.l0 k (marked (mkSpan a) l (i + 1)) (a + 2 * ((i + 1 : Nat) : Int)) ((i + 1 : Nat) : Int)) _ := ih
    rw [← hm, show a + 2 * ((i + 1 : Nat) : Int) = a + 2 * (i : Int) + 2 by omega] at ih'
    simpa [mkSpan, Int.add_assoc] using ih'
theorem laws_heldSpanS_ev (n : Nat) (a : Int) (h0 : 0 ≤ a) (h1 : a + 2 * n ≤ 9000000000000000000) : Ev (fun k => laws_heldSpanS.f k ((List.range n).map (mkSpan a)) a) (a + 2 * n) := by
  unfold laws_heldSpanS.f
  have h := ev_loop n (fun k i => laws_heldSpanS.l0 k ((List.range n).map (mkSpan a)) (a + 2 * (i : Int)) (i : Nat)) (fun _ => a + 2 * n) ?_ ?_ 0 (by omega)
  · simpa using h
  · rw [ev_succ]
    simp [laws_heldSpanS.l0, ev_some]
  · intro i hi ih
    rw [ev_succ]
    have hr : rd_T103 ((List.range n).map (mkSpan a)) (i : Int) = mkSpan a i := by simp [rd_T103, hi]
    have e : ∀ x : Int, 0 ≤ x → x ≤ 9000000000000000100 → wrap64 (x + 1) = x + 1 := fun x hx hy => wrap_id (by omega) (by omega)
    simp only [laws_heldSpanS.l0, ev_ite, hr, mkSpan, List.length_map, List.length_range]
    rw [if_pos (by omega), if_pos (by omega), wrap_succ hi (by omega)]
    repeat rw [e _ (by omega) (by omega)]
    have ih' : Ev (fun k => laws_heldSpanS.l0 k ((List.range n).map (mkSpan a)) (a + 2 * ((i + 1 : Nat) : Int)) ((i + 1 : Nat) : Int)) _ := ih
    rw [show a + 2 * ((i + 1 : Nat) : Int) = a + 2 * (i : Int) + 2 by omega] at ih'
    simpa [Int.add_assoc] using ih'
end Go.Proofs.Ytijmhelacmjggaa.P
namespace Go.Proofs.Ytijmhelacmjggaa.P
open Go.RowKit Go.Proofs.YtijmhelacmjggaaW.PrintWords Go.Proofs.YtijmhelacmjggaaW.PrintLast Go.Proofs.YtijmhelacmjggaaW.PrintMore
attribute [local go_sem] max2_int min2_int max_two min_two max_three min_three max_four min_four
set_option linter.unusedVariables false
set_option linter.unusedSimpArgs false
/-! ### laws_markEndS: function 112 -/
def laws_markEndS.l0 : Nat → List (S138) → Int → Int → Option (Int × (List (S138)))
 | 0, _, _, _ => none
 | k + 1, x0, x1, x5 => if x5 < (x0.length : Int) then (if 0 ≤ x5 then ((some (x0.set (x5 : Int).toNat (⟨x1, (rd_T138 x0 x5).f1⟩ : S138) : List (S138))).bind fun y101 => (laws_markEndS.l0 k (y101.set (x5 : Int).toNat (⟨(rd_T138 y101 x5).f0, wrap64 (x1 + 1)⟩ : S138)) (wrap64 ((wrap64 (x1 + 1)) + 1)) (wrap64 (x5 + 1)))) else (none)) else (some (x1, x0))
def laws_markEndS.f (k : Nat) (l0 : List (S138)) (a1 : Int) : Option (Int × (List (S138))) := laws_markEndS.l0 k l0 a1 0
theorem laws_markEndS.calls (k : Nat) (P0_ : Nat → Prop) (u9000_ : Value) (l0 : List (S138)) (a1 : Int) (r1 : Int) (r2 : List (S138)) (w0 w : World) (hB : Below w0.heap.size w0 w) (ho0 : Kd.R k138 138 w w0.heap.size P0_ u9000_ l0) (h : laws_markEndS.f k l0 a1 = some (r1, r2)) :
  Calls Try.prog 112 #[u9000_, .int .i64 a1] w fun e w' => e = .returned (.int .i64 r1) ∧ Kd.R k138 138 w' w0.heap.size (fun k_ => (P0_ k_ ∨ w.heap.size ≤ k_)) u9000_ r2 ∧ Below w0.heap.size w0 w' ∧ Kept w w' (fun k_ => P0_ k_) := by
 have HO0 := q_ (show Kd.R k138 138 w w0.heap.size (fun k_ => (P0_ k_ ∨ w.heap.size ≤ k_)) u9000_ l0 from Kd.R_mono ho0 (fun k_ hk => (.inl hk)))
 have HK := q_ (Kept.refl w (fun k_ => P0_ k_))
 have HW0 := q_ hB.size; have HB := q_ hB; clear hB
 have H : (laws_markEndS.l0 k l0 a1 0) = some (r1, r2) := h
 clear h
 have H' := q_ H
 clear H
 go_enter Try.func112, Try.ntmps112
 go_wp2
 go_loopg [1, 5] k (fun kq v1 v5 w' => ∃ (x0_1 : List (S138)) (x1_1 : Int) (x5_1 : Int), v1 = .int .i64 x1_1 ∧ v5 = .int .i64 x5_1 ∧ J0 (laws_markEndS.l0 kq x0_1 x1_1 x5_1 = some (r1, r2)) ∧ J0 (kq ≤ k) ∧ J0 (Kd.R k138 138 w' w0.heap.size (fun k_ => (P0_ k_ ∨ w.heap.size ≤ k_)) u9000_ x0_1) ∧ J0 (Kept w w' (fun k_ => P0_ k_)) ∧ J0 (Below w0.heap.size w0 w'))
 case atStart => exact ⟨(l0), (a1), (0), rs_, rs_, H', ⟨Nat.le_refl _⟩, ⟨ra_ HO0.o⟩, ⟨by repeat (first | (with_reducible first | exact HK.o | apply Kept.alloc | apply Kept.drewN | apply Kept.drew) | exact HK.o)⟩, ⟨be_ HB.o⟩⟩
 case round =>
  clear H'; obtain ⟨x0_1, x1_1, x5_1, rfl, rfl, HA, HK1, HO_0, HK, HB⟩ := hrel
  cases gk with
  | zero => exact absurd HA.o (by simp [laws_markEndS.l0])
  | succ k1 =>
   have H := HA.o; clear HA
   simp only [laws_markEndS.l0] at H
   by_cases c3 : x5_1 < (x0_1.length : Int)
   ·rw [if_pos c3] at H; have c3b0 := dt_ c3; clear c3
    by_cases c4 : 0 ≤ x5_1
    ·rw [if_pos c4] at H; have c4b0 := dt_ c4; clear c4
     obtain ⟨y101, hy101⟩ : ∃ y_ : List (S138), y_ = (x0_1.set (x5_1 : Int).toNat (⟨x1_1, (rd_T138 x0_1 x5_1).f1⟩ : S138)) := ⟨_, rfl⟩
     replace H : (laws_markEndS.l0 k1 (y101.set (x5_1 : Int).toNat (⟨(rd_T138 y101 x5_1).f0, wrap64 (x1_1 + 1)⟩ : S138)) (wrap64 ((wrap64 (x1_1 + 1)) + 1)) (wrap64 (x5_1 + 1))) = some (r1, r2) := by first | (rw [hy101]; with_reducible exact H) | (have H2_ := (Option.bind_some _ _).symm.trans H; rw [hy101]; with_reducible exact H2_) | (have H2_ := (Option.bind_some _ _).symm.trans H; with_reducible exact H2_) | with_reducible exact H | (rw [hy101]; exact H) | exact H
     have Ny101 := q_ hy101; clear hy101
     obtain ⟨y102, hy102⟩ : ∃ y_ : List (S138), y_ = (y101.set (x5_1 : Int).toNat (⟨(rd_T138 y101 x5_1).f0, wrap64 (x1_1 + 1)⟩ : S138)) := ⟨_, rfl⟩
     replace H : (laws_markEndS.l0 k1 y102 (wrap64 ((wrap64 (x1_1 + 1)) + 1)) (wrap64 (x5_1 + 1))) = some (r1, r2) := by first | (rw [hy102]; with_reducible exact H) | (have H2_ := (Option.bind_some _ _).symm.trans H; rw [hy102]; with_reducible exact H2_) | (have H2_ := (Option.bind_some _ _).symm.trans H; with_reducible exact H2_) | with_reducible exact H | (rw [hy102]; exact H) | exact H
     have Ny102 := q_ hy102; clear hy102
     have H' := q_ H
     clear H; obtain ⟨Ao7, co7, eo7⟩ := Kd.R_slice HO_0.o; subst eo7
     have p5 : 0 ≤ (x5_1 : Int) := of_decide_eq_true as_
     have q5 : (x5_1 : Int) < ((x0_1.length : Int) : Int) := of_decide_eq_true as_
     obtain ⟨go5, co5, eo5, gb5, gl5, cl5, HG5⟩ := Kd.R_form HO_0.o (by omega)
     (first | cases eo5 | (injection eo5 with ea_ en_ ec_; (first | subst ea_ | (injection ea_ with ea_; subst ea_)); subst ec_; clear en_))
     have GB5 := q_ gb5; have GG5 := q_ HG5; clear gb5 gl5 HG5
     have HMgo5 := q_ (show (P0_ go5 ∨ w.heap.size ≤ go5) from (HO_0.o.1 _ rfl))
     obtain ⟨ce5, hcl5, hM5, hcc5, hfr5⟩ := Kd.R_elem HO_0.o z138 (x5_1 : Int) p5 q5
     obtain rfl := k138_openM hM5
     have hx5_0 : wr.cell? ⟨go5, (x5_1 : Int).toNat * 2, none⟩ = some (.int .i64 ((rd_T138 x0_1 x5_1).f0)) := hcc5 0 _ rfl
     have hx5_1 : wr.cell? ⟨go5, (x5_1 : Int).toNat * 2 + 1, none⟩ = some (.int .i64 ((rd_T138 x0_1 x5_1).f1)) := hcc5 1 _ rfl
     have hf5_0 : wr.frozen? ⟨go5, (x5_1 : Int).toNat * 2, none⟩ = false := hfr5 0
     have hf5_1 : wr.frozen? ⟨go5, (x5_1 : Int).toNat * 2 + 1, none⟩ = false := hfr5 1
     clear hcl5 hcc5 hfr5 hM5; replace p5 := eq_true p5; replace q5 := eq_true q5
     have HX8 := q_ (show Kd.R k138 138 wr w0.heap.size (fun k_ => (P0_ k_ ∨ w.heap.size ≤ k_)) (.slice (some ⟨go5, 0, none⟩) x0_1.length co7) x0_1 from (ra_ HO_0.o))
     obtain ⟨ce8, hcl8, hM8, hcc8, hfr8⟩ := Kd.R_elem HX8.o z138 (x5_1 : Int) (of_decide_eq_true as_) (by have h_ : (x5_1 : Int) < ((x0_1.length : Int) : Int) := of_decide_eq_true as_; first | exact h_ | (have e_ := (Kd.R_reads' HO_0.o).1; omega) | simpa using h_)
     obtain rfl := k138_openM hM8
     have HP8 := Kd.R_seg HX8.o (x5_1 : Int) (of_decide_eq_true as_) (by have h_ : (x5_1 : Int) < ((x0_1.length : Int) : Int) := of_decide_eq_true as_; first | exact h_ | (have e_ := (Kd.R_reads' HO_0.o).1; omega) | simpa using h_) (seg := [.int .i64 x1_1]) (j := 0) hcl8 hcc8 (show 1 ≤ 2 from by decide) (x' := (⟨x1_1, (rd_T138 x0_1 x5_1).f1⟩ : S138)) (k138_mkM _ _ _ (⟨x1_1, (rd_T138 x0_1 x5_1).f1⟩ : S138) ) (fun _ hk => hk)
     have hx8_0 := hcc8 0 _ rfl
     (try simp only [show (k138).sz = 2 from rfl, Nat.mul_one, Nat.add_zero] at hx8_0)
     have hf8_0 := hfr8 0
     (try simp only [show (k138).sz = 2 from rfl, Nat.mul_one, Nat.add_zero] at hf8_0)
     clear hcl8 hcc8 hfr8 hM8
     go_wp2_with (first | ((with_reducible refine gate_store (t := 2) (p := 16) rfl ?_); refine store_event (t := 2) (p := 16) (v := ?vo_w9) (w1 := (wr.setCell ⟨go5, (x5_1 : Int).toNat * 2, none⟩ (.int .i64 x1_1))) ?hg ?ho ?hn ?hr ?_; (case ho => rfl); (case hg => rfl); (case hn => rfl); (case hr => first | (go_simp; done) | (go_simp; rfl)); intro w9 hw; have hg : wr.grownBy w9 (some go5) := (by rw [hw]; exact HP8.2); have hp_ : Kd.R k138 138 w9 w0.heap.size (fun k_ => (P0_ k_ ∨ w.heap.size ≤ k_)) (.slice (some ⟨go5, 0, none⟩) x0_1.length co7) y101 := (by rw [hw, Ny101.o]; exact HP8.1); clear HP8; replace HB := q_ ((by rw [hw]; exact below_set (HB.o) GB5.out : Below w0.heap.size w0 w9)); replace HK := q_ (Kept.of_grown (S := (fun k_ => P0_ k_)) hg (by repeat (first | (with_reducible first | exact HK.o | apply Kept.alloc | apply Kept.drewN | apply Kept.drew) | exact HK.o)) (fun k_ e_ => (HO_0.o.1 k_ e_))); replace HO_0 := q_ (hp_); clear hg hw hp_; have p6 : 0 ≤ (x5_1 : Int) := of_decide_eq_true as_; have q6 : (x5_1 : Int) < ((x0_1.length : Int) : Int) := of_decide_eq_true as_; obtain ⟨ce6, hcl6, hM6, hcc6, hfr6⟩ := Kd.R_elem HO_0.o z138 (x5_1 : Int) p6 q6; obtain rfl := k138_openM hM6; have hx6_0 : w9.cell? ⟨go5, (x5_1 : Int).toNat * 2, none⟩ = some (.int .i64 ((rd_T138 y101 x5_1).f0)) := hcc6 0 _ rfl; have hx6_1 : w9.cell? ⟨go5, (x5_1 : Int).toNat * 2 + 1, none⟩ = some (.int .i64 ((rd_T138 y101 x5_1).f1)) := hcc6 1 _ rfl; have hf6_0 : w9.frozen? ⟨go5, (x5_1 : Int).toNat * 2, none⟩ = false := hfr6 0; have hf6_1 : w9.frozen? ⟨go5, (x5_1 : Int).toNat * 2 + 1, none⟩ = false := hfr6 1; clear hcl6 hcc6 hfr6 hM6; replace p6 := eq_true p6; replace q6 := eq_true q6; have HX10 := q_ (show Kd.R k138 138 w9 w0.heap.size (fun k_ => (P0_ k_ ∨ w.heap.size ≤ k_)) (.slice (some ⟨go5, 0, none⟩) x0_1.length co7) y101 from (ra_ HO_0.o)); obtain ⟨ce10, hcl10, hM10, hcc10, hfr10⟩ := Kd.R_elem HX10.o z138 (x5_1 : Int) (of_decide_eq_true as_) (by have h_ : (x5_1 : Int) < ((x0_1.length : Int) : Int) := of_decide_eq_true as_; first | exact h_ | (have e_ := (Kd.R_reads' HO_0.o).1; omega) | simpa using h_); obtain rfl := k138_openM hM10; have HP10 := Kd.R_seg HX10.o (x5_1 : Int) (of_decide_eq_true as_) (by have h_ : (x5_1 : Int) < ((x0_1.length : Int) : Int) := of_decide_eq_true as_; first | exact h_ | (have e_ := (Kd.R_reads' HO_0.o).1; omega) | simpa using h_) (seg := [.int .i64 (wrap64 (x1_1 + 1))]) (j := 1) hcl10 hcc10 (show 2 ≤ 2 from by decide) (x' := (⟨(rd_T138 y101 x5_1).f0, wrap64 (x1_1 + 1)⟩ : S138)) (k138_mkM _ _ _ (⟨(rd_T138 y101 x5_1).f0, wrap64 (x1_1 + 1)⟩ : S138) ) (fun _ hk => hk); have hx10_1 := hcc10 1 _ rfl; (try simp only [show (k138).sz = 2 from rfl, Nat.mul_one, Nat.add_zero] at hx10_1); have hf10_1 := hfr10 1; (try simp only [show (k138).sz = 2 from rfl, Nat.mul_one, Nat.add_zero] at hf10_1); clear hcl10 hcc10 hfr10 hM10) | ((with_reducible refine gate_store (t := 2) (p := 23) rfl ?_); refine store_event (t := 2) (p := 23) (v := ?vo_w11) (w1 := (w9.setCell ⟨go5, (x5_1 : Int).toNat * 2 + 1, none⟩ (.int .i64 (wrap64 (x1_1 + 1))))) ?hg ?ho ?hn ?hr ?_; (case ho => rfl); (case hg => rfl); (case hn => rfl); (case hr => first | (go_simp; done) | (go_simp; rfl)); intro w11 hw; have hg : w9.grownBy w11 (some go5) := (by rw [hw]; exact HP10.2); have hp_ : Kd.R k138 138 w11 w0.heap.size (fun k_ => (P0_ k_ ∨ w.heap.size ≤ k_)) (.slice (some ⟨go5, 0, none⟩) x0_1.length co7) y102 := (by rw [hw, Ny102.o]; exact HP10.1); clear HP10; replace HB := q_ ((by rw [hw]; exact below_set (HB.o) GB5.out : Below w0.heap.size w0 w11)); replace HK := q_ (Kept.of_grown (S := (fun k_ => P0_ k_)) hg (by repeat (first | (with_reducible first | exact HK.o | apply Kept.alloc | apply Kept.drewN | apply Kept.drew) | exact HK.o)) (fun k_ e_ => (HO_0.o.1 k_ e_))); replace HO_0 := q_ (hp_); clear hg hw hp_))
     go_roundg k1
     case measure => have := HK1.o; omega
     case rel => exact ⟨(y102), (wrap64 ((wrap64 (x1_1 + 1)) + 1)), (wrap64 (x5_1 + 1)), rs_, rs_, H', ⟨by have := HK1.o; omega⟩, ⟨ra_ HO_0.o⟩, ⟨by repeat (first | (with_reducible first | exact HK.o | apply Kept.alloc | apply Kept.drewN | apply Kept.drew) | exact HK.o)⟩, ⟨be_ HB.o⟩⟩
    ·rw [if_neg c4] at H
     exact absurd H (by simp)
   ·rw [if_neg c3] at H; have c3b0 := df_ c3; clear c3
    simp only [Option.some.injEq, Prod.mk.injEq] at H
    obtain ⟨rfl, rfl⟩ := H; obtain ⟨Ao12, co12, eo12⟩ := Kd.R_slice HO_0.o; subst eo12
    go_wp2
    go_ret
    exact ⟨rt_, ra_ HO_0.o, be_ HB.o, by repeat (first | (with_reducible first | exact HK.o | apply Kept.alloc | apply Kept.drewN | apply Kept.drew) | exact HK.o)⟩
/-! ### laws_heldEndS: function 114 -/
def laws_heldEndS.l0 : Nat → List (S138) → Int → Int → Option (Int)
 | 0, _, _, _ => none
 | k + 1, x0, x1, x5 => if x5 < (x0.length : Int) then (if 0 ≤ x5 then (if ((rd_T138 x0 x5).f0) = x1 then (if ((rd_T138 x0 x5).f1) = (wrap64 (x1 + 1)) then (laws_heldEndS.l0 k x0 (wrap64 ((wrap64 (x1 + 1)) + 1)) (wrap64 (x5 + 1))) else (some (-1))) else (some (-1))) else (none)) else (some x1)
def laws_heldEndS.f (k : Nat) (l0 : List (S138)) (a1 : Int) : Option (Int) := laws_heldEndS.l0 k l0 a1 0
theorem laws_heldEndS.calls (k : Nat) (A0 : Option Addr) (c0 : Nat) (l0 : List (S138)) (a1 : Int) (r : Int) (w : World) (hr0 : Kd.C k138 w A0 l0.length l0) (hc0 : l0.length ≤ c0) (h : laws_heldEndS.f k l0 a1 = some r) :
  Calls Try.prog 114 #[.slice A0 l0.length c0, .int .i64 a1] w fun e w' => e = .returned (.int .i64 r) ∧ Drawn0 w w' := by
 have HR0 := q_ hr0; have HC0 := q_ hc0; clear hr0 hc0
 have H : (laws_heldEndS.l0 k l0 a1 0) = some r := h
 clear h
 have H' := q_ H
 clear H
 go_enter Try.func114, Try.ntmps114
 go_wp2
 go_loopg [1, 5] k (fun kq v1 v5 w' => ∃ (x1_1 : Int) (x5_1 : Int), v1 = .int .i64 x1_1 ∧ v5 = .int .i64 x5_1 ∧ J0 (laws_heldEndS.l0 kq l0 x1_1 x5_1 = some r) ∧ J0 (kq ≤ k) ∧ Drawn0 w w')
 case atStart => exact ⟨(a1), (0), rs_, rs_, H', ⟨Nat.le_refl _⟩, by repeat (first | exact Drawn0.refl _ | apply Drawn0.step)⟩
 case round =>
  clear H'
  obtain ⟨x1_1, x5_1, rfl, rfl, HA, HK1, ⟨m1, rfl⟩⟩ := hrel
  cases gk with
  | zero => exact absurd HA.o (by simp [laws_heldEndS.l0])
  | succ k1 =>
   have H := HA.o; clear HA
   simp only [laws_heldEndS.l0] at H
   by_cases c3 : x5_1 < (l0.length : Int)
   ·rw [if_pos c3] at H; have c3b0 := dt_ c3; clear c3
    by_cases c4 : 0 ≤ x5_1
    ·rw [if_pos c4] at H; have c4b0 := dt_ c4; clear c4
     by_cases c5 : ((rd_T138 l0 x5_1).f0) = x1_1
     ·rw [if_pos c5] at H
      have c5b0 : (((rd_T138 l0 x5_1).f0) == x1_1) = true := beq_iff_eq.mpr c5
      have c5b1 : (((rd_T138 l0 x5_1).f0) != x1_1) = false := bne_eq_false_iff_eq.mpr c5
      clear c5
      by_cases c6 : ((rd_T138 l0 x5_1).f1) = (wrap64 (x1_1 + 1))
      ·rw [if_pos c6] at H
       have c6b0 : (((rd_T138 l0 x5_1).f1) == (wrap64 (x1_1 + 1))) = true := beq_iff_eq.mpr c6
       have c6b1 : (((rd_T138 l0 x5_1).f1) != (wrap64 (x1_1 + 1))) = false := bne_eq_false_iff_eq.mpr c6
       clear c6
       have H' := q_ H
       clear H
       have p101 : 0 ≤ (x5_1 : Int) := of_decide_eq_true as_
       have q101 : x5_1 < (l0.length : Int) := of_decide_eq_true as_
       obtain ⟨ad101, e101, hx101_0, hx101_1⟩ := at_T138 HR0.o x5_1 p101 q101
       cases e101
       replace p101 := eq_true p101; replace q101 := eq_true q101
       go_wp2
       go_roundg k1
       case measure => have := HK1.o; omega
       case rel => exact ⟨(wrap64 ((wrap64 (x1_1 + 1)) + 1)), (wrap64 (x5_1 + 1)), rs_, rs_, H', ⟨by have := HK1.o; omega⟩, by repeat (first | exact Drawn0.refl _ | apply Drawn0.step)⟩
      ·rw [if_neg c6] at H
       have c6b0 : (((rd_T138 l0 x5_1).f1) == (wrap64 (x1_1 + 1))) = false := beq_eq_false_iff_ne.mpr c6
       have c6b1 : (((rd_T138 l0 x5_1).f1) != (wrap64 (x1_1 + 1))) = true := bne_iff_ne.mpr c6
       obtain rfl := Option.some.inj H
       have p101 : 0 ≤ (x5_1 : Int) := of_decide_eq_true as_
       have q101 : x5_1 < (l0.length : Int) := of_decide_eq_true as_
       obtain ⟨ad101, e101, hx101_0, hx101_1⟩ := at_T138 HR0.o x5_1 p101 q101
       cases e101
       replace p101 := eq_true p101; replace q101 := eq_true q101
       go_wp2
       go_ret
       exact ⟨by first | rfl | (simp; done) | (simp [*]; done), by repeat (first | exact Drawn0.refl _ | apply Drawn0.step)⟩
     ·rw [if_neg c5] at H
      have c5b0 : (((rd_T138 l0 x5_1).f0) == x1_1) = false := beq_eq_false_iff_ne.mpr c5
      have c5b1 : (((rd_T138 l0 x5_1).f0) != x1_1) = true := bne_iff_ne.mpr c5
      obtain rfl := Option.some.inj H
      have p101 : 0 ≤ (x5_1 : Int) := of_decide_eq_true as_
      have q101 : x5_1 < (l0.length : Int) := of_decide_eq_true as_
      obtain ⟨ad101, e101, hx101_0, hx101_1⟩ := at_T138 HR0.o x5_1 p101 q101
      cases e101
      replace p101 := eq_true p101; replace q101 := eq_true q101
      go_wp2
      go_ret
      exact ⟨by first | rfl | (simp; done) | (simp [*]; done), by repeat (first | exact Drawn0.refl _ | apply Drawn0.step)⟩
    ·rw [if_neg c4] at H
     exact absurd H (by simp)
   ·rw [if_neg c3] at H; have c3b0 := df_ c3; clear c3; obtain rfl := Option.some.inj H
    go_wp2
    go_ret
    exact ⟨by first | rfl | (simp; done) | (simp [*]; done), by repeat (first | exact Drawn0.refl _ | apply Drawn0.step)⟩
end Go.Proofs.Ytijmhelacmjggaa.P
namespace Go.Proofs.Ytijmhelacmjggaa.P
open Go.RowKit Go.Proofs.YtijmhelacmjggaaW.PrintWords Go.Proofs.YtijmhelacmjggaaW.PrintLast Go.Proofs.YtijmhelacmjggaaEv
set_option linter.unusedVariables false
set_option linter.unusedSimpArgs false
def mkEnd (a : Int) (j : Nat) : S138 := ⟨a + 2 * (j : Int), a + 2 * (j : Int) + 1⟩
theorem rd_T138_set (l : List S138) (i : Nat) (v : S138) (h : i < l.length) : rd_T138 (l.set i v) (i : Int) = v := by
  simp [rd_T138, h]
theorem laws_markEndS_ev (l : List S138) (a : Int) (h0 : 0 ≤ a) (h1 : a + 2 * l.length ≤ 9000000000000000000) : Ev (fun k => laws_markEndS.f k l a) (a + 2 * l.length, (List.range l.length).map (mkEnd a)) := by
  unfold laws_markEndS.f
  have h := ev_loop l.length (fun k i => laws_markEndS.l0 k (marked (mkEnd a) l i) (a + 2 * (i : Int)) (i : Nat)) (fun _ => (a + 2 * l.length, (List.range l.length).map (mkEnd a))) ?_ ?_ 0 (by omega)
  · simpa [marked] using h
  · rw [ev_succ]
    simp [laws_markEndS.l0, ev_some, marked]
  · intro i hi ih
    rw [ev_succ]
    have hl : (marked (mkEnd a) l i).length = l.length := marked_length _ _ _ (by omega)
    simp only [laws_markEndS.l0, Option.bind_some, ev_ite, hl, Int.toNat_natCast]
    rw [if_pos (by omega), if_pos (by omega)]
    simp only [rd_T138_set, List.length_set, hl, hi, List.set_set]
    rw [wrap_succ hi (by omega)]
    have e : ∀ x : Int, 0 ≤ x → x ≤ 9000000000000000100 → wrap64 (x + 1) = x + 1 := fun x hx hy => wrap_id (by omega) (by omega)
    rw [e _ (by omega) (by omega)]
    repeat rw [e _ (by omega) (by omega)]
    have hm := marked_set (mkEnd a) l i hi
    have ih' : Ev (fun k => laws_markEndS.l0 k (marked (mkEnd a) l (i + 1)) (a + 2 * ((i + 1 : Nat) : Int)) ((i + 1 : Nat) : Int)) _ := ih
    rw [← hm, show a + 2 * ((i + 1 : Nat) : Int) = a + 2 * (i : Int) + 2 by omega] at ih'
    simpa [mkEnd, Int.add_assoc] using ih'
theorem laws_heldEndS_ev (n : Nat) (a : Int) (h0 : 0 ≤ a) (h1 : a + 2 * n ≤ 9000000000000000000) : Ev (fun k => laws_heldEndS.f k ((List.range n).map (mkEnd a)) a) (a + 2 * n) := by
  unfold laws_heldEndS.f
  have h := ev_loop n (fun k i => laws_heldEndS.l0 k ((List.range n).map (mkEnd a)) (a + 2 * (i : Int)) (i : Nat)) (fun _ => a + 2 * n) ?_ ?_ 0 (by omega)
  · simpa using h
  · rw [ev_succ]
    simp [laws_heldEndS.l0, ev_some]
  · intro i hi ih
    rw [ev_succ]
    have hr : rd_T138 ((List.range n).map (mkEnd a)) (i : Int) = mkEnd a i := by simp [rd_T138, hi]
    have e : ∀ x : Int, 0 ≤ x → x ≤ 9000000000000000100 → wrap64 (x + 1) = x + 1 := fun x hx hy => wrap_id (by omega) (by omega)
    simp only [laws_heldEndS.l0, ev_ite, hr, mkEnd, List.length_map, List.length_range]
    rw [if_pos (by omega), if_pos (by omega), wrap_succ hi (by omega)]
    repeat rw [e _ (by omega) (by omega)]
    have ih' : Ev (fun k => laws_heldEndS.l0 k ((List.range n).map (mkEnd a)) (a + 2 * ((i + 1 : Nat) : Int)) ((i + 1 : Nat) : Int)) _ := ih
    rw [show a + 2 * ((i + 1 : Nat) : Int) = a + 2 * (i : Int) + 2 by omega] at ih'
    simpa [Int.add_assoc] using ih'
end Go.Proofs.Ytijmhelacmjggaa.P
namespace Go.Proofs.Ytijmhelacmjggaa.P
open Go.RowKit Go.Proofs.YtijmhelacmjggaaW.PrintWords Go.Proofs.YtijmhelacmjggaaW.PrintLast Go.Proofs.YtijmhelacmjggaaW.PrintMore
attribute [local go_sem] max2_int min2_int max_two min_two max_three min_three max_four min_four
set_option linter.unusedVariables false
set_option linter.unusedSimpArgs false
/-! ### laws_heldEdgeS: function 113 -/
def laws_heldEdgeS.l0 : Nat → List (S187) → Int → Int → Option (Int)
 | 0, _, _, _ => none
 | k + 1, x0, x1, x5 => if x5 < (x0.length : Int) then (if 0 ≤ x5 then (if ((rd_T187 x0 x5).f0) = x1 then (if ((rd_T187 x0 x5).f1) = (wrap64 (x1 + 1)) then ((laws_heldSpanS.f k ((rd_T187 x0 x5).f2) (wrap64 ((wrap64 (x1 + 1)) + 1))).bind fun t104 => (if t104 < 0 then (some (-1)) else (laws_heldEdgeS.l0 k x0 t104 (wrap64 (x5 + 1))))) else (some (-1))) else (some (-1))) else (none)) else (some x1)
def laws_heldEdgeS.f (k : Nat) (l0 : List (S187)) (a1 : Int) : Option (Int) := laws_heldEdgeS.l0 k l0 a1 0
theorem laws_heldEdgeS.calls (k : Nat) (A0 : Option Addr) (c0 : Nat) (l0 : List (S187)) (a1 : Int) (r : Int) (w : World) (hr0 : Kd.C k187 w A0 l0.length l0) (hc0 : l0.length ≤ c0) (h : laws_heldEdgeS.f k l0 a1 = some r) :
  Calls Try.prog 113 #[.slice A0 l0.length c0, .int .i64 a1] w fun e w' => e = .returned (.int .i64 r) ∧ Drawn0 w w' := by
 have HR0 := q_ hr0; have HC0 := q_ hc0; clear hr0 hc0
 have H : (laws_heldEdgeS.l0 k l0 a1 0) = some r := h
 clear h
 have H' := q_ H
 clear H
 go_enter Try.func113, Try.ntmps113
 go_wp2
 go_loopg [1, 5] k (fun kq v1 v5 w' => ∃ (x1_1 : Int) (x5_1 : Int), v1 = .int .i64 x1_1 ∧ v5 = .int .i64 x5_1 ∧ J0 (laws_heldEdgeS.l0 kq l0 x1_1 x5_1 = some r) ∧ J0 (kq ≤ k) ∧ Drawn0 w w')
 case atStart => exact ⟨(a1), (0), rs_, rs_, H', ⟨Nat.le_refl _⟩, by repeat (first | exact Drawn0.refl _ | apply Drawn0.step)⟩
 case round =>
  clear H'
  obtain ⟨x1_1, x5_1, rfl, rfl, HA, HK1, ⟨m1, rfl⟩⟩ := hrel
  cases gk with
  | zero => exact absurd HA.o (by simp [laws_heldEdgeS.l0])
  | succ k1 =>
   have H := HA.o; clear HA
   simp only [laws_heldEdgeS.l0] at H
   by_cases c3 : x5_1 < (l0.length : Int)
   ·rw [if_pos c3] at H; have c3b0 := dt_ c3; clear c3
    by_cases c4 : 0 ≤ x5_1
    ·rw [if_pos c4] at H; have c4b0 := dt_ c4; clear c4
     by_cases c5 : ((rd_T187 l0 x5_1).f0) = x1_1
     ·rw [if_pos c5] at H
      have c5b0 : (((rd_T187 l0 x5_1).f0) == x1_1) = true := beq_iff_eq.mpr c5
      have c5b1 : (((rd_T187 l0 x5_1).f0) != x1_1) = false := bne_eq_false_iff_eq.mpr c5
      clear c5
      by_cases c6 : ((rd_T187 l0 x5_1).f1) = (wrap64 (x1_1 + 1))
      ·rw [if_pos c6] at H
       have c6b0 : (((rd_T187 l0 x5_1).f1) == (wrap64 (x1_1 + 1))) = true := beq_iff_eq.mpr c6
       have c6b1 : (((rd_T187 l0 x5_1).f1) != (wrap64 (x1_1 + 1))) = false := bne_eq_false_iff_eq.mpr c6
       clear c6; obtain ⟨t104, A7, H⟩ := ob_ H
       by_cases c8 : t104 < 0
       ·rw [if_pos c8] at H; have c8b0 := dt_ c8; clear c8; obtain rfl := Option.some.inj H
        have p101 : 0 ≤ (x5_1 : Int) := of_decide_eq_true as_
        have q101 : x5_1 < (l0.length : Int) := of_decide_eq_true as_
        obtain ⟨ad101, A101_2, c101_2, e101, hx101_0, hx101_1, hx101_2, hl101_2, hi101_2⟩ := at_T187 HR0.o x5_1 p101 q101
        cases e101
        have HR101_2 := q_ hi101_2; have HC101_2 := q_ hl101_2; clear hi101_2 hl101_2; replace p101 := eq_true p101; replace q101 := eq_true q101
        have p103 : 0 ≤ (x5_1 : Int) := of_decide_eq_true as_
        have q103 : x5_1 < (l0.length : Int) := of_decide_eq_true as_
        obtain ⟨ad103, A103_2, c103_2, e103, hx103_0, hx103_1, hx103_2, hl103_2, hi103_2⟩ := at_T187 HR0.o x5_1 p103 q103
        obtain rfl : ad101 = ad103 := (by injection e103)
        have HR103_2 := q_ hi103_2; have HC103_2 := q_ hl103_2; clear hi103_2 hl103_2; replace p103 := eq_true p103; replace q103 := eq_true q103; have ea_ := Option.some.inj (hx101_2.symm.trans hx103_2)
        injection ea_ with ea_ en_ ec_
        subst ea_; subst ec_; clear en_
        go_wp2_with (first | ((with_reducible refine gate_callee (f := 24) rfl ?_); refine gl_ (some 36) rfl rfl Try.func24 #[.slice A101_2 ((rd_T187 l0 x5_1).f2).length c101_2, .int .i64 (wrap64 ((wrap64 (x1_1 + 1)) + 1))] ?_; (with_reducible refine (laws_heldSpanS.calls k1 _ _ ((rd_T187 l0 x5_1).f2) (wrap64 ((wrap64 (x1_1 + 1)) + 1)) t104 _ ?side1 ?side2 A7.o).mono ?_); (case side1 => repeat (first | exact HR103_2.o | (with_reducible refine Kd.C_alloc ?_ _) | (with_reducible refine Kd.C_drewN ?_ _) | (with_reducible refine Kd.C_drew ?_))); (case side2 => exact HC103_2.o); rintro e w' ⟨rfl, ⟨nd, rfl⟩⟩; refine ⟨_, rfl, ?_⟩))
        go_ret
        exact ⟨by first | rfl | (simp; done) | (simp [*]; done), by repeat (first | exact Drawn0.refl _ | apply Drawn0.step)⟩
       ·rw [if_neg c8] at H; have c8b0 := df_ c8; clear c8
        have H' := q_ H
        clear H
        have p101 : 0 ≤ (x5_1 : Int) := of_decide_eq_true as_
        have q101 : x5_1 < (l0.length : Int) := of_decide_eq_true as_
        obtain ⟨ad101, A101_2, c101_2, e101, hx101_0, hx101_1, hx101_2, hl101_2, hi101_2⟩ := at_T187 HR0.o x5_1 p101 q101
        cases e101
        have HR101_2 := q_ hi101_2; have HC101_2 := q_ hl101_2; clear hi101_2 hl101_2; replace p101 := eq_true p101; replace q101 := eq_true q101
        have p103 : 0 ≤ (x5_1 : Int) := of_decide_eq_true as_
        have q103 : x5_1 < (l0.length : Int) := of_decide_eq_true as_
        obtain ⟨ad103, A103_2, c103_2, e103, hx103_0, hx103_1, hx103_2, hl103_2, hi103_2⟩ := at_T187 HR0.o x5_1 p103 q103
        obtain rfl : ad101 = ad103 := (by injection e103)
        have HR103_2 := q_ hi103_2; have HC103_2 := q_ hl103_2; clear hi103_2 hl103_2; replace p103 := eq_true p103; replace q103 := eq_true q103; have ea_ := Option.some.inj (hx101_2.symm.trans hx103_2)
        injection ea_ with ea_ en_ ec_
        subst ea_; subst ec_; clear en_
        go_wp2_with (first | ((with_reducible refine gate_callee (f := 24) rfl ?_); refine gl_ (some 36) rfl rfl Try.func24 #[.slice A101_2 ((rd_T187 l0 x5_1).f2).length c101_2, .int .i64 (wrap64 ((wrap64 (x1_1 + 1)) + 1))] ?_; (with_reducible refine (laws_heldSpanS.calls k1 _ _ ((rd_T187 l0 x5_1).f2) (wrap64 ((wrap64 (x1_1 + 1)) + 1)) t104 _ ?side1 ?side2 A7.o).mono ?_); (case side1 => repeat (first | exact HR103_2.o | (with_reducible refine Kd.C_alloc ?_ _) | (with_reducible refine Kd.C_drewN ?_ _) | (with_reducible refine Kd.C_drew ?_))); (case side2 => exact HC103_2.o); rintro e w' ⟨rfl, ⟨nd, rfl⟩⟩; refine ⟨_, rfl, ?_⟩))
        go_roundg k1
        case measure => have := HK1.o; omega
        case rel => exact ⟨(t104), (wrap64 (x5_1 + 1)), rs_, rs_, H', ⟨by have := HK1.o; omega⟩, by repeat (first | exact Drawn0.refl _ | apply Drawn0.step)⟩
      ·rw [if_neg c6] at H
       have c6b0 : (((rd_T187 l0 x5_1).f1) == (wrap64 (x1_1 + 1))) = false := beq_eq_false_iff_ne.mpr c6
       have c6b1 : (((rd_T187 l0 x5_1).f1) != (wrap64 (x1_1 + 1))) = true := bne_iff_ne.mpr c6
       obtain rfl := Option.some.inj H
       have p101 : 0 ≤ (x5_1 : Int) := of_decide_eq_true as_
       have q101 : x5_1 < (l0.length : Int) := of_decide_eq_true as_
       obtain ⟨ad101, A101_2, c101_2, e101, hx101_0, hx101_1, hx101_2, hl101_2, hi101_2⟩ := at_T187 HR0.o x5_1 p101 q101
       cases e101
       have HR101_2 := q_ hi101_2; have HC101_2 := q_ hl101_2; clear hi101_2 hl101_2; replace p101 := eq_true p101; replace q101 := eq_true q101
       go_wp2
       go_ret
       exact ⟨by first | rfl | (simp; done) | (simp [*]; done), by repeat (first | exact Drawn0.refl _ | apply Drawn0.step)⟩
     ·rw [if_neg c5] at H
      have c5b0 : (((rd_T187 l0 x5_1).f0) == x1_1) = false := beq_eq_false_iff_ne.mpr c5
      have c5b1 : (((rd_T187 l0 x5_1).f0) != x1_1) = true := bne_iff_ne.mpr c5
      obtain rfl := Option.some.inj H
      have p101 : 0 ≤ (x5_1 : Int) := of_decide_eq_true as_
      have q101 : x5_1 < (l0.length : Int) := of_decide_eq_true as_
      obtain ⟨ad101, A101_2, c101_2, e101, hx101_0, hx101_1, hx101_2, hl101_2, hi101_2⟩ := at_T187 HR0.o x5_1 p101 q101
      cases e101
      have HR101_2 := q_ hi101_2; have HC101_2 := q_ hl101_2; clear hi101_2 hl101_2; replace p101 := eq_true p101; replace q101 := eq_true q101
      go_wp2
      go_ret
      exact ⟨by first | rfl | (simp; done) | (simp [*]; done), by repeat (first | exact Drawn0.refl _ | apply Drawn0.step)⟩
    ·rw [if_neg c4] at H
     exact absurd H (by simp)
   ·rw [if_neg c3] at H; have c3b0 := df_ c3; clear c3; obtain rfl := Option.some.inj H
    go_wp2
    go_ret
    exact ⟨by first | rfl | (simp; done) | (simp [*]; done), by repeat (first | exact Drawn0.refl _ | apply Drawn0.step)⟩
/-! ### laws_heldNfa: function 57 -/
def laws_heldNfa.f (k : Nat) (a0_0 : Int) (l0_1 : List (S187)) (l0_2 : List (S138)) (a1 : Int) : Option (Int) := (laws_heldEdgeS.f k l0_1 a1).bind fun t102 => (if t102 < 0 then (some (-1)) else ((laws_heldEndS.f k l0_2 t102).bind fun t103 => (if t103 < 0 then (some (-1)) else (some t103))))
theorem laws_heldNfa.calls (k : Nat) (a0_0 : Int) (A0_1 : Option Addr) (c0_1 : Nat) (l0_1 : List (S187)) (A0_2 : Option Addr) (c0_2 : Nat) (l0_2 : List (S138)) (a1 : Int) (r : Int) (w : World) (hr0_1 : Kd.C k187 w A0_1 l0_1.length l0_1) (hc0_1 : l0_1.length ≤ c0_1) (hr0_2 : Kd.C k138 w A0_2 l0_2.length l0_2) (hc0_2 : l0_2.length ≤ c0_2) (h : laws_heldNfa.f k a0_0 l0_1 l0_2 a1 = some r) :
  Calls Try.prog 57 #[.agg #[.int .i64 a0_0, .slice A0_1 l0_1.length c0_1, .slice A0_2 l0_2.length c0_2], .int .i64 a1] w fun e w' => e = .returned (.int .i64 r) ∧ Below w.heap.size w w' := by
 have hu78 := Try.underlying78; have HR0_1 := q_ hr0_1; have HC0_1 := q_ hc0_1; clear hr0_1 hc0_1; have HR0_2 := q_ hr0_2; have HC0_2 := q_ hc0_2; clear hr0_2 hc0_2; have HB := q_ (Below.refl w.heap.size w)
 have H : ((laws_heldEdgeS.f k l0_1 a1).bind fun t102 => (if t102 < 0 then (some (-1)) else ((laws_heldEndS.f k l0_2 t102).bind fun t103 => (if t103 < 0 then (some (-1)) else (some t103))))) = some r := h
 clear h; obtain ⟨t102, A3, H⟩ := ob_ H
 by_cases c4 : t102 < 0
 ·rw [if_pos c4] at H; have c4b0 := dt_ c4; clear c4; obtain rfl := Option.some.inj H
  go_enter Try.func57, Try.ntmps57
  go_wp2_with (first | ((with_reducible refine gate_dst (N := 2) rfl ?_); refine bx_ 2 #[.int .i64 a0_0, .slice A0_1 l0_1.length c0_1, .slice A0_2 l0_2.length c0_2] 78 ?_; intro gb101 hg w5 hbox hb; have BK101 := q_ (hbox); have GE101 := ge_ hg HB; replace HB := sb_ HB hb; clear hb hbox hg; obtain ⟨hcz6_0, hcz6_1, hcz6_2, hfz6_0, hfz6_1, hfz6_2⟩ := d3_ BK101) | ((with_reducible refine gate_callee (f := 113) rfl ?_); refine gl_ (some 8) rfl rfl Try.func113 #[.slice A0_1 l0_1.length c0_1, .int .i64 a1] ?_; (with_reducible refine (laws_heldEdgeS.calls k _ _ l0_1 a1 t102 _ ?side1 ?side2 A3.o).mono ?_); (case side1 => exact Kd.C_below HR0_1.o (be_ HB.o)); (case side2 => exact HC0_1.o); rintro e w' ⟨rfl, ⟨nd, rfl⟩⟩; refine ⟨_, rfl, ?_⟩))
  go_ret
  exact ⟨rt_, be1_ HB.o GE101.o⟩
 ·rw [if_neg c4] at H; have c4b0 := df_ c4; clear c4; obtain ⟨t103, A7, H⟩ := ob_ H
  by_cases c8 : t103 < 0
  ·rw [if_pos c8] at H; have c8b0 := dt_ c8; clear c8; obtain rfl := Option.some.inj H
   go_enter Try.func57, Try.ntmps57
   go_wp2_with (first | ((with_reducible refine gate_dst (N := 2) rfl ?_); refine bx_ 2 #[.int .i64 a0_0, .slice A0_1 l0_1.length c0_1, .slice A0_2 l0_2.length c0_2] 78 ?_; intro gb101 hg w9 hbox hb; have BK101 := q_ (hbox); have GE101 := ge_ hg HB; replace HB := sb_ HB hb; clear hb hbox hg; obtain ⟨hcz10_0, hcz10_1, hcz10_2, hfz10_0, hfz10_1, hfz10_2⟩ := d3_ BK101) | ((with_reducible refine gate_callee (f := 113) rfl ?_); refine gl_ (some 8) rfl rfl Try.func113 #[.slice A0_1 l0_1.length c0_1, .int .i64 a1] ?_; (with_reducible refine (laws_heldEdgeS.calls k _ _ l0_1 a1 t102 _ ?side1 ?side2 A3.o).mono ?_); (case side1 => exact Kd.C_below HR0_1.o (be_ HB.o)); (case side2 => exact HC0_1.o); rintro e w' ⟨rfl, ⟨nd, rfl⟩⟩; refine ⟨_, rfl, ?_⟩) | ((with_reducible refine gate_callee (f := 114) rfl ?_); refine gl_ (some 14) rfl rfl Try.func114 #[.slice A0_2 l0_2.length c0_2, .int .i64 t102] ?_; (with_reducible refine (laws_heldEndS.calls k _ _ l0_2 t102 t103 _ ?side1 ?side2 A7.o).mono ?_); (case side1 => repeat (first | exact (Kd.C_below HR0_2.o (be1_ HB.o GE101.o)) | (with_reducible refine Kd.C_alloc ?_ _) | (with_reducible refine Kd.C_drewN ?_ _) | (with_reducible refine Kd.C_drew ?_))); (case side2 => exact HC0_2.o); rintro e w' ⟨rfl, ⟨nd, rfl⟩⟩; refine ⟨_, rfl, ?_⟩))
   go_ret
   exact ⟨rt_, be1_ HB.o GE101.o⟩
  ·rw [if_neg c8] at H; have c8b0 := df_ c8; clear c8; obtain rfl := Option.some.inj H
   go_enter Try.func57, Try.ntmps57
   go_wp2_with (first | ((with_reducible refine gate_dst (N := 2) rfl ?_); refine bx_ 2 #[.int .i64 a0_0, .slice A0_1 l0_1.length c0_1, .slice A0_2 l0_2.length c0_2] 78 ?_; intro gb101 hg w11 hbox hb; have BK101 := q_ (hbox); have GE101 := ge_ hg HB; replace HB := sb_ HB hb; clear hb hbox hg; obtain ⟨hcz12_0, hcz12_1, hcz12_2, hfz12_0, hfz12_1, hfz12_2⟩ := d3_ BK101) | ((with_reducible refine gate_callee (f := 113) rfl ?_); refine gl_ (some 8) rfl rfl Try.func113 #[.slice A0_1 l0_1.length c0_1, .int .i64 a1] ?_; (with_reducible refine (laws_heldEdgeS.calls k _ _ l0_1 a1 t102 _ ?side1 ?side2 A3.o).mono ?_); (case side1 => exact Kd.C_below HR0_1.o (be_ HB.o)); (case side2 => exact HC0_1.o); rintro e w' ⟨rfl, ⟨nd, rfl⟩⟩; refine ⟨_, rfl, ?_⟩) | ((with_reducible refine gate_callee (f := 114) rfl ?_); refine gl_ (some 14) rfl rfl Try.func114 #[.slice A0_2 l0_2.length c0_2, .int .i64 t102] ?_; (with_reducible refine (laws_heldEndS.calls k _ _ l0_2 t102 t103 _ ?side1 ?side2 A7.o).mono ?_); (case side1 => repeat (first | exact (Kd.C_below HR0_2.o (be1_ HB.o GE101.o)) | (with_reducible refine Kd.C_alloc ?_ _) | (with_reducible refine Kd.C_drewN ?_ _) | (with_reducible refine Kd.C_drew ?_))); (case side2 => exact HC0_2.o); rintro e w' ⟨rfl, ⟨nd, rfl⟩⟩; refine ⟨_, rfl, ?_⟩))
   go_ret
   exact ⟨rt_, be1_ HB.o GE101.o⟩
end Go.Proofs.Ytijmhelacmjggaa.P
namespace Go.Proofs.Ytijmhelacmjggaa.P
open Go.RowKit Go.Proofs.YtijmhelacmjggaaW.PrintWords Go.Proofs.YtijmhelacmjggaaW.PrintLast Go.Proofs.YtijmhelacmjggaaW.PrintMore Go.Proofs.YtijmhelacmjggaaEv
set_option linter.unusedVariables false
set_option linter.unusedSimpArgs false
def mcE (x : S187) : Nat := 2 + 2 * x.f2.length
def mkE (a : Int) (x : S187) : S187 := ⟨a, a + 1, (List.range x.f2.length).map (mkSpan (a + 2))⟩
def cntE : List S187 → Nat
  | [] => 0
  | x :: xs => mcE x + cntE xs
def mkEs : List S187 → Int → List S187
  | [], _ => []
  | x :: xs, a => mkE a x :: mkEs xs (a + mcE x)
theorem mkEs_length : ∀ (l : List S187) (a : Int), (mkEs l a).length = l.length
  | [], _ => rfl
  | x :: xs, a => by simp [mkEs, mkEs_length xs]
theorem cntE_take : ∀ (l : List S187) (i : Nat) (h : i < l.length), cntE (l.take (i + 1)) = cntE (l.take i) + mcE l[i]
  | x :: xs, 0, _ => by simp [cntE]
  | x :: xs, i + 1, h => by
    simp only [List.take_succ_cons, cntE, List.getElem_cons_succ]
    rw [cntE_take xs i (by simpa using h)]
    omega
theorem mkEs_get : ∀ (l : List S187) (a : Int) (i : Nat) (h : i < l.length), (mkEs l a)[i]? = some (mkE (a + cntE (l.take i)) l[i])
  | x :: xs, a, 0, _ => by simp [mkEs, cntE]
  | x :: xs, a, i + 1, h => by
    simp only [List.take_succ_cons, cntE, List.getElem_cons_succ, mkEs, List.getElem?_cons_succ]
    rw [mkEs_get xs _ i (by simpa using h), show a + (mcE x : Int) + (cntE (xs.take i) : Nat) = a + ((mcE x + cntE (xs.take i) : Nat) : Int) by omega]
theorem cntE_le (l : List S187) (i : Nat) : cntE (l.take i) ≤ cntE l := by
  induction l generalizing i with
  | nil => simp [cntE]
  | cons x xs ih =>
    cases i with
    | zero => simp [cntE]
    | succ i => simp only [List.take_succ_cons, cntE]; have := ih i; omega
theorem markEdgeS_walk (P0_ : Nat → Prop) (u : Value) (l0 : List S187) (a1 : Int) (h0 : 0 ≤ a1) (h1 : a1 + cntE l0 ≤ 9000000000000000000) (hlen : (l0.length : Int) ≤ 9000000000000000000) (w0 w : World) (hB : Below w0.heap.size w0 w) (ho0 : Kd.S k187 187 w w0.heap.size P0_ u l0) :
    Calls Try.prog 111 #[u, .int .i64 a1] w fun e w' => e = .returned (.int .i64 (a1 + cntE l0)) ∧ Kd.S k187 187 w' w0.heap.size P0_ u (mkEs l0 a1) ∧ Below w0.heap.size w0 w' ∧ Kept w w' P0_ := by
  have hln := mkEs_length l0 a1
  obtain ⟨A, c, rfl⟩ := Kd.S_slice ho0
  have HO := q_ ho0
  have HB := q_ hB
  go_enter Try.func111, Try.ntmps111
  go_wp2
  go_loopg [1, 5] l0.length (fun gg v1 v5 w' => ∃ kk : Nat, kk ≤ l0.length ∧ l0.length - kk ≤ gg ∧ v1 = .int .i64 (a1 + cntE (l0.take kk)) ∧ v5 = .int .i64 kk ∧ J0 (Kd.S k187 187 w' w0.heap.size P0_ (.slice A l0.length c) (part (mkEs l0 a1) l0 kk)) ∧ J0 (Below w0.heap.size w0 w') ∧ J0 (Kept w w' P0_))
  case atStart => exact ⟨0, Nat.zero_le _, by omega, by simp [cntE], rfl, by simpa [part] using HO, HB, ⟨Kept.refl _ _⟩⟩
  case round =>
    obtain ⟨kk, hkk, hg, rfl, rfl, HS, HB2, HK⟩ := hrel
    by_cases hlt : kk < l0.length
    · have hltz : (kk : Int) < (l0.length : Int) := by omega
      obtain ⟨g, cap, hv, hgw, _, _⟩ := Kd.S_form HS.o (by rw [part_length _ _ _ hln]; omega)
      have hA : A = some ⟨g, 0, none⟩ := by injection hv
      subst hA
      obtain ⟨oki, ce, hcl, hM, hcc, hfr, hoki, hH⟩ := Kd.S_elem HS.o z187 (kk : Int) (by omega) hltz
      rw [Int.toNat_natCast, part_get _ _ _ _ hln hlt] at hM
      obtain ⟨v1, rfl, hR⟩ := k187_openM hM
      obtain ⟨A1, c1, rfl⟩ := Kd.R_slice hR
      have hx2 : wr.cell? ⟨g, kk * 3 + 2, none⟩ = some (.slice A1 l0[kk].f2.length c1) := hcc 2 _ rfl
      have hx0 := hcc 0 _ rfl; have hx1 := hcc 1 _ rfl
      have hf0 : wr.frozen? ⟨g, kk * 3, none⟩ = false := hfr 0
      have hf1 : wr.frozen? ⟨g, kk * 3 + 1, none⟩ = false := hfr 1
      have HR := q_ hR
      have HH := q_ hH
      have HI := q_ hoki
      have hcnt := cntE_take l0 kk hlt
      have hcle := cntE_le l0 (kk + 1)
      have hmk := q_ (mkEs_get l0 a1 kk hlt)
      obtain ⟨K, hK⟩ : ∃ K : Int, a1 + cntE (l0.take kk) = K := ⟨_, rfl⟩
      have hK1 : K + 2 + 2 * l0[kk].f2.length = a1 + cntE (l0.take (kk + 1)) := by rw [hcnt, ← hK]; unfold mcE; omega
      obtain ⟨k, hev⟩ := ev_get (laws_markSpanS_ev l0[kk].f2 (K + 2) (by omega) (by omega))
      have HE := q_ hev
      clear hH hR hoki hcc hfr hcl hev hv hM
      rw [hK]
      have w1 : IntKind.i64.wrap (K + 1) = K + 1 := by rw [i64_w]; exact wrap_id (by omega) (by omega)
      have w2 : IntKind.i64.wrap (K + 1 + 1) = K + 2 := by rw [i64_w, show K + 1 + 1 = K + 2 by omega]; exact wrap_id (by omega) (by omega)
      have HP := q_ ((Kd.S_R HS.o).1 g rfl)
      have T1 : J0 True := ⟨trivial⟩
      have T2 : J0 True := ⟨trivial⟩
      have T3 : J0 True := ⟨trivial⟩
      have hx0 : wr.cell? ⟨g, kk * 3, none⟩ = some (.int .i64 l0[kk].f0) := hx0
      have hx1 : wr.cell? ⟨g, kk * 3 + 1, none⟩ = some (.int .i64 l0[kk].f1) := hx1
      go_wp2_with (first
        | ((with_reducible refine gate_store (t := 2) (p := 16) rfl ?_); clear T1; refine store_event (t := 2) (p := 16) (v := ?vo_w10) (w1 := (wr.setCell ⟨g, kk * 3, none⟩ (.int .i64 (K)))) ?hg ?ho ?hn ?hr ?_; (case ho => rfl); (case hg => rfl); (case hn => rfl); (case hr => first | (go_simp; done) | (go_simp; rfl)); intro w10 hw; have hs := H_put HH.o (by omega) hltz 0 (.int .i64 (K)) (by decide) rfl; have hg1 : wr.grownBy w10 (some g) := (by rw [hw]; exact hs.2); replace HH := q_ (show Kd.H k187 187 w10 w0.heap.size P0_ (.slice (some ⟨g, 0, none⟩) l0.length c) (part (mkEs l0 a1) l0 kk) (kk : Int) oki [.int .i64 K, .int .i64 l0[kk].f1, .slice A1 l0[kk].f2.length c1] from (by rw [hw]; exact hs.1)); clear hs; replace HR := q_ (Kd.R_grown HR.o hg1 (fun k hk he => (HI.o k hk).2 (by injection he))); replace HB2 := q_ (show Below w0.heap.size w0 w10 from (by rw [hw]; exact below_set HB2.o hgw)); replace HK := q_ (Kept.of_grown hg1 HK.o (fun k he => .inl (by injection he with he; rw [← he]; exact HP.out))); clear hg1 hw; have hx1 : w10.cell? ⟨g, kk * 3 + 1, none⟩ = some (.int .i64 l0[kk].f1) := (Kd.H_at HH.o (by omega) hltz).1 1 _ rfl; have hf1 : w10.frozen? ⟨g, kk * 3 + 1, none⟩ = false := (Kd.H_at HH.o (by omega) hltz).2 1)
        | ((with_reducible refine gate_store (t := 2) (p := 23) rfl ?_); clear T2; refine store_event (t := 2) (p := 23) (v := ?vo_w11) (w1 := (w10.setCell ⟨g, kk * 3 + 1, none⟩ (.int .i64 (K + 1)))) ?hg ?ho ?hn ?hr ?_; (case ho => rfl); (case hg => rfl); (case hn => rfl); (case hr => first | (go_simp; done) | (go_simp; rfl)); intro w11 hw; have hs := H_put HH.o (by omega) hltz 1 (.int .i64 (K + 1)) (by decide) rfl; have hg1 : w10.grownBy w11 (some g) := (by rw [hw]; exact hs.2); replace HH := q_ (show Kd.H k187 187 w11 w0.heap.size P0_ (.slice (some ⟨g, 0, none⟩) l0.length c) (part (mkEs l0 a1) l0 kk) (kk : Int) oki [.int .i64 K, .int .i64 (K + 1), .slice A1 l0[kk].f2.length c1] from (by rw [hw]; exact hs.1)); clear hs; replace HR := q_ (Kd.R_grown HR.o hg1 (fun k hk he => (HI.o k hk).2 (by injection he))); replace HB2 := q_ (show Below w0.heap.size w0 w11 from (by rw [hw]; exact below_set HB2.o hgw)); replace HK := q_ (Kept.of_grown hg1 HK.o (fun k he => .inl (by injection he with he; rw [← he]; exact HP.out))); clear hg1 hw; have hx2 : w11.cell? ⟨g, kk * 3 + 2, none⟩ = some (.slice A1 l0[kk].f2.length c1) := (Kd.H_at HH.o (by omega) hltz).1 2 _ rfl)
        | (go_at_call 23; clear T3; refine (laws_markSpanS.calls k oki _ l0[kk].f2 _ _ _ w0 _ HB2.o HR.o HE.o).mono ?_; rintro e w12 ⟨rfl, hR2, hB3, hK2⟩; replace HK := q_ (HK.o.then_ hK2 (fun k hk => .inl (HI.o k hk).1)); replace HH := q_ (Kd.H_step HH.o (fun k _ hn hlt => hK2.2 k hlt hn)); replace HB2 := q_ hB3; replace HR := q_ (Kd.R_mono (Kd.R_tight rfl hR2) (fun k hk => HR.o.1 k hk.symm)); clear hR2 hK2 hB3))
      go_roundg (l0.length - (kk + 1))
      case measure => omega
      case rel =>
        refine ⟨kk + 1, by omega, by omega, ?_, by go_num, ⟨?_⟩, HB2, HK⟩
        · rw [← hK1]
          try (congr 1; omega)
        · have hS := Kd.H_back (okp := oki) HH.o (x' := mkE K l0[kk]) (k187_mkM _ _ _ (mkE K l0[kk]) (show Kd.R k103 103 _ _ oki (.slice A1 l0[kk].f2.length c1) ((List.range l0[kk].f2.length).map (mkSpan (K + 2))) from HR.o)) (fun _ hk => hk)
          rw [Int.toNat_natCast, part_set _ _ _ hln hlt (by rw [← hK]; exact hmk.o)] at hS
          exact hS
    · have hltz : ¬ (kk : Int) < (l0.length : Int) := by omega
      have hk : kk = l0.length := by omega
      subst hk
      go_wp2
      go_ret
      have hS := HS.o
      rw [part_all _ _ hln] at hS
      exact ⟨rfl, hS, HB2.o, HK.o⟩
def ofE (w : World) (P : Nat → Prop) (k : Nat) : Prop := P k ∧ ∃ q, q ∈ 187 :: (k187).E ∧ ∃ cells, w.heap[k]? = some (.cells cells q (0, 0))
def ofN (w : World) (P : Nat → Prop) (k : Nat) : Prop := P k ∧ k < w.heap.size ∧ ∃ cells, w.heap[k]? = some (.cells cells 138 (0, 0))
theorem end_only {q : Nat} (hq : q ∈ 138 :: (k138).E) : q = 138 := by
  rcases List.mem_cons.1 hq with rfl | hq
  · rfl
  · exact absurd (show q ∈ ([] : List Nat) from hq) List.not_mem_nil
theorem not_ofE {w : World} {P : Nat → Prop} {k t : Nat} {cells : Array Value} (h : w.heap[k]? = some (.cells cells t (0, 0))) (ht : ∀ q, q ∈ 187 :: (k187).E → q ≠ t) : ¬ ofE w P k := by
  rintro ⟨_, q, hq, cs, hc⟩
  rw [h] at hc
  injection hc with hc
  injection hc with _ e2
  exact ht q hq e2.symm
theorem markNfa_walk (P : Nat → Prop) (n : Int) (A1 A2 : Option Addr) (n1 c1 n2 c2 : Nat) (es : List S187) (en : List S138) (a1 : Int) (h0 : 0 ≤ a1) (h1 : a1 + cntE es + 2 * en.length ≤ 9000000000000000000) (hlen : (es.length : Int) ≤ 9000000000000000000) (w0 w : World) (hB : Below w0.heap.size w0 w) (ho1 : Kd.S k187 187 w w0.heap.size P (.slice A1 n1 c1) es) (ho2 : Kd.R k138 138 w w0.heap.size P (.slice A2 n2 c2) en) :
    Calls Try.prog 56 #[.agg #[.int .i64 n, .slice A1 n1 c1, .slice A2 n2 c2], .int .i64 a1] w fun e w' => e = .returned (.int .i64 (a1 + cntE es + 2 * en.length)) ∧ Kd.S k187 187 w' w0.heap.size P (.slice A1 n1 c1) (mkEs es a1) ∧ Kd.R k138 138 w' w0.heap.size P (.slice A2 n2 c2) ((List.range en.length).map (mkEnd (a1 + cntE es))) ∧ Below w0.heap.size w0 w' ∧ Kept w w' P := by
  obtain ⟨ke, hke⟩ := ev_get (laws_markEndS_ev en (a1 + cntE es) (by omega) (by omega))
  have HE := q_ hke
  have HS := q_ ho1; have HR := q_ ho2; have HB := q_ hB; have HK := q_ (Kept.refl w P); have T0 : J0 True := ⟨trivial⟩
  have L1 : J0 (a1 + cntE es ≤ 9000000000000000000) := ⟨by omega⟩; have L2 := q_ hlen; have L0 := q_ h0
  clear ho1 ho2 hB hke h1 hlen
  go_enter Try.func56, Try.ntmps56
  go_wp2_with (first
    | ((with_reducible refine gate_dst (N := 2) rfl ?_); clear T0; refine bx_ 2 #[.int .i64 n, .slice A1 n1 c1, .slice A2 n2 c2] 78 ?_; intro g hg w1 hbox hb; have BK := q_ hbox; replace HS := q_ (Kd.S_below HS.o hb); replace HR := q_ (Kd.R_below HR.o hb); replace HB := sb_ HB hb; replace HK := q_ (HK.o.below hb); clear hb hbox hg; obtain ⟨hz0, hz1, hz2, hf0, hf1, hf2⟩ := d3_ BK)
    | (go_at_call 111; refine (markEdgeS_walk (ofE w1 P) _ es a1 L0.o L1.o L2.o w0 _ HB.o (Kd.S_mono (Kd.S_bound HS.o) (fun k hk => ⟨hk.1, hk.2.2.2⟩))).mono ?_; rintro e w2 ⟨rfl, hS, hB2, hK2⟩; have hn := not_ofE (P := P) BK.o (by decide); replace BK := q_ ((hK2.2 _ (blk_lt BK.o) hn).trans BK.o); replace HK := q_ (HK.o.then_ hK2 (fun k hk => .inl hk.1)); replace HR := q_ (Kd.R_move (Kd.R_bound HR.o) (fun k hk => hK2.2 k hk.2.2.1 (by obtain ⟨_, _, _, q, hq, cs, hc⟩ := hk; obtain rfl := end_only hq; exact not_ofE hc (by decide)))); replace HR := q_ (Kd.R_mono HR.o (fun k hk => hk.1)); replace HS := q_ (Kd.S_mono hS (fun k hk => hk.1)); replace HB := q_ hB2; clear hS hB2 hK2 hn hz0 hz1 hz2 hf0 hf1 hf2; obtain ⟨hz0, hz1, hz2, hf0, hf1, hf2⟩ := d3_ BK)
    | (go_at_call 112; refine (laws_markEndS.calls ke (ofN w2 P) _ en _ _ _ w0 _ HB.o (Kd.R_mono (Kd.R_bound HR.o) (fun k hk => ⟨hk.1, hk.2.2.1, by obtain ⟨_, _, _, q, hq, hc⟩ := hk; obtain rfl := end_only hq; exact hc⟩)) HE.o).mono ?_; rintro e w3 ⟨rfl, hR, hB2, hK2⟩; replace HK := q_ (HK.o.then_ hK2 (fun k hk => .inl hk.1)); have hP := HR.o.1; replace HR := q_ (Kd.R_mono (Kd.R_tight rfl hR) (fun k hk => hP k hk.symm)); replace HS := q_ (Kd.S_mono (Kd.S_move (Kd.S_bound HS.o) (fun k hk => hK2.2 k hk.2.2.1 (by rintro ⟨_, _, cs, hc⟩; obtain ⟨_, _, _, q, hq, cs2, hc2⟩ := hk; rw [hc] at hc2; injection hc2 with hc2; injection hc2 with _ e2; exact absurd e2.symm ((by decide : ∀ q, q ∈ 187 :: (k187).E → q ≠ 138) q hq)))) (fun k hk => hk.1)); replace HB := q_ hB2; clear hR hB2 hK2 hP))
  go_ret
  exact ⟨rfl, HS.o, HR.o, HB.o, HK.o⟩
theorem laws_heldEdgeS_ev (l : List S187) (a : Int) (h0 : 0 ≤ a) (h1 : a + cntE l ≤ 9000000000000000000) (hl : l.length ≤ 9000000000000000000) : Ev (fun k => laws_heldEdgeS.f k (mkEs l a) a) (a + cntE l) := by
  unfold laws_heldEdgeS.f
  have h := ev_loop l.length (fun k i => laws_heldEdgeS.l0 k (mkEs l a) (a + (cntE (l.take i) : Nat)) (i : Nat)) (fun _ => a + (cntE l : Nat)) ?_ ?_ 0 (by omega)
  · simpa [cntE] using h
  · rw [ev_succ]
    simp [laws_heldEdgeS.l0, ev_some, mkEs_length]
  · intro i hi ih
    rw [ev_succ]
    have hr : rd_T187 (mkEs l a) (i : Int) = mkE (a + (cntE (l.take i) : Nat)) l[i] := by
      unfold rd_T187
      rw [Int.toNat_natCast, List.getD_eq_getElem?_getD, mkEs_get l a i hi]
      rfl
    have hc := cntE_take l i hi
    have hle := cntE_le l (i + 1)
    rw [hc] at hle ih
    unfold mcE at hle ih
    simp only [laws_heldEdgeS.l0, ev_ite, hr, mkE, mkEs_length]
    obtain ⟨K, hK⟩ : ∃ K : Int, a + (cntE (l.take i) : Int) = K := ⟨_, rfl⟩
    rw [hK]
    have e1 : wrap64 (K + 1) = K + 1 := wrap_id (by omega) (by omega)
    have e2 : wrap64 (K + 1 + 1) = K + 2 := by rw [show K + 1 + 1 = K + 2 by omega]; exact wrap_id (by omega) (by omega)
    rw [if_pos (by omega), if_pos (by omega), if_pos trivial, if_pos e1.symm]
    simp only [e1, e2]
    rw [ev_bind (laws_heldSpanS_ev l[i].f2.length (K + 2) (by omega) (by omega)), ev_ite, if_neg (by omega), wrap_succ hi (by omega)]
    rw [show K + 2 + 2 * (l[i].f2.length : Int) = a + ((cntE (l.take i) + (2 + 2 * l[i].f2.length) : Nat) : Int) by omega]
    exact ih
theorem laws_heldNfa_ev (n : Int) (es : List S187) (m : Nat) (a : Int) (h0 : 0 ≤ a) (h1 : a + cntE es + 2 * m ≤ 9000000000000000000) (hl : es.length ≤ 9000000000000000000) : Ev (fun k => laws_heldNfa.f k n (mkEs es a) ((List.range m).map (mkEnd (a + cntE es))) a) (a + cntE es + 2 * m) := by
  unfold laws_heldNfa.f
  rw [ev_bind (laws_heldEdgeS_ev es a h0 (by omega) hl)]
  simp only [ev_ite]
  rw [if_neg (by omega), ev_bind (laws_heldEndS_ev m (a + cntE es) (by omega) (by omega)), ev_ite, if_neg (by omega)]
  exact ev_some.2 rfl
section
variable {α β : Type} {d : Kd α} {d2 : Kd β} {e e2 base : Nat} {w w1 : World} {v v2 : Value} {xs : List α} {ys : List β} {P : Nat → Prop}
theorem SR_born {wp wn w0 : World} (h : Kd.S d e wn wp.heap.size (fun _ => True) v xs) (h2 : Kd.R d2 e2 wn wp.heap.size (fun _ => True) v2 ys) (hb : Below w0.heap.size w0 wp) : ∃ lo hi, (lo = wp.heap.size ∧ hi = wn.heap.size) ∧ Kd.S d e wn w0.heap.size (Rg lo hi) v xs ∧ Kd.R d2 e2 wn w0.heap.size (Rg lo hi) v2 ys :=
  ⟨_, _, ⟨rfl, rfl⟩, Kd.S_lower (Kd.S_mono (Kd.S_bound h) fun _ hk => ⟨hk.2.1, hk.2.2.1⟩) hb.size, Kd.R_lower (Kd.R_mono (Kd.R_bound h2) fun _ hk => ⟨hk.2.1, hk.2.2.1⟩) hb.size⟩
theorem len_SR {A A2 : Option Addr} {n c n2 c2 f : Nat} {u x : Value} {Pr : Program} {Q : Ending → World → Prop} {w2 : World} (h : Kd.S d e w base P (.slice A n c) xs) (h2 : Kd.R d2 e2 w base P (.slice A2 n2 c2) ys) (hc : Calls Pr f #[.agg #[u, .slice A xs.length c, .slice A2 ys.length c2], x] w2 Q) : Calls Pr f #[.agg #[u, .slice A n c, .slice A2 n2 c2], x] w2 Q := by
  rw [(Kd.S_reads' h).1, (Kd.R_reads' h2).1]
  exact hc
end
theorem cntE_few : ∀ l : List S187, (∀ e ∈ l, e.f2.length ≤ 128) → cntE l ≤ 258 * l.length
  | [], _ => Nat.le_refl _
  | x :: xs, h => by
    have h1 := cntE_few xs (fun e he => h e (List.mem_cons_of_mem _ he))
    have h2 := h x (List.mem_cons_self ..)
    simp only [cntE, mcE, List.length_cons]
    omega
def sk : Value → Value → Prop
  | .int k _, .int k' _ => k = k'
  | .string _, .string _ => True
  | .bool _, .bool _ => True
  | v, v' => v' = v
theorem sk_refl (v : Value) : sk v v := by
  cases v <;> simp [sk]
theorem sk_int {k : IntKind} {x : Int} {u : Value} (h : sk (.int k x) u) : ∃ y, u = .int k y := by
  cases u with
  | int k' y => simp [sk] at h; exact ⟨y, by rw [h]⟩
  | _ => simp [sk] at h
theorem sk_string {x : ByteArray} {u : Value} (h : sk (.string x) u) : ∃ y, u = .string y := by
  cases u with
  | string y => exact ⟨y, rfl⟩
  | _ => simp [sk] at h
theorem sk_bool {x : Bool} {u : Value} (h : sk (.bool x) u) : ∃ y, u = .bool y := by
  cases u with
  | bool y => exact ⟨y, rfl⟩
  | _ => simp [sk] at h
theorem sk_slice {A : Option Addr} {n c : Nat} {u : Value} (h : sk (.slice A n c) u) : u = .slice A n c := by
  cases u <;> exact h
theorem sk_trans {u v x : Value} (h : sk u v) (h2 : sk v x) : sk u x := by
  cases u with
  | int k a =>
    obtain ⟨b, rfl⟩ := sk_int h
    obtain ⟨c, rfl⟩ := sk_int h2
    simp [sk]
  | string a =>
    obtain ⟨b, rfl⟩ := sk_string h
    obtain ⟨c, rfl⟩ := sk_string h2
    simp [sk]
  | bool a =>
    obtain ⟨b, rfl⟩ := sk_bool h
    obtain ⟨c, rfl⟩ := sk_bool h2
    simp [sk]
  | _ =>
    have e : v = _ := h
    subst e
    exact h2
structure Like (w w' : World) : Prop where
  size : w.heap.size ≤ w'.heap.size
  block : ∀ (g : Nat) (cs : Array Value) (t : TypeId), w.heap[g]? = some (.cells cs t (0, 0)) → ∃ cs' : Array Value, w'.heap[g]? = some (.cells cs' t (0, 0)) ∧ cs'.size = cs.size ∧ ∀ (i : Nat) u, cs[i]? = some u → ∃ u', cs'[i]? = some u' ∧ sk u u'
theorem Like.refl (w : World) : Like w w := ⟨Nat.le_refl _, fun g cs t h => ⟨cs, h, rfl, fun i u hu => ⟨u, hu, sk_refl u⟩⟩⟩
theorem Like.trans {w w1 w2 : World} (h : Like w w1) (k : Like w1 w2) : Like w w2 := ⟨Nat.le_trans h.size k.size, fun g cs t hb => by
  obtain ⟨cs1, hb1, hs1, hc1⟩ := h.block g cs t hb
  obtain ⟨cs2, hb2, hs2, hc2⟩ := k.block g cs1 t hb1
  refine ⟨cs2, hb2, hs2.trans hs1, fun i u hu => ?_⟩
  obtain ⟨u1, hu1, k1⟩ := hc1 i u hu
  obtain ⟨u2, hu2, k2⟩ := hc2 i u1 hu1
  exact ⟨u2, hu2, sk_trans k1 k2⟩⟩
theorem Like.below {w w1 w2 : World} (h : Like w w1) (hb : Below w1.heap.size w1 w2) : Like w w2 := h.trans ⟨hb.size, fun g cs t hg => ⟨cs, blk_below hg hb, rfl, fun i u hu => ⟨u, hu, sk_refl u⟩⟩⟩
theorem Like.set {w w1 : World} (h : Like w w1) {g i : Nat} {t : TypeId} {cs : Array Value} {u u' : Value} (hg : w1.heap[g]? = some (.cells cs t (0, 0))) (hc : w1.cell? ⟨g, i, none⟩ = some u) (hs : sk u u') : Like w (w1.setCell ⟨g, i, none⟩ u') := h.trans ⟨by simp [World.setCell], fun b cs2 t2 hb => by
  by_cases e : b = g
  · subst e
    rw [hg] at hb
    injection hb with hb
    injection hb with e1 e2
    subst e1
    subst e2
    refine ⟨_, blk_set hg i u', by simp, fun j x hx => ?_⟩
    rw [blk_cell hg i] at hc
    by_cases e2 : i = j
    · subst e2
      have hu : x = u := by rw [hc] at hx; injection hx with hx; exact hx.symm
      have hi : i < cs.size := (Array.getElem?_eq_some_iff.1 hc).1
      exact ⟨u', by simp [Array.getElem?_setIfInBounds, hi], by rw [hu]; exact hs⟩
    · exact ⟨x, by rw [Array.getElem?_setIfInBounds_ne e2]; exact hx, sk_refl x⟩
  · exact ⟨cs2, blk_far hb e u', rfl, fun j x hx => ⟨x, hx, sk_refl x⟩⟩⟩
theorem Like.cell {w w1 : World} (h : Like w w1) {g i : Nat} {t : TypeId} {cs : Array Value} {u : Value} (hg : w.heap[g]? = some (.cells cs t (0, 0))) (hc : w.cell? ⟨g, i, none⟩ = some u) : ∃ u', w1.cell? ⟨g, i, none⟩ = some u' ∧ sk u u' ∧ w1.frozen? ⟨g, i, none⟩ = false ∧ ∃ cs', w1.heap[g]? = some (.cells cs' t (0, 0)) := by
  obtain ⟨cs', hb, _, hcc⟩ := h.block g cs t hg
  rw [blk_cell hg i] at hc
  obtain ⟨u', hu, k⟩ := hcc i u hc
  exact ⟨u', (blk_cell hb i).trans hu, k, blk_frozen hb i, cs', hb⟩
theorem like_int {w w1 : World} {g i : Nat} {t : TypeId} {cs : Array Value} {k : IntKind} {x : Int} (h : Like w w1) (hg : w.heap[g]? = some (.cells cs t (0, 0))) (hc : w.cell? ⟨g, i, none⟩ = some (.int k x)) : ∃ y, w1.cell? ⟨g, i, none⟩ = some (.int k y) ∧ w1.frozen? ⟨g, i, none⟩ = false := by
  obtain ⟨u, h1, h2, h3, _⟩ := h.cell hg hc
  obtain ⟨y, rfl⟩ := sk_int h2
  exact ⟨y, h1, h3⟩
theorem like_string {w w1 : World} {g i : Nat} {t : TypeId} {cs : Array Value} {x : ByteArray} (h : Like w w1) (hg : w.heap[g]? = some (.cells cs t (0, 0))) (hc : w.cell? ⟨g, i, none⟩ = some (.string x)) : ∃ y, w1.cell? ⟨g, i, none⟩ = some (.string y) ∧ w1.frozen? ⟨g, i, none⟩ = false := by
  obtain ⟨u, h1, h2, h3, _⟩ := h.cell hg hc
  obtain ⟨y, rfl⟩ := sk_string h2
  exact ⟨y, h1, h3⟩
theorem like_bool {w w1 : World} {g i : Nat} {t : TypeId} {cs : Array Value} {x : Bool} (h : Like w w1) (hg : w.heap[g]? = some (.cells cs t (0, 0))) (hc : w.cell? ⟨g, i, none⟩ = some (.bool x)) : ∃ y, w1.cell? ⟨g, i, none⟩ = some (.bool y) ∧ w1.frozen? ⟨g, i, none⟩ = false := by
  obtain ⟨u, h1, h2, h3, _⟩ := h.cell hg hc
  obtain ⟨y, rfl⟩ := sk_bool h2
  exact ⟨y, h1, h3⟩
theorem like_slice {w w1 : World} {g i : Nat} {t : TypeId} {cs : Array Value} {A : Option Addr} {n c : Nat} (h : Like w w1) (hg : w.heap[g]? = some (.cells cs t (0, 0))) (hc : w.cell? ⟨g, i, none⟩ = some (.slice A n c)) : w1.cell? ⟨g, i, none⟩ = some (.slice A n c) := by
  obtain ⟨u, h1, h2, _⟩ := h.cell hg hc
  rw [h1, sk_slice h2]
theorem Like.put_int {w w1 : World} {g i : Nat} {t : TypeId} {cs : Array Value} {k : IntKind} {x y : Int} (h : Like w w1) (hg : w.heap[g]? = some (.cells cs t (0, 0))) (hc : w.cell? ⟨g, i, none⟩ = some (.int k x)) : Like w (w1.setCell ⟨g, i, none⟩ (.int k y)) := by
  obtain ⟨u, h1, h2, h3, cs', h4⟩ := h.cell hg hc
  obtain ⟨z, rfl⟩ := sk_int h2
  exact h.set h4 h1 rfl
theorem Like.put_string {w w1 : World} {g i : Nat} {t : TypeId} {cs : Array Value} {x y : ByteArray} (h : Like w w1) (hg : w.heap[g]? = some (.cells cs t (0, 0))) (hc : w.cell? ⟨g, i, none⟩ = some (.string x)) : Like w (w1.setCell ⟨g, i, none⟩ (.string y)) := by
  obtain ⟨u, h1, h2, h3, cs', h4⟩ := h.cell hg hc
  obtain ⟨z, rfl⟩ := sk_string h2
  exact h.set h4 h1 trivial
theorem Like.put_bool {w w1 : World} {g i : Nat} {t : TypeId} {cs : Array Value} {x y : Bool} (h : Like w w1) (hg : w.heap[g]? = some (.cells cs t (0, 0))) (hc : w.cell? ⟨g, i, none⟩ = some (.bool x)) : Like w (w1.setCell ⟨g, i, none⟩ (.bool y)) := by
  obtain ⟨u, h1, h2, h3, cs', h4⟩ := h.cell hg hc
  obtain ⟨z, rfl⟩ := sk_bool h2
  exact h.set h4 h1 trivial
def sks (cs cs' : List Value) : Prop := cs'.length = cs.length ∧ ∀ (i : Nat) u, cs[i]? = some u → ∃ u', cs'[i]? = some u' ∧ sk u u'
theorem sks_one {u : Value} {cs' : List Value} (h : sks [u] cs') : ∃ u', cs' = [u'] ∧ sk u u' := by
  obtain ⟨h1, h2⟩ := h
  obtain ⟨u', h3, h4⟩ := h2 0 u rfl
  match cs', h1, h3 with
  | [x], _, h3 => exact ⟨x, rfl, by injection h3 with h3; rw [h3]; exact h4⟩
theorem sks_append {a b cs' : List Value} (h : sks (a ++ b) cs') : ∃ a' b', cs' = a' ++ b' ∧ sks a a' ∧ sks b b' := by
  obtain ⟨h1, h2⟩ := h
  rw [List.length_append] at h1
  refine ⟨cs'.take a.length, cs'.drop a.length, (List.take_append_drop _ _).symm, ⟨by rw [List.length_take]; omega, fun i u hu => ?_⟩, ⟨by rw [List.length_drop]; omega, fun i u hu => ?_⟩⟩
  · have hi : i < a.length := (List.getElem?_eq_some_iff.1 hu).1
    obtain ⟨u', h3, h4⟩ := h2 i u (by rw [List.getElem?_append_left hi]; exact hu)
    exact ⟨u', by rw [List.getElem?_take_of_lt hi]; exact h3, h4⟩
  · obtain ⟨u', h3, h4⟩ := h2 (a.length + i) u (by rw [List.getElem?_append_right (by omega)]; simpa using hu)
    exact ⟨u', by rw [List.getElem?_drop]; exact h3, h4⟩
def sumN {α : Type} (m : α → Nat) : List α → Nat
  | [] => 0
  | x :: xs => m x + sumN m xs
theorem sumN_len {α : Type} (m : α → Nat) (h : ∀ x, 1 ≤ m x) : ∀ l : List α, l.length ≤ sumN m l
  | [] => Nat.le_refl _
  | x :: xs => by have := sumN_len m h xs; have := h x; simp only [sumN, List.length_cons]; omega
theorem sumN_take {α : Type} (m : α → Nat) : ∀ (l : List α) (i : Nat) (h : i < l.length), sumN m (l.take (i + 1)) = sumN m (l.take i) + m l[i]
  | x :: xs, 0, _ => by simp [sumN]
  | x :: xs, i + 1, h => by
    simp only [List.take_succ_cons, sumN, List.getElem_cons_succ]
    rw [sumN_take m xs i (by simpa using h)]
    omega
theorem sumN_le {α : Type} (m : α → Nat) (l : List α) (i : Nat) : sumN m (l.take i) ≤ sumN m l := by
  induction l generalizing i with
  | nil => simp [sumN]
  | cons x xs ih =>
    cases i with
    | zero => simp [sumN]
    | succ i => simp only [List.take_succ_cons, sumN]; have := ih i; omega
theorem sumN_map {α : Type} (m : α → Nat) : ∀ l l' : List α, l'.map m = l.map m → sumN m l' = sumN m l
  | [], [], _ => rfl
  | x :: xs, [], h => by simp at h
  | [], x :: xs, h => by simp at h
  | x :: xs, y :: ys, h => by
    simp only [List.map_cons, List.cons.injEq] at h
    simp only [sumN, h.1, sumN_map m xs ys h.2]
def Keeps {α : Type} (d : Kd α) (m : α → Nat) : Prop := ∀ {w w' : World} {base : Nat} {ok : Nat → Prop} {x : α} {cs cs' : List Value}, Like w w' → d.M w base ok x cs → sks cs cs' → ∃ x', d.M w' base ok x' cs' ∧ m x' = m x
theorem like_list {α : Type} (P : Nat → α → Prop) : ∀ n : Nat, (∀ i, i < n → ∃ x, P i x) → ∃ l : List α, l.length = n ∧ ∀ i x, l[i]? = some x → P i x
  | 0, _ => ⟨[], rfl, fun i x h => by simp at h⟩
  | n + 1, h => by
    obtain ⟨l, hl, hp⟩ := like_list P n (fun i hi => h i (by omega))
    obtain ⟨x, hx⟩ := h n (by omega)
    refine ⟨l ++ [x], by simp [hl], fun i y hy => ?_⟩
    by_cases hi : i < n
    · rw [List.getElem?_append_left (by omega)] at hy
      exact hp i y hy
    · have hlt : i < (l ++ [x]).length := (List.getElem?_eq_some_iff.1 hy).1
      have e : i = n := by simp at hlt; omega
      subst e
      rw [List.getElem?_append_right (by omega), hl, Nat.sub_self] at hy
      injection hy with hy
      rw [← hy]
      exact hx
theorem R_like {α : Type} {d : Kd α} {m : α → Nat} (hd : Keeps d m) {e : Nat} {w w' : World} {base : Nat} {ok : Nat → Prop} {v : Value} {xs : List α} (h : d.R e w base ok v xs) (hl : Like w w') : ∃ xs', d.R e w' base ok v xs' ∧ xs'.map m = xs.map m := by
  obtain ⟨h0, inner, ⟨hi, ho⟩, hr⟩ := h
  rcases ho with ⟨rfl, hn⟩ | ⟨g, cap, cur, rfl, hg, hh, hnc, hcm, hcs, htk⟩
  · have : xs = [] := List.length_eq_zero_iff.1 hn
    subst this
    exact ⟨[], Kd.R_nil _ _ _ _ _, rfl⟩
  · obtain ⟨cur', hh', hs', hc'⟩ := hl.block g cur e hh
    have hsk : sks inner (cur'.toList.take (xs.length * d.sz)) := by
      rw [← htk]
      refine ⟨by simp [hs'], fun i u hu => ?_⟩
      have hlt : i < xs.length * d.sz := by
        have := (List.getElem?_eq_some_iff.1 hu).1
        rw [List.length_take] at this
        omega
      rw [List.getElem?_take_of_lt hlt] at hu ⊢
      obtain ⟨u', h1, h2⟩ := hc' i u (by simpa using hu)
      exact ⟨u', by simpa using h1, h2⟩
    have hx : ∀ i, i < xs.length → ∃ x', d.M w' base (fun k => ok k ∧ some k ≠ (Value.slice (some ⟨g, 0, none⟩) xs.length cap).ownBlock) x' (((cur'.toList.take (xs.length * d.sz)).drop (i * d.sz)).take d.sz) ∧ (∃ x, xs[i]? = some x ∧ m x' = m x) := by
      intro i hi2
      obtain ⟨x', h1, h2⟩ := hd hl (hr.2 i xs[i] (List.getElem?_eq_getElem hi2)) (cs' := ((cur'.toList.take (xs.length * d.sz)).drop (i * d.sz)).take d.sz) (by
        obtain ⟨s1, s2⟩ := hsk
        refine ⟨by simp only [List.length_take, List.length_drop] at s1 ⊢; omega, fun j u hu => ?_⟩
        have hj : j < d.sz := by
          have := (List.getElem?_eq_some_iff.1 hu).1
          rw [List.length_take] at this
          omega
        rw [List.getElem?_take_of_lt hj, List.getElem?_drop] at hu ⊢
        exact s2 _ u hu)
      exact ⟨x', h1, xs[i], List.getElem?_eq_getElem hi2, h2⟩
    obtain ⟨xs', hlen, hp⟩ := like_list _ xs.length hx
    refine ⟨xs', ⟨?_, cur'.toList.take (xs.length * d.sz), ⟨?_, .inr ⟨g, cap, cur', by rw [hlen], hg, hh', by rw [hlen]; exact hnc, hcm, by rw [hs', hcs], by rw [hlen]⟩⟩, ⟨?_, fun j p hj => (hp j p hj).1⟩⟩, ?_⟩
    · intro k hk
      exact h0 k hk
    · rw [hlen]
      exact hsk.1.trans hi
    · rw [hlen]
      exact hsk.1.trans hi
    · apply List.ext_getElem?
      intro i
      rw [List.getElem?_map, List.getElem?_map]
      by_cases hi2 : i < xs.length
      · obtain ⟨_, x, h1, h2⟩ := hp i xs'[i] (List.getElem?_eq_getElem (by omega))
        rw [List.getElem?_eq_getElem (by omega : i < xs'.length), h1]
        simp [h2]
      · rw [List.getElem?_eq_none (by omega), List.getElem?_eq_none (by omega)]
theorem keeps_int (k : IntKind) : Keeps (Kd.int k) (fun _ => 1) := by
  intro w w' base ok x cs cs' hl hM hs
  have e : cs = [.int k x] := hM
  subst e
  obtain ⟨u, rfl, hu⟩ := sks_one hs
  obtain ⟨y, rfl⟩ := sk_int hu
  exact ⟨y, rfl, rfl⟩
theorem keeps_string : Keeps Kd.string (fun _ => 1) := by
  intro w w' base ok x cs cs' hl hM hs
  have e : cs = [.string x] := hM
  subst e
  obtain ⟨u, rfl, hu⟩ := sks_one hs
  obtain ⟨y, rfl⟩ := sk_string hu
  exact ⟨y, rfl, rfl⟩
theorem keeps_bool : Keeps Kd.bool (fun _ => 1) := by
  intro w w' base ok x cs cs' hl hM hs
  have e : cs = [.bool x] := hM
  subst e
  obtain ⟨u, rfl, hu⟩ := sks_one hs
  obtain ⟨y, rfl⟩ := sk_bool hu
  exact ⟨y, rfl, rfl⟩
theorem keeps_pair {α β : Type} {a : Kd α} {b : Kd β} {m : α → Nat} {n : β → Nat} (ha : Keeps a m) (hb : Keeps b n) : Keeps (Kd.pair a b) (fun x => m x.1 + n x.2) := by
  intro w w' base ok x cs cs' hl hM hs
  obtain ⟨c0, c1, rfl, h0, h1⟩ := hM
  obtain ⟨a', b', rfl, s0, s1⟩ := sks_append hs
  obtain ⟨x0, k0, e0⟩ := ha hl h0 s0
  obtain ⟨x1, k1, e1⟩ := hb hl h1 s1
  exact ⟨(x0, x1), ⟨a', b', rfl, k0, k1⟩, by simp only [e0, e1]⟩
theorem keeps_slice {α : Type} {d : Kd α} {m : α → Nat} (hd : Keeps d m) (e : Nat) : Keeps (Kd.slice e d) (sumN m) := by
  intro w w' base ok x cs cs' hl hM hs
  obtain ⟨v, rfl, h⟩ := hM
  obtain ⟨u, rfl, hu⟩ := sks_one hs
  obtain ⟨A, c, rfl⟩ := Kd.R_slice h
  have e2 := sk_slice hu
  subst e2
  obtain ⟨xs', h1, h2⟩ := R_like hd h hl
  exact ⟨xs', ⟨_, rfl, h1⟩, sumN_map m _ _ h2⟩
theorem keeps_iso {α β : Type} {d : Kd α} {m : α → Nat} (hd : Keeps d m) (f : β → α) (g : α → β) (hfg : ∀ y, f (g y) = y) : Keeps (Kd.iso d f) (fun x => m (f x)) := by
  intro w w' base ok x cs cs' hl hM hs
  obtain ⟨y, h1, h2⟩ := hd hl (show d.M w base ok (f x) cs from hM) hs
  exact ⟨g y, show d.M w' base ok (f (g y)) cs' by rw [hfg]; exact h1, by show m (f (g y)) = m (f x); rw [hfg]; exact h2⟩
theorem R_at {α : Type} {d : Kd α} {e : Nat} {w : World} {base : Nat} {ok : Nat → Prop} {g n c : Nat} {xs : List α} (h : d.R e w base ok (.slice (some ⟨g, 0, none⟩) n c) xs) (i : Nat) (hi : i < xs.length) : ∃ cs, ∃ cur : Array Value, d.M w base ok xs[i] cs ∧ (∀ (j : Nat) u, cs[j]? = some u → w.cell? ⟨g, i * d.sz + j, none⟩ = some u) ∧ w.heap[g]? = some (.cells cur e (0, 0)) ∧ ok g ∧ base ≤ g := by
  obtain ⟨h0, inner, ⟨hl, ho⟩, hr⟩ := h
  rcases ho with ⟨he, _⟩ | ⟨g2, cap, cur, he, hg, hh, hnc, hcm, hcs, htk⟩
  · exact absurd he (by simp)
  · injection he with e1 e2 e3
    injection e1 with e1
    injection e1 with e1
    subst e1
    refine ⟨_, cur, d.M_mono (fun _ hk => hk.1) (hr.2 i xs[i] (List.getElem?_eq_getElem hi)), fun j u hu => ?_, hh, h0 g (by simp [Value.ownBlock]), hg⟩
    rw [blk_cell hh, ← Array.getElem?_toList]
    have hj : j < d.sz := by
      have := (List.getElem?_eq_some_iff.1 hu).1
      rw [List.length_take] at this
      omega
    rw [List.getElem?_take_of_lt hj, List.getElem?_drop, ← htk] at hu
    have hlt := (List.getElem?_eq_some_iff.1 hu).1
    rw [List.length_take] at hlt
    rw [List.getElem?_take_of_lt (by omega)] at hu
    exact hu
end Go.Proofs.Ytijmhelacmjggaa.P
namespace Go.Proofs.Ytijmhelacmjggaa.P
set_option linter.unusedVariables false
set_option linter.unusedSimpArgs false
open Go.RowKit Go.Proofs.YtijmhelacmjggaaW.PrintWords Go.Proofs.YtijmhelacmjggaaW.PrintLast Go.Proofs.YtijmhelacmjggaaW.PrintMore Go.Proofs.YtijmhelacmjggaaEv
def nm_Span (x : S103) : Nat := 1 + 1
theorem one_Span (x : S103) : 1 ≤ nm_Span x := by
  unfold nm_Span
  omega
theorem keeps_Span : Keeps k103 nm_Span := keeps_iso (keeps_pair (keeps_int _) (keeps_int _)) _ (fun y => ⟨y.1, y.2⟩) (fun _ => rfl)
theorem markSpanS_walk (P_ : Nat → Prop) (u : Value) (l0 : List S103) (a1 : Int) (n : Nat) (hn : sumN nm_Span l0 = n) (h0 : 0 ≤ a1) (h1 : a1 + n ≤ 9000000000000000000) (w0 w : World) (hB : Below w0.heap.size w0 w) (ho0 : Kd.R k103 103 w w0.heap.size P_ u l0) :
    Calls Try.prog 23 #[u, .int .i64 a1] w fun e w' => e = .returned (.int .i64 (a1 + n)) ∧ Like w w' ∧ Below w0.heap.size w0 w' ∧ Kept w w' P_ := by
  have hlen := sumN_len nm_Span one_Span l0
  obtain ⟨A, c, rfl⟩ := Kd.R_slice ho0
  have HO := q_ ho0
  have HB := q_ hB
  clear ho0 hB
  go_enter Try.func23, Try.ntmps23
  go_wp2
  go_loopg [1, 5] l0.length (fun gg v1 v5 w' => ∃ kk : Nat, kk ≤ l0.length ∧ l0.length - kk ≤ gg ∧ v1 = .int .i64 (a1 + (sumN nm_Span (l0.take kk) : Nat)) ∧ v5 = .int .i64 kk ∧ J0 (Like w w') ∧ J0 (Below w0.heap.size w0 w') ∧ J0 (Kept w w' P_))
  case atStart => exact ⟨0, Nat.zero_le _, by omega, by simp [sumN], rfl, ⟨Like.refl _⟩, HB, ⟨Kept.refl _ _⟩⟩
  case round =>
    obtain ⟨kk, hkk, hg, rfl, rfl, HW, HB2, HK⟩ := hrel
    clear HB
    by_cases hlt : kk < l0.length
    · have hltz : (kk : Int) < (l0.length : Int) := by omega
      obtain ⟨ls, hR, hm⟩ := R_like keeps_Span HO.o HW.o
      have hlen2 : ls.length = l0.length := by simpa using congrArg List.length hm
      obtain ⟨g, cap, hv, hgw, _, _⟩ := Kd.R_form hR (by omega)
      have hA : A = some ⟨g, 0, none⟩ := by injection hv
      subst hA
      obtain ⟨cs, cur, hM, hcc, hG, hP, _⟩ := R_at hR kk (by omega)
      have hmk : nm_Span ls[kk] = nm_Span l0[kk] := by
        have := congrArg (fun q => q[kk]?) hm
        simp only [List.getElem?_map] at this
        rw [List.getElem?_eq_getElem (by omega), List.getElem?_eq_getElem hlt] at this
        simpa using this
      have hcnt := sumN_take nm_Span l0 kk hlt
      have hcle := sumN_le nm_Span l0 (kk + 1)
      rw [← hmk] at hcnt
      obtain ⟨x, hxe⟩ : ∃ x, x = ls[kk] := ⟨_, rfl⟩
      rw [← hxe] at hM hcnt
      clear hxe hmk
      obtain rfl := k103_openM hM
      have hx0 : wr.cell? ⟨g, kk * 2, none⟩ = some (.int .i64 x.f0) := hcc 0 _ rfl
      have hx1 : wr.cell? ⟨g, kk * 2 + 1, none⟩ = some (.int .i64 x.f1) := hcc 1 _ rfl
      have X0 := q_ hx0
      have X1 := q_ hx1
      have HG := q_ hG
      have HP := q_ hP
      have HL := q_ (Like.refl wr)
      obtain ⟨K, hK⟩ : ∃ K : Int, a1 + (sumN nm_Span (l0.take kk) : Nat) = K := ⟨_, rfl⟩
      have hmx : nm_Span x = 1 + 1 := rfl
      rw [hmx] at hcnt
      clear hmx
      have hK0 : 0 ≤ K := by omega
      have hK1 : K + 1 + 1 = a1 + (sumN nm_Span (l0.take (kk + 1)) : Nat) := by omega
      have hK2 : K + 1 + 1 ≤ 9000000000000000000 := by omega
      rw [hK]
      clear hcc hM hG hP hv hm hR hcnt hcle hx0 hx1
      have qw0 : IntKind.i64.wrap (K + 1) = K + 1 := by rw [i64_w]; exact wrap_id (by omega) (by omega)
      have qw1 : IntKind.i64.wrap (K + 1 + 1) = K + 1 + 1 := by rw [i64_w]; exact wrap_id (by omega) (by omega)
      have T1 : J0 True := ⟨trivial⟩
      have T2 : J0 True := ⟨trivial⟩
      obtain ⟨y0, hc0, hf0⟩ := like_int HL.o HG.o X0.o
      go_wp2_with (first | ((with_reducible refine gate_store (t := 2) (p := 16) rfl ?_); clear T1; refine store_event (t := 2) (p := 16) (v := ?vo_w10) (w1 := (wr.setCell ⟨g, kk * 2, none⟩ (.int .i64 (K)))) ?hg ?ho ?hn ?hr ?_; (case ho => rfl); (case hg => rfl); (case hn => rfl); (case hr => first | (go_simp; done) | (go_simp; rfl)); intro w10 hw; replace HL := q_ (show Like wr w10 from (by rw [hw]; exact Like.put_int HL.o HG.o X0.o)); replace HB2 := q_ (show Below w0.heap.size w0 w10 from (by rw [hw]; exact below_set HB2.o hgw)); replace HK := q_ (show Kept w w10 P_ from (by rw [hw]; exact Kept.setCell HK.o (.inl HP.out) _)); clear hw hc0 hf0; obtain ⟨y1, hc1, hf1⟩ := like_int HL.o HG.o X1.o) | ((with_reducible refine gate_store (t := 2) (p := 23) rfl ?_); clear T2; refine store_event (t := 2) (p := 23) (v := ?vo_w11) (w1 := (w10.setCell ⟨g, kk * 2 + 1, none⟩ (.int .i64 (K + 1)))) ?hg ?ho ?hn ?hr ?_; (case ho => rfl); (case hg => rfl); (case hn => rfl); (case hr => first | (go_simp; done) | (go_simp; rfl)); intro w11 hw; replace HL := q_ (show Like wr w11 from (by rw [hw]; exact Like.put_int HL.o HG.o X1.o)); replace HB2 := q_ (show Below w0.heap.size w0 w11 from (by rw [hw]; exact below_set HB2.o hgw)); replace HK := q_ (show Kept w w11 P_ from (by rw [hw]; exact Kept.setCell HK.o (.inl HP.out) _)); clear hw hc1 hf1))
      go_roundg (l0.length - (kk + 1))
      case measure => omega
      case rel => exact ⟨kk + 1, by omega, by omega, by (first | (congr 1; omega) | (congr 1; done) | (congr 2; omega)), by go_num, ⟨HW.o.trans HL.o⟩, ⟨HB2.o⟩, ⟨HK.o⟩⟩
    · have hltz : ¬ (kk : Int) < (l0.length : Int) := by omega
      have hk : kk = l0.length := by omega
      subst hk
      rw [List.take_length, hn]
      go_wp2
      go_ret
      exact ⟨rfl, HW.o, HB2.o, HK.o⟩
theorem markInt64S_walk (P_ : Nat → Prop) (u : Value) (l0 : List Int) (a1 : Int) (n : Nat) (hn : sumN (fun _ => 1) l0 = n) (h0 : 0 ≤ a1) (h1 : a1 + n ≤ 9000000000000000000) (w0 w : World) (hB : Below w0.heap.size w0 w) (ho0 : Kd.R (Kd.int .i64) 2 w w0.heap.size P_ u l0) :
    Calls Try.prog 42 #[u, .int .i64 a1] w fun e w' => e = .returned (.int .i64 (a1 + n)) ∧ Like w w' ∧ Below w0.heap.size w0 w' ∧ Kept w w' P_ := by
  have hlen := sumN_len (fun _ => 1) (fun _ => Nat.le_refl _) l0
  obtain ⟨A, c, rfl⟩ := Kd.R_slice ho0
  have HO := q_ ho0
  have HB := q_ hB
  clear ho0 hB
  go_enter Try.func42, Try.ntmps42
  go_wp2
  go_loopg [1, 5] l0.length (fun gg v1 v5 w' => ∃ kk : Nat, kk ≤ l0.length ∧ l0.length - kk ≤ gg ∧ v1 = .int .i64 (a1 + (sumN (fun _ => 1) (l0.take kk) : Nat)) ∧ v5 = .int .i64 kk ∧ J0 (Like w w') ∧ J0 (Below w0.heap.size w0 w') ∧ J0 (Kept w w' P_))
  case atStart => exact ⟨0, Nat.zero_le _, by omega, by simp [sumN], rfl, ⟨Like.refl _⟩, HB, ⟨Kept.refl _ _⟩⟩
  case round =>
    obtain ⟨kk, hkk, hg, rfl, rfl, HW, HB2, HK⟩ := hrel
    clear HB
    by_cases hlt : kk < l0.length
    · have hltz : (kk : Int) < (l0.length : Int) := by omega
      obtain ⟨ls, hR, hm⟩ := R_like (keeps_int .i64) HO.o HW.o
      have hlen2 : ls.length = l0.length := by simpa using congrArg List.length hm
      obtain ⟨g, cap, hv, hgw, _, _⟩ := Kd.R_form hR (by omega)
      have hA : A = some ⟨g, 0, none⟩ := by injection hv
      subst hA
      obtain ⟨cs, cur, hM, hcc, hG, hP, _⟩ := R_at hR kk (by omega)
      have hcnt := sumN_take (fun _ => 1) l0 kk hlt
      have hcle := sumN_le (fun _ => 1) l0 (kk + 1)
      obtain ⟨x, hxe⟩ : ∃ x, x = ls[kk] := ⟨_, rfl⟩
      rw [← hxe] at hM
      clear hxe
      have hM : cs = [.int .i64 x] := hM
      subst hM
      have hx0 := hcc 0 _ rfl
      rw [show kk * (Kd.int .i64).sz + 0 = kk from Nat.mul_one kk] at hx0
      have X0 := q_ hx0
      have HG := q_ hG
      have HP := q_ hP
      have HL := q_ (Like.refl wr)
      obtain ⟨K, hK⟩ : ∃ K : Int, a1 + (sumN (fun _ => 1) (l0.take kk) : Nat) = K := ⟨_, rfl⟩
      have hK0 : 0 ≤ K := by omega
      have hK1 : K + 1 = a1 + (sumN (fun _ => 1) (l0.take (kk + 1)) : Nat) := by omega
      have hK2 : K + 1 ≤ 9000000000000000000 := by omega
      rw [hK]
      clear hcc hG hP hv hm hR hcnt hcle hx0
      have qw0 : IntKind.i64.wrap (K + 1) = K + 1 := by rw [i64_w]; exact wrap_id (by omega) (by omega)
      have T1 : J0 True := ⟨trivial⟩
      obtain ⟨y0, hc0, hf0⟩ := like_int HL.o HG.o X0.o
      go_wp2_with ((with_reducible refine gate_store (t := 2) (p := 15) rfl ?_); clear T1; refine store_event (t := 2) (p := 15) (v := ?vo_w10) (w1 := (wr.setCell ⟨g, kk, none⟩ (.int .i64 (K)))) ?hg ?ho ?hn ?hr ?_; (case ho => rfl); (case hg => rfl); (case hn => rfl); (case hr => first | (go_simp; done) | (go_simp; rfl)); intro w10 hw; replace HL := q_ (show Like wr w10 from (by rw [hw]; exact Like.put_int HL.o HG.o X0.o)); replace HB2 := q_ (show Below w0.heap.size w0 w10 from (by rw [hw]; exact below_set HB2.o hgw)); replace HK := q_ (show Kept w w10 P_ from (by rw [hw]; exact Kept.setCell HK.o (.inl HP.out) _)); clear hw hc0 hf0)
      go_roundg (l0.length - (kk + 1))
      case measure => omega
      case rel => exact ⟨kk + 1, by omega, by omega, by (first | (congr 1; omega) | (congr 1; done) | (congr 2; omega)), by go_num, ⟨HW.o.trans HL.o⟩, ⟨HB2.o⟩, ⟨HK.o⟩⟩
    · have hltz : ¬ (kk : Int) < (l0.length : Int) := by omega
      have hk : kk = l0.length := by omega
      subst hk
      rw [List.take_length, hn]
      go_wp2
      go_ret
      exact ⟨rfl, HW.o, HB2.o, HK.o⟩
def nm_RNode (x : S156) : Nat := 1 + (sumN nm_Span x.f1 + (sumN (fun _ => 1) x.f2 + (1 + 1)))
theorem one_RNode (x : S156) : 1 ≤ nm_RNode x := by
  unfold nm_RNode
  omega
theorem keeps_RNode : Keeps k156 nm_RNode := keeps_iso (keeps_pair (keeps_int _) (keeps_pair (keeps_slice keeps_Span _) (keeps_pair (keeps_slice (keeps_int .i64) _) (keeps_pair (keeps_int _) (keeps_int _))))) _ (fun y => ⟨y.1, y.2.1, y.2.2.1, y.2.2.2.1, y.2.2.2.2⟩) (fun _ => rfl)
theorem markRNodeS_walk (P_ : Nat → Prop) (u : Value) (l0 : List S156) (a1 : Int) (n : Nat) (hn : sumN nm_RNode l0 = n) (h0 : 0 ≤ a1) (h1 : a1 + n ≤ 9000000000000000000) (w0 w : World) (hB : Below w0.heap.size w0 w) (ho0 : Kd.R k156 156 w w0.heap.size P_ u l0) :
    Calls Try.prog 73 #[u, .int .i64 a1] w fun e w' => e = .returned (.int .i64 (a1 + n)) ∧ Like w w' ∧ Below w0.heap.size w0 w' ∧ Kept w w' P_ := by
  have hlen := sumN_len nm_RNode one_RNode l0
  obtain ⟨A, c, rfl⟩ := Kd.R_slice ho0
  have HO := q_ ho0
  have HB := q_ hB
  clear ho0 hB
  go_enter Try.func73, Try.ntmps73
  go_wp2
  go_loopg [1, 5] l0.length (fun gg v1 v5 w' => ∃ kk : Nat, kk ≤ l0.length ∧ l0.length - kk ≤ gg ∧ v1 = .int .i64 (a1 + (sumN nm_RNode (l0.take kk) : Nat)) ∧ v5 = .int .i64 kk ∧ J0 (Like w w') ∧ J0 (Below w0.heap.size w0 w') ∧ J0 (Kept w w' P_))
  case atStart => exact ⟨0, Nat.zero_le _, by omega, by simp [sumN], rfl, ⟨Like.refl _⟩, HB, ⟨Kept.refl _ _⟩⟩
  case round =>
    obtain ⟨kk, hkk, hg, rfl, rfl, HW, HB2, HK⟩ := hrel
    clear HB
    by_cases hlt : kk < l0.length
    · have hltz : (kk : Int) < (l0.length : Int) := by omega
      obtain ⟨ls, hR, hm⟩ := R_like keeps_RNode HO.o HW.o
      have hlen2 : ls.length = l0.length := by simpa using congrArg List.length hm
      obtain ⟨g, cap, hv, hgw, _, _⟩ := Kd.R_form hR (by omega)
      have hA : A = some ⟨g, 0, none⟩ := by injection hv
      subst hA
      obtain ⟨cs, cur, hM, hcc, hG, hP, _⟩ := R_at hR kk (by omega)
      have hmk : nm_RNode ls[kk] = nm_RNode l0[kk] := by
        have := congrArg (fun q => q[kk]?) hm
        simp only [List.getElem?_map] at this
        rw [List.getElem?_eq_getElem (by omega), List.getElem?_eq_getElem hlt] at this
        simpa using this
      have hcnt := sumN_take nm_RNode l0 kk hlt
      have hcle := sumN_le nm_RNode l0 (kk + 1)
      rw [← hmk] at hcnt
      obtain ⟨x, hxe⟩ : ∃ x, x = ls[kk] := ⟨_, rfl⟩
      rw [← hxe] at hM hcnt
      clear hxe hmk
      obtain ⟨v1, v2, rfl, hR1, hR2⟩ := k156_openM hM
      obtain ⟨A1, c1, rfl⟩ := Kd.R_slice hR1
      obtain ⟨A2, c2, rfl⟩ := Kd.R_slice hR2
      have hx0 : wr.cell? ⟨g, kk * 5, none⟩ = some (.int .i64 x.f0) := hcc 0 _ rfl
      have hx1 : wr.cell? ⟨g, kk * 5 + 1, none⟩ = some (.slice A1 x.f1.length c1) := hcc 1 _ rfl
      have hx2 : wr.cell? ⟨g, kk * 5 + 2, none⟩ = some (.slice A2 x.f2.length c2) := hcc 2 _ rfl
      have hx3 : wr.cell? ⟨g, kk * 5 + 3, none⟩ = some (.int .i64 x.f3) := hcc 3 _ rfl
      have hx4 : wr.cell? ⟨g, kk * 5 + 4, none⟩ = some (.int .i64 x.f4) := hcc 4 _ rfl
      have X0 := q_ hx0
      have X1 := q_ hx1
      have X2 := q_ hx2
      have X3 := q_ hx3
      have X4 := q_ hx4
      have HR1 := q_ hR1
      obtain ⟨n1, hn1⟩ : ∃ n_ : Nat, sumN nm_Span x.f1 = n_ := ⟨_, rfl⟩
      have HR2 := q_ hR2
      obtain ⟨n2, hn2⟩ : ∃ n_ : Nat, sumN (fun _ => 1) x.f2 = n_ := ⟨_, rfl⟩
      have HG := q_ hG
      have HP := q_ hP
      have HL := q_ (Like.refl wr)
      obtain ⟨K, hK⟩ : ∃ K : Int, a1 + (sumN nm_RNode (l0.take kk) : Nat) = K := ⟨_, rfl⟩
      have hmx : nm_RNode x = 1 + (sumN nm_Span x.f1 + (sumN (fun _ => 1) x.f2 + (1 + 1))) := rfl
      rw [hmx] at hcnt
      clear hmx
      rw [hn1, hn2] at hcnt
      have hK0 : 0 ≤ K := by omega
      have hK1 : K + 1 + (n1 : Int) + (n2 : Int) + 1 + 1 = a1 + (sumN nm_RNode (l0.take (kk + 1)) : Nat) := by omega
      have hK2 : K + 1 + (n1 : Int) + (n2 : Int) + 1 + 1 ≤ 9000000000000000000 := by omega
      rw [hK]
      clear hcc hM hG hP hv hm hR hcnt hcle hx0 hx1 hx2 hx3 hx4 hR1 hR2
      have qw0 : IntKind.i64.wrap (K + 1) = K + 1 := by rw [i64_w]; exact wrap_id (by omega) (by omega)
      have qw3 : IntKind.i64.wrap (K + 1 + (n1 : Int) + (n2 : Int) + 1) = K + 1 + (n1 : Int) + (n2 : Int) + 1 := by rw [i64_w]; exact wrap_id (by omega) (by omega)
      have qw4 : IntKind.i64.wrap (K + 1 + (n1 : Int) + (n2 : Int) + 1 + 1) = K + 1 + (n1 : Int) + (n2 : Int) + 1 + 1 := by rw [i64_w]; exact wrap_id (by omega) (by omega)
      have T1 : J0 True := ⟨trivial⟩
      have T2 : J0 True := ⟨trivial⟩
      have T3 : J0 True := ⟨trivial⟩
      have T4 : J0 True := ⟨trivial⟩
      have T5 : J0 True := ⟨trivial⟩
      obtain ⟨y0, hc0, hf0⟩ := like_int HL.o HG.o X0.o
      go_wp2_with (first | ((with_reducible refine gate_store (t := 2) (p := 16) rfl ?_); clear T1; refine store_event (t := 2) (p := 16) (v := ?vo_w10) (w1 := (wr.setCell ⟨g, kk * 5, none⟩ (.int .i64 (K)))) ?hg ?ho ?hn ?hr ?_; (case ho => rfl); (case hg => rfl); (case hn => rfl); (case hr => first | (go_simp; done) | (go_simp; rfl)); intro w10 hw; replace HL := q_ (show Like wr w10 from (by rw [hw]; exact Like.put_int HL.o HG.o X0.o)); replace HB2 := q_ (show Below w0.heap.size w0 w10 from (by rw [hw]; exact below_set HB2.o hgw)); replace HK := q_ (show Kept w w10 P_ from (by rw [hw]; exact Kept.setCell HK.o (.inl HP.out) _)); clear hw hc0 hf0; have hc1 := like_slice HL.o HG.o X1.o) | (go_at_call 23; clear T2; obtain ⟨ys, hRy, hmy⟩ := R_like keeps_Span HR1.o HL.o; refine (markSpanS_walk P_ _ ys (K + 1) n1 ((sumN_map _ _ _ hmy).trans hn1) (by omega) (by omega) w0 _ HB2.o hRy).mono ?_; rintro e w11 ⟨rfl, hL_, hB3, hK3⟩; replace HL := q_ (HL.o.trans hL_); replace HB2 := q_ hB3; replace HK := q_ (HK.o.then_ hK3 (fun k hk => .inl hk)); clear hRy hmy hL_ hB3 hK3 hc1; have hc2 := like_slice HL.o HG.o X2.o) | (go_at_call 42; clear T3; obtain ⟨ys, hRy, hmy⟩ := R_like (keeps_int .i64) HR2.o HL.o; refine (markInt64S_walk P_ _ ys (K + 1 + (n1 : Int)) n2 ((sumN_map _ _ _ hmy).trans hn2) (by omega) (by omega) w0 _ HB2.o hRy).mono ?_; rintro e w12 ⟨rfl, hL_, hB3, hK3⟩; replace HL := q_ (HL.o.trans hL_); replace HB2 := q_ hB3; replace HK := q_ (HK.o.then_ hK3 (fun k hk => .inl hk)); clear hRy hmy hL_ hB3 hK3 hc2; obtain ⟨y3, hc3, hf3⟩ := like_int HL.o HG.o X3.o) | ((with_reducible refine gate_store (t := 2) (p := 37) rfl ?_); clear T4; refine store_event (t := 2) (p := 37) (v := ?vo_w13) (w1 := (w12.setCell ⟨g, kk * 5 + 3, none⟩ (.int .i64 (K + 1 + (n1 : Int) + (n2 : Int))))) ?hg ?ho ?hn ?hr ?_; (case ho => rfl); (case hg => rfl); (case hn => rfl); (case hr => first | (go_simp; done) | (go_simp; rfl)); intro w13 hw; replace HL := q_ (show Like wr w13 from (by rw [hw]; exact Like.put_int HL.o HG.o X3.o)); replace HB2 := q_ (show Below w0.heap.size w0 w13 from (by rw [hw]; exact below_set HB2.o hgw)); replace HK := q_ (show Kept w w13 P_ from (by rw [hw]; exact Kept.setCell HK.o (.inl HP.out) _)); clear hw hc3 hf3; obtain ⟨y4, hc4, hf4⟩ := like_int HL.o HG.o X4.o) | ((with_reducible refine gate_store (t := 2) (p := 44) rfl ?_); clear T5; refine store_event (t := 2) (p := 44) (v := ?vo_w14) (w1 := (w13.setCell ⟨g, kk * 5 + 4, none⟩ (.int .i64 (K + 1 + (n1 : Int) + (n2 : Int) + 1)))) ?hg ?ho ?hn ?hr ?_; (case ho => rfl); (case hg => rfl); (case hn => rfl); (case hr => first | (go_simp; done) | (go_simp; rfl)); intro w14 hw; replace HL := q_ (show Like wr w14 from (by rw [hw]; exact Like.put_int HL.o HG.o X4.o)); replace HB2 := q_ (show Below w0.heap.size w0 w14 from (by rw [hw]; exact below_set HB2.o hgw)); replace HK := q_ (show Kept w w14 P_ from (by rw [hw]; exact Kept.setCell HK.o (.inl HP.out) _)); clear hw hc4 hf4))
      go_roundg (l0.length - (kk + 1))
      case measure => omega
      case rel => exact ⟨kk + 1, by omega, by omega, by (first | (congr 1; omega) | (congr 1; done) | (congr 2; omega)), by go_num, ⟨HW.o.trans HL.o⟩, ⟨HB2.o⟩, ⟨HK.o⟩⟩
    · have hltz : ¬ (kk : Int) < (l0.length : Int) := by omega
      have hk : kk = l0.length := by omega
      subst hk
      rw [List.take_length, hn]
      go_wp2
      go_ret
      exact ⟨rfl, HW.o, HB2.o, HK.o⟩
def nm_Rx (x : S29) : Nat := sumN nm_RNode x.f0
theorem keeps_Rx : Keeps k29 nm_Rx := keeps_iso (keeps_slice keeps_RNode _) _ (fun y => ⟨y⟩) (fun _ => rfl)
theorem markRxS_walk (P_ : Nat → Prop) (u : Value) (l0 : List S29) (a1 : Int) (n : Nat) (hn : sumN nm_Rx l0 = n) (h0 : 0 ≤ a1) (h1 : a1 + n ≤ 9000000000000000000) (w0 w : World) (hB : Below w0.heap.size w0 w) (ho0 : Kd.R k29 29 w w0.heap.size P_ u l0) :
    Calls Try.prog 55 #[u, .int .i64 a1] w fun e w' => e = .returned (.int .i64 (a1 + n)) ∧ Like w w' ∧ Below w0.heap.size w0 w' ∧ Kept w w' P_ := by
  have hlen : l0.length ≤ 9223372036854775807 := by
    obtain ⟨_, _, _, _, hC_⟩ := Kd.R_reads ho0
    exact hC_.2.1
  obtain ⟨A, c, rfl⟩ := Kd.R_slice ho0
  have HO := q_ ho0
  have HB := q_ hB
  clear ho0 hB
  go_enter Try.func55, Try.ntmps55
  go_wp2
  go_loopg [1, 5] l0.length (fun gg v1 v5 w' => ∃ kk : Nat, kk ≤ l0.length ∧ l0.length - kk ≤ gg ∧ v1 = .int .i64 (a1 + (sumN nm_Rx (l0.take kk) : Nat)) ∧ v5 = .int .i64 kk ∧ J0 (Like w w') ∧ J0 (Below w0.heap.size w0 w') ∧ J0 (Kept w w' P_))
  case atStart => exact ⟨0, Nat.zero_le _, by omega, by simp [sumN], rfl, ⟨Like.refl _⟩, HB, ⟨Kept.refl _ _⟩⟩
  case round =>
    obtain ⟨kk, hkk, hg, rfl, rfl, HW, HB2, HK⟩ := hrel
    clear HB
    by_cases hlt : kk < l0.length
    · have hltz : (kk : Int) < (l0.length : Int) := by omega
      obtain ⟨ls, hR, hm⟩ := R_like keeps_Rx HO.o HW.o
      have hlen2 : ls.length = l0.length := by simpa using congrArg List.length hm
      obtain ⟨g, cap, hv, hgw, _, _⟩ := Kd.R_form hR (by omega)
      have hA : A = some ⟨g, 0, none⟩ := by injection hv
      subst hA
      obtain ⟨cs, cur, hM, hcc, hG, hP, _⟩ := R_at hR kk (by omega)
      have hmk : nm_Rx ls[kk] = nm_Rx l0[kk] := by
        have := congrArg (fun q => q[kk]?) hm
        simp only [List.getElem?_map] at this
        rw [List.getElem?_eq_getElem (by omega), List.getElem?_eq_getElem hlt] at this
        simpa using this
      have hcnt := sumN_take nm_Rx l0 kk hlt
      have hcle := sumN_le nm_Rx l0 (kk + 1)
      rw [← hmk] at hcnt
      obtain ⟨x, hxe⟩ : ∃ x, x = ls[kk] := ⟨_, rfl⟩
      rw [← hxe] at hM hcnt
      clear hxe hmk
      obtain ⟨v0, rfl, hR0⟩ := k29_openM hM
      obtain ⟨A0, c0, rfl⟩ := Kd.R_slice hR0
      have hx0 : wr.cell? ⟨g, kk, none⟩ = some (.slice A0 x.f0.length c0) := by have h_ := hcc 0 _ rfl; rwa [show kk * k29.sz + 0 = kk from Nat.mul_one kk] at h_
      have X0 := q_ hx0
      have HR0 := q_ hR0
      obtain ⟨n0, hn0⟩ : ∃ n_ : Nat, sumN nm_RNode x.f0 = n_ := ⟨_, rfl⟩
      have HG := q_ hG
      have HP := q_ hP
      have HL := q_ (Like.refl wr)
      obtain ⟨K, hK⟩ : ∃ K : Int, a1 + (sumN nm_Rx (l0.take kk) : Nat) = K := ⟨_, rfl⟩
      have hmx : nm_Rx x = sumN nm_RNode x.f0 := rfl
      rw [hmx] at hcnt
      clear hmx
      rw [hn0] at hcnt
      have hK0 : 0 ≤ K := by omega
      have hK1 : K + (n0 : Int) = a1 + (sumN nm_Rx (l0.take (kk + 1)) : Nat) := by omega
      have hK2 : K + (n0 : Int) ≤ 9000000000000000000 := by omega
      rw [hK]
      clear hcc hM hG hP hv hm hR hcnt hcle hx0 hR0
      have T1 : J0 True := ⟨trivial⟩
      have hc0 := like_slice HL.o HG.o X0.o
      go_wp2_with (go_at_call 73; clear T1; obtain ⟨ys, hRy, hmy⟩ := R_like keeps_RNode HR0.o HL.o; refine (markRNodeS_walk P_ _ ys (K) n0 ((sumN_map _ _ _ hmy).trans hn0) (by omega) (by omega) w0 _ HB2.o hRy).mono ?_; rintro e w10 ⟨rfl, hL_, hB3, hK3⟩; replace HL := q_ (HL.o.trans hL_); replace HB2 := q_ hB3; replace HK := q_ (HK.o.then_ hK3 (fun k hk => .inl hk)); clear hRy hmy hL_ hB3 hK3 hc0)
      go_roundg (l0.length - (kk + 1))
      case measure => omega
      case rel => exact ⟨kk + 1, by omega, by omega, by (first | (congr 1; omega) | (congr 1; done) | (congr 2; omega)), by go_num, ⟨HW.o.trans HL.o⟩, ⟨HB2.o⟩, ⟨HK.o⟩⟩
    · have hltz : ¬ (kk : Int) < (l0.length : Int) := by omega
      have hk : kk = l0.length := by omega
      subst hk
      rw [List.take_length, hn]
      go_wp2
      go_ret
      exact ⟨rfl, HW.o, HB2.o, HK.o⟩
end Go.Proofs.Ytijmhelacmjggaa.P
namespace Go.Proofs.Ytijmhelacmjggaa.P
open Go.RowKit Go.Proofs.YtijmhelacmjggaaW.PrintWords Go.Proofs.YtijmhelacmjggaaW.PrintLast Go.Proofs.YtijmhelacmjggaaEv
set_option linter.unusedVariables false
set_option linter.unusedSimpArgs false
theorem sumN_few {α β : Type} (m : β → Nat) (f : α → β) (v : α → Nat) (c : Nat) (h : ∀ x, m (f x) ≤ c + c * v x) : ∀ l : List α, sumN m (l.map f) ≤ c * (l.length + ws v l)
  | [] => by simp [sumN]
  | x :: xs => by
    have h1 := sumN_few m f v c h xs
    have h2 := h x
    simp only [List.map_cons, sumN, List.length_cons, ws]
    have e : c * (xs.length + 1 + (v x + ws v xs)) = c * (xs.length + ws v xs) + (c + c * v x) := by
      simp only [Nat.mul_add, Nat.mul_one]
      omega
    omega
theorem sumN_one {α : Type} : ∀ l : List α, sumN (fun _ => 1) l = l.length
  | [] => rfl
  | x :: xs => by simp only [sumN, sumN_one xs, List.length_cons]; omega
theorem sumN_span : ∀ l : List S103, sumN nm_Span l = 2 * l.length
  | [] => rfl
  | x :: xs => by simp only [sumN, sumN_span xs, List.length_cons, nm_Span]; omega
theorem nm_RNode_few (x : S152) : nm_RNode (cRNode x) ≤ 3 + 3 * wRNode x := by
  have e : nm_RNode (cRNode x) = 1 + (sumN nm_Span (x.f1.map cSpan) + (sumN (fun _ => 1) x.f2 + (1 + 1))) := rfl
  have e2 : wRNode x = x.f1.length + x.f2.length := rfl
  rw [e, e2, sumN_one, sumN_span, List.length_map]
  omega
theorem nm_Rx_few (x : S24) : nm_Rx (cRx x) ≤ 3 + 3 * wRx x := by
  have h := sumN_few nm_RNode cRNode wRNode 3 nm_RNode_few x.f0
  have e : nm_Rx (cRx x) = sumN nm_RNode (x.f0.map cRNode) := rfl
  have e2 : wRx x = x.f0.length + ws wRNode x.f0 := rfl
  rw [e, e2]
  omega
theorem ws_le {α : Type} (v : α → Nat) : ∀ (l : List α) (x : α), x ∈ l → v x ≤ ws v l
  | y :: ys, x, h => by
    simp only [ws]
    rcases List.mem_cons.1 h with rfl | h
    · omega
    · have := ws_le v ys x h
      omega
theorem rx_few {l : List S24} (h : l.length + ws wRx l ≤ 1048576) {x : S24} (hx : x ∈ l) : (cRx x).f0.length ≤ 1048576 := by
  have h1 := ws_le wRx l x hx
  have e2 : wRx x = x.f0.length + ws wRNode x.f0 := rfl
  have e3 : (cRx x).f0.length = x.f0.length := by simp [cRx]
  omega
end Go.Proofs.Ytijmhelacmjggaa.P
set_option linter.unusedVariables false
set_option linter.unusedSimpArgs false
namespace Go.Proofs.Ytijmhelacmjggaa.P
open Go.RowKit Go.Proofs.YtijmhelacmjggaaW.PrintWords Go.Proofs.YtijmhelacmjggaaW.PrintLast Go.Proofs.YtijmhelacmjggaaW.PrintMore Go.Proofs.YtijmhelacmjggaaEv
def laws_FnExactBuildNfa.dom_ (l0 : List S24) : Prop := (l0.length ≤ maxLen ∧ ∀ y ∈ l0, g24 y)
open Classical in
noncomputable def laws_FnExactBuildNfa.f (k : Nat) (l0 : List S24) : Option Bool := if laws_FnExactBuildNfa.dom_ l0 then some true else none
theorem laws_FnExactBuildNfa.calls (k : Nat) (A0 : Option Addr) (c0 : Nat) (l0 : List S24) (r : Bool) (w : World) (hr0 : Kd.C k24 w A0 l0.length l0) (hc0 : l0.length ≤ c0) (h : laws_FnExactBuildNfa.f k l0 = some r) :
  Calls Try.prog 11 #[.slice A0 l0.length c0] w fun e w' => e = .returned (.bool r) ∧ Below w.heap.size w w' := by
  have hok : laws_FnExactBuildNfa.dom_ l0 := by
    unfold laws_FnExactBuildNfa.f at h
    split at h
    · assumption
    · simp at h
  have hr : r = true := by
    unfold laws_FnExactBuildNfa.f at h
    rw [if_pos hok] at h
    simpa using h.symm
  subst hr
  clear h
  have HR_l0 := q_ hr0
  have HC_l0 := q_ hc0
  clear hr0 hc0
  have HB := q_ (Below.refl w.heap.size w)
  by_cases hsmall : l0.length + ws wRx l0 ≤ 1048576
  · obtain ⟨hm0, hg⟩ := hok
    have hm := Nat.le_trans hm0 maxLen_le
    have hl' : (l0.map cRx).length ≤ 1048576 := by simp; omega
    have hh : ∀ x ∈ l0.map cRx, h29 x := fun y hy => by obtain ⟨z, hz, rfl⟩ := List.mem_map.1 hy; exact hRx_of_g (hg z hz)
    have hlx : ∀ x ∈ l0.map cRx, x.f0.length ≤ 1048576 := fun y hy => by obtain ⟨z, hz, rfl⟩ := List.mem_map.1 hy; exact rx_few hsmall hz
    have hcn := Nat.le_trans (sumN_few nm_Rx cRx wRx 3 nm_Rx_few l0) (Nat.mul_le_mul_left 3 hsmall)
    obtain ⟨N, ES, EN, b, hf1, hf2, hf3, ei, es⟩ := nfa_both (l0.map cRx) hlx (fun x hx y hy => ((hh x hx).2 y hy).2)
    have hcE := cntE_few ES hf3
    have hE : ∀ e ∈ ES, h187 e := fun e he => Nat.le_trans (hf3 e he) (by omega)
    obtain ⟨_, g0⟩ := ev_get (laws_szRxS_ev l0 1048576 (by omega) (by omega) hm hg)
    rw [if_neg (by omega)] at g0
    obtain ⟨_, g1⟩ := ev_get (laws_toRxS_ev l0 hsmall)
    obtain ⟨_, g2⟩ := ev_get es
    obtain ⟨_, g3⟩ := ev_get ei
    obtain ⟨_, g4⟩ := ev_get (laws_eqNfa_ev N ES EN (by omega) hE (by omega))
    obtain ⟨_, g5⟩ := ev_get (laws_eqRxS_ev (l0.map cRx) (by omega) hh)
    obtain ⟨_, g7⟩ := ev_get (laws_heldNfa_ev N ES EN.length 1 (by omega) (by omega) (by omega))
    obtain ⟨M, hM⟩ : ∃ M : Nat, sumN nm_Rx (l0.map cRx) = M := ⟨_, rfl⟩
    rw [hM] at hcn
    have n1 : decide ((1048576 : Int) - ((l0.length + ws wRx l0 : Nat) : Int) < 0) = false := decide_eq_false (by omega)
    have n2 : decide ((1 : Int) + (M : Int) < 0) = false := decide_eq_false (by omega)
    have F1 := q_ (by omega : (1 : Int) + M ≤ 9000000000000000000)
    have F2 := q_ hM
    have F3 := q_ (by omega : (1 : Int) + cntE ES + 2 * EN.length ≤ 9000000000000000000)
    have F4 := q_ (by omega : (ES.length : Int) ≤ 9000000000000000000)
    have n3 : decide ((1 : Int) + cntE ES + 2 * (EN.length : Int) < 0) = false := decide_eq_false (by omega)
    have n4 : (b != b) = false := bne_self_eq_false b
    have E0 := q_ g0
    have E1 := q_ g1
    have E2 := q_ g2
    have E3 := q_ g3
    have E4 := q_ g4
    have E5 := q_ g5
    have E7 := q_ g7
    clear g0 g1 g2 g3 g4 g5 g7 hcn hf1 hf2 hf3 hcE hE hh hl' hm hm0 hg hM ei es hlx
    generalize l0.map cRx = X at *
    have T1 : J0 True := ⟨trivial⟩
    have T2 : J0 True := ⟨trivial⟩
    have T3 : J0 True := ⟨trivial⟩
    have T4 : J0 True := ⟨trivial⟩
    have T5 : J0 True := ⟨trivial⟩
    have T6 : J0 True := ⟨trivial⟩
    have T7 : J0 True := ⟨trivial⟩
    have T8 : J0 True := ⟨trivial⟩
    have T9 : J0 True := ⟨trivial⟩
    have T10 : J0 True := ⟨trivial⟩
    have T11 : J0 True := ⟨trivial⟩
    have T12 : J0 True := ⟨trivial⟩
    have T13 : J0 True := ⟨trivial⟩
    have T14 : J0 True := ⟨trivial⟩
    have T15 : J0 True := ⟨trivial⟩
    have T16 : J0 True := ⟨trivial⟩
    go_enter Try.func11, Try.ntmps11
    go_wp2_with (go_at_call 49; clear T1; refine (laws_szRxS.calls _ _ _ _ _ _ _ (Kd.C_below HR_l0.o HB.o) (HC_l0.o) E0.o).mono ?_; rintro e w1 ⟨rfl, hb⟩; have Y1 := q_ hb.size; replace HB := sb_ HB hb; clear hb)
    go_wp2_with (go_at_call 51; clear T2; refine (laws_toRxS.calls _ _ _ _ _ _ (Kd.C_below HR_l0.o HB.o) (HC_l0.o) E1.o).mono ?_; rintro e w2 ⟨v_a, rfl, hO, hb⟩; obtain ⟨lo_a, hi_a, hz, hO⟩ := R_born hO HB.o; have Z_a := q_ hz; clear hz; obtain ⟨A_a, c_a, rfl⟩ := Kd.R_slice hO; have O_a := q_ hO; clear hO; have Y2 := q_ hb.size; replace HB := sb_ HB hb; clear hb)
    go_wp2_with (go_at_call 50; clear T3; refine (spec_BuildNfa.calls _ _ _ _ _ _ _ _ _ (C_of_R O_a.o) (L_of_R O_a.o) E2.o).mono ?_; rintro e w3 ⟨v_w1, v_w2, rfl, hO, hO2, hb⟩; replace O_a := Rb_ O_a hb; obtain ⟨lo_w1, hi_w1, hz, hO, hO2⟩ := SR_born hO hO2 HB.o; have Z_w1 := q_ hz; clear hz; obtain ⟨A_w1, c_w1, rfl⟩ := Kd.S_slice hO; have O_w1 := q_ hO; clear hO; obtain ⟨A_w2, c_w2, rfl⟩ := Kd.R_slice hO2; have O_w2 := q_ hO2; clear hO2; have Y3 := q_ hb.size; replace HB := sb_ HB hb; clear hb)
    go_wp2_with (go_at_call 51; clear T4; obtain ⟨w4, hW⟩ : ∃ w_ : World, w_ = w3.alloc (.cells #[.int .i64 N, .slice A_w1 ES.length c_w1, .slice A_w2 EN.length c_w2] 78) := ⟨_, rfl⟩; obtain ⟨gb_w1_w2, hg⟩ : ∃ g_ : Nat, g_ = w3.heap.size := ⟨_, rfl⟩; rw [← hW, ← hg]; have hb : Below w3.heap.size w3 w4 := (by rw [hW]; exact below_alloc (Below.refl _ _) _); have hbox : w4.heap[gb_w1_w2]? = some (.cells #[.int .i64 N, .slice A_w1 ES.length c_w1, .slice A_w2 EN.length c_w2] 78 (0, 0)) := (by rw [hW, hg]; exact blk_new _ _); replace O_a := Rb_ O_a hb; replace O_w1 := Sb_ O_w1 hb; replace O_w2 := Rb_ O_w2 hb; have BK_w1_w2 := q_ hbox; have GB_w1_w2 := q_ hg; have LB_w1_w2 := q_ (blk_lt hbox); have Y4 := q_ hb.size; replace HB := sb_ HB hb; have hcz_w1_w2_0 : w4.cell? ⟨gb_w1_w2, 0, none⟩ = some (.int .i64 N) := (blk_cell BK_w1_w2.o 0).trans rfl; have hcz_w1_w2_1 : w4.cell? ⟨gb_w1_w2, 1, none⟩ = some (.slice A_w1 ES.length c_w1) := (blk_cell BK_w1_w2.o 1).trans rfl; have hcz_w1_w2_2 : w4.cell? ⟨gb_w1_w2, 2, none⟩ = some (.slice A_w2 EN.length c_w2) := (blk_cell BK_w1_w2.o 2).trans rfl; clear hb hg hbox hW; refine (laws_toRxS.calls _ _ _ _ _ _ (Kd.C_below HR_l0.o HB.o) (HC_l0.o) E1.o).mono ?_; rintro e w5 ⟨v_x, rfl, hO, hb⟩; replace O_a := Rb_ O_a hb; replace O_w1 := Sb_ O_w1 hb; replace O_w2 := Rb_ O_w2 hb; replace BK_w1_w2 := lb_ BK_w1_w2 hb; replace hcz_w1_w2_0 := (d3_ BK_w1_w2).1; replace hcz_w1_w2_1 : w5.cell? ⟨gb_w1_w2, 1, none⟩ = some (.slice A_w1 ES.length c_w1) := (blk_cell BK_w1_w2.o 1).trans rfl; replace hcz_w1_w2_2 : w5.cell? ⟨gb_w1_w2, 2, none⟩ = some (.slice A_w2 EN.length c_w2) := (blk_cell BK_w1_w2.o 2).trans rfl; obtain ⟨lo_x, hi_x, hz, hO⟩ := R_born hO HB.o; have Z_x := q_ hz; clear hz; obtain ⟨A_x, c_x, rfl⟩ := Kd.R_slice hO; have O_x := q_ hO; clear hO; have Y5 := q_ hb.size; replace HB := sb_ HB hb; clear hb)
    go_wp2_with (go_at_call 52; clear T5; refine (impl_BuildNfa.calls _ _ _ _ _ _ _ _ (C_of_R O_x.o) (L_of_R O_x.o) E3.o).mono ?_; rintro e w6 ⟨v_g1, v_g2, rfl, hO, hO2, hb⟩; replace O_a := Rb_ O_a hb; replace O_w1 := Sb_ O_w1 hb; replace O_w2 := Rb_ O_w2 hb; replace O_x := Rb_ O_x hb; replace BK_w1_w2 := lb_ BK_w1_w2 hb; replace hcz_w1_w2_0 := (d3_ BK_w1_w2).1; replace hcz_w1_w2_1 : w6.cell? ⟨gb_w1_w2, 1, none⟩ = some (.slice A_w1 ES.length c_w1) := (blk_cell BK_w1_w2.o 1).trans rfl; replace hcz_w1_w2_2 : w6.cell? ⟨gb_w1_w2, 2, none⟩ = some (.slice A_w2 EN.length c_w2) := (blk_cell BK_w1_w2.o 2).trans rfl; obtain ⟨lo_g1, hi_g1, hz, hO, hO2⟩ := SR_born hO hO2 HB.o; have Z_g1 := q_ hz; clear hz; obtain ⟨A_g1, c_g1, rfl⟩ := Kd.S_slice hO; have O_g1 := q_ hO; clear hO; obtain ⟨A_g2, c_g2, rfl⟩ := Kd.R_slice hO2; have O_g2 := q_ hO2; clear hO2; have Y6 := q_ hb.size; replace HB := sb_ HB hb; clear hb; have hal_w1_w2_0 : ∀ o_, (w6.alloc o_).cell? ⟨gb_w1_w2, 0, none⟩ = some (.int .i64 N) := fun o_ => ((below_alloc (Below.refl _ _) o_ : Below w6.heap.size w6 _).cell (blk_lt BK_w1_w2.o)).trans hcz_w1_w2_0; have hal_w1_w2_1 : ∀ o_, (w6.alloc o_).cell? ⟨gb_w1_w2, 1, none⟩ = some (.slice A_w1 ES.length c_w1) := fun o_ => ((below_alloc (Below.refl _ _) o_ : Below w6.heap.size w6 _).cell (blk_lt BK_w1_w2.o)).trans hcz_w1_w2_1; have hal_w1_w2_2 : ∀ o_, (w6.alloc o_).cell? ⟨gb_w1_w2, 2, none⟩ = some (.slice A_w2 EN.length c_w2) := fun o_ => ((below_alloc (Below.refl _ _) o_ : Below w6.heap.size w6 _).cell (blk_lt BK_w1_w2.o)).trans hcz_w1_w2_2)
    go_wp2_with (go_at_call 53; clear T6; clear hal_w1_w2_0 hal_w1_w2_1 hal_w1_w2_2; obtain ⟨w7, hW⟩ : ∃ w_ : World, w_ = w6.alloc (.cells #[.int .i64 N, .slice A_g1 ES.length c_g1, .slice A_g2 EN.length c_g2] 78) := ⟨_, rfl⟩; obtain ⟨gb_g1_g2, hg⟩ : ∃ g_ : Nat, g_ = w6.heap.size := ⟨_, rfl⟩; rw [← hW, ← hg]; have hb : Below w6.heap.size w6 w7 := (by rw [hW]; exact below_alloc (Below.refl _ _) _); have hbox : w7.heap[gb_g1_g2]? = some (.cells #[.int .i64 N, .slice A_g1 ES.length c_g1, .slice A_g2 EN.length c_g2] 78 (0, 0)) := (by rw [hW, hg]; exact blk_new _ _); replace O_a := Rb_ O_a hb; replace O_w1 := Sb_ O_w1 hb; replace O_w2 := Rb_ O_w2 hb; replace O_x := Rb_ O_x hb; replace O_g1 := Sb_ O_g1 hb; replace O_g2 := Rb_ O_g2 hb; replace BK_w1_w2 := lb_ BK_w1_w2 hb; replace hcz_w1_w2_0 := (d3_ BK_w1_w2).1; replace hcz_w1_w2_1 : w7.cell? ⟨gb_w1_w2, 1, none⟩ = some (.slice A_w1 ES.length c_w1) := (blk_cell BK_w1_w2.o 1).trans rfl; replace hcz_w1_w2_2 : w7.cell? ⟨gb_w1_w2, 2, none⟩ = some (.slice A_w2 EN.length c_w2) := (blk_cell BK_w1_w2.o 2).trans rfl; have BK_g1_g2 := q_ hbox; have GB_g1_g2 := q_ hg; have LB_g1_g2 := q_ (blk_lt hbox); have Y7 := q_ hb.size; replace HB := sb_ HB hb; have hcz_g1_g2_0 : w7.cell? ⟨gb_g1_g2, 0, none⟩ = some (.int .i64 N) := (blk_cell BK_g1_g2.o 0).trans rfl; have hcz_g1_g2_1 : w7.cell? ⟨gb_g1_g2, 1, none⟩ = some (.slice A_g1 ES.length c_g1) := (blk_cell BK_g1_g2.o 1).trans rfl; have hcz_g1_g2_2 : w7.cell? ⟨gb_g1_g2, 2, none⟩ = some (.slice A_g2 EN.length c_g2) := (blk_cell BK_g1_g2.o 2).trans rfl; clear hb hg hbox hW; refine (laws_eqNfa.calls _ _ _ _ _ _ _ _ _ _ _ _ _ _ _ _ _ (C_of_S O_g1.o) (L_of_S O_g1.o) (C_of_R O_g2.o) (L_of_R O_g2.o) (C_of_S O_w1.o) (L_of_S O_w1.o) (C_of_R O_w2.o) (L_of_R O_w2.o) E4.o).mono ?_; rintro e w8 ⟨rfl, hb⟩; replace O_a := Rb_ O_a hb; replace O_w1 := Sb_ O_w1 hb; replace O_w2 := Rb_ O_w2 hb; replace O_x := Rb_ O_x hb; replace O_g1 := Sb_ O_g1 hb; replace O_g2 := Rb_ O_g2 hb; replace BK_w1_w2 := lb_ BK_w1_w2 hb; replace hcz_w1_w2_0 := (d3_ BK_w1_w2).1; replace hcz_w1_w2_1 : w8.cell? ⟨gb_w1_w2, 1, none⟩ = some (.slice A_w1 ES.length c_w1) := (blk_cell BK_w1_w2.o 1).trans rfl; replace hcz_w1_w2_2 : w8.cell? ⟨gb_w1_w2, 2, none⟩ = some (.slice A_w2 EN.length c_w2) := (blk_cell BK_w1_w2.o 2).trans rfl; replace BK_g1_g2 := lb_ BK_g1_g2 hb; replace hcz_g1_g2_0 := (d3_ BK_g1_g2).1; replace hcz_g1_g2_1 : w8.cell? ⟨gb_g1_g2, 1, none⟩ = some (.slice A_g1 ES.length c_g1) := (blk_cell BK_g1_g2.o 1).trans rfl; replace hcz_g1_g2_2 : w8.cell? ⟨gb_g1_g2, 2, none⟩ = some (.slice A_g2 EN.length c_g2) := (blk_cell BK_g1_g2.o 2).trans rfl; have Y8 := q_ hb.size; replace HB := sb_ HB hb; clear hb)
    go_wp2_with (go_at_call 51; clear T7; refine (laws_toRxS.calls _ _ _ _ _ _ (Kd.C_below HR_l0.o HB.o) (HC_l0.o) E1.o).mono ?_; rintro e w9 ⟨v_b, rfl, hO, hb⟩; replace O_a := Rb_ O_a hb; replace O_w1 := Sb_ O_w1 hb; replace O_w2 := Rb_ O_w2 hb; replace O_x := Rb_ O_x hb; replace O_g1 := Sb_ O_g1 hb; replace O_g2 := Rb_ O_g2 hb; replace BK_w1_w2 := lb_ BK_w1_w2 hb; replace hcz_w1_w2_0 := (d3_ BK_w1_w2).1; replace hcz_w1_w2_1 : w9.cell? ⟨gb_w1_w2, 1, none⟩ = some (.slice A_w1 ES.length c_w1) := (blk_cell BK_w1_w2.o 1).trans rfl; replace hcz_w1_w2_2 : w9.cell? ⟨gb_w1_w2, 2, none⟩ = some (.slice A_w2 EN.length c_w2) := (blk_cell BK_w1_w2.o 2).trans rfl; replace BK_g1_g2 := lb_ BK_g1_g2 hb; replace hcz_g1_g2_0 := (d3_ BK_g1_g2).1; replace hcz_g1_g2_1 : w9.cell? ⟨gb_g1_g2, 1, none⟩ = some (.slice A_g1 ES.length c_g1) := (blk_cell BK_g1_g2.o 1).trans rfl; replace hcz_g1_g2_2 : w9.cell? ⟨gb_g1_g2, 2, none⟩ = some (.slice A_g2 EN.length c_g2) := (blk_cell BK_g1_g2.o 2).trans rfl; obtain ⟨lo_b, hi_b, hz, hO⟩ := R_born hO HB.o; have Z_b := q_ hz; clear hz; obtain ⟨A_b, c_b, rfl⟩ := Kd.R_slice hO; have O_b := q_ hO; clear hO; have Y9 := q_ hb.size; replace HB := sb_ HB hb; clear hb)
    go_wp2_with (go_at_call 54; clear T8; refine (laws_eqRxS.calls _ _ _ _ _ _ _ _ _ (C_of_R O_x.o) (L_of_R O_x.o) (C_of_R O_b.o) (L_of_R O_b.o) E5.o).mono ?_; rintro e w10 ⟨rfl, hb⟩; replace O_a := Rb_ O_a hb; replace O_w1 := Sb_ O_w1 hb; replace O_w2 := Rb_ O_w2 hb; replace O_x := Rb_ O_x hb; replace O_g1 := Sb_ O_g1 hb; replace O_g2 := Rb_ O_g2 hb; replace O_b := Rb_ O_b hb; replace BK_w1_w2 := lb_ BK_w1_w2 hb; replace hcz_w1_w2_0 := (d3_ BK_w1_w2).1; replace hcz_w1_w2_1 : w10.cell? ⟨gb_w1_w2, 1, none⟩ = some (.slice A_w1 ES.length c_w1) := (blk_cell BK_w1_w2.o 1).trans rfl; replace hcz_w1_w2_2 : w10.cell? ⟨gb_w1_w2, 2, none⟩ = some (.slice A_w2 EN.length c_w2) := (blk_cell BK_w1_w2.o 2).trans rfl; replace BK_g1_g2 := lb_ BK_g1_g2 hb; replace hcz_g1_g2_0 := (d3_ BK_g1_g2).1; replace hcz_g1_g2_1 : w10.cell? ⟨gb_g1_g2, 1, none⟩ = some (.slice A_g1 ES.length c_g1) := (blk_cell BK_g1_g2.o 1).trans rfl; replace hcz_g1_g2_2 : w10.cell? ⟨gb_g1_g2, 2, none⟩ = some (.slice A_g2 EN.length c_g2) := (blk_cell BK_g1_g2.o 2).trans rfl; have Y10 := q_ hb.size; replace HB := sb_ HB hb; clear hb)
    go_wp2_with (go_at_call 55; clear T9; refine (markRxS_walk _ _ X 1 M F2.o (by omega) F1.o w _ HB.o O_x.o).mono ?_; rintro e w11 ⟨rfl, _, hB2, hK⟩; have z0 := Y1.o; have z1 := Z_a.o; have z2 := Y2.o; have z3 := Z_w1.o; have z4 := Y3.o; have z5 := GB_w1_w2.o; have z6 := LB_w1_w2.o; have z7 := Y4.o; have z8 := Z_x.o; have z9 := Y5.o; have z10 := Z_g1.o; have z11 := Y6.o; have z12 := GB_g1_g2.o; have z13 := LB_g1_g2.o; have z14 := Y7.o; have z15 := Y8.o; have z16 := Z_b.o; have z17 := Y9.o; have z18 := Y10.o; replace O_a := q_ (R_beside O_a.o (by omega) hK (by omega)); replace O_w1 := q_ (S_beside O_w1.o (by omega) hK (by omega)); replace O_w2 := q_ (R_beside O_w2.o (by omega) hK (by omega)); replace O_g1 := q_ (S_beside O_g1.o (by omega) hK (by omega)); replace O_g2 := q_ (R_beside O_g2.o (by omega) hK (by omega)); replace O_b := q_ (R_beside O_b.o (by omega) hK (by omega)); replace BK_w1_w2 := q_ ((hK.2 gb_w1_w2 (by omega) (fun h2 => by have y0 := h2.1; have y1 := h2.2; omega)).trans BK_w1_w2.o); replace hcz_w1_w2_0 := (d3_ BK_w1_w2).1; replace hcz_w1_w2_1 : w11.cell? ⟨gb_w1_w2, 1, none⟩ = some (.slice A_w1 ES.length c_w1) := (blk_cell BK_w1_w2.o 1).trans rfl; replace hcz_w1_w2_2 : w11.cell? ⟨gb_w1_w2, 2, none⟩ = some (.slice A_w2 EN.length c_w2) := (blk_cell BK_w1_w2.o 2).trans rfl; replace BK_g1_g2 := q_ ((hK.2 gb_g1_g2 (by omega) (fun h2 => by have y0 := h2.1; have y1 := h2.2; omega)).trans BK_g1_g2.o); replace hcz_g1_g2_0 := (d3_ BK_g1_g2).1; replace hcz_g1_g2_1 : w11.cell? ⟨gb_g1_g2, 1, none⟩ = some (.slice A_g1 ES.length c_g1) := (blk_cell BK_g1_g2.o 1).trans rfl; replace hcz_g1_g2_2 : w11.cell? ⟨gb_g1_g2, 2, none⟩ = some (.slice A_g2 EN.length c_g2) := (blk_cell BK_g1_g2.o 2).trans rfl; clear z0 z1 z2 z3 z4 z5 z6 z7 z8 z9 z10 z11 z12 z13 z14 z15 z16 z17 z18; clear O_x; have Y11 := q_ hK.1; replace HB := q_ hB2; clear hB2 hK)
    go_wp2_with (go_at_call 53; clear T10; refine (laws_eqNfa.calls _ _ _ _ _ _ _ _ _ _ _ _ _ _ _ _ _ (C_of_S O_g1.o) (L_of_S O_g1.o) (C_of_R O_g2.o) (L_of_R O_g2.o) (C_of_S O_w1.o) (L_of_S O_w1.o) (C_of_R O_w2.o) (L_of_R O_w2.o) E4.o).mono ?_; rintro e w12 ⟨rfl, hb⟩; replace O_a := Rb_ O_a hb; replace O_w1 := Sb_ O_w1 hb; replace O_w2 := Rb_ O_w2 hb; replace O_g1 := Sb_ O_g1 hb; replace O_g2 := Rb_ O_g2 hb; replace O_b := Rb_ O_b hb; replace BK_w1_w2 := lb_ BK_w1_w2 hb; replace hcz_w1_w2_0 := (d3_ BK_w1_w2).1; replace hcz_w1_w2_1 : w12.cell? ⟨gb_w1_w2, 1, none⟩ = some (.slice A_w1 ES.length c_w1) := (blk_cell BK_w1_w2.o 1).trans rfl; replace hcz_w1_w2_2 : w12.cell? ⟨gb_w1_w2, 2, none⟩ = some (.slice A_w2 EN.length c_w2) := (blk_cell BK_w1_w2.o 2).trans rfl; replace BK_g1_g2 := lb_ BK_g1_g2 hb; replace hcz_g1_g2_0 := (d3_ BK_g1_g2).1; replace hcz_g1_g2_1 : w12.cell? ⟨gb_g1_g2, 1, none⟩ = some (.slice A_g1 ES.length c_g1) := (blk_cell BK_g1_g2.o 1).trans rfl; replace hcz_g1_g2_2 : w12.cell? ⟨gb_g1_g2, 2, none⟩ = some (.slice A_g2 EN.length c_g2) := (blk_cell BK_g1_g2.o 2).trans rfl; have Y12 := q_ hb.size; replace HB := sb_ HB hb; clear hb)
    go_wp2_with (go_at_call 56; clear T11; refine (markNfa_walk _ N _ _ _ _ _ _ ES EN 1 (by omega) F3.o F4.o w _ HB.o O_g1.o O_g2.o).mono ?_; rintro e w13 ⟨rfl, hO, hO2, hB2, hK⟩; have z0 := Y1.o; have z1 := Z_a.o; have z2 := Y2.o; have z3 := Z_w1.o; have z4 := Y3.o; have z5 := GB_w1_w2.o; have z6 := LB_w1_w2.o; have z7 := Y4.o; have z8 := Z_x.o; have z9 := Y5.o; have z10 := Z_g1.o; have z11 := Y6.o; have z12 := GB_g1_g2.o; have z13 := LB_g1_g2.o; have z14 := Y7.o; have z15 := Y8.o; have z16 := Z_b.o; have z17 := Y9.o; have z18 := Y10.o; have z19 := Y11.o; have z20 := Y12.o; replace O_a := q_ (R_beside O_a.o (by omega) hK (by omega)); replace O_w1 := q_ (S_beside O_w1.o (by omega) hK (by omega)); replace O_w2 := q_ (R_beside O_w2.o (by omega) hK (by omega)); replace O_b := q_ (R_beside O_b.o (by omega) hK (by omega)); replace BK_w1_w2 := q_ ((hK.2 gb_w1_w2 (by omega) (fun h2 => by have y0 := h2.1; have y1 := h2.2; omega)).trans BK_w1_w2.o); replace hcz_w1_w2_0 := (d3_ BK_w1_w2).1; replace hcz_w1_w2_1 : w13.cell? ⟨gb_w1_w2, 1, none⟩ = some (.slice A_w1 ES.length c_w1) := (blk_cell BK_w1_w2.o 1).trans rfl; replace hcz_w1_w2_2 : w13.cell? ⟨gb_w1_w2, 2, none⟩ = some (.slice A_w2 EN.length c_w2) := (blk_cell BK_w1_w2.o 2).trans rfl; replace BK_g1_g2 := q_ ((hK.2 gb_g1_g2 (by omega) (fun h2 => by have y0 := h2.1; have y1 := h2.2; omega)).trans BK_g1_g2.o); replace hcz_g1_g2_0 := (d3_ BK_g1_g2).1; replace hcz_g1_g2_1 : w13.cell? ⟨gb_g1_g2, 1, none⟩ = some (.slice A_g1 ES.length c_g1) := (blk_cell BK_g1_g2.o 1).trans rfl; replace hcz_g1_g2_2 : w13.cell? ⟨gb_g1_g2, 2, none⟩ = some (.slice A_g2 EN.length c_g2) := (blk_cell BK_g1_g2.o 2).trans rfl; clear z0 z1 z2 z3 z4 z5 z6 z7 z8 z9 z10 z11 z12 z13 z14 z15 z16 z17 z18 z19 z20; replace O_g1 := q_ hO; replace O_g2 := q_ hO2; have Y13 := q_ hK.1; replace HB := q_ hB2; clear hO hO2 hB2 hK)
    go_wp2_with (go_at_call 57; clear T12; refine (len_SR O_g1.o O_g2.o (laws_heldNfa.calls _ _ _ _ _ _ _ _ _ _ _ (C_of_S O_g1.o) (L_of_S O_g1.o) (C_of_R O_g2.o) (L_of_R O_g2.o) E7.o)).mono ?_; rintro e w14 ⟨rfl, hb⟩; replace O_a := Rb_ O_a hb; replace O_w1 := Sb_ O_w1 hb; replace O_w2 := Rb_ O_w2 hb; replace O_g1 := Sb_ O_g1 hb; replace O_g2 := Rb_ O_g2 hb; replace O_b := Rb_ O_b hb; replace BK_w1_w2 := lb_ BK_w1_w2 hb; replace hcz_w1_w2_0 := (d3_ BK_w1_w2).1; replace hcz_w1_w2_1 : w14.cell? ⟨gb_w1_w2, 1, none⟩ = some (.slice A_w1 ES.length c_w1) := (blk_cell BK_w1_w2.o 1).trans rfl; replace hcz_w1_w2_2 : w14.cell? ⟨gb_w1_w2, 2, none⟩ = some (.slice A_w2 EN.length c_w2) := (blk_cell BK_w1_w2.o 2).trans rfl; replace BK_g1_g2 := lb_ BK_g1_g2 hb; replace hcz_g1_g2_0 := (d3_ BK_g1_g2).1; replace hcz_g1_g2_1 : w14.cell? ⟨gb_g1_g2, 1, none⟩ = some (.slice A_g1 ES.length c_g1) := (blk_cell BK_g1_g2.o 1).trans rfl; replace hcz_g1_g2_2 : w14.cell? ⟨gb_g1_g2, 2, none⟩ = some (.slice A_g2 EN.length c_g2) := (blk_cell BK_g1_g2.o 2).trans rfl; have Y14 := q_ hb.size; replace HB := sb_ HB hb; clear hb)
    go_wp2_with (go_at_call 51; clear T13; refine (laws_toRxS.calls _ _ _ _ _ _ (Kd.C_below HR_l0.o HB.o) (HC_l0.o) E1.o).mono ?_; rintro e w15 ⟨v_c, rfl, hO, hb⟩; replace O_a := Rb_ O_a hb; replace O_w1 := Sb_ O_w1 hb; replace O_w2 := Rb_ O_w2 hb; replace O_g1 := Sb_ O_g1 hb; replace O_g2 := Rb_ O_g2 hb; replace O_b := Rb_ O_b hb; replace BK_w1_w2 := lb_ BK_w1_w2 hb; replace hcz_w1_w2_0 := (d3_ BK_w1_w2).1; replace hcz_w1_w2_1 : w15.cell? ⟨gb_w1_w2, 1, none⟩ = some (.slice A_w1 ES.length c_w1) := (blk_cell BK_w1_w2.o 1).trans rfl; replace hcz_w1_w2_2 : w15.cell? ⟨gb_w1_w2, 2, none⟩ = some (.slice A_w2 EN.length c_w2) := (blk_cell BK_w1_w2.o 2).trans rfl; replace BK_g1_g2 := lb_ BK_g1_g2 hb; replace hcz_g1_g2_0 := (d3_ BK_g1_g2).1; replace hcz_g1_g2_1 : w15.cell? ⟨gb_g1_g2, 1, none⟩ = some (.slice A_g1 ES.length c_g1) := (blk_cell BK_g1_g2.o 1).trans rfl; replace hcz_g1_g2_2 : w15.cell? ⟨gb_g1_g2, 2, none⟩ = some (.slice A_g2 EN.length c_g2) := (blk_cell BK_g1_g2.o 2).trans rfl; obtain ⟨lo_c, hi_c, hz, hO⟩ := R_born hO HB.o; have Z_c := q_ hz; clear hz; obtain ⟨A_c, c_c, rfl⟩ := Kd.R_slice hO; have O_c := q_ hO; clear hO; have Y15 := q_ hb.size; replace HB := sb_ HB hb; clear hb)
    go_wp2_with (go_at_call 52; clear T14; refine (impl_BuildNfa.calls _ _ _ _ _ _ _ _ (C_of_R O_c.o) (L_of_R O_c.o) E3.o).mono ?_; rintro e w16 ⟨v_h1, v_h2, rfl, hO, hO2, hb⟩; replace O_a := Rb_ O_a hb; replace O_w1 := Sb_ O_w1 hb; replace O_w2 := Rb_ O_w2 hb; replace O_g1 := Sb_ O_g1 hb; replace O_g2 := Rb_ O_g2 hb; replace O_b := Rb_ O_b hb; replace O_c := Rb_ O_c hb; replace BK_w1_w2 := lb_ BK_w1_w2 hb; replace hcz_w1_w2_0 := (d3_ BK_w1_w2).1; replace hcz_w1_w2_1 : w16.cell? ⟨gb_w1_w2, 1, none⟩ = some (.slice A_w1 ES.length c_w1) := (blk_cell BK_w1_w2.o 1).trans rfl; replace hcz_w1_w2_2 : w16.cell? ⟨gb_w1_w2, 2, none⟩ = some (.slice A_w2 EN.length c_w2) := (blk_cell BK_w1_w2.o 2).trans rfl; replace BK_g1_g2 := lb_ BK_g1_g2 hb; replace hcz_g1_g2_0 := (d3_ BK_g1_g2).1; replace hcz_g1_g2_1 : w16.cell? ⟨gb_g1_g2, 1, none⟩ = some (.slice A_g1 ES.length c_g1) := (blk_cell BK_g1_g2.o 1).trans rfl; replace hcz_g1_g2_2 : w16.cell? ⟨gb_g1_g2, 2, none⟩ = some (.slice A_g2 EN.length c_g2) := (blk_cell BK_g1_g2.o 2).trans rfl; obtain ⟨lo_h1, hi_h1, hz, hO, hO2⟩ := SR_born hO hO2 HB.o; have Z_h1 := q_ hz; clear hz; obtain ⟨A_h1, c_h1, rfl⟩ := Kd.S_slice hO; have O_h1 := q_ hO; clear hO; obtain ⟨A_h2, c_h2, rfl⟩ := Kd.R_slice hO2; have O_h2 := q_ hO2; clear hO2; have Y16 := q_ hb.size; replace HB := sb_ HB hb; clear hb; have hal_w1_w2_0 : ∀ o_, (w16.alloc o_).cell? ⟨gb_w1_w2, 0, none⟩ = some (.int .i64 N) := fun o_ => ((below_alloc (Below.refl _ _) o_ : Below w16.heap.size w16 _).cell (blk_lt BK_w1_w2.o)).trans hcz_w1_w2_0; have hal_w1_w2_1 : ∀ o_, (w16.alloc o_).cell? ⟨gb_w1_w2, 1, none⟩ = some (.slice A_w1 ES.length c_w1) := fun o_ => ((below_alloc (Below.refl _ _) o_ : Below w16.heap.size w16 _).cell (blk_lt BK_w1_w2.o)).trans hcz_w1_w2_1; have hal_w1_w2_2 : ∀ o_, (w16.alloc o_).cell? ⟨gb_w1_w2, 2, none⟩ = some (.slice A_w2 EN.length c_w2) := fun o_ => ((below_alloc (Below.refl _ _) o_ : Below w16.heap.size w16 _).cell (blk_lt BK_w1_w2.o)).trans hcz_w1_w2_2; have hal_g1_g2_0 : ∀ o_, (w16.alloc o_).cell? ⟨gb_g1_g2, 0, none⟩ = some (.int .i64 N) := fun o_ => ((below_alloc (Below.refl _ _) o_ : Below w16.heap.size w16 _).cell (blk_lt BK_g1_g2.o)).trans hcz_g1_g2_0; have hal_g1_g2_1 : ∀ o_, (w16.alloc o_).cell? ⟨gb_g1_g2, 1, none⟩ = some (.slice A_g1 ES.length c_g1) := fun o_ => ((below_alloc (Below.refl _ _) o_ : Below w16.heap.size w16 _).cell (blk_lt BK_g1_g2.o)).trans hcz_g1_g2_1; have hal_g1_g2_2 : ∀ o_, (w16.alloc o_).cell? ⟨gb_g1_g2, 2, none⟩ = some (.slice A_g2 EN.length c_g2) := fun o_ => ((below_alloc (Below.refl _ _) o_ : Below w16.heap.size w16 _).cell (blk_lt BK_g1_g2.o)).trans hcz_g1_g2_2)
    go_wp2_with (go_at_call 53; clear T15; clear hal_w1_w2_0 hal_w1_w2_1 hal_w1_w2_2 hal_g1_g2_0 hal_g1_g2_1 hal_g1_g2_2; obtain ⟨w17, hW⟩ : ∃ w_ : World, w_ = w16.alloc (.cells #[.int .i64 N, .slice A_h1 ES.length c_h1, .slice A_h2 EN.length c_h2] 78) := ⟨_, rfl⟩; obtain ⟨gb_h1_h2, hg⟩ : ∃ g_ : Nat, g_ = w16.heap.size := ⟨_, rfl⟩; rw [← hW, ← hg]; have hb : Below w16.heap.size w16 w17 := (by rw [hW]; exact below_alloc (Below.refl _ _) _); have hbox : w17.heap[gb_h1_h2]? = some (.cells #[.int .i64 N, .slice A_h1 ES.length c_h1, .slice A_h2 EN.length c_h2] 78 (0, 0)) := (by rw [hW, hg]; exact blk_new _ _); replace O_a := Rb_ O_a hb; replace O_w1 := Sb_ O_w1 hb; replace O_w2 := Rb_ O_w2 hb; replace O_g1 := Sb_ O_g1 hb; replace O_g2 := Rb_ O_g2 hb; replace O_b := Rb_ O_b hb; replace O_c := Rb_ O_c hb; replace O_h1 := Sb_ O_h1 hb; replace O_h2 := Rb_ O_h2 hb; replace BK_w1_w2 := lb_ BK_w1_w2 hb; replace hcz_w1_w2_0 := (d3_ BK_w1_w2).1; replace hcz_w1_w2_1 : w17.cell? ⟨gb_w1_w2, 1, none⟩ = some (.slice A_w1 ES.length c_w1) := (blk_cell BK_w1_w2.o 1).trans rfl; replace hcz_w1_w2_2 : w17.cell? ⟨gb_w1_w2, 2, none⟩ = some (.slice A_w2 EN.length c_w2) := (blk_cell BK_w1_w2.o 2).trans rfl; replace BK_g1_g2 := lb_ BK_g1_g2 hb; replace hcz_g1_g2_0 := (d3_ BK_g1_g2).1; replace hcz_g1_g2_1 : w17.cell? ⟨gb_g1_g2, 1, none⟩ = some (.slice A_g1 ES.length c_g1) := (blk_cell BK_g1_g2.o 1).trans rfl; replace hcz_g1_g2_2 : w17.cell? ⟨gb_g1_g2, 2, none⟩ = some (.slice A_g2 EN.length c_g2) := (blk_cell BK_g1_g2.o 2).trans rfl; have BK_h1_h2 := q_ hbox; have GB_h1_h2 := q_ hg; have LB_h1_h2 := q_ (blk_lt hbox); have Y17 := q_ hb.size; replace HB := sb_ HB hb; have hcz_h1_h2_0 : w17.cell? ⟨gb_h1_h2, 0, none⟩ = some (.int .i64 N) := (blk_cell BK_h1_h2.o 0).trans rfl; have hcz_h1_h2_1 : w17.cell? ⟨gb_h1_h2, 1, none⟩ = some (.slice A_h1 ES.length c_h1) := (blk_cell BK_h1_h2.o 1).trans rfl; have hcz_h1_h2_2 : w17.cell? ⟨gb_h1_h2, 2, none⟩ = some (.slice A_h2 EN.length c_h2) := (blk_cell BK_h1_h2.o 2).trans rfl; clear hb hg hbox hW; refine (laws_eqNfa.calls _ _ _ _ _ _ _ _ _ _ _ _ _ _ _ _ _ (C_of_S O_h1.o) (L_of_S O_h1.o) (C_of_R O_h2.o) (L_of_R O_h2.o) (C_of_S O_w1.o) (L_of_S O_w1.o) (C_of_R O_w2.o) (L_of_R O_w2.o) E4.o).mono ?_; rintro e w18 ⟨rfl, hb⟩; replace O_a := Rb_ O_a hb; replace O_w1 := Sb_ O_w1 hb; replace O_w2 := Rb_ O_w2 hb; replace O_g1 := Sb_ O_g1 hb; replace O_g2 := Rb_ O_g2 hb; replace O_b := Rb_ O_b hb; replace O_c := Rb_ O_c hb; replace O_h1 := Sb_ O_h1 hb; replace O_h2 := Rb_ O_h2 hb; replace BK_w1_w2 := lb_ BK_w1_w2 hb; replace hcz_w1_w2_0 := (d3_ BK_w1_w2).1; replace hcz_w1_w2_1 : w18.cell? ⟨gb_w1_w2, 1, none⟩ = some (.slice A_w1 ES.length c_w1) := (blk_cell BK_w1_w2.o 1).trans rfl; replace hcz_w1_w2_2 : w18.cell? ⟨gb_w1_w2, 2, none⟩ = some (.slice A_w2 EN.length c_w2) := (blk_cell BK_w1_w2.o 2).trans rfl; replace BK_g1_g2 := lb_ BK_g1_g2 hb; replace hcz_g1_g2_0 := (d3_ BK_g1_g2).1; replace hcz_g1_g2_1 : w18.cell? ⟨gb_g1_g2, 1, none⟩ = some (.slice A_g1 ES.length c_g1) := (blk_cell BK_g1_g2.o 1).trans rfl; replace hcz_g1_g2_2 : w18.cell? ⟨gb_g1_g2, 2, none⟩ = some (.slice A_g2 EN.length c_g2) := (blk_cell BK_g1_g2.o 2).trans rfl; replace BK_h1_h2 := lb_ BK_h1_h2 hb; replace hcz_h1_h2_0 := (d3_ BK_h1_h2).1; replace hcz_h1_h2_1 : w18.cell? ⟨gb_h1_h2, 1, none⟩ = some (.slice A_h1 ES.length c_h1) := (blk_cell BK_h1_h2.o 1).trans rfl; replace hcz_h1_h2_2 : w18.cell? ⟨gb_h1_h2, 2, none⟩ = some (.slice A_h2 EN.length c_h2) := (blk_cell BK_h1_h2.o 2).trans rfl; have Y18 := q_ hb.size; replace HB := sb_ HB hb; clear hb)
    go_wp2_with (go_at_call 57; clear T16; refine (len_SR O_g1.o O_g2.o (laws_heldNfa.calls _ _ _ _ _ _ _ _ _ _ _ (C_of_S O_g1.o) (L_of_S O_g1.o) (C_of_R O_g2.o) (L_of_R O_g2.o) E7.o)).mono ?_; rintro e w19 ⟨rfl, hb⟩; replace O_a := Rb_ O_a hb; replace O_w1 := Sb_ O_w1 hb; replace O_w2 := Rb_ O_w2 hb; replace O_g1 := Sb_ O_g1 hb; replace O_g2 := Rb_ O_g2 hb; replace O_b := Rb_ O_b hb; replace O_c := Rb_ O_c hb; replace O_h1 := Sb_ O_h1 hb; replace O_h2 := Rb_ O_h2 hb; replace BK_w1_w2 := lb_ BK_w1_w2 hb; replace hcz_w1_w2_0 := (d3_ BK_w1_w2).1; replace hcz_w1_w2_1 : w19.cell? ⟨gb_w1_w2, 1, none⟩ = some (.slice A_w1 ES.length c_w1) := (blk_cell BK_w1_w2.o 1).trans rfl; replace hcz_w1_w2_2 : w19.cell? ⟨gb_w1_w2, 2, none⟩ = some (.slice A_w2 EN.length c_w2) := (blk_cell BK_w1_w2.o 2).trans rfl; replace BK_g1_g2 := lb_ BK_g1_g2 hb; replace hcz_g1_g2_0 := (d3_ BK_g1_g2).1; replace hcz_g1_g2_1 : w19.cell? ⟨gb_g1_g2, 1, none⟩ = some (.slice A_g1 ES.length c_g1) := (blk_cell BK_g1_g2.o 1).trans rfl; replace hcz_g1_g2_2 : w19.cell? ⟨gb_g1_g2, 2, none⟩ = some (.slice A_g2 EN.length c_g2) := (blk_cell BK_g1_g2.o 2).trans rfl; replace BK_h1_h2 := lb_ BK_h1_h2 hb; replace hcz_h1_h2_0 := (d3_ BK_h1_h2).1; replace hcz_h1_h2_1 : w19.cell? ⟨gb_h1_h2, 1, none⟩ = some (.slice A_h1 ES.length c_h1) := (blk_cell BK_h1_h2.o 1).trans rfl; replace hcz_h1_h2_2 : w19.cell? ⟨gb_h1_h2, 2, none⟩ = some (.slice A_h2 EN.length c_h2) := (blk_cell BK_h1_h2.o 2).trans rfl; have Y19 := q_ hb.size; replace HB := sb_ HB hb; clear hb)
    go_ret
    exact ⟨rfl, HB.o⟩
  · obtain ⟨hm0, hg⟩ := hok
    have hm := Nat.le_trans hm0 maxLen_le
    obtain ⟨_, g0⟩ := ev_get (laws_szRxS_ev l0 1048576 (by omega) (by omega) hm hg)
    rw [if_pos (by omega)] at g0
    have E0 := q_ g0
    clear g0
    have T1 : J0 True := ⟨trivial⟩
    go_enter Try.func11, Try.ntmps11
    go_wp2_with (go_at_call 49; clear T1; refine (laws_szRxS.calls _ _ _ _ _ _ _ (Kd.C_below HR_l0.o HB.o) (HC_l0.o) E0.o).mono ?_; rintro e w1 ⟨rfl, hb⟩; have Y1 := q_ hb.size; replace HB := sb_ HB hb; clear hb)
    go_ret
    exact ⟨rfl, HB.o⟩
end Go.Proofs.Ytijmhelacmjggaa.P
namespace Go.Proofs.YtijmhelacmjggaaOpen
open Go.RowKit Go.ChangeShapes Go.WideShapes Go.Proofs.YtijmhelacmjggaaW.PrintWords
set_option linter.unusedVariables false
set_option linter.unusedSimpArgs false
structure Opens {α : Type} (P : Program) (t : TypeId) (k : Kd α) (G : α → Prop) : Prop where
  sz : P.cellsOf t = k.sz
  op : ∀ {H : Type} (enc : TypeId × Value → H) (w : World) (base : Nat) (spare : Nat → Bool) (held : Bool) (fuel : Nat) (cs : List Value) (x : DataW H × List MemPlace), DataW.trod enc P w base spare held fuel t cs = some x → ∃ v, k.K w v cs ∧ G v
variable {P : Program} {t e : TypeId}
theorem opens_int {k : IntKind} (ht : P.underlying t = some (.int k)) (hc : P.cellsOf t = 1) : Opens P t (Kd.int k) (fun n => (Lit.int k n).wf = true) where
  sz := hc
  op := fun enc w base spare held fuel cs x h => by
    obtain ⟨n, rfl, _, hw⟩ := DataW.trod_int ht h
    exact ⟨n, rfl, hw⟩
theorem opens_bool (ht : P.underlying t = some .bool) (hc : P.cellsOf t = 1) : Opens P t Kd.bool (fun _ => True) where
  sz := hc
  op := fun enc w base spare held fuel cs x h => by
    obtain ⟨b, rfl, _⟩ := DataW.trod_bool ht h
    exact ⟨b, rfl, trivial⟩
theorem opens_string (ht : P.underlying t = some .string) (hc : P.cellsOf t = 1) : Opens P t Kd.string (fun s => s.size ≤ maxLen) where
  sz := hc
  op := fun enc w base spare held fuel cs x h => by
    obtain ⟨s, rfl, _, hs⟩ := DataW.trod_string ht h
    exact ⟨s, rfl, hs⟩
theorem exists_list {α : Type} {p : Nat → α → Prop} : ∀ n, (∀ i, i < n → ∃ v, p i v) → ∃ xs : List α, xs.length = n ∧ ∀ i v, xs[i]? = some v → p i v
  | 0, _ => ⟨[], rfl, fun i v h => by simp at h⟩
  | n + 1, h => by
    obtain ⟨xs, hl, hx⟩ := exists_list n (fun i hi => h i (by omega))
    obtain ⟨v, hv⟩ := h n (by omega)
    refine ⟨xs ++ [v], by simp [hl], fun i u hu => ?_⟩
    by_cases hi : i < n
    · rw [List.getElem?_append_left (by omega)] at hu
      exact hx i u hu
    · rw [List.getElem?_append_right (by omega)] at hu
      have : i - xs.length = 0 := by
        have := (List.getElem?_eq_some_iff.1 hu).1
        simp at this
        omega
      rw [this] at hu
      have hi' : i = n := by omega
      subst hi'
      simp at hu
      subst hu
      exact hv
theorem opens_slice {α : Type} {k : Kd α} {G : α → Prop} (ht : P.underlying t = some (.slice e)) (hc : P.cellsOf t = 1) (h : Opens P e k G) : Opens P t (Kd.slice e k) (fun xs => xs.length ≤ maxLen ∧ ∀ x ∈ xs, G x) where
  sz := hc
  op := fun enc w base spare held fuel cs x hx => by
    rcases DataW.trod_slice ht hx with ⟨rfl, rfl⟩ | ⟨a, len, cap, elems, rest, n, _, rfl, _, _, hl, hm, hlen, hel, _, _⟩
    · exact ⟨[], ⟨none, 0, rfl, Nat.le_refl _, Kd.C_nil k w⟩, by simp, fun x hx => absurd hx List.not_mem_nil⟩
    · have each : ∀ i, i < len → ∃ v, G v ∧ ∃ c, c.length = k.sz ∧ k.K w v c ∧ ∀ j u, c[j]? = some u → w.cell? (a.add (i * k.sz + j)) = some u := by
        intro i hi
        have h1 := hel i hi
        rw [List.getElem?_eq_getElem (by omega), Option.bind_eq_some_iff, h.sz] at h1
        obtain ⟨c, hc1, hc2⟩ := h1
        obtain ⟨v, hv, hg⟩ := h.op enc w base spare held n c _ hc2
        obtain ⟨_, hcl, hcell⟩ := World.cells?_some hc1
        refine ⟨v, hg, c, hcl, hv, fun j u hu => ?_⟩
        have hj : j < k.sz := by
          have := (List.getElem?_eq_some_iff.1 hu).1
          omega
        rw [← Addr.add_add, hcell j hj]
        exact hu
      obtain ⟨xs, hxl, hx⟩ := exists_list len each
      have hmx : (maxLen : Nat) ≤ 9223372036854775807 := by unfold maxLen; omega
      refine ⟨xs, ⟨some a, cap, by rw [hxl], by omega, ?_⟩, by omega, fun x hx' => ?_⟩
      · refine ⟨rfl, by omega, fun _ => ⟨a, rfl, fun j p hp => ?_⟩⟩
        obtain ⟨_, c, h1, h2, h3⟩ := hx j p hp
        exact ⟨c, h1, h2, h3⟩
      · obtain ⟨i, hi⟩ := List.mem_iff_getElem?.1 hx'
        exact (hx i x hi).1
structure Fields {α : Type} (P : Program) (fs : List Field) (off : Nat) (k : Kd α) (G : α → Prop) : Prop where
  from_ : ∀ f ∈ fs, off ≤ f.offset
  op : ∀ {H : Type} (enc : TypeId × Value → H) (w : World) (base : Nat) (spare : Nat → Bool) (held : Bool) (n : Nat) (cs : List Value), cs.length = k.sz → (∀ f ∈ fs, ∃ y, DataW.trod enc P w base spare held n f.type ((cs.drop (f.offset - off)).take (P.cellsOf f.type)) = some y) → ∃ v, k.K w v cs ∧ G v
theorem fields_one {α : Type} {k : Kd α} {G : α → Prop} {f : Field} (h : Opens P f.type k G) : Fields P [f] f.offset k G where
  from_ := fun g hg => by rw [List.mem_singleton.1 hg]; exact Nat.le_refl _
  op := fun enc w base spare held n cs hl hf => by
    obtain ⟨y, hy⟩ := hf f (by simp)
    rw [Nat.sub_self, List.drop_zero, h.sz, ← hl, List.take_length] at hy
    exact h.op enc w base spare held n cs y hy
theorem fields_cons {α β : Type} {k : Kd α} {k' : Kd β} {G : α → Prop} {G' : β → Prop} {f : Field} {fs : List Field} (h : Opens P f.type k G) (hs : Fields P fs (f.offset + k.sz) k' G') : Fields P (f :: fs) f.offset (Kd.pair k k') (fun x => G x.1 ∧ G' x.2) where
  from_ := fun g hg => by
    rcases List.mem_cons.1 hg with rfl | hg
    · exact Nat.le_refl _
    · have := hs.from_ g hg
      omega
  op := fun enc w base spare held n cs hl hf => by
    have hl' : cs.length = k.sz + k'.sz := hl
    obtain ⟨y, hy⟩ := hf f (by simp)
    rw [Nat.sub_self, List.drop_zero, h.sz] at hy
    obtain ⟨v, hv, hg⟩ := h.op enc w base spare held n _ y hy
    obtain ⟨u, hu, hg'⟩ := hs.op enc w base spare held n (cs.drop k.sz) (by rw [List.length_drop]; omega) (fun g hg => by
      obtain ⟨y, hy⟩ := hf g (by simp [hg])
      refine ⟨y, ?_⟩
      have := hs.from_ g hg
      rw [List.drop_drop, show k.sz + (g.offset - (f.offset + k.sz)) = g.offset - f.offset by omega]
      exact hy)
    exact ⟨(v, u), ⟨cs.take k.sz, cs.drop k.sz, (List.take_append_drop _ _).symm, hv, hu⟩, hg, hg'⟩
theorem opens_struct {α : Type} {k : Kd α} {G : α → Prop} {fs : Array Field} (ht : P.underlying t = some (.struct fs)) (hc : P.cellsOf t = k.sz) (h : Fields P fs.toList 0 k G) : Opens P t k G where
  sz := hc
  op := fun enc w base spare held fuel cs x hx => by
    obtain ⟨xs, n, _, _, hl, hlen, hf⟩ := DataW.trod_struct ht hx
    refine h.op enc w base spare held n cs (hl.trans hc) (fun f hf' => ?_)
    obtain ⟨i, hi⟩ := List.mem_iff_getElem?.1 hf'
    rw [Array.getElem?_toList] at hi
    have h1 := hf i f hi
    have : i < fs.size := by
      have := (Array.getElem?_eq_some_iff.1 hi).1
      exact this
    rw [List.getElem?_eq_getElem (by omega)] at h1
    rw [Nat.sub_zero]
    exact ⟨_, h1⟩
theorem opens_iso {α β : Type} {k : Kd α} {G : α → Prop} (f : β → α) (g : α → β) (hfg : ∀ x, f (g x) = x) (h : Opens P t k G) : Opens P t (Kd.iso k f) (fun y => G (f y)) where
  sz := h.sz
  op := fun enc w base spare held fuel cs x hx => by
    obtain ⟨v, hv, hg⟩ := h.op enc w base spare held fuel cs x hx
    exact ⟨g v, by show k.K w (f (g v)) cs; rw [hfg]; exact hv, by rw [hfg]; exact hg⟩
theorem opens_imp {α : Type} {k : Kd α} {G G' : α → Prop} (h : Opens P t k G) (hg : ∀ x, G x → G' x) : Opens P t k G' where
  sz := h.sz
  op := fun enc w base spare held fuel cs x hx => by
    obtain ⟨v, hv, hh⟩ := h.op enc w base spare held fuel cs x hx
    exact ⟨v, hv, hg v hh⟩
end Go.Proofs.YtijmhelacmjggaaOpen
set_option linter.unusedVariables false
namespace Go.Proofs.Ytijmhelacmjggaa.fnExactBuildNfa.Pure
open Go.RowKit Go.Proofs.YtijmhelacmjggaaW.PrintWords Go.Proofs.YtijmhelacmjggaaW.PrintLast Go.Proofs.Ytijmhelacmjggaa.P Go.Proofs.YtijmhelacmjggaaEv
theorem pure_FnExactBuildNfa : ∀ (l0 : List S24), (l0.length ≤ maxLen ∧ ∀ y ∈ l0, g24 y) → ∃ k, laws_FnExactBuildNfa.f k l0 = some true := by
  intro l0 h0
  exact ⟨0, if_pos (h0)⟩
end Go.Proofs.Ytijmhelacmjggaa.fnExactBuildNfa.Pure
namespace Go.Proofs.Ytijmhelacmjggaa.fnExactBuildNfa
open Go.ChangeShapes Go.WideShapes Go.ChangeAt Go.RowKit Go.Proofs.YtijmhelacmjggaaW.PrintWords Go.Proofs.YtijmhelacmjggaaOpen Go.Proofs.Ytijmhelacmjggaa.P
open Go.ChangeMaps (open_string shut_string)
set_option linter.unusedVariables false
set_option linter.unusedSimpArgs false
theorem own : ownKnob Try.prog.godebug = none := by kernel_rfl
theorem laidOut : laidOutB Try.prog = true := by kernel_rfl
theorem o210 : Opens Try.prog 210 k210 g210 := opens_imp (opens_iso (fun x : S210 => (x.f0, x.f1)) (fun p => ⟨p.1, p.2⟩) (fun _ => rfl) (opens_struct Try.underlying210 (by kernel_rfl) (fields_cons (opens_int Try.underlying2 (by kernel_rfl)) (fields_one (opens_int Try.underlying2 (by kernel_rfl)))))) (fun _ h => h)
theorem o152 : Opens Try.prog 152 k152 g152 := opens_imp (opens_iso (fun x : S152 => (x.f0, x.f1, x.f2, x.f3, x.f4)) (fun p => ⟨p.1, p.2.1, p.2.2.1, p.2.2.2.1, p.2.2.2.2⟩) (fun _ => rfl) (opens_struct Try.underlying152 (by kernel_rfl) (fields_cons (opens_int Try.underlying2 (by kernel_rfl)) (fields_cons (opens_slice Try.underlying150 (by kernel_rfl) o210) (fields_cons (opens_slice Try.underlying56 (by kernel_rfl) (opens_int Try.underlying2 (by kernel_rfl))) (fields_cons (opens_int Try.underlying2 (by kernel_rfl)) (fields_one (opens_int Try.underlying2 (by kernel_rfl))))))))) (fun _ h => h)
theorem o24 : Opens Try.prog 24 k24 g24 := opens_imp (opens_iso (fun x : S24 => x.f0) (fun p => ⟨p⟩) (fun _ => rfl) (opens_struct Try.underlying24 (by kernel_rfl) (fields_one (opens_slice Try.underlying22 (by kernel_rfl) o152)))) (fun _ h => h)
theorem lifted (os : Os) (started : os.Started) (H : Type) (enc : TypeId × Value → H) :
    ReturnsInHanded {} Try.checked os 11 .any (Rows.fnExactBuildNfaSpec.pre6 enc Try.prog Try.f11 Rows.fnExactBuildNfaRow.domain false) (Rows.fnExactBuildNfaSpec.post enc Try.prog Try.f11 false true false false) := by
  refine returnsInHanded_of_change_sized (C := Try.checked) own started (by kernel_rfl) Try.func11
    (ChangeSpec.witness6 (enc := enc) (C := Try.checked) false ⟨#[], #[.slice none 0 0], []⟩ 8 (by kernel_rfl) (by kernel_rfl) (by kernel_rfl) (by kernel_rfl)) ?_
  intro W base args ds gs before hval0 hW hcnd hsz0 _
  have hsz : (DataW.weightsEach Try.prog (Try.f11.params.toList ++ Rows.fnExactBuildNfaSpec.plain.varTypes Try.prog) (ds ++ gs)).all (· ≤ reachBytes) = true := hsz0
  have hval : ∀ (j : Nat) t v, Try.f11.params[j]? = some t → args[j]? = some v → Value.okWide Try.prog W .any base t v := hval0
  have hW' := hW
  obtain ⟨p, q, hA0, hV, rfl, hfz, hnd⟩ := hW
  have hA : DataW.TrodAll enc Try.prog W 0 (fun _ => true) true Try.f11.params.toList args.toList ds p := hA0
  rw [Try.params11] at hA hval hsz
  obtain ⟨v0, vs0, d0, ds0, p0, q0, hargs, rfl, rfl, h0, r0⟩ := trodAll_cons hA
  obtain ⟨rfl, rfl, rfl⟩ := trodAll_nil r0
  obtain rfl : args = #[v0] := by cases args; simp_all
  obtain ⟨rfl, rfl⟩ := trodVars_none hV
  have k0' := h0
  have lt0 : ∀ x ∈ p0, x.block < W.heap.size := by obtain ⟨m, hm⟩ := k0'; exact DataW.trod_lt m _ _ _ hm
  obtain ⟨a0, len0, cap0, rfl⟩ := okWide_slice Try.underlying73 (hval 0 73 v0 rfl rfl)
  obtain ⟨fuel0, hf0⟩ := h0
  have hf0' : DataW.trod enc Try.prog W 0 (fun _ => true) true fuel0 73 [.slice a0 len0 cap0] = some (d0, p0) := hf0
  obtain ⟨x0, ⟨A0, c0, he0, hl0, hC0⟩, hG0⟩ := (opens_slice Try.underlying73 (by kernel_rfl) o24).op enc W 0 (fun _ => true) true fuel0 _ _ hf0'
  obtain ⟨rfl, rfl, rfl⟩ : a0 = A0 ∧ len0 = x0.length ∧ cap0 = c0 := by simpa using he0
  clear hA0 hval0 hsz0 hsz
  obtain ⟨k, hk⟩ := Pure.pure_FnExactBuildNfa x0 hG0
  refine (laws_FnExactBuildNfa.calls k _ _ x0 true W hC0 hl0 hk).mono fun e W' ⟨he, bel0⟩ => ?_
  have bel : Below W.heap.size W W' := bel0
  subst he
  exact ⟨_, rfl, _, _, _, [], _, [], hW', trodAll_mk1 (shut_bool Try.underlying4 _), (trodAll_cons_mk (Below.trod laidOut (by kernel_rfl) (of_decide_eq_true (by kernel_rfl)) k0' bel lt0) trodAll_mk0), rfl, bel.frame _, fun h => by cases h⟩
theorem over : Rows.fnExactBuildNfaRow.holds Try.pinned (OpenSpec.ofChange Rows.fnExactBuildNfaSpec) :=
  OpenClaim.holds_of_wide 11 Try.f11 rfl rfl rfl rfl rfl rfl rfl ⟨rfl, rfl, rfl, rfl, rfl⟩ rfl rfl rfl rfl rfl (by kernel_rfl) Try.func11 (by kernel_rfl)
    (of_decide_eq_true (by kernel_rfl)) (by unfold Func.isWrapper; first | (rw [if_pos (by decide +kernel)]; kernel_rfl) | (rw [if_neg (by decide +kernel)]; exact ⟨rfl, rfl⟩))
    (fun os started H enc _ => lifted os started H enc)
theorem proved : Rows.FnExactBuildNfaSaid := over
#print axioms proved
end Go.Proofs.Ytijmhelacmjggaa.fnExactBuildNfa
namespace Go.Proofs.Ytijmhelacmjggaa
theorem fnExactBuildNfa_holds : Rows.FnExactBuildNfaSaid := fnExactBuildNfa.proved
end Go.Proofs.Ytijmhelacmjggaa
