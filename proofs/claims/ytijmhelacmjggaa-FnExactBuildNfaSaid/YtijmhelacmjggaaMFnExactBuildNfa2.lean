/- The law FnExactBuildNfa holds for every call: part 3 of 5 of the proof (walks of functions, and what they answer). Conditions: none beyond what the given row says. -/
import Derived.Test.YtijmhelacmjggaaMFnExactBuildNfa0
import Derived.Test.YtijmhelacmjggaaMFnExactBuildNfa1
import Derived.Shelf.Abstract
import Derived.Lib.Hide
set_option maxHeartbeats 16000000
set_option maxRecDepth 100000
namespace Go.Proofs.Ytijmhelacmjggaa.P
open Go.RowKit Go.Proofs.YtijmhelacmjggaaW.PrintWords Go.Proofs.YtijmhelacmjggaaW.PrintLast Go.Proofs.YtijmhelacmjggaaW.PrintMore
attribute [local go_sem] max2_int min2_int max_two min_two max_three min_three max_four min_four
set_option linter.unusedVariables false
set_option linter.unusedSimpArgs false
/-! ### spec_RxOk: function 59 -/
mutual
def spec_RxOk.j0 : Nat → Int → Bool → List (S156) → Option (Bool)
 | 0, _, _, _ => none
 | k + 1, x3, x18, x102000 => if x18 = true then (some false) else (if 0 ≤ x3 then (if (x3 : Int).toNat ≤ 35184372088832 then (spec_RxOk.l0 k x3 (List.replicate (x3 : Int).toNat 0) 0 x102000) else (none)) else (none))
def spec_RxOk.l0 : Nat → Int → List Int → Int → List (S156) → Option (Bool)
 | 0, _, _, _, _ => none
 | k + 1, x3, x4, x5, x102000 => if x5 < x3 then (if 0 ≤ x5 then (if x5 < (x102000.length : Int) then ((spec_l3Node.f k ((rd_T156 x102000 x5).f0) ((rd_T156 x102000 x5).f1) ((rd_T156 x102000 x5).f2) ((rd_T156 x102000 x5).f3) ((rd_T156 x102000 x5).f4) x5).bind fun t106 => (if t106 = true then (spec_RxOk.l1 k x3 x4 x5 0 x102000) else (some false))) else (none)) else (none)) else (if 0 ≤ x3 then (if (x3 : Int).toNat ≤ 35184372088832 then (spec_RxOk.l2 k x3 x4 (List.replicate (x3 : Int).toNat 0) (wrap64 (x3 - 1)) x102000) else (none)) else (none))
def spec_RxOk.l1 : Nat → Int → List Int → Int → Int → List (S156) → Option (Bool)
 | 0, _, _, _, _, _ => none
 | k + 1, x3, x4, x5, x6, x102000 => if 0 ≤ x5 then (if x5 < (x102000.length : Int) then (if x6 < (((rd_T156 x102000 x5).f2).length : Int) then (if 0 ≤ x6 then (if 0 ≤ (rd ((rd_T156 x102000 x5).f2) x6) then (if (rd ((rd_T156 x102000 x5).f2) x6) < (x4.length : Int) then (spec_RxOk.l1 k x3 (x4.set ((rd ((rd_T156 x102000 x5).f2) x6) : Int).toNat (wrap64 ((rd x4 (rd ((rd_T156 x102000 x5).f2) x6)) + 1))) x5 (wrap64 (x6 + 1)) x102000) else (none)) else (none)) else (none)) else (spec_RxOk.l0 k x3 x4 (wrap64 (x5 + 1)) x102000)) else (none)) else (none)
def spec_RxOk.l2 : Nat → Int → List Int → List Int → Int → List (S156) → Option (Bool)
 | 0, _, _, _, _, _ => none
 | k + 1, x3, x4, x7, x8, x102000 => if x8 ≥ 0 then (if x8 < (wrap64 (x3 - 1)) then (if 0 ≤ x8 then (if x8 < (x4.length : Int) then (if (rd x4 x8) = 1 then (if x8 < (x7.length : Int) then (spec_RxOk.j4 k x3 x4 x7 x8 (decide ((rd x7 x8) > 150)) x102000) else (none)) else (spec_RxOk.j4 k x3 x4 x7 x8 true x102000)) else (none)) else (none)) else (if 0 ≤ x8 then (if x8 < (x7.length : Int) then (spec_RxOk.j4 k x3 x4 x7 x8 (decide ((rd x7 x8) > 150)) x102000) else (none)) else (none))) else (some true)
def spec_RxOk.j4 : Nat → Int → List Int → List Int → Int → Bool → List (S156) → Option (Bool)
 | 0, _, _, _, _, _, _ => none
 | k + 1, x3, x4, x7, x8, x84, x102000 => if x84 = true then (some false) else (spec_RxOk.l3 k x3 x4 x7 x8 0 x102000)
def spec_RxOk.l3 : Nat → Int → List Int → List Int → Int → Int → List (S156) → Option (Bool)
 | 0, _, _, _, _, _, _ => none
 | k + 1, x3, x4, x7, x8, x9, x102000 => if 0 ≤ x8 then (if x8 < (x102000.length : Int) then (if x9 < (((rd_T156 x102000 x8).f2).length : Int) then (if 0 ≤ x9 then (if x8 < (x7.length : Int) then (if 0 ≤ (rd ((rd_T156 x102000 x8).f2) x9) then (if (rd ((rd_T156 x102000 x8).f2) x9) < (x7.length : Int) then (spec_RxOk.l3 k x3 x4 (x7.set ((rd ((rd_T156 x102000 x8).f2) x9) : Int).toNat (wrap64 ((rd x7 x8) + 1))) x8 (wrap64 (x9 + 1)) x102000) else (none)) else (none)) else (none)) else (none)) else (spec_RxOk.l2 k x3 x4 x7 (wrap64 (x8 - 1)) x102000)) else (none)) else (none)
end
def spec_RxOk.f (k : Nat) (l0_0 : List (S156)) : Option (Bool) := if (l0_0.length : Int) < 1 then (spec_RxOk.j0 k (l0_0.length : Int) true l0_0) else (spec_RxOk.j0 k (l0_0.length : Int) (decide ((l0_0.length : Int) > 300)) l0_0)
def spec_RxOk.T23 : Bool × List (List Nat × List Nat) := (true, [([], []), ([], []), ([1], [1]), ([], []), ([2, 3], [2, 3]), ([4], [4]), ([5], [5]), ([], []), ([6, 7], [6, 7]), ([8], [8]), ([], []), ([], []), ([10, 11], [10, 11]), ([12], [12]), ([13], [13]), ([0, 9, 0, 1, 2, 3, 4, 5, 6, 7, 8, 9, 10, 11, 12, 13, 14], [0, 9]), ([15, 14, 0, 1, 2, 3, 4, 5, 6, 7, 8, 9, 10, 11, 12, 13, 14], [14, 15])])
def spec_RxOk.B23 : List Nat := [0, 0, 2, 0, 14, 30, 62, 0, 254, 510, 0, 0, 3072, 7168, 15360, 32767, 65535]
theorem spec_RxOk.tab23 : rtab .any (opsOf Try.f59 23) = spec_RxOk.T23 := by kernel_rfl
theorem spec_RxOk.bits23 : waitsOk spec_RxOk.T23.2 spec_RxOk.B23 = true := by kernel_rfl
theorem spec_RxOk.calls (k : Nat) (A0_0 : Option Addr) (c0_0 : Nat) (l0_0 : List (S156)) (r : Bool) (w : World) (hr0_0 : Kd.C k156 w A0_0 l0_0.length l0_0) (hc0_0 : l0_0.length ≤ c0_0) (h : spec_RxOk.f k l0_0 = some r) :
  Calls Try.prog 59 #[.agg #[.slice A0_0 l0_0.length c0_0]] w fun e w' => e = .returned (.bool r) ∧ Below w.heap.size w w' := by
 have hu29 := Try.underlying29; have hu156 := Try.underlying156; have HR0_0 := q_ hr0_0; have HC0_0 := q_ hc0_0; clear hr0_0 hc0_0; have HB := q_ (Below.refl w.heap.size w)
 have H : (if (l0_0.length : Int) < 1 then (spec_RxOk.j0 k (l0_0.length : Int) true l0_0) else (spec_RxOk.j0 k (l0_0.length : Int) (decide ((l0_0.length : Int) > 300)) l0_0)) = some r := h
 clear h; have HC2 := q_ H; clear H
 go_enter Try.func59, Try.ntmps59
 go_upto_region 2 with (((with_reducible refine gate_dst (N := 1) rfl ?_); refine bx_ 1 #[.slice A0_0 l0_0.length c0_0] 29 ?_; intro gb101 hg w3 hbox hb; have BK101 := q_ (hbox); have GE101 := ge_ hg HB; replace HB := sb_ HB hb; clear hb hbox hg; obtain ⟨hcz4_0, hfz4_0⟩ := d1_ BK101))
 (try simp only [Act.put, List.setIfInBounds_toArray, List.set_cons_zero, List.set_cons_succ])
 go_cut [18] (fun v18 wc => ∃ (kq : Nat) (x18_1 : Bool), v18 = .bool x18_1 ∧ J0 (spec_RxOk.j0 kq (l0_0.length : Int) x18_1 l0_0 = some r) ∧ J0 (kq ≤ k) ∧ J0 (wc.heap[gb101]? = some (.cells #[(.slice A0_0 l0_0.length c0_0)] 29 (0, 0))) ∧ J0 (Below w.heap.size w wc))
 case first =>
  have H := HC2.o; clear HC2
  by_cases c5 : (l0_0.length : Int) < 1
  ·rw [if_pos c5] at H; have c5b0 := dt_ c5
   have c5b1 : decide (l0_0.length < 1) = true := decide_eq_true (by omega)
   clear c5
   (first | rw [c5b0] | (simp only [i64_w, i32_w]; rw [c5b0]) | skip)
   have H' := q_ H
   clear H
   go_wp2
   go_meet
   case rel => exact ⟨_, (true), rs_, H', ⟨by first | omega | exact Nat.le_refl _⟩, ⟨bk_ BK101.o⟩, ⟨be1_ HB.o GE101.o⟩⟩
  ·rw [if_neg c5] at H; have c5b0 := df_ c5
   have c5b1 : decide (l0_0.length < 1) = false := decide_eq_false (by omega)
   clear c5
   (first | rw [c5b0] | (simp only [i64_w, i32_w]; rw [c5b0]) | skip)
   have H' := q_ H
   clear H
   go_wp2
   go_meet
   case rel => exact ⟨_, (decide ((l0_0.length : Int) > 300)), rs_, H', ⟨by first | omega | exact Nat.le_refl _⟩, ⟨bk_ BK101.o⟩, ⟨be1_ HB.o GE101.o⟩⟩
 case rest =>
  clear HC2; (try clear c5); (try clear c5b0); (try clear c5b1); (try clear hcz4_0); (try clear hfz4_0); obtain ⟨kq, x18_1, rfl, HA, HJ1, BK101, HB⟩ := hcut
  cases kq with
  | zero => exact absurd HA.o (by simp [spec_RxOk.j0])
  | succ kj1 =>
   have H := HA.o; clear HA
   simp only [spec_RxOk.j0] at H
   by_cases c6 : x18_1 = true
   ·subst c6; rw [if_pos rfl] at H; obtain rfl := Option.some.inj H
    go_wp2
    go_ret
    exact ⟨rt_, be1_ HB.o GE101.o⟩
   ·replace c6 := Bool.eq_false_iff.mpr c6; subst c6; rw [if_neg nft_] at H
    by_cases c7 : 0 ≤ (l0_0.length : Int)
    ·rw [if_pos c7] at H; have c7b0 := eq_true c7; have c7b1 := dt_ c7; clear c7
     by_cases c8 : ((l0_0.length : Int) : Int).toNat ≤ 35184372088832
     ·rw [if_pos c8] at H; have c8b0 := eq_true c8; have c8b1 := dt_ c8; clear c8
      obtain ⟨y102, hy102⟩ : ∃ y_ : List Int, y_ = (List.replicate ((l0_0.length : Int) : Int).toNat 0) := ⟨_, rfl⟩
      replace H : (spec_RxOk.l0 kj1 (l0_0.length : Int) y102 0 l0_0) = some r := by first | (rw [hy102]; with_reducible exact H) | (have H2_ := (Option.bind_some _ _).symm.trans H; rw [hy102]; with_reducible exact H2_) | (have H2_ := (Option.bind_some _ _).symm.trans H; with_reducible exact H2_) | with_reducible exact H | (rw [hy102]; exact H) | exact H
      have Ny102 := q_ hy102; clear hy102
      have H' := q_ H
      clear H
      go_wp2_with (((with_reducible refine gate_dst (N := 20) rfl ?_); refine Kd.R_make (Kd.int .i64) _ 3 rfl (N := 20) rfl 153 _ _ rfl (l0_0.length : Int) rfl rfl Try.underlying153 (.int .i64 0) 8 info3 rfl (by decide) (by omega) 0 (ok := fun _ => True) (okp := fun _ => True) rfl (fun _ hk => hk) trivial (of_decide_eq_true as_) (Nat.le_trans (Nat.mul_le_mul_right _ (of_decide_eq_true as_ : (l0_0.length : Int).toNat ≤ 35184372088832)) (by omega)) (Below.refl _ _) (Nat.le_refl _) ?_; intro v103 w9 ho10 hb hg_ hnew_; clear hg_ hnew_; (first | rw [← Ny102.o] at ho10 | (simp only [Int.reduceToNat] at ho10; rw [← Ny102.o] at ho10)); have HO104 := q_ (Kd.R_lower ho10 (below_size (be1_ HB.o GE101.o))); replace BK101 := lb_ BK101 hb; replace HB := sb1_ HB GE101 hb; clear hb ho10))
      go_loopg [5] kj1 (fun kq v5 w' => ∃ (x4_2 : List Int) (x5_2 : Int), v5 = .int .i64 x5_2 ∧ J0 (spec_RxOk.l0 kq (l0_0.length : Int) x4_2 x5_2 l0_0 = some r) ∧ J0 (kq ≤ kj1) ∧ J0 (Kd.R (Kd.int .i64) 3 w' w.heap.size (fun _ => True) v103 x4_2) ∧ J0 (w'.heap[gb101]? = some (.cells #[(.slice A0_0 l0_0.length c0_0)] 29 (0, 0))) ∧ J0 (Below w.heap.size w w'))
      case atStart => exact ⟨(y102), (0), rs_, H', ⟨Nat.le_refl _⟩, ⟨ra_ HO104.o⟩, ⟨bk_ BK101.o⟩, ⟨be1_ HB.o GE101.o⟩⟩
      case round =>
       clear H'; (try clear c5); (try clear c5b0); (try clear c5b1); (try clear c6); (try clear c7); (try clear c7b0); (try clear c7b1); (try clear c8); (try clear c8b0); (try clear c8b1); (try clear hcz4_0); (try clear hfz4_0); obtain ⟨x4_2, x5_2, rfl, HA, HK2, HO_4, BK101, HB⟩ := hrel
       cases gk with
       | zero => exact absurd HA.o (by simp [spec_RxOk.l0])
       | succ k2 =>
        have H := HA.o; clear HA
        simp only [spec_RxOk.l0] at H
        by_cases c11 : x5_2 < (l0_0.length : Int)
        ·rw [if_pos c11] at H; have c11b0 := dt_ c11; clear c11
         by_cases c12 : 0 ≤ x5_2
         ·rw [if_pos c12] at H; have c12b0 := dt_ c12; clear c12
          by_cases c13 : x5_2 < (l0_0.length : Int)
          ·rw [if_pos c13] at H; have c13b0 := dt_ c13; clear c13; obtain ⟨t106, A14, H⟩ := ob_ H
           by_cases c15 : t106 = true
           ·subst c15; rw [if_pos rfl] at H
            have H' := q_ H
            clear H; obtain ⟨hcz16_0, hfz16_0⟩ := d1_ BK101
            have p105 : 0 ≤ (x5_2 : Int) := of_decide_eq_true as_
            have q105 : x5_2 < (l0_0.length : Int) := of_decide_eq_true as_
            obtain ⟨ad105, A105_1, c105_1, A105_2, c105_2, e105, hx105_0, hx105_1, hx105_2, hx105_3, hx105_4, hl105_1, hi105_1, hl105_2, hi105_2⟩ := at_T156 HR0_0.o x5_2 p105 q105
            cases e105
            replace hx105_0 := mv_ HB.o hx105_0; replace hx105_1 := mv_ HB.o hx105_1; replace hx105_2 := mv_ HB.o hx105_2; replace hx105_3 := mv_ HB.o hx105_3; replace hx105_4 := mv_ HB.o hx105_4; have HR105_1 := q_ hi105_1; have HC105_1 := q_ hl105_1; clear hi105_1 hl105_1; have HR105_2 := q_ hi105_2; have HC105_2 := q_ hl105_2; clear hi105_2 hl105_2; replace p105 := eq_true p105; replace q105 := eq_true q105
            go_wp2_with (((with_reducible refine gate_callee (f := 116) rfl ?_); refine gl_ (some 32) rfl rfl Try.func116 #[.agg #[.int .i64 ((rd_T156 l0_0 x5_2).f0), .slice A105_1 ((rd_T156 l0_0 x5_2).f1).length c105_1, .slice A105_2 ((rd_T156 l0_0 x5_2).f2).length c105_2, .int .i64 ((rd_T156 l0_0 x5_2).f3), .int .i64 ((rd_T156 l0_0 x5_2).f4)], .int .i64 x5_2] ?_; (with_reducible refine (spec_l3Node.calls k2 ((rd_T156 l0_0 x5_2).f0) _ _ ((rd_T156 l0_0 x5_2).f1) _ _ ((rd_T156 l0_0 x5_2).f2) ((rd_T156 l0_0 x5_2).f3) ((rd_T156 l0_0 x5_2).f4) x5_2 true _ ?side1 ?side2 ?side3 ?side4 A14.o).mono ?_); (case side1 => exact Kd.C_below HR105_1.o (be_ HB.o)); (case side2 => exact HC105_1.o); (case side3 => exact Kd.C_below HR105_2.o (be_ HB.o)); (case side4 => exact HC105_2.o); rintro e w17 ⟨rfl, hb⟩; refine ⟨_, rfl, ?_⟩; replace HO_4 := q_ (Kd.R_below (ra_ HO_4.o) hb); replace BK101 := lb_ BK101 hb; replace HB := sb1_ HB GE101 hb; (try clear hb)))
            go_loopg [6] k2 (fun kq v6 w' => ∃ (x4_3 : List Int) (x6_3 : Int), v6 = .int .i64 x6_3 ∧ J0 (spec_RxOk.l1 kq (l0_0.length : Int) x4_3 x5_2 x6_3 l0_0 = some r) ∧ J0 (kq ≤ k2) ∧ J0 (Kd.R (Kd.int .i64) 3 w' w.heap.size (fun _ => True) v103 x4_3) ∧ J0 (w'.heap[gb101]? = some (.cells #[(.slice (some ad105) l0_0.length c0_0)] 29 (0, 0))) ∧ J0 (Below w.heap.size w w'))
            case atStart => exact ⟨(x4_2), (0), rs_, H', ⟨Nat.le_refl _⟩, ⟨ra_ HO_4.o⟩, ⟨bk_ BK101.o⟩, ⟨be1_ HB.o GE101.o⟩⟩
            case round =>
             clear H'; (try clear c5); (try clear c5b0); (try clear c5b1); (try clear c6); (try clear c7); (try clear c7b0); (try clear c7b1); (try clear c8); (try clear c8b0); (try clear c8b1); (try clear c11); (try clear c11b0); (try clear c12); (try clear c12b0); (try clear c13); (try clear c13b0); (try clear c15); (try clear hcz16_0); (try clear hcz4_0); (try clear hfz16_0); (try clear hfz4_0); (try clear hx105_0); (try clear hx105_1); (try clear hx105_2); (try clear hx105_3); (try clear hx105_4); (try clear p105); (try clear q105); obtain ⟨x4_3, x6_3, rfl, HA, HK3, HO_4, BK101, HB⟩ := hrel
             cases gk with
             | zero => exact absurd HA.o (by simp [spec_RxOk.l1])
             | succ k3 =>
              have H := HA.o; clear HA
              simp only [spec_RxOk.l1] at H
              by_cases c18 : 0 ≤ x5_2
              ·rw [if_pos c18] at H; have c18b0 := dt_ c18; clear c18
               by_cases c19 : x5_2 < (l0_0.length : Int)
               ·rw [if_pos c19] at H; have c19b0 := dt_ c19; clear c19
                by_cases c20 : x6_3 < (((rd_T156 l0_0 x5_2).f2).length : Int)
                ·rw [if_pos c20] at H; have c20b0 := dt_ c20; clear c20
                 by_cases c21 : 0 ≤ x6_3
                 ·rw [if_pos c21] at H; have c21b0 := dt_ c21; clear c21
                  by_cases c22 : 0 ≤ (rd ((rd_T156 l0_0 x5_2).f2) x6_3)
                  ·rw [if_pos c22] at H; have c22b0 := dt_ c22; clear c22
                   by_cases c23 : (rd ((rd_T156 l0_0 x5_2).f2) x6_3) < (x4_3.length : Int)
                   ·rw [if_pos c23] at H; have c23b0 := dt_ c23; clear c23
                    obtain ⟨y111, hy111⟩ : ∃ y_ : List Int, y_ = (x4_3.set ((rd ((rd_T156 l0_0 x5_2).f2) x6_3) : Int).toNat (wrap64 ((rd x4_3 (rd ((rd_T156 l0_0 x5_2).f2) x6_3)) + 1))) := ⟨_, rfl⟩
                    replace H : (spec_RxOk.l1 k3 (l0_0.length : Int) y111 x5_2 (wrap64 (x6_3 + 1)) l0_0) = some r := by first | (rw [hy111]; with_reducible exact H) | (have H2_ := (Option.bind_some _ _).symm.trans H; rw [hy111]; with_reducible exact H2_) | (have H2_ := (Option.bind_some _ _).symm.trans H; with_reducible exact H2_) | with_reducible exact H | (rw [hy111]; exact H) | exact H
                    have Ny111 := q_ hy111; clear hy111
                    have H' := q_ H
                    clear H; obtain ⟨hcz25_0, hfz25_0⟩ := d1_ BK101
                    have p107 : 0 ≤ (x5_2 : Int) := of_decide_eq_true as_
                    have q107 : x5_2 < (l0_0.length : Int) := of_decide_eq_true as_
                    obtain ⟨ad107, A107_1, c107_1, A107_2, c107_2, e107, hx107_0, hx107_1, hx107_2, hx107_3, hx107_4, hl107_1, hi107_1, hl107_2, hi107_2⟩ := at_T156 HR0_0.o x5_2 p107 q107
                    obtain rfl : ad105 = ad107 := (by injection e107)
                    replace hx107_0 := mv_ HB.o hx107_0; replace hx107_1 := mv_ HB.o hx107_1; replace hx107_2 := mv_ HB.o hx107_2; replace hx107_3 := mv_ HB.o hx107_3; replace hx107_4 := mv_ HB.o hx107_4; have HR107_1 := q_ hi107_1; have HC107_1 := q_ hl107_1; clear hi107_1 hl107_1; have HR107_2 := q_ hi107_2; have HC107_2 := q_ hl107_2; clear hi107_2 hl107_2; replace p107 := eq_true p107; replace q107 := eq_true q107
                    have p109 : 0 ≤ (x6_3 : Int) := of_decide_eq_true as_
                    have q109 : x6_3 < (((rd_T156 l0_0 x5_2).f2).length : Int) := of_decide_eq_true as_
                    obtain ⟨ad109, e109, hx109_0⟩ := Kd.at_int HR107_2.o x6_3 p109 q109
                    cases e109
                    replace hx109_0 := mv_ HB.o hx109_0; replace p109 := eq_true p109; replace q109 := eq_true q109; obtain ⟨Ao26, co26, eo26⟩ := Kd.R_slice HO_4.o; subst eo26
                    have p110 : 0 ≤ ((rd ((rd_T156 l0_0 x5_2).f2) x6_3) : Int) := of_decide_eq_true as_
                    have q110 : (rd ((rd_T156 l0_0 x5_2).f2) x6_3) < (x4_3.length : Int) := of_decide_eq_true as_
                    obtain ⟨ad110, e110, hx110_0⟩ := Kd.at_int (Kd.R_reads' HO_4.o).2.2 (rd ((rd_T156 l0_0 x5_2).f2) x6_3) p110 q110
                    cases e110
                    replace p110 := eq_true p110; replace q110 := eq_true q110
                    have p24 : 0 ≤ ((rd ((rd_T156 l0_0 x5_2).f2) x6_3) : Int) := of_decide_eq_true as_
                    have q24 : ((rd ((rd_T156 l0_0 x5_2).f2) x6_3) : Int) < ((x4_3.length : Int) : Int) := of_decide_eq_true as_
                    obtain ⟨go24, co24, eo24, gb24, gl24, cl24, HG24⟩ := Kd.R_form HO_4.o (by omega)
                    (first | cases eo24 | (injection eo24 with ea_ en_ ec_; (first | subst ea_ | (injection ea_ with ea_; subst ea_)); subst ec_; clear en_))
                    have GB24 := q_ gb24; have GG24 := q_ HG24; clear gb24 gl24 HG24
                    (first | simp only [add_plain] at hx110_0 | skip)
                    obtain ⟨hx24_0, hf24_0⟩ := Kd.R_celln 0 HO_4.o ((rd ((rd_T156 l0_0 x5_2).f2) x6_3) : Int) p24 q24; replace p24 := eq_true p24; replace q24 := eq_true q24; have HP27 := Kd.R_putg HO_4.o ((rd ((rd_T156 l0_0 x5_2).f2) x6_3) : Int) (wrap64 ((rd x4_3 (rd ((rd_T156 l0_0 x5_2).f2) x6_3)) + 1))
                    go_wp2_with (((with_reducible refine gate_store (t := 3) (p := 58) rfl ?_); refine store_event (t := 3) (p := 58) (v := ?vo_w28) (w1 := (wr.setCell ⟨go24, ((rd ((rd_T156 l0_0 x5_2).f2) x6_3) : Int).toNat, none⟩ (.int .i64 (wrap64 ((rd x4_3 (rd ((rd_T156 l0_0 x5_2).f2) x6_3)) + 1))))) ?hg ?ho ?hn ?hr ?_; (case ho => rfl); (case hg => rfl); (case hn => rfl); (case hr => first | (go_simp; done) | (go_simp; rfl)); intro w28 hw; have hg : wr.grownBy w28 (some go24) := (by rw [hw]; exact HP27.2); have hp_ : Kd.R (Kd.int .i64) 3 w28 w.heap.size (fun _ => True) (.slice (some ⟨go24, 0, none⟩) x4_3.length co26) y111 := (by rw [hw, Ny111.o]; exact HP27.1); clear HP27; replace BK101 := q_ (blk_grown (g := gb101) (o := .cells #[.slice (some ad105) l0_0.length c0_0] 29 (0, 0)) (bk_ BK101.o) hg (Kd.R_ne HO_4.o BK101.o (by decide))); replace HO_4 := q_ (hp_); replace HB := q_ ((by rw [hw]; exact below_set (HB.o) GB24.out : Below w.heap.size w w28)); clear hg hw hp_))
                    go_roundg k3
                    case measure => have := HJ1.o; have := HK2.o; have := HK3.o; omega
                    case rel => exact ⟨(y111), (wrap64 (x6_3 + 1)), rs_, H', ⟨by have := HJ1.o; have := HK2.o; have := HK3.o; omega⟩, ⟨ra_ HO_4.o⟩, ⟨bk_ BK101.o⟩, ⟨be1_ HB.o GE101.o⟩⟩
                   ·rw [if_neg c23] at H
                    exact absurd H (by simp)
                  ·rw [if_neg c22] at H
                   exact absurd H (by simp)
                 ·rw [if_neg c21] at H
                  exact absurd H (by simp)
                ·rw [if_neg c20] at H; have c20b0 := df_ c20; clear c20
                 have H' := q_ H
                 clear H; obtain ⟨hcz29_0, hfz29_0⟩ := d1_ BK101
                 have p107 : 0 ≤ (x5_2 : Int) := of_decide_eq_true as_
                 have q107 : x5_2 < (l0_0.length : Int) := of_decide_eq_true as_
                 obtain ⟨ad107, A107_1, c107_1, A107_2, c107_2, e107, hx107_0, hx107_1, hx107_2, hx107_3, hx107_4, hl107_1, hi107_1, hl107_2, hi107_2⟩ := at_T156 HR0_0.o x5_2 p107 q107
                 obtain rfl : ad105 = ad107 := (by injection e107)
                 replace hx107_0 := mv_ HB.o hx107_0; replace hx107_1 := mv_ HB.o hx107_1; replace hx107_2 := mv_ HB.o hx107_2; replace hx107_3 := mv_ HB.o hx107_3; replace hx107_4 := mv_ HB.o hx107_4; have HR107_1 := q_ hi107_1; have HC107_1 := q_ hl107_1; clear hi107_1 hl107_1; have HR107_2 := q_ hi107_2; have HC107_2 := q_ hl107_2; clear hi107_2 hl107_2; replace p107 := eq_true p107; replace q107 := eq_true q107
                 go_wp2
                 go_roundg k3
                 case measure => have := HJ1.o; have := HK2.o; have := HK3.o; omega
                 case rel => exact ⟨(x4_3), (wrap64 (x5_2 + 1)), rs_, H', ⟨by have := HJ1.o; have := HK2.o; have := HK3.o; omega⟩, ⟨ra_ HO_4.o⟩, ⟨bk_ BK101.o⟩, ⟨be1_ HB.o GE101.o⟩⟩
               ·rw [if_neg c19] at H
                exact absurd H (by simp)
              ·rw [if_neg c18] at H
               exact absurd H (by simp)
           ·replace c15 := Bool.eq_false_iff.mpr c15; subst c15; rw [if_neg nft_] at H; obtain rfl := Option.some.inj H; obtain ⟨hcz30_0, hfz30_0⟩ := d1_ BK101
            have p105 : 0 ≤ (x5_2 : Int) := of_decide_eq_true as_
            have q105 : x5_2 < (l0_0.length : Int) := of_decide_eq_true as_
            obtain ⟨ad105, A105_1, c105_1, A105_2, c105_2, e105, hx105_0, hx105_1, hx105_2, hx105_3, hx105_4, hl105_1, hi105_1, hl105_2, hi105_2⟩ := at_T156 HR0_0.o x5_2 p105 q105
            cases e105
            replace hx105_0 := mv_ HB.o hx105_0; replace hx105_1 := mv_ HB.o hx105_1; replace hx105_2 := mv_ HB.o hx105_2; replace hx105_3 := mv_ HB.o hx105_3; replace hx105_4 := mv_ HB.o hx105_4; have HR105_1 := q_ hi105_1; have HC105_1 := q_ hl105_1; clear hi105_1 hl105_1; have HR105_2 := q_ hi105_2; have HC105_2 := q_ hl105_2; clear hi105_2 hl105_2; replace p105 := eq_true p105; replace q105 := eq_true q105
            go_wp2_with (((with_reducible refine gate_callee (f := 116) rfl ?_); refine gl_ (some 32) rfl rfl Try.func116 #[.agg #[.int .i64 ((rd_T156 l0_0 x5_2).f0), .slice A105_1 ((rd_T156 l0_0 x5_2).f1).length c105_1, .slice A105_2 ((rd_T156 l0_0 x5_2).f2).length c105_2, .int .i64 ((rd_T156 l0_0 x5_2).f3), .int .i64 ((rd_T156 l0_0 x5_2).f4)], .int .i64 x5_2] ?_; (with_reducible refine (spec_l3Node.calls k2 ((rd_T156 l0_0 x5_2).f0) _ _ ((rd_T156 l0_0 x5_2).f1) _ _ ((rd_T156 l0_0 x5_2).f2) ((rd_T156 l0_0 x5_2).f3) ((rd_T156 l0_0 x5_2).f4) x5_2 false _ ?side1 ?side2 ?side3 ?side4 A14.o).mono ?_); (case side1 => exact Kd.C_below HR105_1.o (be_ HB.o)); (case side2 => exact HC105_1.o); (case side3 => exact Kd.C_below HR105_2.o (be_ HB.o)); (case side4 => exact HC105_2.o); rintro e w31 ⟨rfl, hb⟩; refine ⟨_, rfl, ?_⟩; replace HO_4 := q_ (Kd.R_below (ra_ HO_4.o) hb); replace BK101 := lb_ BK101 hb; replace HB := sb1_ HB GE101 hb; (try clear hb)))
            go_ret
            exact ⟨rt_, be1_ HB.o GE101.o⟩
          ·rw [if_neg c13] at H
           exact absurd H (by simp)
         ·rw [if_neg c12] at H
          exact absurd H (by simp)
        ·rw [if_neg c11] at H; have c11b0 := df_ c11; clear c11
         by_cases c32 : 0 ≤ (l0_0.length : Int)
         ·rw [if_pos c32] at H; have c32b0 := eq_true c32; have c32b1 := dt_ c32; clear c32
          by_cases c33 : ((l0_0.length : Int) : Int).toNat ≤ 35184372088832
          ·rw [if_pos c33] at H; have c33b0 := eq_true c33; have c33b1 := dt_ c33; clear c33
           obtain ⟨y112, hy112⟩ : ∃ y_ : List Int, y_ = (List.replicate ((l0_0.length : Int) : Int).toNat 0) := ⟨_, rfl⟩
           replace H : (spec_RxOk.l2 k2 (l0_0.length : Int) x4_2 y112 (wrap64 ((l0_0.length : Int) - 1)) l0_0) = some r := by first | (rw [hy112]; with_reducible exact H) | (have H2_ := (Option.bind_some _ _).symm.trans H; rw [hy112]; with_reducible exact H2_) | (have H2_ := (Option.bind_some _ _).symm.trans H; with_reducible exact H2_) | with_reducible exact H | (rw [hy112]; exact H) | exact H
           have Ny112 := q_ hy112; clear hy112
           have H' := q_ H
           clear H
           go_wp2_with (((with_reducible refine gate_dst (N := 60) rfl ?_); refine Kd.R_make (Kd.int .i64) _ 3 rfl (N := 60) rfl 153 _ _ rfl (l0_0.length : Int) rfl rfl Try.underlying153 (.int .i64 0) 8 info3 rfl (by decide) (by omega) 0 (ok := fun _ => True) (okp := fun _ => True) rfl (fun _ hk => hk) trivial (of_decide_eq_true as_) (Nat.le_trans (Nat.mul_le_mul_right _ (of_decide_eq_true as_ : (l0_0.length : Int).toNat ≤ 35184372088832)) (by omega)) (Below.refl _ _) (Nat.le_refl _) ?_; intro v113 w34 ho35 hb hg_ hnew_; clear hg_ hnew_; (first | rw [← Ny112.o] at ho35 | (simp only [Int.reduceToNat] at ho35; rw [← Ny112.o] at ho35)); have HO114 := q_ (Kd.R_lower (Kd.R_new' ho35 (Kd.R_lt (ra_ HO_4.o))) (below_size (be1_ HB.o GE101.o))); replace HO_4 := q_ (Kd.R_elder' (ra_ HO_4.o) (Kd.R_base ho35) hb); replace BK101 := lb_ BK101 hb; replace HB := sb1_ HB GE101 hb; clear hb ho35))
           go_loopg [8] k2 (fun kq v8 w' => ∃ (x7_3 : List Int) (x8_3 : Int), v8 = .int .i64 x8_3 ∧ J0 (spec_RxOk.l2 kq (l0_0.length : Int) x4_2 x7_3 x8_3 l0_0 = some r) ∧ J0 (kq ≤ k2) ∧ J0 (Kd.R (Kd.int .i64) 3 w' w.heap.size (fun k_ => some k_ ≠ (v113 : Value).ownBlock) v103 x4_2) ∧ J0 (Kd.R (Kd.int .i64) 3 w' w.heap.size (fun k_ => some k_ ≠ (v103 : Value).ownBlock) v113 x7_3) ∧ J0 (w'.heap[gb101]? = some (.cells #[(.slice A0_0 l0_0.length c0_0)] 29 (0, 0))) ∧ J0 (Below w.heap.size w w'))
           case atStart => exact ⟨(y112), (wrap64 ((l0_0.length : Int) - 1)), rs_, H', ⟨Nat.le_refl _⟩, ⟨by (with_reducible repeat (first | apply Kd.R_alloc | apply Kd.R_drewN | apply Kd.R_drew)); exact Kd.R_mono HO_4.o (fun _ hk => hk.2)⟩, ⟨by (with_reducible repeat (first | apply Kd.R_alloc | apply Kd.R_drewN | apply Kd.R_drew)); exact Kd.R_mono HO114.o (fun _ hk => hk.2)⟩, ⟨bk_ BK101.o⟩, ⟨be1_ HB.o GE101.o⟩⟩
           case round =>
            clear H'; (try clear c5); (try clear c5b0); (try clear c5b1); (try clear c6); (try clear c7); (try clear c7b0); (try clear c7b1); (try clear c8); (try clear c8b0); (try clear c8b1); (try clear c11); (try clear c11b0); (try clear c12); (try clear c12b0); (try clear c13); (try clear c13b0); (try clear c15); (try clear c18); (try clear c18b0); (try clear c19); (try clear c19b0); (try clear c20); (try clear c20b0); (try clear c21); (try clear c21b0); (try clear c22); (try clear c22b0); (try clear c23); (try clear c23b0); (try clear p24); (try clear q24); (try clear c32); (try clear c32b0); (try clear c32b1); (try clear c33); (try clear c33b0); (try clear c33b1); (try clear hcz16_0); (try clear hcz25_0); (try clear hcz29_0); (try clear hcz30_0); (try clear hcz4_0); (try clear hfz16_0); (try clear hfz25_0); (try clear hfz29_0); (try clear hfz30_0); (try clear hfz4_0); (try clear hx105_0); (try clear hx105_1); (try clear hx105_2); (try clear hx105_3); (try clear hx105_4); (try clear hx107_0); (try clear hx107_1); (try clear hx107_2); (try clear hx107_3); (try clear hx107_4); (try clear hx108_0); (try clear hx108_1); (try clear hx108_2); (try clear hx108_3); (try clear hx108_4); (try clear hx109_0); (try clear hx110_0); (try clear hx24_0); (try clear p105); (try clear p107); (try clear p108); (try clear p109); (try clear p110); (try clear p24); (try clear q105); (try clear q107); (try clear q108); (try clear q109); (try clear q110); (try clear q24); obtain ⟨x7_3, x8_3, rfl, HA, HK3, HO_4, HO_7, BK101, HB⟩ := hrel
            cases gk with
            | zero => exact absurd HA.o (by simp [spec_RxOk.l2])
            | succ k3 =>
             have H := HA.o; clear HA
             simp only [spec_RxOk.l2] at H
             by_cases c36 : x8_3 ≥ 0
             ·rw [if_pos c36] at H
              have c36b0 : decide (0 ≤ x8_3) = true := dt_ c36
              clear c36; have HC37 := q_ H; clear H
              go_upto_region 18 with (fail)
              go_cut [84] (fun v84 wc => ∃ (kq : Nat) (x84_36 : Bool), v84 = .bool x84_36 ∧ J0 (spec_RxOk.j4 kq (l0_0.length : Int) x4_2 x7_3 x8_3 x84_36 l0_0 = some r) ∧ J0 (kq ≤ k3) ∧ J0 (Kd.R (Kd.int .i64) 3 wc w.heap.size (fun k_ => some k_ ≠ (v113 : Value).ownBlock) v103 x4_2) ∧ J0 (Kd.R (Kd.int .i64) 3 wc w.heap.size (fun k_ => some k_ ≠ (v103 : Value).ownBlock) v113 x7_3) ∧ J0 (wc.heap[gb101]? = some (.cells #[(.slice A0_0 l0_0.length c0_0)] 29 (0, 0))) ∧ J0 (Below w.heap.size w wc))
              case first =>
               have H := HC37.o; clear HC37
               by_cases c38 : x8_3 < (wrap64 ((l0_0.length : Int) - 1))
               ·rw [if_pos c38] at H; have c38b0 := dt_ c38; clear c38
                (first | rw [c38b0] | (simp only [i64_w, i32_w]; rw [c38b0]) | skip)
                by_cases c39 : 0 ≤ x8_3
                ·rw [if_pos c39] at H; have c39b0 := dt_ c39; clear c39
                 by_cases c40 : x8_3 < (x4_2.length : Int)
                 ·rw [if_pos c40] at H; have c40b0 := dt_ c40; clear c40
                  by_cases c41 : (rd x4_2 x8_3) = 1
                  ·rw [if_pos c41] at H
                   have c41b0 : ((rd x4_2 x8_3) == 1) = true := beq_iff_eq.mpr c41
                   have c41b1 : ((rd x4_2 x8_3) != 1) = false := bne_eq_false_iff_eq.mpr c41
                   clear c41
                   by_cases c42 : x8_3 < (x7_3.length : Int)
                   ·rw [if_pos c42] at H; have c42b0 := dt_ c42; clear c42
                    have H' := q_ H
                    clear H; obtain ⟨Ao43, co43, eo43⟩ := Kd.R_slice HO_4.o; subst eo43
                    have p115 : 0 ≤ (x8_3 : Int) := of_decide_eq_true as_
                    have q115 : x8_3 < (x4_2.length : Int) := of_decide_eq_true as_
                    obtain ⟨ad115, e115, hx115_0⟩ := Kd.at_int (Kd.R_reads' HO_4.o).2.2 x8_3 p115 q115
                    cases e115
                    replace p115 := eq_true p115; replace q115 := eq_true q115; obtain ⟨Ao44, co44, eo44⟩ := Kd.R_slice HO_7.o; subst eo44
                    have p116 : 0 ≤ (x8_3 : Int) := of_decide_eq_true as_
                    have q116 : x8_3 < (x7_3.length : Int) := of_decide_eq_true as_
                    obtain ⟨ad116, e116, hx116_0⟩ := Kd.at_int (Kd.R_reads' HO_7.o).2.2 x8_3 p116 q116
                    cases e116
                    replace p116 := eq_true p116; replace q116 := eq_true q116
                    go_wp2
                    go_meet
                    case rel => exact ⟨_, (decide ((rd x7_3 x8_3) > 150)), rs_, H', ⟨by have := HJ1.o; have := HK2.o; have := HK3.o; first | omega | exact Nat.le_refl _⟩, ⟨ra_ HO_4.o⟩, ⟨ra_ HO_7.o⟩, ⟨bk_ BK101.o⟩, ⟨be1_ HB.o GE101.o⟩⟩
                   ·rw [if_neg c42] at H
                    exact absurd H (by simp)
                  ·rw [if_neg c41] at H
                   have c41b0 : ((rd x4_2 x8_3) == 1) = false := beq_eq_false_iff_ne.mpr c41
                   have c41b1 : ((rd x4_2 x8_3) != 1) = true := bne_iff_ne.mpr c41
                   have H' := q_ H
                   clear H; obtain ⟨Ao45, co45, eo45⟩ := Kd.R_slice HO_4.o; subst eo45
                   have p115 : 0 ≤ (x8_3 : Int) := of_decide_eq_true as_
                   have q115 : x8_3 < (x4_2.length : Int) := of_decide_eq_true as_
                   obtain ⟨ad115, e115, hx115_0⟩ := Kd.at_int (Kd.R_reads' HO_4.o).2.2 x8_3 p115 q115
                   cases e115
                   replace p115 := eq_true p115; replace q115 := eq_true q115
                   go_wp2
                   go_meet
                   case rel => exact ⟨_, (true), rs_, H', ⟨by have := HJ1.o; have := HK2.o; have := HK3.o; first | omega | exact Nat.le_refl _⟩, ⟨ra_ HO_4.o⟩, ⟨ra_ HO_7.o⟩, ⟨bk_ BK101.o⟩, ⟨be1_ HB.o GE101.o⟩⟩
                 ·rw [if_neg c40] at H
                  exact absurd H (by simp)
                ·rw [if_neg c39] at H
                 exact absurd H (by simp)
               ·rw [if_neg c38] at H; have c38b0 := df_ c38; clear c38
                (first | rw [c38b0] | (simp only [i64_w, i32_w]; rw [c38b0]) | skip)
                by_cases c46 : 0 ≤ x8_3
                ·rw [if_pos c46] at H; have c46b0 := dt_ c46; clear c46
                 by_cases c47 : x8_3 < (x7_3.length : Int)
                 ·rw [if_pos c47] at H; have c47b0 := dt_ c47; clear c47
                  have H' := q_ H
                  clear H; obtain ⟨Ao48, co48, eo48⟩ := Kd.R_slice HO_7.o; subst eo48
                  have p117 : 0 ≤ (x8_3 : Int) := of_decide_eq_true as_
                  have q117 : x8_3 < (x7_3.length : Int) := of_decide_eq_true as_
                  obtain ⟨ad117, e117, hx117_0⟩ := Kd.at_int (Kd.R_reads' HO_7.o).2.2 x8_3 p117 q117
                  cases e117
                  replace p117 := eq_true p117; replace q117 := eq_true q117
                  go_wp2
                  go_meet
                  case rel => exact ⟨_, (decide ((rd x7_3 x8_3) > 150)), rs_, H', ⟨by have := HJ1.o; have := HK2.o; have := HK3.o; first | omega | exact Nat.le_refl _⟩, ⟨ra_ HO_4.o⟩, ⟨ra_ HO_7.o⟩, ⟨bk_ BK101.o⟩, ⟨be1_ HB.o GE101.o⟩⟩
                 ·rw [if_neg c47] at H
                  exact absurd H (by simp)
                ·rw [if_neg c46] at H
                 exact absurd H (by simp)
              case rest =>
               clear HC37; (try clear c5); (try clear c5b0); (try clear c5b1); (try clear c6); (try clear c7); (try clear c7b0); (try clear c7b1); (try clear c8); (try clear c8b0); (try clear c8b1); (try clear c11); (try clear c11b0); (try clear c12); (try clear c12b0); (try clear c13); (try clear c13b0); (try clear c15); (try clear c18); (try clear c18b0); (try clear c19); (try clear c19b0); (try clear c20); (try clear c20b0); (try clear c21); (try clear c21b0); (try clear c22); (try clear c22b0); (try clear c23); (try clear c23b0); (try clear p24); (try clear q24); (try clear c32); (try clear c32b0); (try clear c32b1); (try clear c33); (try clear c33b0); (try clear c33b1); (try clear c36); (try clear c36b0); (try clear c38); (try clear c38b0); (try clear c39); (try clear c39b0); (try clear c40); (try clear c40b0); (try clear c41); (try clear c41b0); (try clear c41b1); (try clear c42); (try clear c42b0); (try clear c46); (try clear c46b0); (try clear c47); (try clear c47b0); (try clear hcz16_0); (try clear hcz25_0); (try clear hcz29_0); (try clear hcz30_0); (try clear hcz4_0); (try clear hfz16_0); (try clear hfz25_0); (try clear hfz29_0); (try clear hfz30_0); (try clear hfz4_0); (try clear hx105_0); (try clear hx105_1); (try clear hx105_2); (try clear hx105_3); (try clear hx105_4); (try clear hx107_0); (try clear hx107_1); (try clear hx107_2); (try clear hx107_3); (try clear hx107_4); (try clear hx108_0); (try clear hx108_1); (try clear hx108_2); (try clear hx108_3); (try clear hx108_4); (try clear hx109_0); (try clear hx110_0); (try clear hx115_0); (try clear hx116_0); (try clear hx117_0); (try clear hx24_0); (try clear p105); (try clear p107); (try clear p108); (try clear p109); (try clear p110); (try clear p115); (try clear p116); (try clear p117); (try clear p24); (try clear q105); (try clear q107); (try clear q108); (try clear q109); (try clear q110); (try clear q115); (try clear q116); (try clear q117); (try clear q24); obtain ⟨kq, x84_36, rfl, HA, HJ36, HO_4, HO_7, BK101, HB⟩ := hcut
               cases kq with
               | zero => exact absurd HA.o (by simp [spec_RxOk.j4])
               | succ kj36 =>
                have H := HA.o; clear HA
                simp only [spec_RxOk.j4] at H
                by_cases c49 : x84_36 = true
                ·subst c49; rw [if_pos rfl] at H; obtain rfl := Option.some.inj H
                 go_wp2
                 go_ret
                 exact ⟨rt_, be1_ HB.o GE101.o⟩
                ·replace c49 := Bool.eq_false_iff.mpr c49; subst c49; rw [if_neg nft_] at H
                 have H' := q_ H
                 clear H
                 go_wp2
                 go_loopg [9] kj36 (fun kq v9 w' => ∃ (x7_5 : List Int) (x9_5 : Int), v9 = .int .i64 x9_5 ∧ J0 (spec_RxOk.l3 kq (l0_0.length : Int) x4_2 x7_5 x8_3 x9_5 l0_0 = some r) ∧ J0 (kq ≤ kj36) ∧ J0 (Kd.R (Kd.int .i64) 3 w' w.heap.size (fun k_ => some k_ ≠ (v113 : Value).ownBlock) v103 x4_2) ∧ J0 (Kd.R (Kd.int .i64) 3 w' w.heap.size (fun k_ => some k_ ≠ (v103 : Value).ownBlock) v113 x7_5) ∧ J0 (w'.heap[gb101]? = some (.cells #[(.slice A0_0 l0_0.length c0_0)] 29 (0, 0))) ∧ J0 (Below w.heap.size w w'))
                 case atStart => exact ⟨(x7_3), (0), rs_, H', ⟨Nat.le_refl _⟩, ⟨ra_ HO_4.o⟩, ⟨ra_ HO_7.o⟩, ⟨bk_ BK101.o⟩, ⟨be1_ HB.o GE101.o⟩⟩
                 case round =>
                  clear H'; (try clear c5); (try clear c5b0); (try clear c5b1); (try clear c6); (try clear c7); (try clear c7b0); (try clear c7b1); (try clear c8); (try clear c8b0); (try clear c8b1); (try clear c11); (try clear c11b0); (try clear c12); (try clear c12b0); (try clear c13); (try clear c13b0); (try clear c15); (try clear c18); (try clear c18b0); (try clear c19); (try clear c19b0); (try clear c20); (try clear c20b0); (try clear c21); (try clear c21b0); (try clear c22); (try clear c22b0); (try clear c23); (try clear c23b0); (try clear p24); (try clear q24); (try clear c32); (try clear c32b0); (try clear c32b1); (try clear c33); (try clear c33b0); (try clear c33b1); (try clear c36); (try clear c36b0); (try clear c38); (try clear c38b0); (try clear c39); (try clear c39b0); (try clear c40); (try clear c40b0); (try clear c41); (try clear c41b0); (try clear c41b1); (try clear c42); (try clear c42b0); (try clear c46); (try clear c46b0); (try clear c47); (try clear c47b0); (try clear c49); (try clear hcz16_0); (try clear hcz25_0); (try clear hcz29_0); (try clear hcz30_0); (try clear hcz4_0); (try clear hfz16_0); (try clear hfz25_0); (try clear hfz29_0); (try clear hfz30_0); (try clear hfz4_0); (try clear hx105_0); (try clear hx105_1); (try clear hx105_2); (try clear hx105_3); (try clear hx105_4); (try clear hx107_0); (try clear hx107_1); (try clear hx107_2); (try clear hx107_3); (try clear hx107_4); (try clear hx108_0); (try clear hx108_1); (try clear hx108_2); (try clear hx108_3); (try clear hx108_4); (try clear hx109_0); (try clear hx110_0); (try clear hx115_0); (try clear hx116_0); (try clear hx117_0); (try clear hx24_0); (try clear p105); (try clear p107); (try clear p108); (try clear p109); (try clear p110); (try clear p115); (try clear p116); (try clear p117); (try clear p24); (try clear q105); (try clear q107); (try clear q108); (try clear q109); (try clear q110); (try clear q115); (try clear q116); (try clear q117); (try clear q24); obtain ⟨x7_5, x9_5, rfl, HA, HK5, HO_4, HO_7, BK101, HB⟩ := hrel
                  cases gk with
                  | zero => exact absurd HA.o (by simp [spec_RxOk.l3])
                  | succ k5 =>
                   have H := HA.o; clear HA
                   simp only [spec_RxOk.l3] at H
                   by_cases c50 : 0 ≤ x8_3
                   ·rw [if_pos c50] at H; have c50b0 := dt_ c50; clear c50
                    by_cases c51 : x8_3 < (l0_0.length : Int)
                    ·rw [if_pos c51] at H; have c51b0 := dt_ c51; clear c51
                     by_cases c52 : x9_5 < (((rd_T156 l0_0 x8_3).f2).length : Int)
                     ·rw [if_pos c52] at H; have c52b0 := dt_ c52; clear c52
                      by_cases c53 : 0 ≤ x9_5
                      ·rw [if_pos c53] at H; have c53b0 := dt_ c53; clear c53
                       by_cases c54 : x8_3 < (x7_5.length : Int)
                       ·rw [if_pos c54] at H; have c54b0 := dt_ c54; clear c54
                        by_cases c55 : 0 ≤ (rd ((rd_T156 l0_0 x8_3).f2) x9_5)
                        ·rw [if_pos c55] at H; have c55b0 := dt_ c55; clear c55
                         by_cases c56 : (rd ((rd_T156 l0_0 x8_3).f2) x9_5) < (x7_5.length : Int)
                         ·rw [if_pos c56] at H; have c56b0 := dt_ c56; clear c56
                          obtain ⟨y122, hy122⟩ : ∃ y_ : List Int, y_ = (x7_5.set ((rd ((rd_T156 l0_0 x8_3).f2) x9_5) : Int).toNat (wrap64 ((rd x7_5 x8_3) + 1))) := ⟨_, rfl⟩
                          replace H : (spec_RxOk.l3 k5 (l0_0.length : Int) x4_2 y122 x8_3 (wrap64 (x9_5 + 1)) l0_0) = some r := by first | (rw [hy122]; with_reducible exact H) | (have H2_ := (Option.bind_some _ _).symm.trans H; rw [hy122]; with_reducible exact H2_) | (have H2_ := (Option.bind_some _ _).symm.trans H; with_reducible exact H2_) | with_reducible exact H | (rw [hy122]; exact H) | exact H
                          have Ny122 := q_ hy122; clear hy122
                          have H' := q_ H
                          clear H; obtain ⟨hcz58_0, hfz58_0⟩ := d1_ BK101
                          have p118 : 0 ≤ (x8_3 : Int) := of_decide_eq_true as_
                          have q118 : x8_3 < (l0_0.length : Int) := of_decide_eq_true as_
                          obtain ⟨ad118, A118_1, c118_1, A118_2, c118_2, e118, hx118_0, hx118_1, hx118_2, hx118_3, hx118_4, hl118_1, hi118_1, hl118_2, hi118_2⟩ := at_T156 HR0_0.o x8_3 p118 q118
                          cases e118
                          replace hx118_0 := mv_ HB.o hx118_0; replace hx118_1 := mv_ HB.o hx118_1; replace hx118_2 := mv_ HB.o hx118_2; replace hx118_3 := mv_ HB.o hx118_3; replace hx118_4 := mv_ HB.o hx118_4; have HR118_1 := q_ hi118_1; have HC118_1 := q_ hl118_1; clear hi118_1 hl118_1; have HR118_2 := q_ hi118_2; have HC118_2 := q_ hl118_2; clear hi118_2 hl118_2; replace p118 := eq_true p118; replace q118 := eq_true q118
                          try go_wp2
                          replace HO_4 := q_ (Kd.R_drew HO_4.o); replace HO_7 := q_ (Kd.R_drew HO_7.o); replace BK101 := q_ (blk_drew BK101.o); replace HB := q_ (below_drew1 HB.o)
                          have p119 : 0 ≤ (x8_3 : Int) := of_decide_eq_true as_
                          have q119 : x8_3 < (l0_0.length : Int) := of_decide_eq_true as_
                          obtain ⟨ad119, A119_1, c119_1, A119_2, c119_2, e119, hx119_0, hx119_1, hx119_2, hx119_3, hx119_4, hl119_1, hi119_1, hl119_2, hi119_2⟩ := at_T156 HR0_0.o x8_3 p119 q119; have hw119_4 := hx119_4; have hw119_3 := hx119_3; have hw119_2 := hx119_2; have hw119_1 := hx119_1; have hw119_0 := hx119_0
                          obtain rfl : ad118 = ad119 := (by injection e119)
                          replace hx119_0 := mv_ HB.o hx119_0; replace hx119_1 := mv_ HB.o hx119_1; replace hx119_2 := mv_ HB.o hx119_2; replace hx119_3 := mv_ HB.o hx119_3; replace hx119_4 := mv_ HB.o hx119_4; have HR119_1 := q_ hi119_1; have HC119_1 := q_ hl119_1; clear hi119_1 hl119_1; have HR119_2 := q_ hi119_2; have HC119_2 := q_ hl119_2; clear hi119_2 hl119_2; replace p119 := eq_true p119; replace q119 := eq_true q119
                          have p120 : 0 ≤ (x9_5 : Int) := of_decide_eq_true as_
                          have q120 : x9_5 < (((rd_T156 l0_0 x8_3).f2).length : Int) := of_decide_eq_true as_
                          obtain ⟨ad120, e120, hx120_0⟩ := Kd.at_int HR119_2.o x9_5 p120 q120; have hw120_0 := hx120_0
                          cases e120
                          replace hx120_0 := mv_ HB.o hx120_0; replace p120 := eq_true p120; replace q120 := eq_true q120; obtain ⟨Ao60, co60, eo60⟩ := Kd.R_slice HO_7.o
                          (first | subst eo60 | (injection eo60 with f1_ f2_ f3_; have f4_ := f1_.symm; have f5_ := f3_.symm; clear f1_ f2_ f3_; subst f4_; subst f5_))
                          have p121 : 0 ≤ (x8_3 : Int) := of_decide_eq_true as_
                          have q121 : x8_3 < (x7_5.length : Int) := of_decide_eq_true as_
                          obtain ⟨ad121, e121, hx121_0⟩ := Kd.at_int (Kd.R_reads' HO_7.o).2.2 x8_3 p121 q121
                          cases e121
                          replace p121 := eq_true p121; replace q121 := eq_true q121
                          have p57 : 0 ≤ ((rd ((rd_T156 l0_0 x8_3).f2) x9_5) : Int) := of_decide_eq_true as_
                          have q57 : ((rd ((rd_T156 l0_0 x8_3).f2) x9_5) : Int) < ((x7_5.length : Int) : Int) := of_decide_eq_true as_
                          obtain ⟨go57, co57, eo57, gb57, gl57, cl57, HG57⟩ := Kd.R_form HO_7.o (by omega)
                          (first | cases eo57 | (injection eo57 with ea_ en_ ec_; (first | subst ea_ | (injection ea_ with ea_; subst ea_)); subst ec_; clear en_))
                          have GB57 := q_ gb57; have GG57 := q_ HG57; clear gb57 gl57 HG57
                          (first | simp only [add_plain] at hx121_0 | skip)
                          obtain ⟨hx57_0, hf57_0⟩ := Kd.R_celln 0 HO_7.o ((rd ((rd_T156 l0_0 x8_3).f2) x9_5) : Int) p57 q57; replace p57 := eq_true p57; replace q57 := eq_true q57; have HP61 := Kd.R_putn HO_7.o ((rd ((rd_T156 l0_0 x8_3).f2) x9_5) : Int) (wrap64 ((rd x7_5 x8_3) + 1))
                          rw [← Ny122.o] at HP61
                          have HQ61 := q_ HP61; clear HP61
                          refine start_ (n := 17) (S := fun w' => w'.cell? ⟨gb101, 0, none⟩ = some (.slice (some ad118) l0_0.length c0_0) ∧ w'.cell? (ad118.add ((x8_3).toNat * 5)) = some (.int .i64 ((rd_T156 l0_0 x8_3).f0)) ∧ w'.cell? ⟨(ad118.add ((x8_3).toNat * 5)).block, (ad118.add ((x8_3).toNat * 5)).off + 1, none⟩ = some (.slice A119_1 ((rd_T156 l0_0 x8_3).f1).length c119_1) ∧ w'.cell? ⟨(ad118.add ((x8_3).toNat * 5)).block, (ad118.add ((x8_3).toNat * 5)).off + 2, none⟩ = some (.slice (some ad120) ((rd_T156 l0_0 x8_3).f2).length c119_2) ∧ w'.cell? ⟨(ad118.add ((x8_3).toNat * 5)).block, (ad118.add ((x8_3).toNat * 5)).off + 3, none⟩ = some (.int .i64 ((rd_T156 l0_0 x8_3).f3)) ∧ w'.cell? ⟨(ad118.add ((x8_3).toNat * 5)).block, (ad118.add ((x8_3).toNat * 5)).off + 4, none⟩ = some (.int .i64 ((rd_T156 l0_0 x8_3).f4)) ∧ w'.cell? (ad120.add (x9_5).toNat) = some (.int .i64 (rd ((rd_T156 l0_0 x8_3).f2) x9_5)) ∧ w'.cell? ⟨go57, (x8_3).toNat, none⟩ = some (.int .i64 (rd x7_5 x8_3))) (ds := [16]) (bb 17 0) (by kernel_rfl) rfl rfl ⟨(blk_cell BK101.o 0).trans rfl, (mv_ HB.o hw119_0), (mv_ HB.o hw119_1), (mv_ HB.o hw119_2), (mv_ HB.o hw119_3), (mv_ HB.o hw119_4), (mv_ HB.o hw120_0), hx121_0⟩ (fun hHeld => ?_); refine with_tabW spec_RxOk.tab23 spec_RxOk.bits23 (fun HT_ HW_ => ?_)
                          generalize wr.drew = w59 at HO_4 HO_7 BK101 HB GG57 HQ61 HR119_1 HR119_2 hf57_0 hx119_0 hx119_1 hx119_2 hx119_3 hx119_4 hx120_0 hx121_0 hx57_0 hHeld ⊢
                          refine pv_ 0 96 1 HT_.o ?_; refine pv_ 1 97 3 HT_.o ?_; refine pv_ 3 99 11 HT_.o ?_; refine pv_ 7 103 139 HT_.o ?_; refine pv_ 10 106 1163 HT_.o ?_; refine pv_ 11 107 3211 HT_.o ?_; refine pv_ 12 108 7307 HT_.o ?_; refine tv_ 2 98 7311 HT_.o HW_.o hHeld ?_; refine pv_ 4 100 7327 HT_.o ?_; refine pv_ 5 101 7359 HT_.o ?_; refine tv_ 6 102 7423 HT_.o HW_.o hHeld ?_; refine pv_ 8 104 7679 HT_.o ?_; refine tv_ 9 105 8191 HT_.o HW_.o hHeld ?_; refine tv_ 13 109 16383 HT_.o HW_.o hHeld ?_; refine pv_ 14 110 32767 HT_.o ?_; refine pv_ 15 111 65535 HT_.o ?_
                          refine last_ (i := 16) (N := none) (bb 17 131071) rfl rfl (one_of HT_.o (by kernel_rfl)) (by decide) (fun K hK => ?_)
                          refine skip_ (w1 := ?_) (by rfl) rfl ?_ ?_
                          rotate_left
                          ·go_simp
                           rfl
                          refine hK.out _ _ ?_
                          clear hK K
                          refine done_ (done_of HT_.o (by kernel_rfl)) ?_
                          try go_wp2
                          go_roundg k5
                          case measure => have := HJ1.o; have := HK2.o; have := HK3.o; have := HJ36.o; have := HK5.o; omega
                          case rel => exact ⟨(y122), (wrap64 (x9_5 + 1)), rs_, H', ⟨by have := HJ1.o; have := HK2.o; have := HK3.o; have := HJ36.o; have := HK5.o; omega⟩, ⟨by (with_reducible repeat (first | apply Kd.R_alloc | apply Kd.R_drewN | apply Kd.R_drew)); exact Kd.R_mono (Kd.R_far (p := ⟨go57, ((rd ((rd_T156 l0_0 x8_3).f2) x9_5) : Int).toNat, none⟩) (Kd.R_mono HO_4.o (fun k_ hk => (⟨hk, fun e_ => hk (by rw [e_]; rfl)⟩ : _ ∧ k_ ≠ go57))) (fun _ hk => hk.2) (.int .i64 (wrap64 ((rd x7_5 x8_3) + 1)))) (fun _ hk => hk.1)⟩, ⟨ra_ HQ61.o⟩, ⟨by (with_reducible repeat (first | refine blk_drewN ?_ _ | refine blk_drew ?_ | refine blk_alloc ?_ _)); refine blk_far ?_ (by have h_ := Kd.R_ne HO_7.o BK101.o (by decide); intro e_; exact h_ (by rw [e_]; rfl)) _; (with_reducible repeat (first | refine blk_drewN ?_ _ | refine blk_drew ?_ | refine blk_alloc ?_ _)); exact BK101.o⟩, ⟨be2_ HB.o GB57.o GE101.o⟩⟩
                         ·rw [if_neg c56] at H
                          exact absurd H (by simp)
                        ·rw [if_neg c55] at H
                         exact absurd H (by simp)
                       ·rw [if_neg c54] at H
                        exact absurd H (by simp)
                      ·rw [if_neg c53] at H
                       exact absurd H (by simp)
                     ·rw [if_neg c52] at H; have c52b0 := df_ c52; clear c52
                      have H' := q_ H
                      clear H; obtain ⟨hcz62_0, hfz62_0⟩ := d1_ BK101
                      have p118 : 0 ≤ (x8_3 : Int) := of_decide_eq_true as_
                      have q118 : x8_3 < (l0_0.length : Int) := of_decide_eq_true as_
                      obtain ⟨ad118, A118_1, c118_1, A118_2, c118_2, e118, hx118_0, hx118_1, hx118_2, hx118_3, hx118_4, hl118_1, hi118_1, hl118_2, hi118_2⟩ := at_T156 HR0_0.o x8_3 p118 q118
                      cases e118
                      replace hx118_0 := mv_ HB.o hx118_0; replace hx118_1 := mv_ HB.o hx118_1; replace hx118_2 := mv_ HB.o hx118_2; replace hx118_3 := mv_ HB.o hx118_3; replace hx118_4 := mv_ HB.o hx118_4; have HR118_1 := q_ hi118_1; have HC118_1 := q_ hl118_1; clear hi118_1 hl118_1; have HR118_2 := q_ hi118_2; have HC118_2 := q_ hl118_2; clear hi118_2 hl118_2; replace p118 := eq_true p118; replace q118 := eq_true q118
                      go_wp2
                      go_roundg k5
                      case measure => have := HJ1.o; have := HK2.o; have := HK3.o; have := HJ36.o; have := HK5.o; omega
                      case rel => exact ⟨(x7_5), (wrap64 (x8_3 - 1)), rs_, H', ⟨by have := HJ1.o; have := HK2.o; have := HK3.o; have := HJ36.o; have := HK5.o; omega⟩, ⟨ra_ HO_4.o⟩, ⟨ra_ HO_7.o⟩, ⟨bk_ BK101.o⟩, ⟨be1_ HB.o GE101.o⟩⟩
                    ·rw [if_neg c51] at H
                     exact absurd H (by simp)
                   ·rw [if_neg c50] at H
                    exact absurd H (by simp)
             ·rw [if_neg c36] at H
              have c36b0 : decide (0 ≤ x8_3) = false := df_ c36
              clear c36; obtain rfl := Option.some.inj H
              go_wp2
              go_ret
              exact ⟨rt_, be1_ HB.o GE101.o⟩
          ·rw [if_neg c33] at H
           exact absurd H (by simp)
         ·rw [if_neg c32] at H
          exact absurd H (by simp)
     ·rw [if_neg c8] at H
      exact absurd H (by simp)
    ·rw [if_neg c7] at H
     exact absurd H (by simp)
/-! ### impl_RNode: function 118 -/
def impl_RNode.f (l0 : List (S156)) : Option (Int) := some (l0.length : Int)
theorem impl_RNode.calls (A0 : Option Addr) (c0 : Nat) (l0 : List (S156)) (r : Int) (w : World) (hr0 : Kd.C k156 w A0 l0.length l0) (hc0 : l0.length ≤ c0) (h : impl_RNode.f l0 = some r) :
  Calls Try.prog 118 #[.slice A0 l0.length c0] w fun e w' => e = .returned (.int .i64 r) ∧ Drawn0 w w' := by
 have HR0 := q_ hr0; have HC0 := q_ hc0; clear hr0 hc0
 have H : (some (l0.length : Int)) = some r := h
 clear h; obtain rfl := Option.some.inj H
 go_enter Try.func118, Try.ntmps118
 go_wp2
 go_ret
 exact ⟨by first | rfl | (simp; done) | (simp [*]; done), by repeat (first | exact Drawn0.refl _ | apply Drawn0.step)⟩
end Go.Proofs.Ytijmhelacmjggaa.P
namespace Go.Proofs.Ytijmhelacmjggaa.P
open Go.RowKit Go.Shelf Go.Proofs.YtijmhelacmjggaaW.PrintWords Go.Proofs.YtijmhelacmjggaaW.PrintLast Go.Proofs.YtijmhelacmjggaaW.PrintMore Go.Proofs.YtijmhelacmjggaaEv
set_option linter.unusedVariables false
set_option linter.unusedSimpArgs false
theorem IndexFunc_int (g : Nat) (lb : Array Value) (eg : ∀ args w, (callFunc g args).run Try.prog w = .ok (.enter g args) w) (p : Int → Bool) (A0 : Option Addr) (c0 : Nat) (l0 : List Int) (w : World) (hr0 : Kd.C (Kd.int .i64) w A0 l0.length l0)
    (hp : ∀ (n : Nat) (x : Int), x ∈ l0 → Calls Try.prog g (#[.int .i64 x] ++ lb) (w.drewN n) fun e w' => e = .returned (.bool (p x)) ∧ ∃ m, w' = (w.drewN n).drewN m) :
    Calls Try.prog 168 #[.slice A0 l0.length c0, .func (.func g) #[] lb] w fun e w' => e = .returned (.int .i64 (idxP p l0 0)) ∧ Drawn0 w w' := by
  have hn := hr0.2.1
  have HP := Lib.hid hp
  clear hp
  have HR := q_ hr0
  clear hr0
  go_enter Try.func168, Try.ntmps168
  go_wp2
  go_loopg [5, 8] l0.length (fun gg _ s8 wr => ∃ kk nd : Nat, kk ≤ l0.length ∧ l0.length - kk ≤ gg ∧ s8 = .int .i64 kk ∧ wr = w.drewN nd ∧ J0 (idxP p l0 0 = idxP p (l0.drop kk) kk))
  case atStart => exact ⟨0, 0, Nat.zero_le _, by omega, rfl, rfl, ⟨by simp⟩⟩
  case round =>
    obtain ⟨kk, nd, hkk, hg, rfl, rfl, HA⟩ := hrel
    by_cases hlt : kk < l0.length
    · have hltz : (kk : Int) < (l0.length : Int) := by omega
      obtain ⟨ad, rfl, hx0⟩ := Kd.at_int HR.o (kk : Int) (by omega) hltz
      rw [Int.toNat_natCast] at hx0
      have hmem : rd l0 (kk : Int) ∈ l0 := by
        unfold rd
        rw [List.getD_eq_getElem?_getD, List.getElem?_eq_getElem (by simpa using hlt)]
        exact List.getElem_mem _
      have hcall := HP.out nd (rd l0 (kk : Int)) hmem
      have hstep : J0 (idxP p l0 0 = if p (rd l0 (kk : Int)) then (kk : Int) else idxP p (l0.drop (kk + 1)) ((kk + 1 : Nat) : Int)) := ⟨by
        rw [HA.o, drop_cons l0 0 kk hlt]
        have hr : l0.getD kk 0 = rd l0 (kk : Int) := by simp [rd]
        rw [hr]
        rfl⟩
      clear hmem
      generalize rd l0 (kk : Int) = y at *
      cases hq : p y with
      | true =>
        rw [hq] at hcall
        have hs2 : J0 (idxP p l0 0 = (kk : Int)) := ⟨by rw [hstep.o, hq]; rfl⟩
        clear hstep hq HA
        go_wp2_with (go_at_fn g; refine hcall.mono ?_; rintro e w' ⟨rfl, m, rfl⟩)
        go_ret
        exact ⟨by (rw [hs2.o]; try rfl), by repeat (first | exact Drawn0.refl _ | apply Drawn0.step)⟩
      | false =>
        rw [hq] at hcall
        have hs2 : J0 (idxP p l0 0 = idxP p (l0.drop (kk + 1)) ((kk + 1 : Nat) : Int)) := ⟨by rw [hstep.o, hq]; rfl⟩
        clear hstep hq HA
        go_wp2_with (go_at_fn g; refine hcall.mono ?_; rintro e w' ⟨rfl, m, rfl⟩)
        go_roundg (l0.length - (kk + 1))
        case measure => omega
        case rel => exact ⟨kk + 1, _, by omega, by omega, by go_num, by first | rfl | exact World.drewN_drewN _ _ _, hs2⟩
    · have hltz : ¬ (kk : Int) < (l0.length : Int) := by omega
      have hk : kk = l0.length := by omega
      have hs2 : J0 (idxP p l0 0 = -1) := ⟨by rw [HA.o, hk]; simp [idxP]⟩
      clear hk HA
      go_wp2
      go_ret
      exact ⟨by (rw [hs2.o]; try rfl), by repeat (first | exact Drawn0.refl _ | apply Drawn0.step)⟩
theorem ContainsFunc_int (g : Nat) (lb : Array Value) (eg : ∀ args w, (callFunc g args).run Try.prog w = .ok (.enter g args) w) (p : Int → Bool) (A0 : Option Addr) (c0 : Nat) (l0 : List Int) (w : World) (hr0 : Kd.C (Kd.int .i64) w A0 l0.length l0)
    (hp : ∀ (n : Nat) (x : Int), x ∈ l0 → Calls Try.prog g (#[.int .i64 x] ++ lb) (w.drewN n) fun e w' => e = .returned (.bool (p x)) ∧ ∃ m, w' = (w.drewN n).drewN m) :
    Calls Try.prog 153 #[.slice A0 l0.length c0, .func (.func g) #[] lb] w fun e w' => e = .returned (.bool (l0.any p)) ∧ Drawn0 w w' := by
  have hc := IndexFunc_int g lb eg p A0 c0 l0 w hr0 hp
  have ha : l0.any p = decide (0 ≤ idxP p l0 0) := by
    rw [Bool.eq_iff_iff, decide_eq_true_iff, idxP_ge p l0 0 (by omega)]
  rw [ha]
  clear ha hr0 hp
  generalize idxP p l0 0 = i at hc ⊢
  go_enter Try.func153, Try.ntmps153
  go_wp2_with (go_at_call 168; refine hc.mono ?_; rintro e w' ⟨rfl, ⟨nd, rfl⟩⟩)
  go_ret
  exact ⟨rfl, by repeat (first | exact Drawn0.refl _ | apply Drawn0.step)⟩
theorem nodeOk_1_calls (place : Int) (h0 : -9223372036854775807 ≤ place) (h1 : place ≤ 9223372036854775807) (B : Nat) (w : World) (n : Nat) (hcell : w.cell? ⟨B, 0, none⟩ = some (.int .i64 place)) (x : Int) :
    Calls Try.prog 154 #[.int .i64 x, .pointer (some ⟨B, 0, none⟩)] (w.drewN n) fun e w' => e = .returned (.bool (!decide (0 ≤ x ∧ x ≤ place - 1))) ∧ ∃ m, w' = (w.drewN n).drewN m := by
  have hw1 := q_ (impl_within_eq x 0 (place - 1))
  generalize decide (0 ≤ x ∧ x ≤ place - 1) = b at hw1 ⊢
  go_enter Try.func154, Try.ntmps154
  go_wp2_with fail
  refine (impl_within.calls _ _ _ _ _ hw1.o).mono ?_
  rintro e w' ⟨rfl, ⟨nd, rfl⟩⟩
  go_wp2_with fail
  go_ret
  exact ⟨rfl, nd, by first | rfl | simp⟩
theorem kids_calls (place : Int) (h0 : -9223372036854775807 ≤ place) (h1 : place ≤ 9223372036854775807) (B : Nat) (w : World) (hcell : w.cell? ⟨B, 0, none⟩ = some (.int .i64 place)) (A2 : Option Addr) (c2 : Nat) (l2 : List Int) (hr2 : Kd.C (Kd.int .i64) w A2 l2.length l2) (b : Bool) (hb : J0 (l2.any (fun x => !decide (0 ≤ x ∧ x ≤ place - 1)) = b)) :
    Calls Try.prog 153 #[.slice A2 l2.length c2, .func (.func 154) #[] #[.pointer (some ⟨B, 0, none⟩)]] w fun e w' => e = .returned (.bool b) ∧ Drawn0 w w' := by
  have eg : ∀ args w, (callFunc 154 args).run Try.prog w = .ok (.enter 154 args) w := enters_of Try.func154 (by kernel_rfl) rfl
  have := ContainsFunc_int 154 #[.pointer (some ⟨B, 0, none⟩)] eg (fun x => !decide (0 ≤ x ∧ x ≤ place - 1)) A2 c2 l2 w hr2 (fun n x _ => nodeOk_1_calls place h0 h1 B w n hcell x)
  rw [hb.o] at this
  exact this
theorem nodeOk_kids (op : Int) (A1 : Option Addr) (c1 : Nat) (l1 : List S103) (A2 : Option Addr) (c2 : Nat) (l2 : List Int) (mi ma place : Int) (w : World) (hp0 : 0 ≤ place) (hp1 : place ≤ 1000000) (hr1 : Kd.C k103 w A1 l1.length l1) (hc1 : l1.length ≤ c1) (hr2 : Kd.C (Kd.int .i64) w A2 l2.length l2) (hc2 : l2.length ≤ c2) (hk : (l2.length : Int) ≠ kidsN op) :
    Calls Try.prog 119 #[.agg #[.int .i64 op, .slice A1 l1.length c1, .slice A2 l2.length c2, .int .i64 mi, .int .i64 ma], .int .i64 place] w fun e w' => e = .returned (.bool false) ∧ Below w.heap.size w w' := by
  obtain ⟨kk, hkk⟩ := ev_get (impl_kidsOf_ev op)
  have HK := q_ hkk
  have HR1 := q_ hr1
  have HC1 := q_ hc1
  have HR2 := q_ hr2
  have HC2 := q_ hc2
  clear hkk hr1 hc1 hr2 hc2
  generalize kidsN op = ko at HK hk
  have hb0 : Below w.heap.size w ((w.alloc (.cells #[.int .i64 op, .slice A1 l1.length c1, .slice A2 l2.length c2, .int .i64 mi, .int .i64 ma] 156)).alloc (.cells #[.int .i64 place] 2)) := below_alloc (below_alloc (Below.refl _ _) _) _
  have hne : ((l2.length : Int) != ko) = true := bne_iff_ne.2 hk
  clear hk
  go_enter Try.func119, Try.ntmps119
  go_wp2_with fail
  go_quiet (first | (go_at_call 152; refine (impl_kidsOf.calls _ _ _ _ HK.o).mono ?_; rintro e w' ⟨rfl, ⟨nd, rfl⟩⟩; first | exact ⟨rfl, _, World.drewN_drewN _ _ _⟩ | exact ⟨rfl, _, Eq.trans (World.drewN_drewN _ _ _) (congrArg (World.drewN _) (Nat.add_assoc _ _ _))⟩))
  go_wp2_with fail
  go_ret
  exact ⟨rfl, by repeat (first | exact hb0 | apply pw_below_drewN | apply below_drew1)⟩
theorem nodeOk_any (op : Int) (A1 : Option Addr) (c1 : Nat) (l1 : List S103) (A2 : Option Addr) (c2 : Nat) (l2 : List Int) (mi ma place : Int) (w : World) (hp0 : 0 ≤ place) (hp1 : place ≤ 1000000) (hr1 : Kd.C k103 w A1 l1.length l1) (hc1 : l1.length ≤ c1) (hr2 : Kd.C (Kd.int .i64) w A2 l2.length l2) (hc2 : l2.length ≤ c2) (hk : (l2.length : Int) = kidsN op) (hany : J0 (l2.any (fun x => !decide (0 ≤ x ∧ x ≤ place - 1)) = true)) :
    Calls Try.prog 119 #[.agg #[.int .i64 op, .slice A1 l1.length c1, .slice A2 l2.length c2, .int .i64 mi, .int .i64 ma], .int .i64 place] w fun e w' => e = .returned (.bool false) ∧ Below w.heap.size w w' := by
  obtain ⟨kk, hkk⟩ := ev_get (impl_kidsOf_ev op)
  have HK := q_ hkk
  have HR1 := q_ hr1
  have HC1 := q_ hc1
  have HR2 := q_ hr2
  have HC2 := q_ hc2
  clear hkk hr1 hc1 hr2 hc2
  generalize kidsN op = ko at HK hk
  have hb0 : Below w.heap.size w ((w.alloc (.cells #[.int .i64 op, .slice A1 l1.length c1, .slice A2 l2.length c2, .int .i64 mi, .int .i64 ma] 156)).alloc (.cells #[.int .i64 place] 2)) := below_alloc (below_alloc (Below.refl _ _) _) _
  have hne : ((l2.length : Int) != ko) = false := bne_eq_false_iff_eq.2 hk
  clear hk
  go_enter Try.func119, Try.ntmps119
  go_wp2_with fail
  go_quiet (first | (go_at_call 152; refine (impl_kidsOf.calls _ _ _ _ HK.o).mono ?_; rintro e w' ⟨rfl, ⟨nd, rfl⟩⟩; first | exact ⟨rfl, _, World.drewN_drewN _ _ _⟩ | exact ⟨rfl, _, Eq.trans (World.drewN_drewN _ _ _) (congrArg (World.drewN _) (Nat.add_assoc _ _ _))⟩) | (go_at_call 153; refine (kids_calls place (by omega) (by omega) (w.heap.size + 1) _ ?hcl _ _ l2 ?hr _ hany).mono ?_; (case hcl => (go_simp; done)); (case hr => exact Kd.C_below HR2.o (by repeat (first | exact hb0 | apply pw_below_drewN | apply below_drew1))); rintro e w' ⟨rfl, ⟨nd, rfl⟩⟩; first | exact ⟨rfl, _, World.drewN_drewN _ _ _⟩ | exact ⟨rfl, _, Eq.trans (World.drewN_drewN _ _ _) (congrArg (World.drewN _) (Nat.add_assoc _ _ _))⟩))
  go_wp2_with fail
  go_ret
  exact ⟨rfl, by repeat (first | exact hb0 | apply pw_below_drewN | apply below_drew1)⟩
theorem nodeOk_class (op : Int) (A1 : Option Addr) (c1 : Nat) (l1 : List S103) (A2 : Option Addr) (c2 : Nat) (l2 : List Int) (mi ma place : Int) (w : World) (hp0 : 0 ≤ place) (hp1 : place ≤ 1000000) (hr1 : Kd.C k103 w A1 l1.length l1) (hc1 : l1.length ≤ c1) (hr2 : Kd.C (Kd.int .i64) w A2 l2.length l2) (hc2 : l2.length ≤ c2) (hk : (l2.length : Int) = kidsN op) (hany : J0 (l2.any (fun x => !decide (0 ≤ x ∧ x ≤ place - 1)) = false)) (h2 : (op == 2) = true) (h2' : (op != 2) = false) (kc : Nat) (hcl : impl_ClassOk.f kc l1 = some false) :
    Calls Try.prog 119 #[.agg #[.int .i64 op, .slice A1 l1.length c1, .slice A2 l2.length c2, .int .i64 mi, .int .i64 ma], .int .i64 place] w fun e w' => e = .returned (.bool false) ∧ Below w.heap.size w w' := by
  obtain ⟨kk, hkk⟩ := ev_get (impl_kidsOf_ev op)
  have HK := q_ hkk
  have HR1 := q_ hr1
  have HC1 := q_ hc1
  have HR2 := q_ hr2
  have HC2 := q_ hc2
  clear hkk hr1 hc1 hr2 hc2
  generalize kidsN op = ko at HK hk
  have hb0 : Below w.heap.size w ((w.alloc (.cells #[.int .i64 op, .slice A1 l1.length c1, .slice A2 l2.length c2, .int .i64 mi, .int .i64 ma] 156)).alloc (.cells #[.int .i64 place] 2)) := below_alloc (below_alloc (Below.refl _ _) _) _
  have hne : ((l2.length : Int) != ko) = false := bne_eq_false_iff_eq.2 hk
  clear hk
  have HCl := q_ hcl
  clear hcl
  go_enter Try.func119, Try.ntmps119
  go_wp2_with fail
  go_quiet (first | (go_at_call 152; refine (impl_kidsOf.calls _ _ _ _ HK.o).mono ?_; rintro e w' ⟨rfl, ⟨nd, rfl⟩⟩; first | exact ⟨rfl, _, World.drewN_drewN _ _ _⟩ | exact ⟨rfl, _, Eq.trans (World.drewN_drewN _ _ _) (congrArg (World.drewN _) (Nat.add_assoc _ _ _))⟩) | (go_at_call 153; refine (kids_calls place (by omega) (by omega) (w.heap.size + 1) _ ?hcl _ _ l2 ?hr _ hany).mono ?_; (case hcl => (go_simp; done)); (case hr => exact Kd.C_below HR2.o (by repeat (first | exact hb0 | apply pw_below_drewN | apply below_drew1))); rintro e w' ⟨rfl, ⟨nd, rfl⟩⟩; first | exact ⟨rfl, _, World.drewN_drewN _ _ _⟩ | exact ⟨rfl, _, Eq.trans (World.drewN_drewN _ _ _) (congrArg (World.drewN _) (Nat.add_assoc _ _ _))⟩))
  go_wp2_with fail
  refine (impl_ClassOk.calls kc _ _ l1 false _ ?side1 HC1.o HCl.o).mono ?_
  case side1 => exact Kd.C_below HR1.o (by repeat (first | exact hb0 | apply pw_below_drewN | apply below_drew1))
  rintro e w1 ⟨rfl, hb1⟩
  have hbb : Below w.heap.size w w1 := below_then (by repeat (first | exact hb0 | apply pw_below_drewN | apply below_drew1)) (by simp; omega) hb1
  have hg0 : w1.cell? ⟨w.heap.size, 0, none⟩ = some (.int .i64 op) := (hb1.cell (p := ⟨w.heap.size, 0, none⟩) (by simp; omega)).trans (by go_simp)
  have hg1 : w1.cell? ⟨w.heap.size, 1, none⟩ = some (.slice A1 l1.length c1) := (hb1.cell (p := ⟨w.heap.size, 1, none⟩) (by simp; omega)).trans (by go_simp)
  have hg3 : w1.cell? ⟨w.heap.size, 3, none⟩ = some (.int .i64 mi) := (hb1.cell (p := ⟨w.heap.size, 3, none⟩) (by simp; omega)).trans (by go_simp)
  have hg4 : w1.cell? ⟨w.heap.size, 4, none⟩ = some (.int .i64 ma) := (hb1.cell (p := ⟨w.heap.size, 4, none⟩) (by simp; omega)).trans (by go_simp)
  clear hb1
  go_wp2_with fail
  go_ret
  exact ⟨rfl, by repeat (first | exact hbb | apply pw_below_drewN | apply below_drew1)⟩
theorem nodeOk_bare (op : Int) (A1 : Option Addr) (c1 : Nat) (l1 : List S103) (A2 : Option Addr) (c2 : Nat) (l2 : List Int) (mi ma place : Int) (w : World) (hp0 : 0 ≤ place) (hp1 : place ≤ 1000000) (hr1 : Kd.C k103 w A1 l1.length l1) (hc1 : l1.length ≤ c1) (hr2 : Kd.C (Kd.int .i64) w A2 l2.length l2) (hc2 : l2.length ≤ c2) (hk : (l2.length : Int) = kidsN op) (hany : J0 (l2.any (fun x => !decide (0 ≤ x ∧ x ≤ place - 1)) = false)) (h2 : (op == 2) = true) (h2' : (op != 2) = false) (kc : Nat) (hcl : impl_ClassOk.f kc l1 = some true) (he : ((l1.length : Int) == 0) = true) :
    Calls Try.prog 119 #[.agg #[.int .i64 op, .slice A1 l1.length c1, .slice A2 l2.length c2, .int .i64 mi, .int .i64 ma], .int .i64 place] w fun e w' => e = .returned (.bool false) ∧ Below w.heap.size w w' := by
  obtain ⟨kk, hkk⟩ := ev_get (impl_kidsOf_ev op)
  have HK := q_ hkk
  have HR1 := q_ hr1
  have HC1 := q_ hc1
  have HR2 := q_ hr2
  have HC2 := q_ hc2
  clear hkk hr1 hc1 hr2 hc2
  generalize kidsN op = ko at HK hk
  have hb0 : Below w.heap.size w ((w.alloc (.cells #[.int .i64 op, .slice A1 l1.length c1, .slice A2 l2.length c2, .int .i64 mi, .int .i64 ma] 156)).alloc (.cells #[.int .i64 place] 2)) := below_alloc (below_alloc (Below.refl _ _) _) _
  have hne : ((l2.length : Int) != ko) = false := bne_eq_false_iff_eq.2 hk
  clear hk
  have HCl := q_ hcl
  clear hcl
  go_enter Try.func119, Try.ntmps119
  go_wp2_with fail
  go_quiet (first | (go_at_call 152; refine (impl_kidsOf.calls _ _ _ _ HK.o).mono ?_; rintro e w' ⟨rfl, ⟨nd, rfl⟩⟩; first | exact ⟨rfl, _, World.drewN_drewN _ _ _⟩ | exact ⟨rfl, _, Eq.trans (World.drewN_drewN _ _ _) (congrArg (World.drewN _) (Nat.add_assoc _ _ _))⟩) | (go_at_call 153; refine (kids_calls place (by omega) (by omega) (w.heap.size + 1) _ ?hcl _ _ l2 ?hr _ hany).mono ?_; (case hcl => (go_simp; done)); (case hr => exact Kd.C_below HR2.o (by repeat (first | exact hb0 | apply pw_below_drewN | apply below_drew1))); rintro e w' ⟨rfl, ⟨nd, rfl⟩⟩; first | exact ⟨rfl, _, World.drewN_drewN _ _ _⟩ | exact ⟨rfl, _, Eq.trans (World.drewN_drewN _ _ _) (congrArg (World.drewN _) (Nat.add_assoc _ _ _))⟩))
  go_wp2_with fail
  refine (impl_ClassOk.calls kc _ _ l1 true _ ?side1 HC1.o HCl.o).mono ?_
  case side1 => exact Kd.C_below HR1.o (by repeat (first | exact hb0 | apply pw_below_drewN | apply below_drew1))
  rintro e w1 ⟨rfl, hb1⟩
  have hbb : Below w.heap.size w w1 := below_then (by repeat (first | exact hb0 | apply pw_below_drewN | apply below_drew1)) (by simp; omega) hb1
  have hg0 : w1.cell? ⟨w.heap.size, 0, none⟩ = some (.int .i64 op) := (hb1.cell (p := ⟨w.heap.size, 0, none⟩) (by simp; omega)).trans (by go_simp)
  have hg1 : w1.cell? ⟨w.heap.size, 1, none⟩ = some (.slice A1 l1.length c1) := (hb1.cell (p := ⟨w.heap.size, 1, none⟩) (by simp; omega)).trans (by go_simp)
  have hg3 : w1.cell? ⟨w.heap.size, 3, none⟩ = some (.int .i64 mi) := (hb1.cell (p := ⟨w.heap.size, 3, none⟩) (by simp; omega)).trans (by go_simp)
  have hg4 : w1.cell? ⟨w.heap.size, 4, none⟩ = some (.int .i64 ma) := (hb1.cell (p := ⟨w.heap.size, 4, none⟩) (by simp; omega)).trans (by go_simp)
  clear hb1
  go_wp2_with fail
  go_ret
  exact ⟨rfl, by repeat (first | exact hbb | apply pw_below_drewN | apply below_drew1)⟩
theorem nodeOk_set0 (op : Int) (A1 : Option Addr) (c1 : Nat) (l1 : List S103) (A2 : Option Addr) (c2 : Nat) (l2 : List Int) (mi ma place : Int) (w : World) (hp0 : 0 ≤ place) (hp1 : place ≤ 1000000) (hr1 : Kd.C k103 w A1 l1.length l1) (hc1 : l1.length ≤ c1) (hr2 : Kd.C (Kd.int .i64) w A2 l2.length l2) (hc2 : l2.length ≤ c2) (hk : (l2.length : Int) = kidsN op) (hany : J0 (l2.any (fun x => !decide (0 ≤ x ∧ x ≤ place - 1)) = false)) (h2 : (op == 2) = true) (h2' : (op != 2) = false) (kc : Nat) (hcl : impl_ClassOk.f kc l1 = some true) (he : ((l1.length : Int) == 0) = false) (h8 : (op == 8) = false) (hmi : (mi == 0) = false) :
    Calls Try.prog 119 #[.agg #[.int .i64 op, .slice A1 l1.length c1, .slice A2 l2.length c2, .int .i64 mi, .int .i64 ma], .int .i64 place] w fun e w' => e = .returned (.bool false) ∧ Below w.heap.size w w' := by
  obtain ⟨kk, hkk⟩ := ev_get (impl_kidsOf_ev op)
  have HK := q_ hkk
  have HR1 := q_ hr1
  have HC1 := q_ hc1
  have HR2 := q_ hr2
  have HC2 := q_ hc2
  clear hkk hr1 hc1 hr2 hc2
  generalize kidsN op = ko at HK hk
  have hb0 : Below w.heap.size w ((w.alloc (.cells #[.int .i64 op, .slice A1 l1.length c1, .slice A2 l2.length c2, .int .i64 mi, .int .i64 ma] 156)).alloc (.cells #[.int .i64 place] 2)) := below_alloc (below_alloc (Below.refl _ _) _) _
  have hne : ((l2.length : Int) != ko) = false := bne_eq_false_iff_eq.2 hk
  clear hk
  have HCl := q_ hcl
  clear hcl
  go_enter Try.func119, Try.ntmps119
  go_wp2_with fail
  go_quiet (first | (go_at_call 152; refine (impl_kidsOf.calls _ _ _ _ HK.o).mono ?_; rintro e w' ⟨rfl, ⟨nd, rfl⟩⟩; first | exact ⟨rfl, _, World.drewN_drewN _ _ _⟩ | exact ⟨rfl, _, Eq.trans (World.drewN_drewN _ _ _) (congrArg (World.drewN _) (Nat.add_assoc _ _ _))⟩) | (go_at_call 153; refine (kids_calls place (by omega) (by omega) (w.heap.size + 1) _ ?hcl _ _ l2 ?hr _ hany).mono ?_; (case hcl => (go_simp; done)); (case hr => exact Kd.C_below HR2.o (by repeat (first | exact hb0 | apply pw_below_drewN | apply below_drew1))); rintro e w' ⟨rfl, ⟨nd, rfl⟩⟩; first | exact ⟨rfl, _, World.drewN_drewN _ _ _⟩ | exact ⟨rfl, _, Eq.trans (World.drewN_drewN _ _ _) (congrArg (World.drewN _) (Nat.add_assoc _ _ _))⟩))
  go_wp2_with fail
  refine (impl_ClassOk.calls kc _ _ l1 true _ ?side1 HC1.o HCl.o).mono ?_
  case side1 => exact Kd.C_below HR1.o (by repeat (first | exact hb0 | apply pw_below_drewN | apply below_drew1))
  rintro e w1 ⟨rfl, hb1⟩
  have hbb : Below w.heap.size w w1 := below_then (by repeat (first | exact hb0 | apply pw_below_drewN | apply below_drew1)) (by simp; omega) hb1
  have hg0 : w1.cell? ⟨w.heap.size, 0, none⟩ = some (.int .i64 op) := (hb1.cell (p := ⟨w.heap.size, 0, none⟩) (by simp; omega)).trans (by go_simp)
  have hg1 : w1.cell? ⟨w.heap.size, 1, none⟩ = some (.slice A1 l1.length c1) := (hb1.cell (p := ⟨w.heap.size, 1, none⟩) (by simp; omega)).trans (by go_simp)
  have hg3 : w1.cell? ⟨w.heap.size, 3, none⟩ = some (.int .i64 mi) := (hb1.cell (p := ⟨w.heap.size, 3, none⟩) (by simp; omega)).trans (by go_simp)
  have hg4 : w1.cell? ⟨w.heap.size, 4, none⟩ = some (.int .i64 ma) := (hb1.cell (p := ⟨w.heap.size, 4, none⟩) (by simp; omega)).trans (by go_simp)
  clear hb1
  go_wp2_with fail
  go_ret
  exact ⟨rfl, by repeat (first | exact hbb | apply pw_below_drewN | apply below_drew1)⟩
theorem nodeOk_set1 (op : Int) (A1 : Option Addr) (c1 : Nat) (l1 : List S103) (A2 : Option Addr) (c2 : Nat) (l2 : List Int) (mi ma place : Int) (w : World) (hp0 : 0 ≤ place) (hp1 : place ≤ 1000000) (hr1 : Kd.C k103 w A1 l1.length l1) (hc1 : l1.length ≤ c1) (hr2 : Kd.C (Kd.int .i64) w A2 l2.length l2) (hc2 : l2.length ≤ c2) (hk : (l2.length : Int) = kidsN op) (hany : J0 (l2.any (fun x => !decide (0 ≤ x ∧ x ≤ place - 1)) = false)) (h2 : (op == 2) = true) (h2' : (op != 2) = false) (kc : Nat) (hcl : impl_ClassOk.f kc l1 = some true) (he : ((l1.length : Int) == 0) = false) (h8 : (op == 8) = false) (hmi : (mi == 0) = true) :
    Calls Try.prog 119 #[.agg #[.int .i64 op, .slice A1 l1.length c1, .slice A2 l2.length c2, .int .i64 mi, .int .i64 ma], .int .i64 place] w fun e w' => e = .returned (.bool (ma == 0)) ∧ Below w.heap.size w w' := by
  obtain ⟨kk, hkk⟩ := ev_get (impl_kidsOf_ev op)
  have HK := q_ hkk
  have HR1 := q_ hr1
  have HC1 := q_ hc1
  have HR2 := q_ hr2
  have HC2 := q_ hc2
  clear hkk hr1 hc1 hr2 hc2
  generalize kidsN op = ko at HK hk
  have hb0 : Below w.heap.size w ((w.alloc (.cells #[.int .i64 op, .slice A1 l1.length c1, .slice A2 l2.length c2, .int .i64 mi, .int .i64 ma] 156)).alloc (.cells #[.int .i64 place] 2)) := below_alloc (below_alloc (Below.refl _ _) _) _
  have hne : ((l2.length : Int) != ko) = false := bne_eq_false_iff_eq.2 hk
  clear hk
  have HCl := q_ hcl
  clear hcl
  go_enter Try.func119, Try.ntmps119
  go_wp2_with fail
  go_quiet (first | (go_at_call 152; refine (impl_kidsOf.calls _ _ _ _ HK.o).mono ?_; rintro e w' ⟨rfl, ⟨nd, rfl⟩⟩; first | exact ⟨rfl, _, World.drewN_drewN _ _ _⟩ | exact ⟨rfl, _, Eq.trans (World.drewN_drewN _ _ _) (congrArg (World.drewN _) (Nat.add_assoc _ _ _))⟩) | (go_at_call 153; refine (kids_calls place (by omega) (by omega) (w.heap.size + 1) _ ?hcl _ _ l2 ?hr _ hany).mono ?_; (case hcl => (go_simp; done)); (case hr => exact Kd.C_below HR2.o (by repeat (first | exact hb0 | apply pw_below_drewN | apply below_drew1))); rintro e w' ⟨rfl, ⟨nd, rfl⟩⟩; first | exact ⟨rfl, _, World.drewN_drewN _ _ _⟩ | exact ⟨rfl, _, Eq.trans (World.drewN_drewN _ _ _) (congrArg (World.drewN _) (Nat.add_assoc _ _ _))⟩))
  go_wp2_with fail
  refine (impl_ClassOk.calls kc _ _ l1 true _ ?side1 HC1.o HCl.o).mono ?_
  case side1 => exact Kd.C_below HR1.o (by repeat (first | exact hb0 | apply pw_below_drewN | apply below_drew1))
  rintro e w1 ⟨rfl, hb1⟩
  have hbb : Below w.heap.size w w1 := below_then (by repeat (first | exact hb0 | apply pw_below_drewN | apply below_drew1)) (by simp; omega) hb1
  have hg0 : w1.cell? ⟨w.heap.size, 0, none⟩ = some (.int .i64 op) := (hb1.cell (p := ⟨w.heap.size, 0, none⟩) (by simp; omega)).trans (by go_simp)
  have hg1 : w1.cell? ⟨w.heap.size, 1, none⟩ = some (.slice A1 l1.length c1) := (hb1.cell (p := ⟨w.heap.size, 1, none⟩) (by simp; omega)).trans (by go_simp)
  have hg3 : w1.cell? ⟨w.heap.size, 3, none⟩ = some (.int .i64 mi) := (hb1.cell (p := ⟨w.heap.size, 3, none⟩) (by simp; omega)).trans (by go_simp)
  have hg4 : w1.cell? ⟨w.heap.size, 4, none⟩ = some (.int .i64 ma) := (hb1.cell (p := ⟨w.heap.size, 4, none⟩) (by simp; omega)).trans (by go_simp)
  clear hb1
  go_wp2_with fail
  go_ret
  exact ⟨rfl, by repeat (first | exact hbb | apply pw_below_drewN | apply below_drew1)⟩
theorem nodeOk_full (op : Int) (A1 : Option Addr) (c1 : Nat) (l1 : List S103) (A2 : Option Addr) (c2 : Nat) (l2 : List Int) (mi ma place : Int) (w : World) (hp0 : 0 ≤ place) (hp1 : place ≤ 1000000) (hr1 : Kd.C k103 w A1 l1.length l1) (hc1 : l1.length ≤ c1) (hr2 : Kd.C (Kd.int .i64) w A2 l2.length l2) (hc2 : l2.length ≤ c2) (hk : (l2.length : Int) = kidsN op) (hany : J0 (l2.any (fun x => !decide (0 ≤ x ∧ x ≤ place - 1)) = false)) (h2 : (op == 2) = false) (h2' : (op != 2) = true) (he : decide (0 < l1.length) = true) (he' : decide (0 < (l1.length : Int)) = true) :
    Calls Try.prog 119 #[.agg #[.int .i64 op, .slice A1 l1.length c1, .slice A2 l2.length c2, .int .i64 mi, .int .i64 ma], .int .i64 place] w fun e w' => e = .returned (.bool false) ∧ Below w.heap.size w w' := by
  obtain ⟨kk, hkk⟩ := ev_get (impl_kidsOf_ev op)
  have HK := q_ hkk
  have HR1 := q_ hr1
  have HC1 := q_ hc1
  have HR2 := q_ hr2
  have HC2 := q_ hc2
  clear hkk hr1 hc1 hr2 hc2
  generalize kidsN op = ko at HK hk
  have hb0 : Below w.heap.size w ((w.alloc (.cells #[.int .i64 op, .slice A1 l1.length c1, .slice A2 l2.length c2, .int .i64 mi, .int .i64 ma] 156)).alloc (.cells #[.int .i64 place] 2)) := below_alloc (below_alloc (Below.refl _ _) _) _
  have hne : ((l2.length : Int) != ko) = false := bne_eq_false_iff_eq.2 hk
  clear hk
  go_enter Try.func119, Try.ntmps119
  go_wp2_with fail
  go_quiet (first | (go_at_call 152; refine (impl_kidsOf.calls _ _ _ _ HK.o).mono ?_; rintro e w' ⟨rfl, ⟨nd, rfl⟩⟩; first | exact ⟨rfl, _, World.drewN_drewN _ _ _⟩ | exact ⟨rfl, _, Eq.trans (World.drewN_drewN _ _ _) (congrArg (World.drewN _) (Nat.add_assoc _ _ _))⟩) | (go_at_call 153; refine (kids_calls place (by omega) (by omega) (w.heap.size + 1) _ ?hcl _ _ l2 ?hr _ hany).mono ?_; (case hcl => (go_simp; done)); (case hr => exact Kd.C_below HR2.o (by repeat (first | exact hb0 | apply pw_below_drewN | apply below_drew1))); rintro e w' ⟨rfl, ⟨nd, rfl⟩⟩; first | exact ⟨rfl, _, World.drewN_drewN _ _ _⟩ | exact ⟨rfl, _, Eq.trans (World.drewN_drewN _ _ _) (congrArg (World.drewN _) (Nat.add_assoc _ _ _))⟩))
  go_wp2_with fail
  go_ret
  exact ⟨rfl, by repeat (first | exact hb0 | apply pw_below_drewN | apply below_drew1)⟩
theorem nodeOk_times (op : Int) (A1 : Option Addr) (c1 : Nat) (l1 : List S103) (A2 : Option Addr) (c2 : Nat) (l2 : List Int) (mi ma place : Int) (w : World) (hp0 : 0 ≤ place) (hp1 : place ≤ 1000000) (hr1 : Kd.C k103 w A1 l1.length l1) (hc1 : l1.length ≤ c1) (hr2 : Kd.C (Kd.int .i64) w A2 l2.length l2) (hc2 : l2.length ≤ c2) (hk : (l2.length : Int) = kidsN op) (hany : J0 (l2.any (fun x => !decide (0 ≤ x ∧ x ≤ place - 1)) = false)) (h2 : (op == 2) = false) (h2' : (op != 2) = true) (he : decide (0 < l1.length) = false) (he' : decide (0 < (l1.length : Int)) = false) (h8 : (op == 8) = true) (r : Bool) (ht : impl_timesOk.f mi ma = some r) :
    Calls Try.prog 119 #[.agg #[.int .i64 op, .slice A1 l1.length c1, .slice A2 l2.length c2, .int .i64 mi, .int .i64 ma], .int .i64 place] w fun e w' => e = .returned (.bool r) ∧ Below w.heap.size w w' := by
  obtain ⟨kk, hkk⟩ := ev_get (impl_kidsOf_ev op)
  have HK := q_ hkk
  have HR1 := q_ hr1
  have HC1 := q_ hc1
  have HR2 := q_ hr2
  have HC2 := q_ hc2
  clear hkk hr1 hc1 hr2 hc2
  generalize kidsN op = ko at HK hk
  have hb0 : Below w.heap.size w ((w.alloc (.cells #[.int .i64 op, .slice A1 l1.length c1, .slice A2 l2.length c2, .int .i64 mi, .int .i64 ma] 156)).alloc (.cells #[.int .i64 place] 2)) := below_alloc (below_alloc (Below.refl _ _) _) _
  have hne : ((l2.length : Int) != ko) = false := bne_eq_false_iff_eq.2 hk
  clear hk
  have HT := q_ ht
  clear ht
  go_enter Try.func119, Try.ntmps119
  go_wp2_with fail
  go_quiet (first | (go_at_call 152; refine (impl_kidsOf.calls _ _ _ _ HK.o).mono ?_; rintro e w' ⟨rfl, ⟨nd, rfl⟩⟩; first | exact ⟨rfl, _, World.drewN_drewN _ _ _⟩ | exact ⟨rfl, _, Eq.trans (World.drewN_drewN _ _ _) (congrArg (World.drewN _) (Nat.add_assoc _ _ _))⟩) | (go_at_call 153; refine (kids_calls place (by omega) (by omega) (w.heap.size + 1) _ ?hcl _ _ l2 ?hr _ hany).mono ?_; (case hcl => (go_simp; done)); (case hr => exact Kd.C_below HR2.o (by repeat (first | exact hb0 | apply pw_below_drewN | apply below_drew1))); rintro e w' ⟨rfl, ⟨nd, rfl⟩⟩; first | exact ⟨rfl, _, World.drewN_drewN _ _ _⟩ | exact ⟨rfl, _, Eq.trans (World.drewN_drewN _ _ _) (congrArg (World.drewN _) (Nat.add_assoc _ _ _))⟩))
  go_wp2_with fail
  refine (impl_timesOk.calls mi ma r _ HT.o).mono ?_
  rintro e w' ⟨rfl, ⟨nd, rfl⟩⟩
  go_wp2_with fail
  go_ret
  exact ⟨rfl, by repeat (first | exact hb0 | apply pw_below_drewN | apply below_drew1)⟩
theorem nodeOk_rest0 (op : Int) (A1 : Option Addr) (c1 : Nat) (l1 : List S103) (A2 : Option Addr) (c2 : Nat) (l2 : List Int) (mi ma place : Int) (w : World) (hp0 : 0 ≤ place) (hp1 : place ≤ 1000000) (hr1 : Kd.C k103 w A1 l1.length l1) (hc1 : l1.length ≤ c1) (hr2 : Kd.C (Kd.int .i64) w A2 l2.length l2) (hc2 : l2.length ≤ c2) (hk : (l2.length : Int) = kidsN op) (hany : J0 (l2.any (fun x => !decide (0 ≤ x ∧ x ≤ place - 1)) = false)) (h2 : (op == 2) = false) (h2' : (op != 2) = true) (he : decide (0 < l1.length) = false) (he' : decide (0 < (l1.length : Int)) = false) (h8 : (op == 8) = false) (hmi : (mi == 0) = false) :
    Calls Try.prog 119 #[.agg #[.int .i64 op, .slice A1 l1.length c1, .slice A2 l2.length c2, .int .i64 mi, .int .i64 ma], .int .i64 place] w fun e w' => e = .returned (.bool false) ∧ Below w.heap.size w w' := by
  obtain ⟨kk, hkk⟩ := ev_get (impl_kidsOf_ev op)
  have HK := q_ hkk
  have HR1 := q_ hr1
  have HC1 := q_ hc1
  have HR2 := q_ hr2
  have HC2 := q_ hc2
  clear hkk hr1 hc1 hr2 hc2
  generalize kidsN op = ko at HK hk
  have hb0 : Below w.heap.size w ((w.alloc (.cells #[.int .i64 op, .slice A1 l1.length c1, .slice A2 l2.length c2, .int .i64 mi, .int .i64 ma] 156)).alloc (.cells #[.int .i64 place] 2)) := below_alloc (below_alloc (Below.refl _ _) _) _
  have hne : ((l2.length : Int) != ko) = false := bne_eq_false_iff_eq.2 hk
  clear hk
  go_enter Try.func119, Try.ntmps119
  go_wp2_with fail
  go_quiet (first | (go_at_call 152; refine (impl_kidsOf.calls _ _ _ _ HK.o).mono ?_; rintro e w' ⟨rfl, ⟨nd, rfl⟩⟩; first | exact ⟨rfl, _, World.drewN_drewN _ _ _⟩ | exact ⟨rfl, _, Eq.trans (World.drewN_drewN _ _ _) (congrArg (World.drewN _) (Nat.add_assoc _ _ _))⟩) | (go_at_call 153; refine (kids_calls place (by omega) (by omega) (w.heap.size + 1) _ ?hcl _ _ l2 ?hr _ hany).mono ?_; (case hcl => (go_simp; done)); (case hr => exact Kd.C_below HR2.o (by repeat (first | exact hb0 | apply pw_below_drewN | apply below_drew1))); rintro e w' ⟨rfl, ⟨nd, rfl⟩⟩; first | exact ⟨rfl, _, World.drewN_drewN _ _ _⟩ | exact ⟨rfl, _, Eq.trans (World.drewN_drewN _ _ _) (congrArg (World.drewN _) (Nat.add_assoc _ _ _))⟩))
  go_wp2_with fail
  go_ret
  exact ⟨rfl, by repeat (first | exact hb0 | apply pw_below_drewN | apply below_drew1)⟩
theorem nodeOk_rest1 (op : Int) (A1 : Option Addr) (c1 : Nat) (l1 : List S103) (A2 : Option Addr) (c2 : Nat) (l2 : List Int) (mi ma place : Int) (w : World) (hp0 : 0 ≤ place) (hp1 : place ≤ 1000000) (hr1 : Kd.C k103 w A1 l1.length l1) (hc1 : l1.length ≤ c1) (hr2 : Kd.C (Kd.int .i64) w A2 l2.length l2) (hc2 : l2.length ≤ c2) (hk : (l2.length : Int) = kidsN op) (hany : J0 (l2.any (fun x => !decide (0 ≤ x ∧ x ≤ place - 1)) = false)) (h2 : (op == 2) = false) (h2' : (op != 2) = true) (he : decide (0 < l1.length) = false) (he' : decide (0 < (l1.length : Int)) = false) (h8 : (op == 8) = false) (hmi : (mi == 0) = true) :
    Calls Try.prog 119 #[.agg #[.int .i64 op, .slice A1 l1.length c1, .slice A2 l2.length c2, .int .i64 mi, .int .i64 ma], .int .i64 place] w fun e w' => e = .returned (.bool (ma == 0)) ∧ Below w.heap.size w w' := by
  obtain ⟨kk, hkk⟩ := ev_get (impl_kidsOf_ev op)
  have HK := q_ hkk
  have HR1 := q_ hr1
  have HC1 := q_ hc1
  have HR2 := q_ hr2
  have HC2 := q_ hc2
  clear hkk hr1 hc1 hr2 hc2
  generalize kidsN op = ko at HK hk
  have hb0 : Below w.heap.size w ((w.alloc (.cells #[.int .i64 op, .slice A1 l1.length c1, .slice A2 l2.length c2, .int .i64 mi, .int .i64 ma] 156)).alloc (.cells #[.int .i64 place] 2)) := below_alloc (below_alloc (Below.refl _ _) _) _
  have hne : ((l2.length : Int) != ko) = false := bne_eq_false_iff_eq.2 hk
  clear hk
  go_enter Try.func119, Try.ntmps119
  go_wp2_with fail
  go_quiet (first | (go_at_call 152; refine (impl_kidsOf.calls _ _ _ _ HK.o).mono ?_; rintro e w' ⟨rfl, ⟨nd, rfl⟩⟩; first | exact ⟨rfl, _, World.drewN_drewN _ _ _⟩ | exact ⟨rfl, _, Eq.trans (World.drewN_drewN _ _ _) (congrArg (World.drewN _) (Nat.add_assoc _ _ _))⟩) | (go_at_call 153; refine (kids_calls place (by omega) (by omega) (w.heap.size + 1) _ ?hcl _ _ l2 ?hr _ hany).mono ?_; (case hcl => (go_simp; done)); (case hr => exact Kd.C_below HR2.o (by repeat (first | exact hb0 | apply pw_below_drewN | apply below_drew1))); rintro e w' ⟨rfl, ⟨nd, rfl⟩⟩; first | exact ⟨rfl, _, World.drewN_drewN _ _ _⟩ | exact ⟨rfl, _, Eq.trans (World.drewN_drewN _ _ _) (congrArg (World.drewN _) (Nat.add_assoc _ _ _))⟩))
  go_wp2_with fail
  go_ret
  exact ⟨rfl, by repeat (first | exact hb0 | apply pw_below_drewN | apply below_drew1)⟩
theorem nodeOk_hand (op : Int) (A1 : Option Addr) (c1 : Nat) (l1 : List S103) (A2 : Option Addr) (c2 : Nat) (l2 : List Int) (mi ma place : Int) (w : World) (hp0 : 0 ≤ place) (hp1 : place ≤ 1000000) (hr1 : Kd.C k103 w A1 l1.length l1) (hc1 : l1.length ≤ c1) (hr2 : Kd.C (Kd.int .i64) w A2 l2.length l2) (hc2 : l2.length ≤ c2) :
    Calls Try.prog 119 #[.agg #[.int .i64 op, .slice A1 l1.length c1, .slice A2 l2.length c2, .int .i64 mi, .int .i64 ma], .int .i64 place] w fun e w' => e = .returned (.bool (nodeB op l1 l2 mi ma place)) ∧ Below w.heap.size w w' := by
  unfold nodeB
  by_cases hk : (l2.length : Int) = kidsN op
  · rw [decide_eq_true hk, Bool.true_and]
    cases hany : l2.any (fun x => !decide (0 ≤ x ∧ x ≤ place - 1)) with
    | true => simpa using nodeOk_any op A1 c1 l1 A2 c2 l2 mi ma place w hp0 hp1 hr1 hc1 hr2 hc2 hk ⟨hany⟩
    | false =>
      rw [Bool.not_false, Bool.true_and]
      have HA := q_ hany
      by_cases h2 : op = 2
      · rw [if_pos h2, if_neg (by omega)]
        obtain ⟨kc, hkc⟩ := ev_get (impl_ClassOk_ev l1 hr1.2.1)
        cases hcl : classB l1 with
        | false =>
          rw [hcl] at hkc
          simpa using nodeOk_class op A1 c1 l1 A2 c2 l2 mi ma place w hp0 hp1 hr1 hc1 hr2 hc2 hk HA (beq_iff_eq.2 h2) (bne_eq_false_iff_eq.2 h2) kc hkc
        | true =>
          rw [hcl] at hkc
          by_cases he : l1.length = 0
          · rw [decide_eq_true he]
            simpa using nodeOk_bare op A1 c1 l1 A2 c2 l2 mi ma place w hp0 hp1 hr1 hc1 hr2 hc2 hk HA (beq_iff_eq.2 h2) (bne_eq_false_iff_eq.2 h2) kc hkc (beq_iff_eq.2 (by omega))
          · rw [decide_eq_false he]
            by_cases hmi : mi = 0
            · have := nodeOk_set1 op A1 c1 l1 A2 c2 l2 mi ma place w hp0 hp1 hr1 hc1 hr2 hc2 hk HA (beq_iff_eq.2 h2) (bne_eq_false_iff_eq.2 h2) kc hkc (beq_eq_false_iff_ne.2 (by omega)) (beq_eq_false_iff_ne.2 (by omega)) (beq_iff_eq.2 hmi)
              rw [show (ma == 0) = decide (ma = 0) from rfl] at this
              simpa [hmi] using this
            · have := nodeOk_set0 op A1 c1 l1 A2 c2 l2 mi ma place w hp0 hp1 hr1 hc1 hr2 hc2 hk HA (beq_iff_eq.2 h2) (bne_eq_false_iff_eq.2 h2) kc hkc (beq_eq_false_iff_ne.2 (by omega)) (beq_eq_false_iff_ne.2 (by omega)) (beq_eq_false_iff_ne.2 hmi)
              simpa [hmi] using this
      · rw [if_neg h2]
        have e2 := beq_eq_false_iff_ne.2 h2
        have n2 := bne_iff_ne.2 h2
        by_cases he : l1.length = 0
        · rw [decide_eq_true he, Bool.true_and]
          have d1 : decide (0 < l1.length) = false := decide_eq_false (by omega)
          have d2 : decide (0 < (l1.length : Int)) = false := decide_eq_false (by omega)
          by_cases h8 : op = 8
          · rw [if_pos h8]
            exact nodeOk_times op A1 c1 l1 A2 c2 l2 mi ma place w hp0 hp1 hr1 hc1 hr2 hc2 hk HA e2 n2 d1 d2 (beq_iff_eq.2 h8) _ (impl_timesOk_eq mi ma)
          · rw [if_neg h8]
            by_cases hmi : mi = 0
            · have := nodeOk_rest1 op A1 c1 l1 A2 c2 l2 mi ma place w hp0 hp1 hr1 hc1 hr2 hc2 hk HA e2 n2 d1 d2 (beq_eq_false_iff_ne.2 h8) (beq_iff_eq.2 hmi)
              rw [show (ma == 0) = decide (ma = 0) from rfl] at this
              simpa [hmi] using this
            · have := nodeOk_rest0 op A1 c1 l1 A2 c2 l2 mi ma place w hp0 hp1 hr1 hc1 hr2 hc2 hk HA e2 n2 d1 d2 (beq_eq_false_iff_ne.2 h8) (beq_eq_false_iff_ne.2 hmi)
              simpa [hmi] using this
        · rw [decide_eq_false he]
          simpa using nodeOk_full op A1 c1 l1 A2 c2 l2 mi ma place w hp0 hp1 hr1 hc1 hr2 hc2 hk HA e2 n2 (decide_eq_true (by omega)) (decide_eq_true (by omega))
  · rw [decide_eq_false hk]
    simpa using nodeOk_kids op A1 c1 l1 A2 c2 l2 mi ma place w hp0 hp1 hr1 hc1 hr2 hc2 hk
end Go.Proofs.Ytijmhelacmjggaa.P
namespace Go.Proofs.Ytijmhelacmjggaa.P
open Go.RowKit Go.Proofs.YtijmhelacmjggaaW.PrintWords Go.Proofs.YtijmhelacmjggaaW.PrintLast Go.Proofs.YtijmhelacmjggaaW.PrintMore
attribute [local go_sem] max2_int min2_int max_two min_two max_three min_three max_four min_four
set_option linter.unusedVariables false
set_option linter.unusedSimpArgs false
/-! ### impl_nodeOk: function 119 -/
def impl_nodeOk.f (a0_0 : Int) (l0_1 : List (S103)) (l0_2 : List Int) (a0_3 : Int) (a0_4 : Int) (a1 : Int) : Option (Bool) := if 0 ≤ a1 ∧ a1 ≤ 1000000 then some (nodeB a0_0 l0_1 l0_2 a0_3 a0_4 a1) else none
theorem impl_nodeOk.calls (a0_0 : Int) (A0_1 : Option Addr) (c0_1 : Nat) (l0_1 : List (S103)) (A0_2 : Option Addr) (c0_2 : Nat) (l0_2 : List Int) (a0_3 : Int) (a0_4 : Int) (a1 : Int) (r : Bool) (w : World) (hr0_1 : Kd.C k103 w A0_1 l0_1.length l0_1) (hc0_1 : l0_1.length ≤ c0_1) (hr0_2 : Kd.C (Kd.int .i64) w A0_2 l0_2.length l0_2) (hc0_2 : l0_2.length ≤ c0_2) (h : impl_nodeOk.f a0_0 l0_1 l0_2 a0_3 a0_4 a1 = some r) :
    Calls Try.prog 119 #[.agg #[.int .i64 a0_0, .slice A0_1 l0_1.length c0_1, .slice A0_2 l0_2.length c0_2, .int .i64 a0_3, .int .i64 a0_4], .int .i64 a1] w fun e w' => e = .returned (.bool r) ∧ Below w.heap.size w w' := by
  unfold impl_nodeOk.f at h
  by_cases hp : 0 ≤ a1 ∧ a1 ≤ 1000000
  · rw [if_pos hp] at h
    obtain rfl := Option.some.inj h
    exact nodeOk_hand a0_0 A0_1 c0_1 l0_1 A0_2 c0_2 l0_2 a0_3 a0_4 a1 w hp.1 hp.2 hr0_1 hc0_1 hr0_2 hc0_2
  · rw [if_neg hp] at h
    exact absurd h (by simp)
/-! ### impl_RxOk: function 62 -/
mutual
def impl_RxOk.l0 : Nat → Int → List Int → List Int → Int → List (S156) → Option (Bool)
 | 0, _, _, _, _, _ => none
 | k + 1, x3, x4, x5, x6, x102000 => if x6 ≥ 0 then (if 0 ≤ x6 then (if x6 < (x102000.length : Int) then ((impl_nodeOk.f ((rd_T156 x102000 x6).f0) ((rd_T156 x102000 x6).f1) ((rd_T156 x102000 x6).f2) ((rd_T156 x102000 x6).f3) ((rd_T156 x102000 x6).f4) x6).bind fun t113 => (if t113 = true then (if x6 < x3 then (if x6 < (x4.length : Int) then (if (rd x4 x6) = 1 then (if x6 < (x5.length : Int) then (impl_RxOk.j1 k x3 x4 x5 x6 (decide ((rd x5 x6) > 150)) x102000 ((rd_T156 x102000 x6).f0) ((rd_T156 x102000 x6).f1) ((rd_T156 x102000 x6).f2) ((rd_T156 x102000 x6).f3) ((rd_T156 x102000 x6).f4)) else (none)) else (impl_RxOk.j1 k x3 x4 x5 x6 true x102000 ((rd_T156 x102000 x6).f0) ((rd_T156 x102000 x6).f1) ((rd_T156 x102000 x6).f2) ((rd_T156 x102000 x6).f3) ((rd_T156 x102000 x6).f4))) else (none)) else (if x6 < (x5.length : Int) then (impl_RxOk.j1 k x3 x4 x5 x6 (decide ((rd x5 x6) > 150)) x102000 ((rd_T156 x102000 x6).f0) ((rd_T156 x102000 x6).f1) ((rd_T156 x102000 x6).f2) ((rd_T156 x102000 x6).f3) ((rd_T156 x102000 x6).f4)) else (none))) else (impl_RxOk.j1 k x3 x4 x5 x6 true x102000 ((rd_T156 x102000 x6).f0) ((rd_T156 x102000 x6).f1) ((rd_T156 x102000 x6).f2) ((rd_T156 x102000 x6).f3) ((rd_T156 x102000 x6).f4)))) else (none)) else (none)) else (if 0 ≤ x3 then (if x3 < (x4.length : Int) then (some ((rd x4 x3) == 0)) else (none)) else (none))
def impl_RxOk.j1 : Nat → Int → List Int → List Int → Int → Bool → List (S156) → Int → List (S103) → List Int → Int → Int → Option (Bool)
 | 0, _, _, _, _, _, _, _, _, _, _, _ => none
 | k + 1, x3, x4, x5, x6, x59, x102000, x113000, x113001, x113002, x113003, x113004 => if x59 = true then (some false) else (impl_RxOk.l1 k x3 x4 x5 x6 x113002 (x113002.length : Int) 0 x102000)
def impl_RxOk.l1 : Nat → Int → List Int → List Int → Int → List Int → Int → Int → List (S156) → Option (Bool)
 | 0, _, _, _, _, _, _, _, _ => none
 | k + 1, x3, x4, x5, x6, x61, x62, x63, x102000 => if x63 < x62 then (if 0 ≤ x63 then (if x63 < (x61.length : Int) then (if 0 ≤ (rd x61 x63) then (if (rd x61 x63) < (x4.length : Int) then (if 0 ≤ x6 then (if x6 < (x5.length : Int) then (if (rd x61 x63) < (x5.length : Int) then (impl_RxOk.l1 k x3 (x4.set ((rd x61 x63) : Int).toNat (wrap64 ((rd x4 (rd x61 x63)) + 1))) (x5.set ((rd x61 x63) : Int).toNat (wrap64 ((rd x5 x6) + 1))) x6 x61 x62 (wrap64 (x63 + 1)) x102000) else (none)) else (none)) else (none)) else (none)) else (none)) else (none)) else (none)) else (impl_RxOk.l0 k x3 x4 x5 (wrap64 (x6 - 1)) x102000)
end
def impl_RxOk.f (k : Nat) (l0_0 : List (S156)) : Option (Bool) := (impl_RNode.f l0_0).bind fun t102 => ((impl_within.f t102 1 300).bind fun t103 => (if t103 = true then (if 0 ≤ (l0_0.length : Int) then (if ((l0_0.length : Int) : Int).toNat ≤ 35184372088832 then (impl_RxOk.l0 k (wrap64 ((l0_0.length : Int) - 1)) (List.replicate ((l0_0.length : Int) : Int).toNat 0) (List.replicate ((l0_0.length : Int) : Int).toNat 0) (wrap64 ((l0_0.length : Int) - 1)) l0_0) else (none)) else (none)) else (some false)))
def impl_RxOk.T4 : Bool × List (List Nat × List Nat) := (true, [([], []), ([0], [0]), ([1], [1]), ([2, 2], [2]), ([], []), ([4], [4]), ([5], [5]), ([6, 6], [6]), ([3, 0, 1, 2, 3], [3]), ([7, 8, 0, 1, 2, 3, 4, 5, 6, 7, 8], [7])])
def impl_RxOk.B4 : List Nat := [0, 1, 3, 7, 0, 16, 48, 112, 15, 511]
theorem impl_RxOk.tab4 : rtab .any (opsOf Try.f62 4) = impl_RxOk.T4 := by kernel_rfl
theorem impl_RxOk.bits4 : waitsOk impl_RxOk.T4.2 impl_RxOk.B4 = true := by kernel_rfl
theorem impl_RxOk.calls (k : Nat) (A0_0 : Option Addr) (c0_0 : Nat) (l0_0 : List (S156)) (r : Bool) (w : World) (hr0_0 : Kd.C k156 w A0_0 l0_0.length l0_0) (hc0_0 : l0_0.length ≤ c0_0) (h : impl_RxOk.f k l0_0 = some r) :
  Calls Try.prog 62 #[.agg #[.slice A0_0 l0_0.length c0_0]] w fun e w' => e = .returned (.bool r) ∧ Below w.heap.size w w' := by
 have hu29 := Try.underlying29; have hu156 := Try.underlying156; have HR0_0 := q_ hr0_0; have HC0_0 := q_ hc0_0; clear hr0_0 hc0_0; have HB := q_ (Below.refl w.heap.size w)
 have H : ((impl_RNode.f l0_0).bind fun t102 => ((impl_within.f t102 1 300).bind fun t103 => (if t103 = true then (if 0 ≤ (l0_0.length : Int) then (if ((l0_0.length : Int) : Int).toNat ≤ 35184372088832 then (impl_RxOk.l0 k (wrap64 ((l0_0.length : Int) - 1)) (List.replicate ((l0_0.length : Int) : Int).toNat 0) (List.replicate ((l0_0.length : Int) : Int).toNat 0) (wrap64 ((l0_0.length : Int) - 1)) l0_0) else (none)) else (none)) else (some false)))) = some r := h
 clear h; obtain ⟨t102, A2, H⟩ := ob_ H; obtain ⟨t103, A3, H⟩ := ob_ H
 by_cases c4 : t103 = true
 ·subst c4; rw [if_pos rfl] at H
  by_cases c5 : 0 ≤ (l0_0.length : Int)
  ·rw [if_pos c5] at H; have c5b0 := eq_true c5; have c5b1 := dt_ c5; clear c5
   by_cases c6 : ((l0_0.length : Int) : Int).toNat ≤ 35184372088832
   ·rw [if_pos c6] at H; have c6b0 := eq_true c6; have c6b1 := dt_ c6; clear c6
    obtain ⟨y104, hy104⟩ : ∃ y_ : List Int, y_ = (List.replicate ((l0_0.length : Int) : Int).toNat 0) := ⟨_, rfl⟩
    replace H : (impl_RxOk.l0 k (wrap64 ((l0_0.length : Int) - 1)) y104 (List.replicate ((l0_0.length : Int) : Int).toNat 0) (wrap64 ((l0_0.length : Int) - 1)) l0_0) = some r := by first | (rw [hy104]; with_reducible exact H) | (have H2_ := (Option.bind_some _ _).symm.trans H; rw [hy104]; with_reducible exact H2_) | (have H2_ := (Option.bind_some _ _).symm.trans H; with_reducible exact H2_) | with_reducible exact H | (rw [hy104]; exact H) | exact H
    have Ny104 := q_ hy104; clear hy104
    obtain ⟨y107, hy107⟩ : ∃ y_ : List Int, y_ = (List.replicate ((l0_0.length : Int) : Int).toNat 0) := ⟨_, rfl⟩
    replace H : (impl_RxOk.l0 k (wrap64 ((l0_0.length : Int) - 1)) y104 y107 (wrap64 ((l0_0.length : Int) - 1)) l0_0) = some r := by first | (rw [hy107]; with_reducible exact H) | (have H2_ := (Option.bind_some _ _).symm.trans H; rw [hy107]; with_reducible exact H2_) | (have H2_ := (Option.bind_some _ _).symm.trans H; with_reducible exact H2_) | with_reducible exact H | (rw [hy107]; exact H) | exact H
    have Ny107 := q_ hy107; clear hy107
    have H' := q_ H
    clear H
    go_enter Try.func62, Try.ntmps62
    try go_wp2_with (first | ((with_reducible refine gate_dst (N := 1) rfl ?_); refine bx_ 1 #[.slice A0_0 l0_0.length c0_0] 29 ?_; intro gb101 hg w7 hbox hb; have BK101 := q_ (hbox); have GE101 := ge_ hg HB; replace HB := sb_ HB hb; clear hb hbox hg; obtain ⟨hcz8_0, hfz8_0⟩ := d1_ BK101) | ((with_reducible refine gate_callee (f := 118) rfl ?_); refine gl_ (some 12) rfl rfl Try.func118 #[.slice A0_0 l0_0.length c0_0] ?_; (with_reducible refine (impl_RNode.calls _ _ l0_0 t102 _ ?side1 ?side2 A2.o).mono ?_); (case side1 => exact Kd.C_below HR0_0.o (be_ HB.o)); (case side2 => exact HC0_0.o); rintro e w' ⟨rfl, ⟨nd, rfl⟩⟩; refine ⟨_, rfl, ?_⟩) | ((with_reducible refine gate_callee (f := 79) rfl ?_); refine gl_ (some 13) rfl rfl Try.func79 #[.int .i64 t102, .int .i64 1, .int .i64 300] ?_; (with_reducible refine (impl_within.calls t102 1 300 true _ A3.o).mono ?_); rintro e w' ⟨rfl, ⟨nd, rfl⟩⟩; refine ⟨_, rfl, ?_⟩))
    (try (rw [drewN_self w7]; generalize hq_ : World.drewN w7 _ = w7; have n0_ : J0 (w7.heap[gb101]? = some (.cells #[.slice A0_0 l0_0.length c0_0] 29 (0, 0))) := ⟨by rw [← hq_]; exact (bk_ BK101.o)⟩; have n1_ : J0 (Below w.heap.size w w7) := ⟨by rw [← hq_]; exact (be1_ HB.o GE101.o)⟩; clear BK101 HB hq_; have BK101 := n0_; have HB := n1_; clear n0_ n1_))
    replace BK101 := q_ (blk_drew BK101.o); replace HB := q_ (below_drew1 HB.o)
    refine start_ (n := 10) (S := fun w' => w'.cell? ⟨gb101, 0, none⟩ = some (.slice A0_0 l0_0.length c0_0)) (ds := []) (bb 10 0) (by kernel_rfl) rfl rfl ((blk_cell BK101.o 0).trans rfl) (fun hHeld => ?_); refine with_tabW impl_RxOk.tab4 impl_RxOk.bits4 (fun HT_ HW_ => ?_)
    generalize w7.drew = w9 at BK101 HB hHeld ⊢
    refine pv_ 0 19 1 HT_.o ?_; refine pv_ 4 23 17 HT_.o ?_; refine tv_ 1 20 19 HT_.o HW_.o hHeld ?_; refine pv_ 2 21 23 HT_.o ?_; refine tv_ 5 24 55 HT_.o HW_.o hHeld ?_; refine pv_ 6 25 119 HT_.o ?_
    refine join_ (σ := Value × Value) 1 (bb 10 511) (fun s_ => [(22, s_.1), (26, s_.2), (4, s_.1)]) (fun s_ w' => (w'.cell? ⟨gb101, 0, none⟩ = some (.slice A0_0 l0_0.length c0_0)) ∧ (Kd.R (Kd.int .i64) 3 w' w.heap.size (fun k_ => some k_ ≠ (s_.2 : Value).ownBlock) s_.1 y104) ∧ (Kd.R (Kd.int .i64) 3 w' w.heap.size (fun k_ => some k_ ≠ (s_.1 : Value).ownBlock) s_.2 y107) ∧ (w'.heap[gb101]? = some (.cells #[.slice A0_0 l0_0.length c0_0] 29 (0, 0))) ∧ (Below w.heap.size w w')) ?_ ?_
    rotate_left
    ·intro hCont
     refine two_ (i := 3) (j := 7) (Ni := some 22) (Nj := some 26) (bb 10 127) (bb 10 247) rfl rfl rfl rfl (two_of HT_.o (by kernel_rfl)) (by decide) (by decide) (fun K hK => ?_) (fun K hK => ?_)
     ·skip
      refine Kd.R_make_step (Kd.int .i64) _ 3 (by rfl) (N := 22) rfl 153 _ _ rfl (l0_0.length : Int) rfl rfl Try.underlying153 (.int .i64 0) 8 info3 rfl (by decide) (by omega) 0 (ok := fun _ => True) (okp := fun _ => True) rfl (fun _ hk => hk) trivial (of_decide_eq_true as_) (Nat.le_trans (Nat.mul_le_mul_right _ (of_decide_eq_true as_ : (l0_0.length : Int).toNat ≤ 35184372088832)) (by omega)) (Below.refl _ _) (Nat.le_refl _) ?_
      intro v105 w10 ho11 hb hg_ hnew_
      clear hg_ hnew_
      (first | rw [← Ny104.o] at ho11 | (simp only [Int.reduceToNat] at ho11; rw [← Ny104.o] at ho11))
      have HO106 := q_ (Kd.R_lower ho11 (below_size (be1_ HB.o GE101.o))); replace BK101 := lb_ BK101 hb; replace HB := sb1_ HB GE101 hb; clear hb ho11
      refine hK.out _ _ ((blk_cell BK101.o 0).trans rfl) (fun hHeld => ?_)
      clear hK K; refine no_ (some 22) ?_; refine pv_ 8 4 383 HT_.o ?_
      refine one_ (i := 7) (N := some 26) (bb 10 511) rfl rfl (one_of HT_.o (by kernel_rfl)) (by decide) (fun K hK => ?_)
      refine Kd.R_make_step (Kd.int .i64) _ 3 (by rfl) (N := 26) rfl 153 _ _ rfl (l0_0.length : Int) rfl rfl Try.underlying153 (.int .i64 0) 8 info3 rfl (by decide) (by omega) 0 (ok := fun _ => True) (okp := fun _ => True) rfl (fun _ hk => hk) trivial (of_decide_eq_true as_) (Nat.le_trans (Nat.mul_le_mul_right _ (of_decide_eq_true as_ : (l0_0.length : Int).toNat ≤ 35184372088832)) (by omega)) (Below.refl _ _) (Nat.le_refl _) ?_
      intro v108 w12 ho13 hb hg_ hnew_
      clear hg_ hnew_
      (first | rw [← Ny107.o] at ho13 | (simp only [Int.reduceToNat] at ho13; rw [← Ny107.o] at ho13))
      have HO109 := q_ (Kd.R_lower (Kd.R_new' ho13 (Kd.R_lt (ra_ HO106.o))) (below_size (be1_ HB.o GE101.o))); replace HO106 := q_ (Kd.R_elder' (ra_ HO106.o) (Kd.R_base ho13) hb); replace BK101 := lb_ BK101 hb; replace HB := sb1_ HB GE101 hb; clear hb ho13
      refine hK.out _ _ ((blk_cell BK101.o 0).trans rfl) (fun hHeld => ?_)
      clear hK K; refine no_ (some 26) ?_
      exact norm_ (by simp only [putAll, Act.put, List.setIfInBounds_toArray, List.set_cons_zero, List.set_cons_succ]) (hCont (v105, v108) _ ⟨hHeld, (by (with_reducible repeat (first | apply Kd.R_alloc | apply Kd.R_drewN | apply Kd.R_drew)); exact Kd.R_mono HO106.o (fun _ hk => hk.2)), (by (with_reducible repeat (first | apply Kd.R_alloc | apply Kd.R_drewN | apply Kd.R_drew)); exact Kd.R_mono HO109.o (fun _ hk => hk.2)), (bk_ BK101.o), (be1_ HB.o GE101.o)⟩)
     ·skip
      refine Kd.R_make_step (Kd.int .i64) _ 3 (by rfl) (N := 26) rfl 153 _ _ rfl (l0_0.length : Int) rfl rfl Try.underlying153 (.int .i64 0) 8 info3 rfl (by decide) (by omega) 0 (ok := fun _ => True) (okp := fun _ => True) rfl (fun _ hk => hk) trivial (of_decide_eq_true as_) (Nat.le_trans (Nat.mul_le_mul_right _ (of_decide_eq_true as_ : (l0_0.length : Int).toNat ≤ 35184372088832)) (by omega)) (Below.refl _ _) (Nat.le_refl _) ?_
      intro v108 w10 ho11 hb hg_ hnew_
      clear hg_ hnew_
      (first | rw [← Ny107.o] at ho11 | (simp only [Int.reduceToNat] at ho11; rw [← Ny107.o] at ho11))
      have HO109 := q_ (Kd.R_lower ho11 (below_size (be1_ HB.o GE101.o))); replace BK101 := lb_ BK101 hb; replace HB := sb1_ HB GE101 hb; clear hb ho11
      refine hK.out _ _ ((blk_cell BK101.o 0).trans rfl) (fun hHeld => ?_)
      clear hK K; refine no_ (some 26) ?_
      refine one_ (i := 3) (N := some 22) (bb 10 255) rfl rfl (one_of HT_.o (by kernel_rfl)) (by decide) (fun K hK => ?_)
      refine Kd.R_make_step (Kd.int .i64) _ 3 (by rfl) (N := 22) rfl 153 _ _ rfl (l0_0.length : Int) rfl rfl Try.underlying153 (.int .i64 0) 8 info3 rfl (by decide) (by omega) 0 (ok := fun _ => True) (okp := fun _ => True) rfl (fun _ hk => hk) trivial (of_decide_eq_true as_) (Nat.le_trans (Nat.mul_le_mul_right _ (of_decide_eq_true as_ : (l0_0.length : Int).toNat ≤ 35184372088832)) (by omega)) (Below.refl _ _) (Nat.le_refl _) ?_
      intro v105 w12 ho13 hb hg_ hnew_
      clear hg_ hnew_
      (first | rw [← Ny104.o] at ho13 | (simp only [Int.reduceToNat] at ho13; rw [← Ny104.o] at ho13))
      have HO106 := q_ (Kd.R_lower (Kd.R_new' ho13 (Kd.R_lt (ra_ HO109.o))) (below_size (be1_ HB.o GE101.o))); replace HO109 := q_ (Kd.R_elder' (ra_ HO109.o) (Kd.R_base ho13) hb); replace BK101 := lb_ BK101 hb; replace HB := sb1_ HB GE101 hb; clear hb ho13
      refine hK.out _ _ ((blk_cell BK101.o 0).trans rfl) (fun hHeld => ?_)
      clear hK K; refine no_ (some 22) ?_; refine pv_ 8 4 511 HT_.o ?_
      exact norm_ (by simp only [putAll, Act.put, List.setIfInBounds_toArray, List.set_cons_zero, List.set_cons_succ]) (hCont (v105, v108) _ ⟨hHeld, (by (with_reducible repeat (first | apply Kd.R_alloc | apply Kd.R_drewN | apply Kd.R_drew)); exact Kd.R_mono HO106.o (fun _ hk => hk.2)), (by (with_reducible repeat (first | apply Kd.R_alloc | apply Kd.R_drewN | apply Kd.R_drew)); exact Kd.R_mono HO109.o (fun _ hk => hk.2)), (bk_ BK101.o), (be1_ HB.o GE101.o)⟩)
    rintro ⟨v105, v108⟩ w14 ⟨hS_, h0_, h1_, h2_, h3_⟩
    have n0_ : J0 (Kd.R (Kd.int .i64) 3 w14 w.heap.size (fun k_ => some k_ ≠ (v108 : Value).ownBlock) v105 y104) := ⟨h0_⟩
    have n1_ : J0 (Kd.R (Kd.int .i64) 3 w14 w.heap.size (fun k_ => some k_ ≠ (v105 : Value).ownBlock) v108 y107) := ⟨h1_⟩
    have n2_ : J0 (w14.heap[gb101]? = some (.cells #[.slice A0_0 l0_0.length c0_0] 29 (0, 0))) := ⟨h2_⟩
    have n3_ : J0 (Below w.heap.size w w14) := ⟨h3_⟩
    clear BK101; clear HB; clear h0_ h1_ h2_ h3_; have HO106 := n0_; have HO109 := n1_; have BK101 := n2_; have HB := n3_; clear n0_ n1_ n2_ n3_
    have hHeld : w14.cell? ⟨gb101, 0, none⟩ = some (.slice A0_0 l0_0.length c0_0) := hS_
    refine norm_ (a' := ?_) ?_ ?_
    rotate_left
    ·simp only [putAll, Act.put, List.setIfInBounds_toArray, List.set_cons_zero, List.set_cons_succ]
     rfl
    refine pv_ 9 5 1023 HT_.o ?_
    refine done_ (done_of HT_.o (by kernel_rfl)) ?_
    try go_wp2
    go_loopg [6] k (fun kq v6 w' => ∃ (x4_1 : List Int) (x5_1 : List Int) (x6_1 : Int), v6 = .int .i64 x6_1 ∧ J0 (impl_RxOk.l0 kq (wrap64 ((l0_0.length : Int) - 1)) x4_1 x5_1 x6_1 l0_0 = some r) ∧ J0 (kq ≤ k) ∧ J0 (Kd.R (Kd.int .i64) 3 w' w.heap.size (fun k_ => some k_ ≠ (v108 : Value).ownBlock) v105 x4_1) ∧ J0 (Kd.R (Kd.int .i64) 3 w' w.heap.size (fun k_ => some k_ ≠ (v105 : Value).ownBlock) v108 x5_1) ∧ J0 (w'.heap[gb101]? = some (.cells #[(.slice A0_0 l0_0.length c0_0)] 29 (0, 0))) ∧ J0 (Below w.heap.size w w'))
    case atStart => exact ⟨(y104), (y107), (wrap64 ((l0_0.length : Int) - 1)), rs_, H', ⟨Nat.le_refl _⟩, ⟨ra_ HO106.o⟩, ⟨ra_ HO109.o⟩, ⟨bk_ BK101.o⟩, ⟨be1_ HB.o GE101.o⟩⟩
    case round =>
     clear H'; (try clear c4); (try clear c5); (try clear c5b0); (try clear c5b1); (try clear c6); (try clear c6b0); (try clear c6b1); (try clear hcz8_0); (try clear hfz8_0); obtain ⟨x4_1, x5_1, x6_1, rfl, HA, HK1, HO_4, HO_5, BK101, HB⟩ := hrel
     cases gk with
     | zero => exact absurd HA.o (by simp [impl_RxOk.l0])
     | succ k1 =>
      have H := HA.o; clear HA
      simp only [impl_RxOk.l0] at H
      by_cases c15 : x6_1 ≥ 0
      ·rw [if_pos c15] at H
       have c15b0 : decide (0 ≤ x6_1) = true := dt_ c15
       clear c15
       by_cases c16 : 0 ≤ x6_1
       ·rw [if_pos c16] at H; have c16b0 := dt_ c16; clear c16
        by_cases c17 : x6_1 < (l0_0.length : Int)
        ·rw [if_pos c17] at H; have c17b0 := dt_ c17; clear c17; have HC18 := q_ H; clear H; obtain ⟨hcz19_0, hfz19_0⟩ := d1_ BK101
         have p111 : 0 ≤ (x6_1 : Int) := of_decide_eq_true as_
         have q111 : x6_1 < (l0_0.length : Int) := of_decide_eq_true as_
         obtain ⟨ad111, A111_1, c111_1, A111_2, c111_2, e111, hx111_0, hx111_1, hx111_2, hx111_3, hx111_4, hl111_1, hi111_1, hl111_2, hi111_2⟩ := at_T156 HR0_0.o x6_1 p111 q111
         cases e111
         replace hx111_0 := mv_ HB.o hx111_0; replace hx111_1 := mv_ HB.o hx111_1; replace hx111_2 := mv_ HB.o hx111_2; replace hx111_3 := mv_ HB.o hx111_3; replace hx111_4 := mv_ HB.o hx111_4; have HR111_1 := q_ hi111_1; have HC111_1 := q_ hl111_1; clear hi111_1 hl111_1; have HR111_2 := q_ hi111_2; have HC111_2 := q_ hl111_2; clear hi111_2 hl111_2; replace p111 := eq_true p111; replace q111 := eq_true q111
         go_upto_region 9 with (((with_reducible refine gate_dst (N := 7) rfl ?_); refine bx_ 7 #[.int .i64 0, .slice none 0 0, .slice none 0 0, .int .i64 0, .int .i64 0] 156 ?_; intro gb112 hg w20 hbox hb; have BK112 := q_ (hbox); have GE112 := ge1_ hg HB GE101; have NB101_112 := nl_ hg BK101; have NB112_101 := ng_ hg BK101; replace HO_4 := q_ (Kd.R_below (ra_ HO_4.o) hb); replace HO_5 := q_ (Kd.R_below (ra_ HO_5.o) hb); replace BK101 := lb_ BK101 hb; replace HB := sb1_ HB GE101 hb; clear hb hbox hg; have hnb21 := NB112_101.o; have hnc21 := NB101_112.o; obtain ⟨hcz22_0, hcz22_1, hcz22_2, hcz22_3, hcz22_4, hfz22_0, hfz22_1, hfz22_2, hfz22_3, hfz22_4⟩ := d5_ BK112))
         (try simp only [Act.put, List.setIfInBounds_toArray, List.set_cons_zero, List.set_cons_succ])
         go_cut [59] (fun v59 wc => ∃ (kq : Nat) (x59_17 : Bool), v59 = .bool x59_17 ∧ J0 (impl_RxOk.j1 kq (wrap64 ((l0_0.length : Int) - 1)) x4_1 x5_1 x6_1 x59_17 l0_0 ((rd_T156 l0_0 x6_1).f0) ((rd_T156 l0_0 x6_1).f1) ((rd_T156 l0_0 x6_1).f2) ((rd_T156 l0_0 x6_1).f3) ((rd_T156 l0_0 x6_1).f4) = some r) ∧ J0 (kq ≤ k1) ∧ J0 (Kd.R (Kd.int .i64) 3 wc w.heap.size (fun k_ => some k_ ≠ (v108 : Value).ownBlock) v105 x4_1) ∧ J0 (Kd.R (Kd.int .i64) 3 wc w.heap.size (fun k_ => some k_ ≠ (v105 : Value).ownBlock) v108 x5_1) ∧ J0 (wc.heap[gb101]? = some (.cells #[(.slice (some ad111) l0_0.length c0_0)] 29 (0, 0))) ∧ J0 (wc.heap[gb112]? = some (.cells #[.int .i64 ((rd_T156 l0_0 x6_1).f0), (.slice A111_1 ((rd_T156 l0_0 x6_1).f1).length c111_1), (.slice A111_2 ((rd_T156 l0_0 x6_1).f2).length c111_2), .int .i64 ((rd_T156 l0_0 x6_1).f3), .int .i64 ((rd_T156 l0_0 x6_1).f4)] 156 (0, 0))) ∧ J0 (Below w.heap.size w wc))
         case first =>
          have H := HC18.o; clear HC18; obtain ⟨t113, A23, H⟩ := ob_ H
          by_cases c24 : t113 = true
          ·subst c24; rw [if_pos rfl] at H
           by_cases c25 : x6_1 < (wrap64 ((l0_0.length : Int) - 1))
           ·rw [if_pos c25] at H; have c25b0 := dt_ c25; clear c25
            (first | rw [c25b0] | (simp only [i64_w, i32_w]; rw [c25b0]) | skip)
            by_cases c26 : x6_1 < (x4_1.length : Int)
            ·rw [if_pos c26] at H; have c26b0 := dt_ c26; clear c26
             by_cases c27 : (rd x4_1 x6_1) = 1
             ·rw [if_pos c27] at H
              have c27b0 : ((rd x4_1 x6_1) == 1) = true := beq_iff_eq.mpr c27
              have c27b1 : ((rd x4_1 x6_1) != 1) = false := bne_eq_false_iff_eq.mpr c27
              clear c27
              by_cases c28 : x6_1 < (x5_1.length : Int)
              ·rw [if_pos c28] at H; have c28b0 := dt_ c28; clear c28
               have H' := q_ H
               clear H; have hnb29 := NB112_101.o; have hnc29 := NB101_112.o; obtain ⟨hcz30_0, hcz30_1, hcz30_2, hcz30_3, hcz30_4, hfz30_0, hfz30_1, hfz30_2, hfz30_3, hfz30_4⟩ := d5_ BK112
               go_wp2_with (((with_reducible refine gate_callee (f := 119) rfl ?_); refine gl_ (some 39) rfl rfl Try.func119 #[.agg #[.int .i64 ((rd_T156 l0_0 x6_1).f0), .slice A111_1 ((rd_T156 l0_0 x6_1).f1).length c111_1, .slice A111_2 ((rd_T156 l0_0 x6_1).f2).length c111_2, .int .i64 ((rd_T156 l0_0 x6_1).f3), .int .i64 ((rd_T156 l0_0 x6_1).f4)], .int .i64 x6_1] ?_; (with_reducible refine (impl_nodeOk.calls ((rd_T156 l0_0 x6_1).f0) _ _ ((rd_T156 l0_0 x6_1).f1) _ _ ((rd_T156 l0_0 x6_1).f2) ((rd_T156 l0_0 x6_1).f3) ((rd_T156 l0_0 x6_1).f4) x6_1 true _ ?side1 ?side2 ?side3 ?side4 A23.o).mono ?_); (case side1 => exact Kd.C_below HR111_1.o (be2_ HB.o GE101.o GE112.o)); (case side2 => exact HC111_1.o); (case side3 => exact Kd.C_below HR111_2.o (be2_ HB.o GE101.o GE112.o)); (case side4 => exact HC111_2.o); rintro e w31 ⟨rfl, hb⟩; refine ⟨_, rfl, ?_⟩; replace HO_4 := q_ (Kd.R_below (by (with_reducible repeat (first | apply Kd.R_alloc | apply Kd.R_drewN | apply Kd.R_drew)); exact (Kd.R_mono (Kd.R_far (p := ⟨gb112, 4, none⟩) (Kd.R_far (p := ⟨gb112, 3, none⟩) (Kd.R_far (p := ⟨gb112, 2, none⟩) (Kd.R_far (p := ⟨gb112, 1, none⟩) (Kd.R_far (p := ⟨gb112, 0, none⟩) (Kd.R_types HO_4.o BK112.o (by decide)) (fun _ hk => hk.2) (.int .i64 ((rd_T156 l0_0 x6_1).f0))) (fun _ hk => hk.2) (.slice A111_1 ((rd_T156 l0_0 x6_1).f1).length c111_1)) (fun _ hk => hk.2) (.slice A111_2 ((rd_T156 l0_0 x6_1).f2).length c111_2)) (fun _ hk => hk.2) (.int .i64 ((rd_T156 l0_0 x6_1).f3))) (fun _ hk => hk.2) (.int .i64 ((rd_T156 l0_0 x6_1).f4))) (fun _ h_ => h_.1))) hb); replace HO_5 := q_ (Kd.R_below (by (with_reducible repeat (first | apply Kd.R_alloc | apply Kd.R_drewN | apply Kd.R_drew)); exact (Kd.R_mono (Kd.R_far (p := ⟨gb112, 4, none⟩) (Kd.R_far (p := ⟨gb112, 3, none⟩) (Kd.R_far (p := ⟨gb112, 2, none⟩) (Kd.R_far (p := ⟨gb112, 1, none⟩) (Kd.R_far (p := ⟨gb112, 0, none⟩) (Kd.R_types HO_5.o BK112.o (by decide)) (fun _ hk => hk.2) (.int .i64 ((rd_T156 l0_0 x6_1).f0))) (fun _ hk => hk.2) (.slice A111_1 ((rd_T156 l0_0 x6_1).f1).length c111_1)) (fun _ hk => hk.2) (.slice A111_2 ((rd_T156 l0_0 x6_1).f2).length c111_2)) (fun _ hk => hk.2) (.int .i64 ((rd_T156 l0_0 x6_1).f3))) (fun _ hk => hk.2) (.int .i64 ((rd_T156 l0_0 x6_1).f4))) (fun _ h_ => h_.1))) hb); replace BK101 := q_ (blk_below (g := gb101) (o := .cells #[.slice (some ad111) l0_0.length c0_0] 29 (0, 0)) (by (with_reducible repeat (first | refine blk_drewN ?_ _ | refine blk_drew ?_ | refine blk_alloc ?_ _)); refine blk_far ?_ NB101_112.o _; (with_reducible repeat (first | refine blk_drewN ?_ _ | refine blk_drew ?_ | refine blk_alloc ?_ _)); refine blk_far ?_ NB101_112.o _; (with_reducible repeat (first | refine blk_drewN ?_ _ | refine blk_drew ?_ | refine blk_alloc ?_ _)); refine blk_far ?_ NB101_112.o _; (with_reducible repeat (first | refine blk_drewN ?_ _ | refine blk_drew ?_ | refine blk_alloc ?_ _)); refine blk_far ?_ NB101_112.o _; (with_reducible repeat (first | refine blk_drewN ?_ _ | refine blk_drew ?_ | refine blk_alloc ?_ _)); refine blk_far ?_ NB101_112.o _; (with_reducible repeat (first | refine blk_drewN ?_ _ | refine blk_drew ?_ | refine blk_alloc ?_ _)); exact BK101.o) hb); replace BK112 := q_ (blk_below (g := gb112) (o := .cells #[.int .i64 ((rd_T156 l0_0 x6_1).f0), .slice A111_1 ((rd_T156 l0_0 x6_1).f1).length c111_1, .slice A111_2 ((rd_T156 l0_0 x6_1).f2).length c111_2, .int .i64 ((rd_T156 l0_0 x6_1).f3), .int .i64 ((rd_T156 l0_0 x6_1).f4)] 156 (0, 0)) (by (with_reducible repeat (first | refine blk_drewN ?_ _ | refine blk_drew ?_ | refine blk_alloc ?_ _)); refine blk_put (cs := #[.int .i64 ((rd_T156 l0_0 x6_1).f0), .slice A111_1 ((rd_T156 l0_0 x6_1).f1).length c111_1, .slice A111_2 ((rd_T156 l0_0 x6_1).f2).length c111_2, .int .i64 ((rd_T156 l0_0 x6_1).f3), .int .i64 0]) ?_ 4 _ rfl; (with_reducible repeat (first | refine blk_drewN ?_ _ | refine blk_drew ?_ | refine blk_alloc ?_ _)); refine blk_put (cs := #[.int .i64 ((rd_T156 l0_0 x6_1).f0), .slice A111_1 ((rd_T156 l0_0 x6_1).f1).length c111_1, .slice A111_2 ((rd_T156 l0_0 x6_1).f2).length c111_2, .int .i64 0, .int .i64 0]) ?_ 3 _ rfl; (with_reducible repeat (first | refine blk_drewN ?_ _ | refine blk_drew ?_ | refine blk_alloc ?_ _)); refine blk_put (cs := #[.int .i64 ((rd_T156 l0_0 x6_1).f0), .slice A111_1 ((rd_T156 l0_0 x6_1).f1).length c111_1, .slice none 0 0, .int .i64 0, .int .i64 0]) ?_ 2 _ rfl; (with_reducible repeat (first | refine blk_drewN ?_ _ | refine blk_drew ?_ | refine blk_alloc ?_ _)); refine blk_put (cs := #[.int .i64 ((rd_T156 l0_0 x6_1).f0), .slice none 0 0, .slice none 0 0, .int .i64 0, .int .i64 0]) ?_ 1 _ rfl; (with_reducible repeat (first | refine blk_drewN ?_ _ | refine blk_drew ?_ | refine blk_alloc ?_ _)); refine blk_put (cs := #[.int .i64 0, .slice none 0 0, .slice none 0 0, .int .i64 0, .int .i64 0]) ?_ 0 _ rfl; (with_reducible repeat (first | refine blk_drewN ?_ _ | refine blk_drew ?_ | refine blk_alloc ?_ _)); exact BK112.o) hb); replace HB := sb2_ HB GE101 GE112 hb; (try clear hb); obtain ⟨Ao32, co32, eo32⟩ := Kd.R_slice HO_4.o; subst eo32; have p114 : 0 ≤ (x6_1 : Int) := of_decide_eq_true as_; have q114 : x6_1 < (x4_1.length : Int) := of_decide_eq_true as_; obtain ⟨ad114, e114, hx114_0⟩ := Kd.at_int (Kd.R_reads' HO_4.o).2.2 x6_1 p114 q114; cases e114; replace p114 := eq_true p114; replace q114 := eq_true q114; obtain ⟨Ao33, co33, eo33⟩ := Kd.R_slice HO_5.o; subst eo33; have p115 : 0 ≤ (x6_1 : Int) := of_decide_eq_true as_; have q115 : x6_1 < (x5_1.length : Int) := of_decide_eq_true as_; obtain ⟨ad115, e115, hx115_0⟩ := Kd.at_int (Kd.R_reads' HO_5.o).2.2 x6_1 p115 q115; cases e115; replace p115 := eq_true p115; replace q115 := eq_true q115))
               go_meet
               case rel => exact ⟨_, (decide ((rd x5_1 x6_1) > 150)), rs_, H', ⟨by have := HK1.o; first | omega | exact Nat.le_refl _⟩, ⟨ra_ HO_4.o⟩, ⟨ra_ HO_5.o⟩, ⟨bk_ BK101.o⟩, ⟨bk_ BK112.o⟩, ⟨be2_ HB.o GE101.o GE112.o⟩⟩
              ·rw [if_neg c28] at H
               exact absurd H (by simp)
             ·rw [if_neg c27] at H
              have c27b0 : ((rd x4_1 x6_1) == 1) = false := beq_eq_false_iff_ne.mpr c27
              have c27b1 : ((rd x4_1 x6_1) != 1) = true := bne_iff_ne.mpr c27
              have H' := q_ H
              clear H; have hnb34 := NB112_101.o; have hnc34 := NB101_112.o; obtain ⟨hcz35_0, hcz35_1, hcz35_2, hcz35_3, hcz35_4, hfz35_0, hfz35_1, hfz35_2, hfz35_3, hfz35_4⟩ := d5_ BK112
              go_wp2_with (((with_reducible refine gate_callee (f := 119) rfl ?_); refine gl_ (some 39) rfl rfl Try.func119 #[.agg #[.int .i64 ((rd_T156 l0_0 x6_1).f0), .slice A111_1 ((rd_T156 l0_0 x6_1).f1).length c111_1, .slice A111_2 ((rd_T156 l0_0 x6_1).f2).length c111_2, .int .i64 ((rd_T156 l0_0 x6_1).f3), .int .i64 ((rd_T156 l0_0 x6_1).f4)], .int .i64 x6_1] ?_; (with_reducible refine (impl_nodeOk.calls ((rd_T156 l0_0 x6_1).f0) _ _ ((rd_T156 l0_0 x6_1).f1) _ _ ((rd_T156 l0_0 x6_1).f2) ((rd_T156 l0_0 x6_1).f3) ((rd_T156 l0_0 x6_1).f4) x6_1 true _ ?side1 ?side2 ?side3 ?side4 A23.o).mono ?_); (case side1 => exact Kd.C_below HR111_1.o (be2_ HB.o GE101.o GE112.o)); (case side2 => exact HC111_1.o); (case side3 => exact Kd.C_below HR111_2.o (be2_ HB.o GE101.o GE112.o)); (case side4 => exact HC111_2.o); rintro e w36 ⟨rfl, hb⟩; refine ⟨_, rfl, ?_⟩; replace HO_4 := q_ (Kd.R_below (by (with_reducible repeat (first | apply Kd.R_alloc | apply Kd.R_drewN | apply Kd.R_drew)); exact (Kd.R_mono (Kd.R_far (p := ⟨gb112, 4, none⟩) (Kd.R_far (p := ⟨gb112, 3, none⟩) (Kd.R_far (p := ⟨gb112, 2, none⟩) (Kd.R_far (p := ⟨gb112, 1, none⟩) (Kd.R_far (p := ⟨gb112, 0, none⟩) (Kd.R_types HO_4.o BK112.o (by decide)) (fun _ hk => hk.2) (.int .i64 ((rd_T156 l0_0 x6_1).f0))) (fun _ hk => hk.2) (.slice A111_1 ((rd_T156 l0_0 x6_1).f1).length c111_1)) (fun _ hk => hk.2) (.slice A111_2 ((rd_T156 l0_0 x6_1).f2).length c111_2)) (fun _ hk => hk.2) (.int .i64 ((rd_T156 l0_0 x6_1).f3))) (fun _ hk => hk.2) (.int .i64 ((rd_T156 l0_0 x6_1).f4))) (fun _ h_ => h_.1))) hb); replace HO_5 := q_ (Kd.R_below (by (with_reducible repeat (first | apply Kd.R_alloc | apply Kd.R_drewN | apply Kd.R_drew)); exact (Kd.R_mono (Kd.R_far (p := ⟨gb112, 4, none⟩) (Kd.R_far (p := ⟨gb112, 3, none⟩) (Kd.R_far (p := ⟨gb112, 2, none⟩) (Kd.R_far (p := ⟨gb112, 1, none⟩) (Kd.R_far (p := ⟨gb112, 0, none⟩) (Kd.R_types HO_5.o BK112.o (by decide)) (fun _ hk => hk.2) (.int .i64 ((rd_T156 l0_0 x6_1).f0))) (fun _ hk => hk.2) (.slice A111_1 ((rd_T156 l0_0 x6_1).f1).length c111_1)) (fun _ hk => hk.2) (.slice A111_2 ((rd_T156 l0_0 x6_1).f2).length c111_2)) (fun _ hk => hk.2) (.int .i64 ((rd_T156 l0_0 x6_1).f3))) (fun _ hk => hk.2) (.int .i64 ((rd_T156 l0_0 x6_1).f4))) (fun _ h_ => h_.1))) hb); replace BK101 := q_ (blk_below (g := gb101) (o := .cells #[.slice (some ad111) l0_0.length c0_0] 29 (0, 0)) (by (with_reducible repeat (first | refine blk_drewN ?_ _ | refine blk_drew ?_ | refine blk_alloc ?_ _)); refine blk_far ?_ NB101_112.o _; (with_reducible repeat (first | refine blk_drewN ?_ _ | refine blk_drew ?_ | refine blk_alloc ?_ _)); refine blk_far ?_ NB101_112.o _; (with_reducible repeat (first | refine blk_drewN ?_ _ | refine blk_drew ?_ | refine blk_alloc ?_ _)); refine blk_far ?_ NB101_112.o _; (with_reducible repeat (first | refine blk_drewN ?_ _ | refine blk_drew ?_ | refine blk_alloc ?_ _)); refine blk_far ?_ NB101_112.o _; (with_reducible repeat (first | refine blk_drewN ?_ _ | refine blk_drew ?_ | refine blk_alloc ?_ _)); refine blk_far ?_ NB101_112.o _; (with_reducible repeat (first | refine blk_drewN ?_ _ | refine blk_drew ?_ | refine blk_alloc ?_ _)); exact BK101.o) hb); replace BK112 := q_ (blk_below (g := gb112) (o := .cells #[.int .i64 ((rd_T156 l0_0 x6_1).f0), .slice A111_1 ((rd_T156 l0_0 x6_1).f1).length c111_1, .slice A111_2 ((rd_T156 l0_0 x6_1).f2).length c111_2, .int .i64 ((rd_T156 l0_0 x6_1).f3), .int .i64 ((rd_T156 l0_0 x6_1).f4)] 156 (0, 0)) (by (with_reducible repeat (first | refine blk_drewN ?_ _ | refine blk_drew ?_ | refine blk_alloc ?_ _)); refine blk_put (cs := #[.int .i64 ((rd_T156 l0_0 x6_1).f0), .slice A111_1 ((rd_T156 l0_0 x6_1).f1).length c111_1, .slice A111_2 ((rd_T156 l0_0 x6_1).f2).length c111_2, .int .i64 ((rd_T156 l0_0 x6_1).f3), .int .i64 0]) ?_ 4 _ rfl; (with_reducible repeat (first | refine blk_drewN ?_ _ | refine blk_drew ?_ | refine blk_alloc ?_ _)); refine blk_put (cs := #[.int .i64 ((rd_T156 l0_0 x6_1).f0), .slice A111_1 ((rd_T156 l0_0 x6_1).f1).length c111_1, .slice A111_2 ((rd_T156 l0_0 x6_1).f2).length c111_2, .int .i64 0, .int .i64 0]) ?_ 3 _ rfl; (with_reducible repeat (first | refine blk_drewN ?_ _ | refine blk_drew ?_ | refine blk_alloc ?_ _)); refine blk_put (cs := #[.int .i64 ((rd_T156 l0_0 x6_1).f0), .slice A111_1 ((rd_T156 l0_0 x6_1).f1).length c111_1, .slice none 0 0, .int .i64 0, .int .i64 0]) ?_ 2 _ rfl; (with_reducible repeat (first | refine blk_drewN ?_ _ | refine blk_drew ?_ | refine blk_alloc ?_ _)); refine blk_put (cs := #[.int .i64 ((rd_T156 l0_0 x6_1).f0), .slice none 0 0, .slice none 0 0, .int .i64 0, .int .i64 0]) ?_ 1 _ rfl; (with_reducible repeat (first | refine blk_drewN ?_ _ | refine blk_drew ?_ | refine blk_alloc ?_ _)); refine blk_put (cs := #[.int .i64 0, .slice none 0 0, .slice none 0 0, .int .i64 0, .int .i64 0]) ?_ 0 _ rfl; (with_reducible repeat (first | refine blk_drewN ?_ _ | refine blk_drew ?_ | refine blk_alloc ?_ _)); exact BK112.o) hb); replace HB := sb2_ HB GE101 GE112 hb; (try clear hb); obtain ⟨Ao37, co37, eo37⟩ := Kd.R_slice HO_4.o; subst eo37; have p114 : 0 ≤ (x6_1 : Int) := of_decide_eq_true as_; have q114 : x6_1 < (x4_1.length : Int) := of_decide_eq_true as_; obtain ⟨ad114, e114, hx114_0⟩ := Kd.at_int (Kd.R_reads' HO_4.o).2.2 x6_1 p114 q114; cases e114; replace p114 := eq_true p114; replace q114 := eq_true q114))
              go_meet
              case rel => exact ⟨_, (true), rs_, H', ⟨by have := HK1.o; first | omega | exact Nat.le_refl _⟩, ⟨ra_ HO_4.o⟩, ⟨ra_ HO_5.o⟩, ⟨bk_ BK101.o⟩, ⟨bk_ BK112.o⟩, ⟨be2_ HB.o GE101.o GE112.o⟩⟩
            ·rw [if_neg c26] at H
             exact absurd H (by simp)
           ·rw [if_neg c25] at H; have c25b0 := df_ c25; clear c25
            (first | rw [c25b0] | (simp only [i64_w, i32_w]; rw [c25b0]) | skip)
            by_cases c38 : x6_1 < (x5_1.length : Int)
            ·rw [if_pos c38] at H; have c38b0 := dt_ c38; clear c38
             have H' := q_ H
             clear H; have hnb39 := NB112_101.o; have hnc39 := NB101_112.o; obtain ⟨hcz40_0, hcz40_1, hcz40_2, hcz40_3, hcz40_4, hfz40_0, hfz40_1, hfz40_2, hfz40_3, hfz40_4⟩ := d5_ BK112
             go_wp2_with (((with_reducible refine gate_callee (f := 119) rfl ?_); refine gl_ (some 39) rfl rfl Try.func119 #[.agg #[.int .i64 ((rd_T156 l0_0 x6_1).f0), .slice A111_1 ((rd_T156 l0_0 x6_1).f1).length c111_1, .slice A111_2 ((rd_T156 l0_0 x6_1).f2).length c111_2, .int .i64 ((rd_T156 l0_0 x6_1).f3), .int .i64 ((rd_T156 l0_0 x6_1).f4)], .int .i64 x6_1] ?_; (with_reducible refine (impl_nodeOk.calls ((rd_T156 l0_0 x6_1).f0) _ _ ((rd_T156 l0_0 x6_1).f1) _ _ ((rd_T156 l0_0 x6_1).f2) ((rd_T156 l0_0 x6_1).f3) ((rd_T156 l0_0 x6_1).f4) x6_1 true _ ?side1 ?side2 ?side3 ?side4 A23.o).mono ?_); (case side1 => exact Kd.C_below HR111_1.o (be2_ HB.o GE101.o GE112.o)); (case side2 => exact HC111_1.o); (case side3 => exact Kd.C_below HR111_2.o (be2_ HB.o GE101.o GE112.o)); (case side4 => exact HC111_2.o); rintro e w41 ⟨rfl, hb⟩; refine ⟨_, rfl, ?_⟩; replace HO_4 := q_ (Kd.R_below (by (with_reducible repeat (first | apply Kd.R_alloc | apply Kd.R_drewN | apply Kd.R_drew)); exact (Kd.R_mono (Kd.R_far (p := ⟨gb112, 4, none⟩) (Kd.R_far (p := ⟨gb112, 3, none⟩) (Kd.R_far (p := ⟨gb112, 2, none⟩) (Kd.R_far (p := ⟨gb112, 1, none⟩) (Kd.R_far (p := ⟨gb112, 0, none⟩) (Kd.R_types HO_4.o BK112.o (by decide)) (fun _ hk => hk.2) (.int .i64 ((rd_T156 l0_0 x6_1).f0))) (fun _ hk => hk.2) (.slice A111_1 ((rd_T156 l0_0 x6_1).f1).length c111_1)) (fun _ hk => hk.2) (.slice A111_2 ((rd_T156 l0_0 x6_1).f2).length c111_2)) (fun _ hk => hk.2) (.int .i64 ((rd_T156 l0_0 x6_1).f3))) (fun _ hk => hk.2) (.int .i64 ((rd_T156 l0_0 x6_1).f4))) (fun _ h_ => h_.1))) hb); replace HO_5 := q_ (Kd.R_below (by (with_reducible repeat (first | apply Kd.R_alloc | apply Kd.R_drewN | apply Kd.R_drew)); exact (Kd.R_mono (Kd.R_far (p := ⟨gb112, 4, none⟩) (Kd.R_far (p := ⟨gb112, 3, none⟩) (Kd.R_far (p := ⟨gb112, 2, none⟩) (Kd.R_far (p := ⟨gb112, 1, none⟩) (Kd.R_far (p := ⟨gb112, 0, none⟩) (Kd.R_types HO_5.o BK112.o (by decide)) (fun _ hk => hk.2) (.int .i64 ((rd_T156 l0_0 x6_1).f0))) (fun _ hk => hk.2) (.slice A111_1 ((rd_T156 l0_0 x6_1).f1).length c111_1)) (fun _ hk => hk.2) (.slice A111_2 ((rd_T156 l0_0 x6_1).f2).length c111_2)) (fun _ hk => hk.2) (.int .i64 ((rd_T156 l0_0 x6_1).f3))) (fun _ hk => hk.2) (.int .i64 ((rd_T156 l0_0 x6_1).f4))) (fun _ h_ => h_.1))) hb); replace BK101 := q_ (blk_below (g := gb101) (o := .cells #[.slice (some ad111) l0_0.length c0_0] 29 (0, 0)) (by (with_reducible repeat (first | refine blk_drewN ?_ _ | refine blk_drew ?_ | refine blk_alloc ?_ _)); refine blk_far ?_ NB101_112.o _; (with_reducible repeat (first | refine blk_drewN ?_ _ | refine blk_drew ?_ | refine blk_alloc ?_ _)); refine blk_far ?_ NB101_112.o _; (with_reducible repeat (first | refine blk_drewN ?_ _ | refine blk_drew ?_ | refine blk_alloc ?_ _)); refine blk_far ?_ NB101_112.o _; (with_reducible repeat (first | refine blk_drewN ?_ _ | refine blk_drew ?_ | refine blk_alloc ?_ _)); refine blk_far ?_ NB101_112.o _; (with_reducible repeat (first | refine blk_drewN ?_ _ | refine blk_drew ?_ | refine blk_alloc ?_ _)); refine blk_far ?_ NB101_112.o _; (with_reducible repeat (first | refine blk_drewN ?_ _ | refine blk_drew ?_ | refine blk_alloc ?_ _)); exact BK101.o) hb); replace BK112 := q_ (blk_below (g := gb112) (o := .cells #[.int .i64 ((rd_T156 l0_0 x6_1).f0), .slice A111_1 ((rd_T156 l0_0 x6_1).f1).length c111_1, .slice A111_2 ((rd_T156 l0_0 x6_1).f2).length c111_2, .int .i64 ((rd_T156 l0_0 x6_1).f3), .int .i64 ((rd_T156 l0_0 x6_1).f4)] 156 (0, 0)) (by (with_reducible repeat (first | refine blk_drewN ?_ _ | refine blk_drew ?_ | refine blk_alloc ?_ _)); refine blk_put (cs := #[.int .i64 ((rd_T156 l0_0 x6_1).f0), .slice A111_1 ((rd_T156 l0_0 x6_1).f1).length c111_1, .slice A111_2 ((rd_T156 l0_0 x6_1).f2).length c111_2, .int .i64 ((rd_T156 l0_0 x6_1).f3), .int .i64 0]) ?_ 4 _ rfl; (with_reducible repeat (first | refine blk_drewN ?_ _ | refine blk_drew ?_ | refine blk_alloc ?_ _)); refine blk_put (cs := #[.int .i64 ((rd_T156 l0_0 x6_1).f0), .slice A111_1 ((rd_T156 l0_0 x6_1).f1).length c111_1, .slice A111_2 ((rd_T156 l0_0 x6_1).f2).length c111_2, .int .i64 0, .int .i64 0]) ?_ 3 _ rfl; (with_reducible repeat (first | refine blk_drewN ?_ _ | refine blk_drew ?_ | refine blk_alloc ?_ _)); refine blk_put (cs := #[.int .i64 ((rd_T156 l0_0 x6_1).f0), .slice A111_1 ((rd_T156 l0_0 x6_1).f1).length c111_1, .slice none 0 0, .int .i64 0, .int .i64 0]) ?_ 2 _ rfl; (with_reducible repeat (first | refine blk_drewN ?_ _ | refine blk_drew ?_ | refine blk_alloc ?_ _)); refine blk_put (cs := #[.int .i64 ((rd_T156 l0_0 x6_1).f0), .slice none 0 0, .slice none 0 0, .int .i64 0, .int .i64 0]) ?_ 1 _ rfl; (with_reducible repeat (first | refine blk_drewN ?_ _ | refine blk_drew ?_ | refine blk_alloc ?_ _)); refine blk_put (cs := #[.int .i64 0, .slice none 0 0, .slice none 0 0, .int .i64 0, .int .i64 0]) ?_ 0 _ rfl; (with_reducible repeat (first | refine blk_drewN ?_ _ | refine blk_drew ?_ | refine blk_alloc ?_ _)); exact BK112.o) hb); replace HB := sb2_ HB GE101 GE112 hb; (try clear hb); obtain ⟨Ao42, co42, eo42⟩ := Kd.R_slice HO_5.o; subst eo42; have p116 : 0 ≤ (x6_1 : Int) := of_decide_eq_true as_; have q116 : x6_1 < (x5_1.length : Int) := of_decide_eq_true as_; obtain ⟨ad116, e116, hx116_0⟩ := Kd.at_int (Kd.R_reads' HO_5.o).2.2 x6_1 p116 q116; cases e116; replace p116 := eq_true p116; replace q116 := eq_true q116))
             go_meet
             case rel => exact ⟨_, (decide ((rd x5_1 x6_1) > 150)), rs_, H', ⟨by have := HK1.o; first | omega | exact Nat.le_refl _⟩, ⟨ra_ HO_4.o⟩, ⟨ra_ HO_5.o⟩, ⟨bk_ BK101.o⟩, ⟨bk_ BK112.o⟩, ⟨be2_ HB.o GE101.o GE112.o⟩⟩
            ·rw [if_neg c38] at H
             exact absurd H (by simp)
          ·replace c24 := Bool.eq_false_iff.mpr c24; subst c24; rw [if_neg nft_] at H
           have H' := q_ H
           clear H; have hnb43 := NB112_101.o; have hnc43 := NB101_112.o; obtain ⟨hcz44_0, hcz44_1, hcz44_2, hcz44_3, hcz44_4, hfz44_0, hfz44_1, hfz44_2, hfz44_3, hfz44_4⟩ := d5_ BK112
           go_wp2_with (((with_reducible refine gate_callee (f := 119) rfl ?_); refine gl_ (some 39) rfl rfl Try.func119 #[.agg #[.int .i64 ((rd_T156 l0_0 x6_1).f0), .slice A111_1 ((rd_T156 l0_0 x6_1).f1).length c111_1, .slice A111_2 ((rd_T156 l0_0 x6_1).f2).length c111_2, .int .i64 ((rd_T156 l0_0 x6_1).f3), .int .i64 ((rd_T156 l0_0 x6_1).f4)], .int .i64 x6_1] ?_; (with_reducible refine (impl_nodeOk.calls ((rd_T156 l0_0 x6_1).f0) _ _ ((rd_T156 l0_0 x6_1).f1) _ _ ((rd_T156 l0_0 x6_1).f2) ((rd_T156 l0_0 x6_1).f3) ((rd_T156 l0_0 x6_1).f4) x6_1 false _ ?side1 ?side2 ?side3 ?side4 A23.o).mono ?_); (case side1 => exact Kd.C_below HR111_1.o (be2_ HB.o GE101.o GE112.o)); (case side2 => exact HC111_1.o); (case side3 => exact Kd.C_below HR111_2.o (be2_ HB.o GE101.o GE112.o)); (case side4 => exact HC111_2.o); rintro e w45 ⟨rfl, hb⟩; refine ⟨_, rfl, ?_⟩; replace HO_4 := q_ (Kd.R_below (by (with_reducible repeat (first | apply Kd.R_alloc | apply Kd.R_drewN | apply Kd.R_drew)); exact (Kd.R_mono (Kd.R_far (p := ⟨gb112, 4, none⟩) (Kd.R_far (p := ⟨gb112, 3, none⟩) (Kd.R_far (p := ⟨gb112, 2, none⟩) (Kd.R_far (p := ⟨gb112, 1, none⟩) (Kd.R_far (p := ⟨gb112, 0, none⟩) (Kd.R_types HO_4.o BK112.o (by decide)) (fun _ hk => hk.2) (.int .i64 ((rd_T156 l0_0 x6_1).f0))) (fun _ hk => hk.2) (.slice A111_1 ((rd_T156 l0_0 x6_1).f1).length c111_1)) (fun _ hk => hk.2) (.slice A111_2 ((rd_T156 l0_0 x6_1).f2).length c111_2)) (fun _ hk => hk.2) (.int .i64 ((rd_T156 l0_0 x6_1).f3))) (fun _ hk => hk.2) (.int .i64 ((rd_T156 l0_0 x6_1).f4))) (fun _ h_ => h_.1))) hb); replace HO_5 := q_ (Kd.R_below (by (with_reducible repeat (first | apply Kd.R_alloc | apply Kd.R_drewN | apply Kd.R_drew)); exact (Kd.R_mono (Kd.R_far (p := ⟨gb112, 4, none⟩) (Kd.R_far (p := ⟨gb112, 3, none⟩) (Kd.R_far (p := ⟨gb112, 2, none⟩) (Kd.R_far (p := ⟨gb112, 1, none⟩) (Kd.R_far (p := ⟨gb112, 0, none⟩) (Kd.R_types HO_5.o BK112.o (by decide)) (fun _ hk => hk.2) (.int .i64 ((rd_T156 l0_0 x6_1).f0))) (fun _ hk => hk.2) (.slice A111_1 ((rd_T156 l0_0 x6_1).f1).length c111_1)) (fun _ hk => hk.2) (.slice A111_2 ((rd_T156 l0_0 x6_1).f2).length c111_2)) (fun _ hk => hk.2) (.int .i64 ((rd_T156 l0_0 x6_1).f3))) (fun _ hk => hk.2) (.int .i64 ((rd_T156 l0_0 x6_1).f4))) (fun _ h_ => h_.1))) hb); replace BK101 := q_ (blk_below (g := gb101) (o := .cells #[.slice (some ad111) l0_0.length c0_0] 29 (0, 0)) (by (with_reducible repeat (first | refine blk_drewN ?_ _ | refine blk_drew ?_ | refine blk_alloc ?_ _)); refine blk_far ?_ NB101_112.o _; (with_reducible repeat (first | refine blk_drewN ?_ _ | refine blk_drew ?_ | refine blk_alloc ?_ _)); refine blk_far ?_ NB101_112.o _; (with_reducible repeat (first | refine blk_drewN ?_ _ | refine blk_drew ?_ | refine blk_alloc ?_ _)); refine blk_far ?_ NB101_112.o _; (with_reducible repeat (first | refine blk_drewN ?_ _ | refine blk_drew ?_ | refine blk_alloc ?_ _)); refine blk_far ?_ NB101_112.o _; (with_reducible repeat (first | refine blk_drewN ?_ _ | refine blk_drew ?_ | refine blk_alloc ?_ _)); refine blk_far ?_ NB101_112.o _; (with_reducible repeat (first | refine blk_drewN ?_ _ | refine blk_drew ?_ | refine blk_alloc ?_ _)); exact BK101.o) hb); replace BK112 := q_ (blk_below (g := gb112) (o := .cells #[.int .i64 ((rd_T156 l0_0 x6_1).f0), .slice A111_1 ((rd_T156 l0_0 x6_1).f1).length c111_1, .slice A111_2 ((rd_T156 l0_0 x6_1).f2).length c111_2, .int .i64 ((rd_T156 l0_0 x6_1).f3), .int .i64 ((rd_T156 l0_0 x6_1).f4)] 156 (0, 0)) (by (with_reducible repeat (first | refine blk_drewN ?_ _ | refine blk_drew ?_ | refine blk_alloc ?_ _)); refine blk_put (cs := #[.int .i64 ((rd_T156 l0_0 x6_1).f0), .slice A111_1 ((rd_T156 l0_0 x6_1).f1).length c111_1, .slice A111_2 ((rd_T156 l0_0 x6_1).f2).length c111_2, .int .i64 ((rd_T156 l0_0 x6_1).f3), .int .i64 0]) ?_ 4 _ rfl; (with_reducible repeat (first | refine blk_drewN ?_ _ | refine blk_drew ?_ | refine blk_alloc ?_ _)); refine blk_put (cs := #[.int .i64 ((rd_T156 l0_0 x6_1).f0), .slice A111_1 ((rd_T156 l0_0 x6_1).f1).length c111_1, .slice A111_2 ((rd_T156 l0_0 x6_1).f2).length c111_2, .int .i64 0, .int .i64 0]) ?_ 3 _ rfl; (with_reducible repeat (first | refine blk_drewN ?_ _ | refine blk_drew ?_ | refine blk_alloc ?_ _)); refine blk_put (cs := #[.int .i64 ((rd_T156 l0_0 x6_1).f0), .slice A111_1 ((rd_T156 l0_0 x6_1).f1).length c111_1, .slice none 0 0, .int .i64 0, .int .i64 0]) ?_ 2 _ rfl; (with_reducible repeat (first | refine blk_drewN ?_ _ | refine blk_drew ?_ | refine blk_alloc ?_ _)); refine blk_put (cs := #[.int .i64 ((rd_T156 l0_0 x6_1).f0), .slice none 0 0, .slice none 0 0, .int .i64 0, .int .i64 0]) ?_ 1 _ rfl; (with_reducible repeat (first | refine blk_drewN ?_ _ | refine blk_drew ?_ | refine blk_alloc ?_ _)); refine blk_put (cs := #[.int .i64 0, .slice none 0 0, .slice none 0 0, .int .i64 0, .int .i64 0]) ?_ 0 _ rfl; (with_reducible repeat (first | refine blk_drewN ?_ _ | refine blk_drew ?_ | refine blk_alloc ?_ _)); exact BK112.o) hb); replace HB := sb2_ HB GE101 GE112 hb; (try clear hb)))
           go_meet
           case rel => exact ⟨_, (true), rs_, H', ⟨by have := HK1.o; first | omega | exact Nat.le_refl _⟩, ⟨ra_ HO_4.o⟩, ⟨ra_ HO_5.o⟩, ⟨bk_ BK101.o⟩, ⟨bk_ BK112.o⟩, ⟨be2_ HB.o GE101.o GE112.o⟩⟩
         case rest =>
          clear HC18; (try clear c4); (try clear c5); (try clear c5b0); (try clear c5b1); (try clear c6); (try clear c6b0); (try clear c6b1); (try clear c15); (try clear c15b0); (try clear c16); (try clear c16b0); (try clear c17); (try clear c17b0); (try clear c24); (try clear c25); (try clear c25b0); (try clear c26); (try clear c26b0); (try clear c27); (try clear c27b0); (try clear c27b1); (try clear c28); (try clear c28b0); (try clear c38); (try clear c38b0); (try clear hcz19_0); (try clear hcz22_0); (try clear hcz22_1); (try clear hcz22_2); (try clear hcz22_3); (try clear hcz22_4); (try clear hcz30_0); (try clear hcz30_1); (try clear hcz30_2); (try clear hcz30_3); (try clear hcz30_4); (try clear hcz35_0); (try clear hcz35_1); (try clear hcz35_2); (try clear hcz35_3); (try clear hcz35_4); (try clear hcz40_0); (try clear hcz40_1); (try clear hcz40_2); (try clear hcz40_3); (try clear hcz40_4); (try clear hcz44_0); (try clear hcz44_1); (try clear hcz44_2); (try clear hcz44_3); (try clear hcz44_4); (try clear hcz8_0); (try clear hfz19_0); (try clear hfz22_0); (try clear hfz22_1); (try clear hfz22_2); (try clear hfz22_3); (try clear hfz22_4); (try clear hfz30_0); (try clear hfz30_1); (try clear hfz30_2); (try clear hfz30_3); (try clear hfz30_4); (try clear hfz35_0); (try clear hfz35_1); (try clear hfz35_2); (try clear hfz35_3); (try clear hfz35_4); (try clear hfz40_0); (try clear hfz40_1); (try clear hfz40_2); (try clear hfz40_3); (try clear hfz40_4); (try clear hfz44_0); (try clear hfz44_1); (try clear hfz44_2); (try clear hfz44_3); (try clear hfz44_4); (try clear hfz8_0); (try clear hx111_0); (try clear hx111_1); (try clear hx111_2); (try clear hx111_3); (try clear hx111_4); (try clear hx114_0); (try clear hx115_0); (try clear hx116_0); (try clear p111); (try clear p114); (try clear p115); (try clear p116); (try clear q111); (try clear q114); (try clear q115); (try clear q116); obtain ⟨kq, x59_17, rfl, HA, HJ17, HO_4, HO_5, BK101, BK112, HB⟩ := hcut
          cases kq with
          | zero => exact absurd HA.o (by simp [impl_RxOk.j1])
          | succ kj17 =>
           have H := HA.o; clear HA
           simp only [impl_RxOk.j1] at H
           by_cases c46 : x59_17 = true
           ·subst c46; rw [if_pos rfl] at H; obtain rfl := Option.some.inj H
            go_wp2
            go_ret
            exact ⟨rt_, be2_ HB.o GE101.o GE112.o⟩
           ·replace c46 := Bool.eq_false_iff.mpr c46; subst c46; rw [if_neg nft_] at H
            have H' := q_ H
            clear H; have hnb47 := NB112_101.o; have hnc47 := NB101_112.o; obtain ⟨hcz48_0, hcz48_1, hcz48_2, hcz48_3, hcz48_4, hfz48_0, hfz48_1, hfz48_2, hfz48_3, hfz48_4⟩ := d5_ BK112
            go_wp2
            go_loopg [63] kj17 (fun kq v63 w' => ∃ (x4_3 : List Int) (x5_3 : List Int) (x63_3 : Int), v63 = .int .i64 x63_3 ∧ J0 (impl_RxOk.l1 kq (wrap64 ((l0_0.length : Int) - 1)) x4_3 x5_3 x6_1 ((rd_T156 l0_0 x6_1).f2) (((rd_T156 l0_0 x6_1).f2).length : Int) x63_3 l0_0 = some r) ∧ J0 (kq ≤ kj17) ∧ J0 (Kd.R (Kd.int .i64) 3 w' w.heap.size (fun k_ => some k_ ≠ (v108 : Value).ownBlock) v105 x4_3) ∧ J0 (Kd.R (Kd.int .i64) 3 w' w.heap.size (fun k_ => some k_ ≠ (v105 : Value).ownBlock) v108 x5_3) ∧ J0 (w'.heap[gb101]? = some (.cells #[(.slice (some ad111) l0_0.length c0_0)] 29 (0, 0))) ∧ J0 (w'.heap[gb112]? = some (.cells #[.int .i64 ((rd_T156 l0_0 x6_1).f0), (.slice A111_1 ((rd_T156 l0_0 x6_1).f1).length c111_1), (.slice A111_2 ((rd_T156 l0_0 x6_1).f2).length c111_2), .int .i64 ((rd_T156 l0_0 x6_1).f3), .int .i64 ((rd_T156 l0_0 x6_1).f4)] 156 (0, 0))) ∧ J0 (Below w.heap.size w w'))
            case atStart => exact ⟨(x4_1), (x5_1), (0), rs_, H', ⟨Nat.le_refl _⟩, ⟨ra_ HO_4.o⟩, ⟨ra_ HO_5.o⟩, ⟨bk_ BK101.o⟩, ⟨bk_ BK112.o⟩, ⟨be2_ HB.o GE101.o GE112.o⟩⟩
            case round =>
             clear H'; (try clear c4); (try clear c5); (try clear c5b0); (try clear c5b1); (try clear c6); (try clear c6b0); (try clear c6b1); (try clear c15); (try clear c15b0); (try clear c16); (try clear c16b0); (try clear c17); (try clear c17b0); (try clear c24); (try clear c25); (try clear c25b0); (try clear c26); (try clear c26b0); (try clear c27); (try clear c27b0); (try clear c27b1); (try clear c28); (try clear c28b0); (try clear c38); (try clear c38b0); (try clear c46); (try clear hcz19_0); (try clear hcz22_0); (try clear hcz22_1); (try clear hcz22_2); (try clear hcz22_3); (try clear hcz22_4); (try clear hcz30_0); (try clear hcz30_1); (try clear hcz30_2); (try clear hcz30_3); (try clear hcz30_4); (try clear hcz35_0); (try clear hcz35_1); (try clear hcz35_2); (try clear hcz35_3); (try clear hcz35_4); (try clear hcz40_0); (try clear hcz40_1); (try clear hcz40_2); (try clear hcz40_3); (try clear hcz40_4); (try clear hcz44_0); (try clear hcz44_1); (try clear hcz44_2); (try clear hcz44_3); (try clear hcz44_4); (try clear hcz48_0); (try clear hcz48_1); (try clear hcz48_2); (try clear hcz48_3); (try clear hcz48_4); (try clear hcz8_0); (try clear hfz19_0); (try clear hfz22_0); (try clear hfz22_1); (try clear hfz22_2); (try clear hfz22_3); (try clear hfz22_4); (try clear hfz30_0); (try clear hfz30_1); (try clear hfz30_2); (try clear hfz30_3); (try clear hfz30_4); (try clear hfz35_0); (try clear hfz35_1); (try clear hfz35_2); (try clear hfz35_3); (try clear hfz35_4); (try clear hfz40_0); (try clear hfz40_1); (try clear hfz40_2); (try clear hfz40_3); (try clear hfz40_4); (try clear hfz44_0); (try clear hfz44_1); (try clear hfz44_2); (try clear hfz44_3); (try clear hfz44_4); (try clear hfz48_0); (try clear hfz48_1); (try clear hfz48_2); (try clear hfz48_3); (try clear hfz48_4); (try clear hfz8_0); (try clear hx111_0); (try clear hx111_1); (try clear hx111_2); (try clear hx111_3); (try clear hx111_4); (try clear hx114_0); (try clear hx115_0); (try clear hx116_0); (try clear p111); (try clear p114); (try clear p115); (try clear p116); (try clear q111); (try clear q114); (try clear q115); (try clear q116); obtain ⟨x4_3, x5_3, x63_3, rfl, HA, HK3, HO_4, HO_5, BK101, BK112, HB⟩ := hrel
             cases gk with
             | zero => exact absurd HA.o (by simp [impl_RxOk.l1])
             | succ k3 =>
              have H := HA.o; clear HA
              simp only [impl_RxOk.l1] at H
              by_cases c49 : x63_3 < (((rd_T156 l0_0 x6_1).f2).length : Int)
              ·rw [if_pos c49] at H; have c49b0 := dt_ c49; clear c49
               by_cases c50 : 0 ≤ x63_3
               ·rw [if_pos c50] at H; have c50b0 := dt_ c50; clear c50
                by_cases c51 : x63_3 < (((rd_T156 l0_0 x6_1).f2).length : Int)
                ·rw [if_pos c51] at H; have c51b0 := dt_ c51; clear c51
                 by_cases c52 : 0 ≤ (rd ((rd_T156 l0_0 x6_1).f2) x63_3)
                 ·rw [if_pos c52] at H; have c52b0 := dt_ c52; clear c52
                  by_cases c53 : (rd ((rd_T156 l0_0 x6_1).f2) x63_3) < (x4_3.length : Int)
                  ·rw [if_pos c53] at H; have c53b0 := dt_ c53; clear c53
                   obtain ⟨y119, hy119⟩ : ∃ y_ : List Int, y_ = (x4_3.set ((rd ((rd_T156 l0_0 x6_1).f2) x63_3) : Int).toNat (wrap64 ((rd x4_3 (rd ((rd_T156 l0_0 x6_1).f2) x63_3)) + 1))) := ⟨_, rfl⟩
                   replace H : (if 0 ≤ x6_1 then (if x6_1 < (x5_3.length : Int) then (if (rd ((rd_T156 l0_0 x6_1).f2) x63_3) < (x5_3.length : Int) then (impl_RxOk.l1 k3 (wrap64 ((l0_0.length : Int) - 1)) y119 (x5_3.set ((rd ((rd_T156 l0_0 x6_1).f2) x63_3) : Int).toNat (wrap64 ((rd x5_3 x6_1) + 1))) x6_1 ((rd_T156 l0_0 x6_1).f2) (((rd_T156 l0_0 x6_1).f2).length : Int) (wrap64 (x63_3 + 1)) l0_0) else (none)) else (none)) else (none)) = some r := by first | (rw [hy119]; with_reducible exact H) | (have H2_ := (Option.bind_some _ _).symm.trans H; rw [hy119]; with_reducible exact H2_) | (have H2_ := (Option.bind_some _ _).symm.trans H; with_reducible exact H2_) | with_reducible exact H | (rw [hy119]; exact H) | exact H
                   have Ny119 := q_ hy119; clear hy119
                   by_cases c55 : 0 ≤ x6_1
                   ·rw [if_pos c55] at H; have c55b0 := dt_ c55; clear c55
                    by_cases c56 : x6_1 < (x5_3.length : Int)
                    ·rw [if_pos c56] at H; have c56b0 := dt_ c56; clear c56
                     by_cases c57 : (rd ((rd_T156 l0_0 x6_1).f2) x63_3) < (x5_3.length : Int)
                     ·rw [if_pos c57] at H; have c57b0 := dt_ c57; clear c57
                      obtain ⟨y121, hy121⟩ : ∃ y_ : List Int, y_ = (x5_3.set ((rd ((rd_T156 l0_0 x6_1).f2) x63_3) : Int).toNat (wrap64 ((rd x5_3 x6_1) + 1))) := ⟨_, rfl⟩
                      replace H : (impl_RxOk.l1 k3 (wrap64 ((l0_0.length : Int) - 1)) y119 y121 x6_1 ((rd_T156 l0_0 x6_1).f2) (((rd_T156 l0_0 x6_1).f2).length : Int) (wrap64 (x63_3 + 1)) l0_0) = some r := by first | (rw [hy121]; with_reducible exact H) | (have H2_ := (Option.bind_some _ _).symm.trans H; rw [hy121]; with_reducible exact H2_) | (have H2_ := (Option.bind_some _ _).symm.trans H; with_reducible exact H2_) | with_reducible exact H | (rw [hy121]; exact H) | exact H
                      have Ny121 := q_ hy121; clear hy121
                      have H' := q_ H
                      clear H
                      have p117 : 0 ≤ (x63_3 : Int) := of_decide_eq_true as_
                      have q117 : x63_3 < (((rd_T156 l0_0 x6_1).f2).length : Int) := of_decide_eq_true as_
                      obtain ⟨ad117, e117, hx117_0⟩ := Kd.at_int HR111_2.o x63_3 p117 q117
                      cases e117
                      replace hx117_0 := mv_ HB.o hx117_0; replace p117 := eq_true p117; replace q117 := eq_true q117; obtain ⟨Ao59, co59, eo59⟩ := Kd.R_slice HO_4.o; subst eo59
                      have p118 : 0 ≤ ((rd ((rd_T156 l0_0 x6_1).f2) x63_3) : Int) := of_decide_eq_true as_
                      have q118 : (rd ((rd_T156 l0_0 x6_1).f2) x63_3) < (x4_3.length : Int) := of_decide_eq_true as_
                      obtain ⟨ad118, e118, hx118_0⟩ := Kd.at_int (Kd.R_reads' HO_4.o).2.2 (rd ((rd_T156 l0_0 x6_1).f2) x63_3) p118 q118
                      cases e118
                      replace p118 := eq_true p118; replace q118 := eq_true q118
                      have p54 : 0 ≤ ((rd ((rd_T156 l0_0 x6_1).f2) x63_3) : Int) := of_decide_eq_true as_
                      have q54 : ((rd ((rd_T156 l0_0 x6_1).f2) x63_3) : Int) < ((x4_3.length : Int) : Int) := of_decide_eq_true as_
                      obtain ⟨go54, co54, eo54, gb54, gl54, cl54, HG54⟩ := Kd.R_form HO_4.o (by omega)
                      (first | cases eo54 | (injection eo54 with ea_ en_ ec_; (first | subst ea_ | (injection ea_ with ea_; subst ea_)); subst ec_; clear en_))
                      have GB54 := q_ gb54; have GG54 := q_ HG54; clear gb54 gl54 HG54
                      (first | simp only [add_plain] at hx118_0 | skip)
                      obtain ⟨hx54_0, hf54_0⟩ := Kd.R_celln 0 HO_4.o ((rd ((rd_T156 l0_0 x6_1).f2) x63_3) : Int) p54 q54; replace p54 := eq_true p54; replace q54 := eq_true q54; have HP60 := Kd.R_putg HO_4.o ((rd ((rd_T156 l0_0 x6_1).f2) x63_3) : Int) (wrap64 ((rd x4_3 (rd ((rd_T156 l0_0 x6_1).f2) x63_3)) + 1))
                      go_wp2_with (first | ((with_reducible refine gate_store (t := 3) (p := 72) rfl ?_); refine store_event (t := 3) (p := 72) (v := ?vo_w61) (w1 := (wr.setCell ⟨go54, ((rd ((rd_T156 l0_0 x6_1).f2) x63_3) : Int).toNat, none⟩ (.int .i64 (wrap64 ((rd x4_3 (rd ((rd_T156 l0_0 x6_1).f2) x63_3)) + 1))))) ?hg ?ho ?hn ?hr ?_; (case ho => rfl); (case hg => rfl); (case hn => rfl); (case hr => first | (go_simp; done) | (go_simp; rfl)); intro w61 hw; have hg : wr.grownBy w61 (some go54) := (by rw [hw]; exact HP60.2); have hp_ : Kd.R (Kd.int .i64) 3 w61 w.heap.size (fun k_ => some k_ ≠ (v108 : Value).ownBlock) (.slice (some ⟨go54, 0, none⟩) x4_3.length co59) y119 := (by rw [hw, Ny119.o]; exact HP60.1); clear HP60; replace HO_5 := q_ (Kd.R_after (v := (.slice (some ⟨go54, 0, none⟩) x4_3.length co59)) (v1 := (.slice (some ⟨go54, 0, none⟩) x4_3.length co59)) (ok := (fun _ => True)) (by (with_reducible repeat (first | apply Kd.R_alloc | apply Kd.R_drewN | apply Kd.R_drew)); exact Kd.R_mono HO_5.o (fun _ hk => ⟨trivial, hk⟩)) hg (.inl rfl)); replace BK101 := q_ (blk_grown (g := gb101) (o := .cells #[.slice (some ad111) l0_0.length c0_0] 29 (0, 0)) (bk_ BK101.o) hg (Kd.R_ne HO_4.o BK101.o (by decide))); replace BK112 := q_ (blk_grown (g := gb112) (o := .cells #[.int .i64 ((rd_T156 l0_0 x6_1).f0), .slice A111_1 ((rd_T156 l0_0 x6_1).f1).length c111_1, .slice (some ad117) ((rd_T156 l0_0 x6_1).f2).length c111_2, .int .i64 ((rd_T156 l0_0 x6_1).f3), .int .i64 ((rd_T156 l0_0 x6_1).f4)] 156 (0, 0)) (bk_ BK112.o) hg (Kd.R_ne HO_4.o BK112.o (by decide))); replace HO_4 := q_ (hp_); replace HB := q_ ((by rw [hw]; exact below_set (HB.o) GB54.out : Below w.heap.size w w61)); clear hg hw hp_; obtain ⟨Ao62, co62, eo62⟩ := Kd.R_slice HO_5.o; subst eo62; have p120 : 0 ≤ (x6_1 : Int) := of_decide_eq_true as_; have q120 : x6_1 < (x5_3.length : Int) := of_decide_eq_true as_; obtain ⟨ad120, e120, hx120_0⟩ := Kd.at_int (Kd.R_reads' HO_5.o).2.2 x6_1 p120 q120; cases e120; replace p120 := eq_true p120; replace q120 := eq_true q120; have p58 : 0 ≤ ((rd ((rd_T156 l0_0 x6_1).f2) x63_3) : Int) := of_decide_eq_true as_; have q58 : ((rd ((rd_T156 l0_0 x6_1).f2) x63_3) : Int) < ((x5_3.length : Int) : Int) := of_decide_eq_true as_; obtain ⟨go58, co58, eo58, gb58, gl58, cl58, HG58⟩ := Kd.R_form HO_5.o (by omega); (first | cases eo58 | (injection eo58 with ea_ en_ ec_; (first | subst ea_ | (injection ea_ with ea_; subst ea_)); subst ec_; clear en_)); have GB58 := q_ gb58; have GG58 := q_ HG58; clear gb58 gl58 HG58; (first | simp only [add_plain] at hx120_0 | skip); obtain ⟨hx58_0, hf58_0⟩ := Kd.R_celln 0 HO_5.o ((rd ((rd_T156 l0_0 x6_1).f2) x63_3) : Int) p58 q58; replace p58 := eq_true p58; replace q58 := eq_true q58; have n_ := q_ (Kd.R_mono (ok' := (fun k_ => some k_ ≠ (.slice (some ⟨go54, 0, none⟩) x4_3.length co59 : Value).ownBlock)) HO_5.o (fun k_ hk => hk.2)); clear HO_5; have HO_5 := n_; clear n_; obtain ⟨hy63_, hz63_⟩ := Kd.R_celln 0 HO_5.o ((rd ((rd_T156 l0_0 x6_1).f2) x63_3) : Int) (of_decide_eq_true as_) (of_decide_eq_true as_); have HP63 := Kd.R_putg HO_5.o ((rd ((rd_T156 l0_0 x6_1).f2) x63_3) : Int) (wrap64 ((rd x5_3 x6_1) + 1))) | ((with_reducible refine gate_store (t := 3) (p := 80) rfl ?_); refine store_event (t := 3) (p := 80) (v := ?vo_w64) (w1 := (w61.setCell ⟨go58, ((rd ((rd_T156 l0_0 x6_1).f2) x63_3) : Int).toNat, none⟩ (.int .i64 (wrap64 ((rd x5_3 x6_1) + 1))))) ?hg ?ho ?hn ?hr ?_; (case ho => rfl); (case hg => rfl); (case hn => rfl); (case hr => first | (go_simp; done) | (go_simp; rfl)); intro w64 hw; have hg : w61.grownBy w64 (some go58) := (by rw [hw]; exact HP63.2); have hp_ : Kd.R (Kd.int .i64) 3 w64 w.heap.size (fun k_ => some k_ ≠ (.slice (some ⟨go54, 0, none⟩) x4_3.length co59 : Value).ownBlock) (.slice (some ⟨go58, 0, none⟩) x5_3.length co62) y121 := (by rw [hw, Ny121.o]; exact HP63.1); clear HP63; replace HO_4 := q_ (Kd.R_after (v := (.slice (some ⟨go58, 0, none⟩) x5_3.length co62)) (v1 := (.slice (some ⟨go58, 0, none⟩) x5_3.length co62)) (ok := (fun _ => True)) (by (with_reducible repeat (first | apply Kd.R_alloc | apply Kd.R_drewN | apply Kd.R_drew)); exact Kd.R_mono HO_4.o (fun _ hk => ⟨trivial, hk⟩)) hg (.inl rfl)); replace BK101 := q_ (blk_grown (g := gb101) (o := .cells #[.slice (some ad111) l0_0.length c0_0] 29 (0, 0)) (bk_ BK101.o) hg (Kd.R_ne HO_5.o BK101.o (by decide))); replace BK112 := q_ (blk_grown (g := gb112) (o := .cells #[.int .i64 ((rd_T156 l0_0 x6_1).f0), .slice A111_1 ((rd_T156 l0_0 x6_1).f1).length c111_1, .slice (some ad117) ((rd_T156 l0_0 x6_1).f2).length c111_2, .int .i64 ((rd_T156 l0_0 x6_1).f3), .int .i64 ((rd_T156 l0_0 x6_1).f4)] 156 (0, 0)) (bk_ BK112.o) hg (Kd.R_ne HO_5.o BK112.o (by decide))); replace HO_5 := q_ (hp_); replace HB := q_ ((by rw [hw]; exact below_set (HB.o) GB58.out : Below w.heap.size w w64)); clear hg hw hp_))
                      go_roundg k3
                      case measure => have := HK1.o; have := HJ17.o; have := HK3.o; omega
                      case rel => exact ⟨(y119), (y121), (wrap64 (x63_3 + 1)), rs_, H', ⟨by have := HK1.o; have := HJ17.o; have := HK3.o; omega⟩, ⟨by (with_reducible repeat (first | apply Kd.R_alloc | apply Kd.R_drewN | apply Kd.R_drew)); exact Kd.R_mono HO_4.o (fun _ hk => hk.2)⟩, ⟨ra_ HO_5.o⟩, ⟨bk_ BK101.o⟩, ⟨bk_ BK112.o⟩, ⟨be2_ HB.o GE101.o GE112.o⟩⟩
                     ·rw [if_neg c57] at H
                      exact absurd H (by simp)
                    ·rw [if_neg c56] at H
                     exact absurd H (by simp)
                   ·rw [if_neg c55] at H
                    exact absurd H (by simp)
                  ·rw [if_neg c53] at H
                   exact absurd H (by simp)
                 ·rw [if_neg c52] at H
                  exact absurd H (by simp)
                ·rw [if_neg c51] at H
                 exact absurd H (by simp)
               ·rw [if_neg c50] at H
                exact absurd H (by simp)
              ·rw [if_neg c49] at H; have c49b0 := df_ c49; clear c49
               have H' := q_ H
               clear H
               go_wp2
               go_roundg k3
               case measure => have := HK1.o; have := HJ17.o; have := HK3.o; omega
               case rel => exact ⟨(x4_3), (x5_3), (wrap64 (x6_1 - 1)), rs_, H', ⟨by have := HK1.o; have := HJ17.o; have := HK3.o; omega⟩, ⟨ra_ HO_4.o⟩, ⟨ra_ HO_5.o⟩, ⟨bk_ BK101.o⟩, ⟨be2_ HB.o GE101.o GE112.o⟩⟩
        ·rw [if_neg c17] at H
         exact absurd H (by simp)
       ·rw [if_neg c16] at H
        exact absurd H (by simp)
      ·rw [if_neg c15] at H
       have c15b0 : decide (0 ≤ x6_1) = false := df_ c15
       clear c15
       obtain ⟨ji65, hji65⟩ : ∃ j_ : Int, (wrap64 ((l0_0.length : Int) - 1)) = j_ := ⟨_, rfl⟩
       replace H : (if 0 ≤ (ji65) then (if (ji65) < (x4_1.length : Int) then (some ((rd x4_1 (ji65)) == 0)) else (none)) else (none)) = some r := by first | (rw [hji65] at H; exact H) | (simp only [hji65] at H ⊢; exact H)
       have hji65w : (IntKind.i64.wrap ((l0_0.length : Int) - 1)) = ji65 := (i64_w _).trans hji65
       by_cases c66 : 0 ≤ (ji65)
       ·rw [if_pos c66] at H; have c66b0 := dt_ c66; clear c66
        by_cases c67 : (ji65) < (x4_1.length : Int)
        ·rw [if_pos c67] at H; have c67b0 := dt_ c67; clear c67; obtain rfl := Option.some.inj H; obtain ⟨Ao68, co68, eo68⟩ := Kd.R_slice HO_4.o; subst eo68
         have p110 : 0 ≤ ((ji65) : Int) := of_decide_eq_true as_
         have q110 : (ji65) < (x4_1.length : Int) := of_decide_eq_true as_
         obtain ⟨ad110, e110, hx110_0⟩ := Kd.at_int (Kd.R_reads' HO_4.o).2.2 (ji65) p110 q110
         cases e110
         replace p110 := eq_true p110; replace q110 := eq_true q110
         go_wp2
         go_ret
         exact ⟨by first | rfl | (simp [errW_none, errW_some] <;> rfl) | (simp only [← hji65]; first | rfl | (simp [errW_none, errW_some] <;> rfl)) | (simp [*, errW_none, errW_some] <;> rfl), be1_ HB.o GE101.o⟩
        ·rw [if_neg c67] at H
         exact absurd H (by simp)
       ·rw [if_neg c66] at H
        exact absurd H (by simp)
   ·rw [if_neg c6] at H
    exact absurd H (by simp)
  ·rw [if_neg c5] at H
   exact absurd H (by simp)
 ·replace c4 := Bool.eq_false_iff.mpr c4; subst c4; rw [if_neg nft_] at H; obtain rfl := Option.some.inj H
  go_enter Try.func62, Try.ntmps62
  go_wp2_with (first | ((with_reducible refine gate_dst (N := 1) rfl ?_); refine bx_ 1 #[.slice A0_0 l0_0.length c0_0] 29 ?_; intro gb101 hg w69 hbox hb; have BK101 := q_ (hbox); have GE101 := ge_ hg HB; replace HB := sb_ HB hb; clear hb hbox hg; obtain ⟨hcz70_0, hfz70_0⟩ := d1_ BK101) | ((with_reducible refine gate_callee (f := 118) rfl ?_); refine gl_ (some 12) rfl rfl Try.func118 #[.slice A0_0 l0_0.length c0_0] ?_; (with_reducible refine (impl_RNode.calls _ _ l0_0 t102 _ ?side1 ?side2 A2.o).mono ?_); (case side1 => exact Kd.C_below HR0_0.o (be_ HB.o)); (case side2 => exact HC0_0.o); rintro e w' ⟨rfl, ⟨nd, rfl⟩⟩; refine ⟨_, rfl, ?_⟩) | ((with_reducible refine gate_callee (f := 79) rfl ?_); refine gl_ (some 13) rfl rfl Try.func79 #[.int .i64 t102, .int .i64 1, .int .i64 300] ?_; (with_reducible refine (impl_within.calls t102 1 300 false _ A3.o).mono ?_); rintro e w' ⟨rfl, ⟨nd, rfl⟩⟩; refine ⟨_, rfl, ?_⟩))
  go_ret
  exact ⟨rt_, be1_ HB.o GE101.o⟩
end Go.Proofs.Ytijmhelacmjggaa.P
namespace Go.Proofs.Ytijmhelacmjggaa.P
open Go.RowKit Go.Proofs.YtijmhelacmjggaaW.PrintWords Go.Proofs.YtijmhelacmjggaaW.PrintLast Go.Proofs.YtijmhelacmjggaaW.PrintMore Go.Proofs.YtijmhelacmjggaaEv
set_option linter.unusedVariables false
set_option linter.unusedSimpArgs false
theorem rd_set (l : List Int) (x v p : Int) (h0 : 0 ≤ x) (hx : x < l.length) (hp : 0 ≤ p) : rd (l.set x.toNat v) p = if p = x then v else rd l p := by
  unfold rd
  simp only [List.getD_eq_getElem?_getD, List.getElem?_set]
  by_cases h : p = x
  · subst h
    rw [if_pos rfl, if_pos rfl, if_pos (by omega)]
    rfl
  · rw [if_neg (by omega), if_neg h]
def addKids (K kids : List Int) : List Int := kids.foldl (fun K x => K.set x.toNat (rd K x + 1)) K
def setKids (D kids : List Int) (v : Int) : List Int := kids.foldl (fun D x => D.set x.toNat v) D
theorem addKids_length (kids : List Int) : ∀ K : List Int, (addKids K kids).length = K.length := by
  induction kids with
  | nil => intro K; rfl
  | cons x kids ih => intro K; simp only [addKids, List.foldl_cons] at ih ⊢; rw [ih]; simp
theorem setKids_length (kids : List Int) (v : Int) : ∀ D : List Int, (setKids D kids v).length = D.length := by
  induction kids with
  | nil => intro K; rfl
  | cons x kids ih => intro K; simp only [setKids, List.foldl_cons] at ih ⊢; rw [ih]; simp
theorem addKids_rd (kids : List Int) : ∀ K : List Int, (∀ x ∈ kids, 0 ≤ x ∧ x < K.length) → ∀ p : Int, 0 ≤ p → rd (addKids K kids) p = rd K p + (kids.count p : Nat) := by
  induction kids with
  | nil => intro K _ p _; simp [addKids]
  | cons x kids ih =>
    intro K hk p hp
    have hx := hk x (by simp)
    have := ih (K.set x.toNat (rd K x + 1)) (fun y hy => by simpa using hk y (by simp [hy])) p hp
    simp only [addKids, List.foldl_cons] at this ⊢
    rw [this, rd_set _ _ _ _ hx.1 hx.2 hp, List.count_cons]
    by_cases h : p = x
    · subst h; simp; omega
    · rw [if_neg h]
      have : (x == p) = false := beq_eq_false_iff_ne.2 (fun e => h e.symm)
      simp [this]
theorem setKids_le (kids : List Int) (v : Int) (h0 : 0 ≤ v) (h1 : v ≤ 151) : ∀ D : List Int, (∀ p : Int, 0 ≤ p → 0 ≤ rd D p ∧ rd D p ≤ 151) → (∀ x ∈ kids, 0 ≤ x ∧ x < D.length) → ∀ p : Int, 0 ≤ p → 0 ≤ rd (setKids D kids v) p ∧ rd (setKids D kids v) p ≤ 151 := by
  induction kids with
  | nil => intro D hD _; exact hD
  | cons x kids ih =>
    intro D hD hk
    simp only [setKids, List.foldl_cons] at ih ⊢
    refine ih _ (fun p hp => ?_) (fun y hy => by simpa using hk y (by simp [hy]))
    rw [rd_set _ _ _ _ (hk x (by simp)).1 (hk x (by simp)).2 hp]
    split
    · exact ⟨h0, h1⟩
    · exact hD p hp
def cntFrom (l : List S156) (j : Nat) (p : Int) : Nat := ((l.drop j).map fun s => s.f2.count p).sum
theorem cntFrom_step (l : List S156) (j : Nat) (p : Int) (h : j < l.length) : cntFrom l j p = (rd_T156 l j).f2.count p + cntFrom l (j + 1) p := by
  unfold cntFrom
  rw [drop_cons l z156 j h]
  have hr : l.getD j z156 = rd_T156 l j := by simp [rd_T156]
  rw [hr]
  simp
theorem cntFrom_end (l : List S156) (p : Int) : cntFrom l l.length p = 0 := by simp [cntFrom]
def nodeAt (l : List S156) (j : Nat) : Bool := nodeB (rd_T156 l j).f0 (rd_T156 l j).f1 (rd_T156 l j).f2 (rd_T156 l j).f3 (rd_T156 l j).f4 j
def nodesB (l : List S156) : Nat → Bool
  | 0 => true
  | j + 1 => nodeAt l j && nodesB l j
theorem kidsN_le (op : Int) : kidsN op ≤ 2 := by
  unfold kidsN
  split
  · omega
  · split
    · omega
    · split <;> omega
theorem node_kids {l : List S156} {j : Nat} (h : nodeAt l j = true) : (rd_T156 l j).f2.length ≤ 2 ∧ ((rd_T156 l j).f2.length : Int) = kidsN (rd_T156 l j).f0 ∧ ∀ x ∈ (rd_T156 l j).f2, 0 ≤ x ∧ x < j := by
  unfold nodeAt nodeB at h
  simp only [Bool.and_eq_true, decide_eq_true_eq, Bool.not_eq_true', List.any_eq_false, Bool.not_eq_true] at h
  obtain ⟨⟨⟨h1, h2⟩, _⟩, _⟩ := h
  refine ⟨by have := kidsN_le (rd_T156 l j).f0; omega, h1, fun x hx => ?_⟩
  have := h2 x hx
  simp at this
  omega
theorem nodesB_at {l : List S156} {n : Nat} (h : nodesB l n = true) : ∀ j, j < n → nodeAt l j = true := by
  induction n with
  | zero => intro j hj; omega
  | succ n ih =>
    simp only [nodesB, Bool.and_eq_true] at h
    intro j hj
    by_cases e : j = n
    · subst e; exact h.1
    · exact ih h.2 j (by omega)
theorem nodesB_of {l : List S156} {n : Nat} (h : ∀ j, j < n → nodeAt l j = true) : nodesB l n = true := by
  induction n with
  | zero => rfl
  | succ n ih =>
    simp only [nodesB, Bool.and_eq_true]
    exact ⟨h n (by omega), ih fun j hj => h j (by omega)⟩
def treeR (l : List S156) : Nat → List Int → Bool
  | 0, _ => true
  | j + 1, D => (decide (j + 1 = l.length) || decide (cntFrom l (j + 1) j = 1)) && decide (rd D j ≤ 150) && treeR l j (setKids D (rd_T156 l j).f2 (rd D j + 1))
def rxB (l : List S156) : Bool := decide (1 ≤ l.length) && decide (l.length ≤ 300) && nodesB l l.length && treeR l l.length (List.replicate l.length 0)
theorem rxB_parts {l : List S156} (h : rxB l = true) : 1 ≤ l.length ∧ l.length ≤ 300 ∧ ∀ j, j < l.length → nodeAt l j = true := by
  simp only [rxB, Bool.and_eq_true, decide_eq_true_eq] at h
  exact ⟨h.1.1.1, h.1.1.2, nodesB_at h.1.2⟩
theorem rd_replicate (n : Nat) (p : Int) : rd (List.replicate n 0) p = 0 := by
  unfold rd
  rw [List.getD_eq_getElem?_getD, List.getElem?_replicate]
  split <;> rfl
theorem count_le_two {kids : List Int} (h : kids.length ≤ 2) (p : Int) : kids.count p ≤ 2 := Nat.le_trans List.count_le_length h
theorem impl_RxOk_l1 (l : List S156) (last : Int) (j : Nat) (kids : List Int) (r : Bool) (hk : ∀ x ∈ kids, 0 ≤ x ∧ x < j) (hn : l.length ≤ 300) (hj : j < l.length) (d : Int) (hd0 : 0 ≤ d) (hd : d ≤ 150) (hl2 : kids.length ≤ 2) :
    ∀ m, m ≤ kids.length → ∀ K D : List Int, K.length = l.length → D.length = l.length → rd D j = d → (∀ p : Int, 0 ≤ p → 0 ≤ rd K p ∧ rd K p + (kids.length - m : Nat) ≤ 100000) →
      Ev (fun k => impl_RxOk.l0 k last (addKids K (kids.drop m)) (setKids D (kids.drop m) (d + 1)) ((j : Int) - 1) l) r → Ev (fun k => impl_RxOk.l1 k last K D j kids kids.length (m : Nat) l) r := by
  intro m hm
  have key := down kids.length (fun m => ∀ K D : List Int, K.length = l.length → D.length = l.length → rd D j = d → (∀ p : Int, 0 ≤ p → 0 ≤ rd K p ∧ rd K p + (kids.length - m : Nat) ≤ 100000) →
      Ev (fun k => impl_RxOk.l0 k last (addKids K (kids.drop m)) (setKids D (kids.drop m) (d + 1)) ((j : Int) - 1) l) r → Ev (fun k => impl_RxOk.l1 k last K D j kids kids.length (m : Nat) l) r) ?_ ?_ m hm
  · exact key
  · intro K D _ _ _ _ h
    rw [ev_succ]
    simp only [impl_RxOk.l1, ev_ite]
    rw [if_neg (by omega), wrap_id (x := (j : Int) - 1) (by omega) (by omega)]
    rw [List.drop_length] at h
    exact h
  · intro m hm ih K D hK hD hDj hb h
    have hx : 0 ≤ rd kids m ∧ rd kids m < j := by
      have e : rd kids m = kids[m] := by unfold rd; rw [List.getD_eq_getElem?_getD, Int.toNat_natCast, List.getElem?_eq_getElem hm]; rfl
      rw [e]
      exact hk _ (List.getElem_mem _)
    rw [drop_cons kids 0 m hm] at h
    have hr : kids.getD m 0 = rd kids m := by simp [rd]
    rw [hr] at h
    simp only [addKids, setKids, List.foldl_cons] at h
    rw [ev_succ]
    simp only [impl_RxOk.l1, ev_ite]
    have hbx := hb (rd kids m) hx.1
    rw [if_pos (by omega), if_pos (by omega), if_pos (by omega), if_pos hx.1, if_pos (by omega), if_pos (by omega), if_pos (by omega), if_pos (by omega), wrap_succ hm (by omega), hDj, wrap_id (x := rd K (rd kids m) + 1) (by omega) (by omega), wrap_id (x := d + 1) (by omega) (by omega)]
    refine ih _ _ (by simpa using hK) (by simpa using hD) ?_ ?_ h
    · rw [rd_set _ _ _ _ hx.1 (by omega) (by omega), if_neg (by omega)]
      exact hDj
    · intro p hp
      have := hb p hp
      rw [rd_set _ _ _ _ hx.1 (by omega) hp]
      split
      · subst p; omega
      · omega
theorem impl_RxOk_l0 (l : List S156) (h1 : 1 ≤ l.length) (hn : l.length ≤ 300) :
    ∀ j, j ≤ l.length → ∀ K D : List Int, K.length = l.length → D.length = l.length → (∀ i, j ≤ i → i < l.length → nodeAt l i = true) → (∀ p : Int, 0 ≤ p → rd K p = cntFrom l j p) → (∀ p : Int, 0 ≤ p → 0 ≤ rd D p ∧ rd D p ≤ 151) → (∀ p : Int, 0 ≤ p → cntFrom l j p ≤ 2 * (l.length - j)) →
      Ev (fun k => impl_RxOk.l0 k ((l.length : Int) - 1) K D ((j : Int) - 1) l) (nodesB l j && treeR l j D) := by
  intro j
  induction j with
  | zero =>
    intro _ K D hK hD hok hc _ _
    rw [ev_succ]
    simp only [impl_RxOk.l0, ev_ite, ev_some, nodesB, treeR]
    rw [if_neg (by omega), if_pos (by omega), if_pos (by omega)]
    have hz : cntFrom l 0 ((l.length : Int) - 1) = 0 := by
      have : ∀ m, m ≤ l.length → cntFrom l m ((l.length : Int) - 1) = 0 := by
        refine down l.length _ (cntFrom_end l _) ?_
        intro i hi ih
        rw [cntFrom_step l i _ hi, ih, Nat.add_zero]
        refine List.count_eq_zero.2 (fun hmem => ?_)
        have := (node_kids (hok i (by omega) hi)).2.2 _ hmem
        omega
      exact this 0 (by omega)
    rw [hc _ (by omega), hz]
    rfl
  | succ j ih =>
    intro hj K D hK hD hok hc hDb hcb
    rw [ev_succ]
    have e : ((j + 1 : Nat) : Int) - 1 = (j : Int) := by omega
    simp only [impl_RxOk.l0, ev_ite, e, nodesB, treeR]
    rw [if_pos (by omega), if_pos (by omega), if_pos (by omega)]
    simp only [impl_nodeOk.f]
    rw [if_pos (by omega)]
    simp only [Option.bind_some, ev_ite]
    have hnode : nodeB (rd_T156 l j).f0 (rd_T156 l j).f1 (rd_T156 l j).f2 (rd_T156 l j).f3 (rd_T156 l j).f4 j = nodeAt l j := rfl
    rw [hnode]
    have hbad : Ev (fun k => impl_RxOk.j1 k ((l.length : Int) - 1) K D j true l (rd_T156 l j).f0 (rd_T156 l j).f1 (rd_T156 l j).f2 (rd_T156 l j).f3 (rd_T156 l j).f4) false := by
      rw [ev_succ]
      simp only [impl_RxOk.j1, if_true]
      exact ev_some.2 rfl
    cases hnd : nodeAt l j
    · rw [if_neg (by simp)]
      simpa using hbad
    rw [if_pos rfl, Bool.true_and]
    obtain ⟨hk2, _, hkl⟩ := node_kids hnd
    have hD' := hDb (j : Int) (by omega)
    -- the way on, where D is not too great
    have hgo : ∀ b : Bool, b = decide (rd D j > 150) → Ev (fun k => impl_RxOk.j1 k ((l.length : Int) - 1) K D j b l (rd_T156 l j).f0 (rd_T156 l j).f1 (rd_T156 l j).f2 (rd_T156 l j).f3 (rd_T156 l j).f4) (decide (rd D j ≤ 150) && (nodesB l j && treeR l j (setKids D (rd_T156 l j).f2 (rd D j + 1)))) := by
      intro b hb
      by_cases h15 : rd D j ≤ 150
      · rw [decide_eq_false (by omega)] at hb
        subst hb
        rw [decide_eq_true h15, Bool.true_and, ev_succ]
        simp only [impl_RxOk.j1, Bool.false_eq_true, if_false]
        have hl1 := impl_RxOk_l1 l ((l.length : Int) - 1) j (rd_T156 l j).f2 (nodesB l j && treeR l j (setKids D (rd_T156 l j).f2 (rd D j + 1))) hkl hn (by omega) (rd D j) hD'.1 h15 hk2 0 (by omega) K D hK hD rfl ?_ ?_
        · exact hl1
        · intro p hp
          have := hc p hp
          have := hcb p hp
          omega
        · rw [List.drop_zero]
          refine ih (by omega) _ _ (by rw [addKids_length]; exact hK) (by rw [setKids_length]; exact hD) ?_ ?_ ?_ ?_
          · intro i hi hi2
            by_cases e2 : i = j
            · subst e2; exact hnd
            · exact hok i (by omega) hi2
          · intro p hp
            rw [addKids_rd _ _ (fun x hx => by have := hkl x hx; omega) p hp, hc p hp, cntFrom_step l j p (by omega)]
            omega
          · exact setKids_le _ _ (by omega) (by omega) D hDb (fun x hx => by have := hkl x hx; omega)
          · intro p hp
            rw [cntFrom_step l j p (by omega)]
            have := hcb p hp
            have := count_le_two hk2 p
            omega
      · rw [decide_eq_true (by omega)] at hb
        subst hb
        rw [decide_eq_false h15, Bool.false_and]
        exact hbad
    by_cases hlast : j + 1 = l.length
    · rw [if_neg (by omega), if_pos (by omega), decide_eq_true hlast, Bool.true_or, Bool.true_and]
      refine ev_congr (hgo _ rfl) ?_
      cases nodesB l j <;> simp
    · rw [if_pos (by omega), if_pos (by omega), decide_eq_false hlast, Bool.false_or, hc _ (by omega)]
      by_cases h1c : cntFrom l (j + 1) j = 1
      · rw [if_pos (by omega), if_pos (by omega), decide_eq_true h1c, Bool.true_and]
        refine ev_congr (hgo _ rfl) ?_
        cases nodesB l j <;> simp
      · rw [if_neg (by omega), decide_eq_false h1c, Bool.false_and, Bool.false_and, Bool.and_false]
        exact hbad
theorem impl_RxOk_ev (l : List S156) (hl : l.length ≤ 1048576) : Ev (fun k => impl_RxOk.f k l) (rxB l) := by
  unfold impl_RxOk.f rxB
  simp only [impl_RNode.f, impl_within_eq, Option.bind_some, ev_ite]
  by_cases h : 1 ≤ l.length ∧ l.length ≤ 300
  · rw [if_pos (by simp; omega), if_pos (by omega), if_pos (by omega), wrap_id (x := (l.length : Int) - 1) (by omega) (by omega), decide_eq_true h.1, decide_eq_true h.2, Bool.true_and, Bool.true_and, Int.toNat_natCast]
    exact impl_RxOk_l0 l h.1 h.2 l.length (Nat.le_refl _) _ _ (by simp) (by simp) (fun i h1 h2 => by omega) (fun p _ => by rw [rd_replicate, cntFrom_end]; rfl) (fun p _ => by rw [rd_replicate]; omega) (fun p _ => by rw [cntFrom_end]; omega)
  · rw [if_neg (by simp; omega)]
    refine ev_some.2 ?_
    by_cases h1 : 1 ≤ l.length
    · rw [decide_eq_false (show ¬ l.length ≤ 300 by omega)]; simp
    · rw [decide_eq_false h1]; simp
theorem spec_l3Kids_ev (op : Int) (h : 1 ≤ op ∧ op ≤ 8) : Ev (fun k => spec_l3Kids.f k op) (kidsN op) := by
  have h0 : ∀ b, Ev (fun k => spec_l3Kids.j0 k op b) (if b then 2 else if op = 5 ∨ op = 6 ∨ op = 7 ∨ op = 8 then 1 else 0) := by
    intro b
    rw [ev_succ]
    simp only [spec_l3Kids.j0, ev_ite, ev_some]
    cases b <;> grind
  unfold spec_l3Kids.f kidsN
  simp only [ev_ite]
  by_cases e1 : op = 3
  · rw [if_pos e1]
    exact ev_congr (h0 _) (by grind)
  · rw [if_neg e1]
    exact ev_congr (h0 _) (by grind)
theorem spec_l3Node_ev (op : Int) (set : List S103) (kids : List Int) (mi ma place : Int) (hp0 : 0 ≤ place) (hp1 : place ≤ 1000000) (hk : kids.length ≤ 9223372036854775807) : Ev (fun k => spec_l3Node.f k op set kids mi ma place) (nodeB op set kids mi ma place) := by
  have hbad : Ev (fun k => spec_l3Node.j0 k place true op set kids mi ma) false := by
    rw [ev_succ]
    simp only [spec_l3Node.j0, if_true]
    exact ev_some.2 rfl
  have hj2 : ∀ b : Bool, Ev (fun k => spec_l3Node.j2 k b op set kids mi ma) (!b && (if op = 8 then timesB mi ma else decide (mi = 0) && decide (ma = 0))) := by
    intro b
    rw [ev_succ]
    simp only [spec_l3Node.j2, spec_l1In_eq, Option.bind_some, ev_ite, ev_some]
    cases b
    · rw [if_neg (by simp), Bool.not_false, Bool.true_and]
      by_cases h8 : op = 8
      · rw [if_pos h8, if_pos h8]
        unfold timesB mx
        by_cases c1 : 0 ≤ mi ∧ mi ≤ 30
        · rw [if_pos (by simpa using c1)]
          by_cases c2 : ma = -1
          · rw [if_pos c2]; simp [c1, c2]
          · rw [if_neg c2]
            by_cases c3 : 1 < mi
            · rw [if_pos c3, Bool.eq_iff_iff]; simp [c1, c2]; omega
            · rw [if_neg c3, Bool.eq_iff_iff]; simp [c1, c2]; omega
        · rw [if_neg (by simpa using c1)]
          simp [c1]
      · rw [if_neg h8, if_neg h8]
        by_cases c1 : mi = 0
        · rw [if_pos c1]; simp [c1]; rfl
        · rw [if_neg c1]; simp [c1]
    · rw [if_pos rfl]
      rfl
  unfold spec_l3Node.f nodeB
  simp only [spec_l1In_eq, Option.bind_some, ev_ite]
  by_cases h18 : 1 ≤ op ∧ op ≤ 8
  · rw [if_pos (by simpa using h18), ev_bind (spec_l3Kids_ev op h18)]
    by_cases hkk : (kids.length : Int) = kidsN op
    · rw [bne_eq_false_iff_eq.2 hkk, decide_eq_true hkk, Bool.true_and, ev_succ]
      simp only [spec_l3Node.j0, Bool.false_eq_true, if_false]
      have key := ev_loop kids.length (fun k i => spec_l3Node.l0 k place (i : Nat) op set kids mi ma) (fun i => !((kids.drop i).any fun x => !decide (0 ≤ x ∧ x ≤ place - 1)) && (if op = 2 then classB set && !decide (set.length = 0) else decide (set.length = 0)) && (if op = 8 then timesB mi ma else decide (mi = 0) && decide (ma = 0))) ?_ ?_ 0 (by omega)
      · exact key
      · rw [ev_succ]
        simp only [spec_l3Node.l0, ev_ite]
        rw [if_neg (by omega), List.drop_length]
        simp only [List.any_nil, Bool.not_false, Bool.true_and]
        by_cases h2 : op = 2
        · rw [if_pos h2, ev_bind (spec_ClassOk_ev set), if_pos h2]
          simp only [ev_ite]
          cases hc : classB set
          · rw [if_neg (by simp)]
            simpa using hj2 true
          · rw [if_pos rfl]
            by_cases hs : set.length = 0
            · rw [if_pos (by omega), decide_eq_true hs]
              simpa using hj2 true
            · rw [if_neg (by omega), decide_eq_false hs]
              simpa using hj2 false
        · rw [if_neg h2, if_neg h2]
          refine ev_congr (hj2 _) ?_
          by_cases hs : set.length = 0
          · rw [decide_eq_false (show ¬ (set.length : Int) > 0 by omega), decide_eq_true hs]; rfl
          · rw [decide_eq_true (show (set.length : Int) > 0 by omega), decide_eq_false hs]; rfl
      · intro i hi ih
        rw [ev_succ, drop_cons kids 0 i hi]
        have hr : kids.getD i 0 = rd kids i := by simp [rd]
        rw [hr]
        simp only [spec_l3Node.l0, spec_l1In_eq, Option.bind_some, ev_ite, List.any_cons]
        rw [if_pos (by omega), if_pos (by omega), wrap_succ hi (by omega), wrap_id (x := place - 1) (by omega) (by omega)]
        by_cases c : 0 ≤ rd kids i ∧ rd kids i ≤ place - 1
        · rw [if_pos (by simpa using c)]
          refine ev_congr ih ?_
          simp [c]
        · rw [if_neg (by simpa using c)]
          refine ev_some.2 ?_
          rw [decide_eq_false c]
          simp
    · rw [bne_iff_ne.2 hkk, decide_eq_false hkk]
      simpa using hbad
  · rw [if_neg (by simpa using h18)]
    refine ev_congr hbad ?_
    have : kidsN op = -1 := by
      unfold kidsN
      rw [if_neg (by omega), if_neg (by omega), if_neg (by omega)]
    rw [this, decide_eq_false (by omega)]
    simp
def cntTo (l : List S156) (j : Nat) (p : Int) : Nat := ((l.take j).map fun s => s.f2.count p).sum
theorem cntTo_step (l : List S156) (j : Nat) (p : Int) (h : j < l.length) : cntTo l (j + 1) p = cntTo l j p + (rd_T156 l j).f2.count p := by
  have hr : rd_T156 l (j : Int) = l[j] := by unfold rd_T156; rw [List.getD_eq_getElem?_getD, Int.toNat_natCast, List.getElem?_eq_getElem h]; rfl
  unfold cntTo
  rw [hr, List.take_succ_eq_append_getElem h, List.map_append, List.sum_append]
  simp only [List.map_cons, List.map_nil, List.sum_cons, List.sum_nil, Nat.add_zero]
theorem cntTo_all (l : List S156) (p : Int) : cntTo l l.length p = cntFrom l 0 p := by simp [cntTo, cntFrom]
theorem cntFrom_own (l : List S156) (hok : ∀ i, i < l.length → nodeAt l i = true) (j : Nat) (hj : j < l.length) : cntFrom l 0 j = cntFrom l (j + 1) j := by
  have : ∀ m, m ≤ j + 1 → cntFrom l m j = cntFrom l (j + 1) j := by
    refine down (j + 1) _ rfl ?_
    intro i hi ih
    rw [cntFrom_step l i _ (by omega), ih]
    have : (rd_T156 l i).f2.count (j : Int) = 0 := List.count_eq_zero.2 (fun hmem => by
      have := (node_kids (hok i (by omega))).2.2 _ hmem
      omega)
    omega
  exact this 0 (by omega)
theorem spec_RxOk_l3 (l : List S156) (n : Int) (U : List Int) (j : Nat) (kids : List Int) (hkk : kids = (rd_T156 l j).f2) (r : Bool) (hk : ∀ x ∈ kids, 0 ≤ x ∧ x < j) (hn : l.length ≤ 300) (hj : j < l.length) (d : Int) (hd0 : 0 ≤ d) (hd : d ≤ 150) (hl2 : kids.length ≤ 2) :
    ∀ m, m ≤ kids.length → ∀ D : List Int, D.length = l.length → rd D j = d →
      Ev (fun k => spec_RxOk.l2 k n U (setKids D (kids.drop m) (d + 1)) ((j : Int) - 1) l) r → Ev (fun k => spec_RxOk.l3 k n U D j (m : Nat) l) r := by
  subst hkk
  refine down _ _ ?_ ?_
  · intro D _ _ h
    rw [ev_succ]
    simp only [spec_RxOk.l3, ev_ite]
    rw [if_pos (by omega), if_pos (by omega), if_neg (by omega), wrap_id (x := (j : Int) - 1) (by omega) (by omega)]
    rw [List.drop_length] at h
    exact h
  · intro m hm ih D hD hDj h
    have hx : 0 ≤ rd (rd_T156 l j).f2 m ∧ rd (rd_T156 l j).f2 m < j := by
      have e : rd (rd_T156 l j).f2 m = (rd_T156 l j).f2[m] := by unfold rd; rw [List.getD_eq_getElem?_getD, Int.toNat_natCast, List.getElem?_eq_getElem hm]; rfl
      rw [e]
      exact hk _ (List.getElem_mem _)
    rw [drop_cons _ 0 m hm] at h
    have hr : (rd_T156 l j).f2.getD m 0 = rd (rd_T156 l j).f2 m := by simp [rd]
    rw [hr] at h
    simp only [setKids, List.foldl_cons] at h
    rw [ev_succ]
    simp only [spec_RxOk.l3, ev_ite]
    rw [if_pos (by omega), if_pos (by omega), if_pos (by omega), if_pos (by omega), if_pos (by omega), if_pos hx.1, if_pos (by omega), wrap_succ hm (by omega), hDj, wrap_id (x := d + 1) (by omega) (by omega)]
    refine ih _ (by simpa using hD) ?_ h
    rw [rd_set _ _ _ _ hx.1 (by omega) (by omega), if_neg (by omega)]
    exact hDj
theorem spec_RxOk_l2 (l : List S156) (h1 : 1 ≤ l.length) (hn : l.length ≤ 300) (U : List Int) (hU : U.length = l.length) (hok : ∀ i, i < l.length → nodeAt l i = true) (hUc : ∀ p : Int, 0 ≤ p → rd U p = cntFrom l 0 p) :
    ∀ j, j ≤ l.length → ∀ D : List Int, D.length = l.length → (∀ p : Int, 0 ≤ p → 0 ≤ rd D p ∧ rd D p ≤ 151) → Ev (fun k => spec_RxOk.l2 k l.length U D ((j : Int) - 1) l) (treeR l j D) := by
  intro j
  induction j with
  | zero =>
    intro _ D hD _
    rw [ev_succ]
    simp only [spec_RxOk.l2, ev_ite, ev_some, treeR]
    rw [if_neg (by omega)]
    trivial
  | succ j ih =>
    intro hj D hD hDb
    rw [ev_succ]
    have e : ((j + 1 : Nat) : Int) - 1 = (j : Int) := by omega
    simp only [spec_RxOk.l2, ev_ite, e, treeR]
    rw [if_pos (by omega), wrap_id (x := (l.length : Int) - 1) (by omega) (by omega)]
    have hbad : Ev (fun k => spec_RxOk.j4 k l.length U D j true l) false := by
      rw [ev_succ]
      simp only [spec_RxOk.j4, if_true]
      exact ev_some.2 rfl
    obtain ⟨hk2, _, hkl⟩ := node_kids (hok j (by omega))
    have hD' := hDb (j : Int) (by omega)
    have hgo : Ev (fun k => spec_RxOk.j4 k l.length U D j (decide (rd D j > 150)) l) (decide (rd D j ≤ 150) && treeR l j (setKids D (rd_T156 l j).f2 (rd D j + 1))) := by
      by_cases h15 : rd D j ≤ 150
      · rw [decide_eq_false (show ¬ rd D j > 150 by omega), decide_eq_true h15, Bool.true_and, ev_succ]
        simp only [spec_RxOk.j4, Bool.false_eq_true, if_false]
        refine spec_RxOk_l3 l l.length U j _ rfl _ hkl hn (by omega) (rd D j) hD'.1 h15 hk2 0 (by omega) D hD rfl ?_
        rw [List.drop_zero]
        exact ih (by omega) _ (by rw [setKids_length]; exact hD) (setKids_le _ _ (by omega) (by omega) D hDb (fun x hx => by have := hkl x hx; omega))
      · rw [decide_eq_true (show rd D j > 150 by omega), decide_eq_false h15, Bool.false_and]
        exact hbad
    by_cases hlast : j + 1 = l.length
    · rw [if_neg (by omega), if_pos (by omega), if_pos (by omega), decide_eq_true hlast, Bool.true_or, Bool.true_and]
      exact hgo
    · rw [if_pos (by omega), if_pos (by omega), if_pos (by omega), decide_eq_false hlast, Bool.false_or, hUc _ (by omega), cntFrom_own l hok j (by omega)]
      by_cases h1c : cntFrom l (j + 1) j = 1
      · rw [if_pos (by omega), if_pos (by omega), decide_eq_true h1c, Bool.true_and]
        exact hgo
      · rw [if_neg (by omega), decide_eq_false h1c, Bool.false_and, Bool.false_and]
        exact hbad
theorem spec_RxOk_l1 (l : List S156) (n : Int) (j : Nat) (kids : List Int) (hkk : kids = (rd_T156 l j).f2) (r : Bool) (hk : ∀ x ∈ kids, 0 ≤ x ∧ x < j) (hn : l.length ≤ 300) (hj : j < l.length) (hl2 : kids.length ≤ 2) :
    ∀ m, m ≤ kids.length → ∀ K : List Int, K.length = l.length → (∀ p : Int, 0 ≤ p → 0 ≤ rd K p ∧ rd K p + (kids.length - m : Nat) ≤ 100000) →
      Ev (fun k => spec_RxOk.l0 k n (addKids K (kids.drop m)) ((j + 1 : Nat) : Int) l) r → Ev (fun k => spec_RxOk.l1 k n K j (m : Nat) l) r := by
  subst hkk
  refine down _ _ ?_ ?_
  · intro K _ _ h
    rw [ev_succ]
    simp only [spec_RxOk.l1, ev_ite]
    rw [if_pos (by omega), if_pos (by omega), if_neg (by omega), wrap_succ hj (by omega)]
    rw [List.drop_length] at h
    exact h
  · intro m hm ih K hK hb h
    have hx : 0 ≤ rd (rd_T156 l j).f2 m ∧ rd (rd_T156 l j).f2 m < j := by
      have e : rd (rd_T156 l j).f2 m = (rd_T156 l j).f2[m] := by unfold rd; rw [List.getD_eq_getElem?_getD, Int.toNat_natCast, List.getElem?_eq_getElem hm]; rfl
      rw [e]
      exact hk _ (List.getElem_mem _)
    rw [drop_cons _ 0 m hm] at h
    have hr : (rd_T156 l j).f2.getD m 0 = rd (rd_T156 l j).f2 m := by simp [rd]
    rw [hr] at h
    simp only [addKids, List.foldl_cons] at h
    rw [ev_succ]
    simp only [spec_RxOk.l1, ev_ite]
    have hbx := hb _ hx.1
    rw [if_pos (by omega), if_pos (by omega), if_pos (by omega), if_pos (by omega), if_pos hx.1, if_pos (by omega), wrap_succ hm (by omega), wrap_id (x := rd K (rd (rd_T156 l j).f2 m) + 1) (by omega) (by omega)]
    refine ih _ (by simpa using hK) ?_ h
    intro p hp
    have := hb p hp
    rw [rd_set _ _ _ _ hx.1 (by omega) hp]
    split
    · subst p; omega
    · omega
theorem spec_RxOk_ev (l : List S156) (hl : l.length ≤ 1048576) (hkl : ∀ x ∈ l, x.f2.length ≤ 9223372036854775807) : Ev (fun k => spec_RxOk.f k l) (rxB l) := by
  have hbad : ∀ n, Ev (fun k => spec_RxOk.j0 k n true l) false := by
    intro n
    rw [ev_succ]
    simp only [spec_RxOk.j0, if_true]
    exact ev_some.2 rfl
  unfold spec_RxOk.f rxB
  simp only [ev_ite]
  by_cases h1 : 1 ≤ l.length
  · rw [if_neg (by omega)]
    by_cases hn : l.length ≤ 300
    · rw [decide_eq_false (show ¬ (l.length : Int) > 300 by omega), decide_eq_true h1, decide_eq_true hn, Bool.true_and, Bool.true_and, ev_succ]
      simp only [spec_RxOk.j0, Bool.false_eq_true, if_false, ev_ite]
      rw [if_pos (by omega), if_pos (by omega), Int.toNat_natCast]
      have key := down l.length (fun i => (∀ m, m < i → nodeAt l m = true) → ∀ U : List Int, U.length = l.length → (∀ p : Int, 0 ≤ p → rd U p = cntTo l i p) → (∀ p : Int, 0 ≤ p → cntTo l i p ≤ 2 * i) → Ev (fun k => spec_RxOk.l0 k l.length U (i : Nat) l) (nodesB l l.length && treeR l l.length (List.replicate l.length 0))) ?_ ?_ 0 (by omega) (fun m hm => by omega) (List.replicate l.length 0) (by simp) (fun p _ => by rw [rd_replicate]; rfl) (fun p _ => by simp [cntTo])
      · exact key
      · intro hok U hU hUc _
        rw [ev_succ]
        simp only [spec_RxOk.l0, ev_ite]
        rw [if_neg (by omega), if_pos (by omega), if_pos (by omega), Int.toNat_natCast, wrap_id (x := (l.length : Int) - 1) (by omega) (by omega), nodesB_of hok, Bool.true_and]
        exact spec_RxOk_l2 l h1 hn U hU hok (fun p hp => by rw [hUc p hp, cntTo_all]) l.length (Nat.le_refl _) _ (by simp) (fun p _ => by rw [rd_replicate]; omega)
      · intro i hi ih hok U hU hUc hUb
        rw [ev_succ]
        simp only [spec_RxOk.l0, ev_ite]
        have hmem : (rd_T156 l i) ∈ l := by
          unfold rd_T156
          rw [List.getD_eq_getElem?_getD, Int.toNat_natCast, List.getElem?_eq_getElem hi]
          exact List.getElem_mem _
        rw [if_pos (by omega), if_pos (by omega), if_pos (by omega), ev_bind (spec_l3Node_ev _ _ _ _ _ _ (by omega) (by omega) (hkl _ hmem)), ev_ite]
        have hnode : nodeB (rd_T156 l i).f0 (rd_T156 l i).f1 (rd_T156 l i).f2 (rd_T156 l i).f3 (rd_T156 l i).f4 i = nodeAt l i := rfl
        rw [hnode]
        cases hnd : nodeAt l i
        · rw [if_neg (by simp)]
          refine ev_some.2 ?_
          cases hall : nodesB l l.length
          · rfl
          · rw [nodesB_at hall i hi] at hnd
            exact absurd hnd (by simp)
        · rw [if_pos rfl]
          obtain ⟨hk2, _, hkl2⟩ := node_kids hnd
          refine spec_RxOk_l1 l l.length i _ rfl _ hkl2 hn hi hk2 0 (by omega) U hU (fun p hp => by have := hUc p hp; have := hUb p hp; omega) ?_
          rw [List.drop_zero]
          refine ih (fun m hm => ?_) _ (by rw [addKids_length]; exact hU) (fun p hp => ?_) (fun p hp => ?_)
          · by_cases e : m = i
            · subst e; exact hnd
            · exact hok m (by omega)
          · rw [addKids_rd _ _ (fun x hx => by have := hkl2 x hx; omega) p hp, hUc p hp, cntTo_step l i p hi]
            omega
          · rw [cntTo_step l i p hi]
            have := hUb p hp
            have := count_le_two hk2 p
            omega
    · rw [decide_eq_true (show (l.length : Int) > 300 by omega), decide_eq_false hn]
      simpa using hbad _
  · rw [if_pos (by omega), decide_eq_false h1]
    simpa using hbad _
abbrev NB := Int × List S187
abbrev NR := Int × Int × NB
def fullN (s : NB) : Bool := fullB s.1 s.2
def edgeN (s : NB) (a b : Int) (c : List S103) : NB := (s.1, s.2 ++ [⟨a, b, c⟩])
def loopN (op a z : Int) (s : NB) : NR := (s.1, s.1 + 1, edgeN (if op = 7 then (if op = 6 then edgeN (s.1 + 2, s.2) s.1 a [] else edgeN (edgeN (s.1 + 2, s.2) s.1 a []) s.1 (s.1 + 1) []) else edgeN (if op = 6 then edgeN (s.1 + 2, s.2) s.1 a [] else edgeN (edgeN (s.1 + 2, s.2) s.1 a []) s.1 (s.1 + 1) []) z a []) z (s.1 + 1) [])
def joinN (f t : Int) (r : NR) : NR := if f < 0 then r else (f, r.2.1, edgeN r.2.2 t r.1 [])
def minI (P : NB → NR) : Nat → NR → Bool × NR
  | 0, r => (false, r)
  | m + 1, r => if fullN r.2.2 = true then (true, (0, 0, r.2.2)) else minI P m (joinN r.1 r.2.1 (P r.2.2))
def maxI (P : NB → NR) : Nat → NR → NR
  | 0, r => r
  | m + 1, r => if fullN r.2.2 = true then r else maxI P m (joinN r.1 r.2.1 (loopN 7 (P r.2.2).1 (P r.2.2).2.1 (P r.2.2).2.2))
def restI (P : NB → NR) (mx : Int) (r : NR) : NR := if mx < 0 then joinN r.1 r.2.1 (loopN 5 (P r.2.2).1 (P r.2.2).2.1 (P r.2.2).2.2) else r
def timesI (P : NB → NR) (mn mx : Int) (s : NB) : NR :=
  if (minI P mn.toNat (-1, -1, s)).1 = true then (minI P mn.toNat (-1, -1, s)).2 else maxI P (mx - mn).toNat (restI P mx (minI P mn.toNat (-1, -1, s)).2)
def timesL (P : NB → NR) (mn op : Int) : Nat → Int → NR → NR
  | 0, _, r => r
  | m + 1, i, r => if fullN r.2.2 = true then r else timesL P mn op m (i + 1) (joinN r.1 r.2.1 (if i ≥ mn then loopN op (P r.2.2).1 (P r.2.2).2.1 (P r.2.2).2.2 else P r.2.2))
def loopOp (mx : Int) : Int := if mx < 0 then 5 else 7
def manyS (mn mx : Int) : Int := if mx < 0 then mn + 1 else mx
def timesS (P : NB → NR) (mn mx : Int) (s : NB) : NR :=
  (max 0 (timesL P mn (loopOp mx) (manyS mn mx).toNat 0 (-1, -1, s)).1, max 0 (timesL P mn (loopOp mx) (manyS mn mx).toNat 0 (-1, -1, s)).2.1, (timesL P mn (loopOp mx) (manyS mn mx).toNat 0 (-1, -1, s)).2.2)
def catN (q u : NR) : NR := (q.1, u.2.1, edgeN u.2.2 q.2.1 u.1 [])
def altN (q u : NR) : NR := (u.2.2.1, u.2.2.1 + 1, edgeN (edgeN (edgeN (edgeN (u.2.2.1 + 2, u.2.2.2) u.2.2.1 q.1 []) u.2.2.1 u.1 []) q.2.1 (u.2.2.1 + 1) []) u.2.1 (u.2.2.1 + 1) [])
def setN (c : List S103) (s : NB) : NR := (s.1, s.1 + 1, edgeN (s.1 + 2, s.2) s.1 (s.1 + 1) c)
def partN (tm : (NB → NR) → Int → Int → NB → NR) (l : List S156) : Nat → Int → NB → NR
  | 0, _, s => (0, 0, s)
  | k + 1, i, s =>
    if fullN s = true then (0, 0, s)
    else if (rd_T156 l i).f0 = 1 ∨ (rd_T156 l i).f0 = 2 then setN (rd_T156 l i).f1 s
    else if (rd_T156 l i).f0 = 3 then catN (partN tm l k (rd (rd_T156 l i).f2 0) s) (partN tm l k (rd (rd_T156 l i).f2 1) (partN tm l k (rd (rd_T156 l i).f2 0) s).2.2)
    else if (rd_T156 l i).f0 = 4 then altN (partN tm l k (rd (rd_T156 l i).f2 0) s) (partN tm l k (rd (rd_T156 l i).f2 1) (partN tm l k (rd (rd_T156 l i).f2 0) s).2.2)
    else if (rd_T156 l i).f0 = 8 then tm (partN tm l k (rd (rd_T156 l i).f2 0)) (rd_T156 l i).f3 (rd_T156 l i).f4 s
    else loopN (rd_T156 l i).f0 (partN tm l k (rd (rd_T156 l i).f2 0) s).1 (partN tm l k (rd (rd_T156 l i).f2 0) s).2.1 (partN tm l k (rd (rd_T156 l i).f2 0) s).2.2
def Ag (r q : NR) : Prop := r = q ∨ (fullN r.2.2 = true ∧ fullN q.2.2 = true)
theorem full_iff (s : NB) : fullN s = true ↔ s.1 > 3000 ∨ (s.2.length : Int) > 12000 := by simp [fullN, fullB]
theorem full_edge {s : NB} (h : fullN s = true) (a b : Int) (c : List S103) : fullN (edgeN s a b c) = true := by
  rw [full_iff] at h ⊢
  simp only [edgeN, List.length_append, List.length_singleton]
  omega
theorem full_two {s : NB} (h : fullN s = true) : fullN (s.1 + 2, s.2) = true := by
  rw [full_iff] at h ⊢
  dsimp only
  omega
theorem full_loop {s : NB} (h : fullN s = true) (op a z : Int) : fullN (loopN op a z s).2.2 = true := by
  unfold loopN
  refine full_edge ?_ _ _ _
  split
  · split
    · exact full_edge (full_two h) _ _ _
    · exact full_edge (full_edge (full_two h) _ _ _) _ _ _
  · refine full_edge ?_ _ _ _
    split
    · exact full_edge (full_two h) _ _ _
    · exact full_edge (full_edge (full_two h) _ _ _) _ _ _
theorem full_join {r : NR} (h : fullN r.2.2 = true) (f t : Int) : fullN (joinN f t r).2.2 = true := by
  unfold joinN
  split
  · exact h
  · exact full_edge h _ _ _
theorem full_part (tm : (NB → NR) → Int → Int → NB → NR) (l : List S156) (k : Nat) (i : Int) {s : NB} (h : fullN s = true) : partN tm l k i s = (0, 0, s) := by
  cases k with
  | zero => rfl
  | succ k => simp only [partN, h, if_true]
theorem full_minI (P : NB → NR) : ∀ (m : Nat) (r : NR), fullN r.2.2 = true → fullN (minI P m r).2.2.2 = true
  | 0, r, h => h
  | m + 1, r, h => by simp only [minI, h, if_true]
theorem full_maxI (P : NB → NR) : ∀ (m : Nat) (r : NR), fullN r.2.2 = true → fullN (maxI P m r).2.2 = true
  | 0, r, h => h
  | m + 1, r, h => by simp only [maxI, h, if_true]
theorem full_timesL (P : NB → NR) (mn op : Int) : ∀ (m : Nat) (i : Int) (r : NR), fullN r.2.2 = true → fullN (timesL P mn op m i r).2.2 = true
  | 0, _, r, h => h
  | m + 1, i, r, h => by simp only [timesL, h, if_true]
theorem min_ag {P1 P2 : NB → NR} (h : ∀ s : NB, 0 ≤ s.1 → Ag (P1 s) (P2 s)) (hn : ∀ s : NB, 0 ≤ s.1 → 0 ≤ (P1 s).2.2.1) (mn op : Int) (rest : Nat) : ∀ (m : Nat) (i : Int) (r : NR), 0 ≤ r.2.2.1 → i + m = mn →
    ((minI P1 m r).1 = false ∧ timesL P2 mn op (rest + m) i r = timesL P2 mn op rest mn (minI P1 m r).2) ∨ (fullN (minI P1 m r).2.2.2 = true ∧ fullN (timesL P2 mn op (rest + m) i r).2.2 = true)
  | 0, i, r, _, hi => .inl ⟨rfl, by rw [show i = mn by omega]; rfl⟩
  | m + 1, i, r, h0, hi => by
    cases hf : fullN r.2.2
    · have e1 : minI P1 (m + 1) r = minI P1 m (joinN r.1 r.2.1 (P1 r.2.2)) := by simp [minI, hf]
      have e2 : timesL P2 mn op (rest + (m + 1)) i r = timesL P2 mn op (rest + m) (i + 1) (joinN r.1 r.2.1 (P2 r.2.2)) := by
        rw [← Nat.add_assoc]
        simp only [timesL, hf, Bool.false_eq_true, if_false]
        rw [if_neg (by omega)]
      rw [e1, e2]
      have hj : 0 ≤ (joinN r.1 r.2.1 (P1 r.2.2)).2.2.1 := by
        have := hn r.2.2 h0
        unfold joinN
        split
        · exact this
        · exact this
      rcases h r.2.2 h0 with h1 | ⟨h1, h2⟩
      · rw [← h1]
        exact min_ag h hn mn op rest m (i + 1) _ hj (by omega)
      · exact .inr ⟨full_minI P1 m _ (full_join h1 _ _), full_timesL P2 mn op _ _ _ (full_join h2 _ _)⟩
    · refine .inr ⟨full_minI P1 _ _ hf, full_timesL P2 mn op _ _ _ hf⟩
theorem max_ag {P1 P2 : NB → NR} (h : ∀ s : NB, 0 ≤ s.1 → Ag (P1 s) (P2 s)) (hn : ∀ s : NB, 0 ≤ s.1 → 0 ≤ (P1 s).2.2.1) (mn : Int) : ∀ (m : Nat) (i : Int) (r : NR), 0 ≤ r.2.2.1 → mn ≤ i → Ag (maxI P1 m r) (timesL P2 mn 7 m i r)
  | 0, i, r, _, hi => .inl rfl
  | m + 1, i, r, h0, hi => by
    cases hf : fullN r.2.2
    · simp only [maxI, timesL, hf, Bool.false_eq_true, if_false]
      rw [if_pos hi]
      have hj : 0 ≤ (joinN r.1 r.2.1 (loopN 7 (P1 r.2.2).1 (P1 r.2.2).2.1 (P1 r.2.2).2.2)).2.2.1 := by
        have := hn r.2.2 h0
        have e : 0 ≤ (loopN 7 (P1 r.2.2).1 (P1 r.2.2).2.1 (P1 r.2.2).2.2).2.2.1 := by
          simp only [loopN, edgeN, if_true]
          split <;> (simp only []; omega)
        unfold joinN
        split
        · exact e
        · exact e
      rcases h r.2.2 h0 with h1 | ⟨h1, h2⟩
      · rw [← h1]
        exact max_ag h hn mn m (i + 1) _ hj (by omega)
      · exact .inr ⟨full_maxI P1 m _ (full_join (full_loop h1 _ _ _) _ _), full_timesL P2 mn 7 _ _ _ (full_join (full_loop h2 _ _ _) _ _)⟩
    · exact .inr ⟨full_maxI P1 _ _ hf, full_timesL P2 mn 7 _ _ _ hf⟩
theorem loop_pos (op a z : Int) (s : NB) (h : 0 ≤ s.1) : 0 ≤ (loopN op a z s).1 ∧ 0 ≤ (loopN op a z s).2.1 ∧ 0 ≤ (loopN op a z s).2.2.1 := by
  unfold loopN
  refine ⟨h, by dsimp only; omega, ?_⟩
  simp only [edgeN]
  split <;> split <;> (simp only []; omega)
theorem join_pos {f t : Int} {r : NR} (h : 0 ≤ r.1 ∧ 0 ≤ r.2.1 ∧ 0 ≤ r.2.2.1) (hf : f < 0 ∨ 0 ≤ f) : 0 ≤ (joinN f t r).1 ∧ 0 ≤ (joinN f t r).2.1 ∧ 0 ≤ (joinN f t r).2.2.1 := by
  unfold joinN
  split
  · exact h
  · exact ⟨by dsimp only; omega, h.2.1, h.2.2⟩
def PosP (P : NB → NR) : Prop := ∀ s : NB, 0 ≤ s.1 → 0 ≤ (P s).1 ∧ 0 ≤ (P s).2.1 ∧ 0 ≤ (P s).2.2.1
theorem timesL_pos {P : NB → NR} (hP : PosP P) (mn op : Int) : ∀ (m : Nat) (i : Int) (r : NR), 0 ≤ r.1 → 0 ≤ r.2.1 → 0 ≤ r.2.2.1 → 0 ≤ (timesL P mn op m i r).1 ∧ 0 ≤ (timesL P mn op m i r).2.1 ∧ 0 ≤ (timesL P mn op m i r).2.2.1
  | 0, _, r, h0, h1, h2 => ⟨h0, h1, h2⟩
  | m + 1, i, r, h0, h1, h2 => by
    cases hf : fullN r.2.2
    · simp only [timesL, hf, Bool.false_eq_true, if_false]
      have hq := hP r.2.2 h2
      have hj : 0 ≤ (joinN r.1 r.2.1 (if i ≥ mn then loopN op (P r.2.2).1 (P r.2.2).2.1 (P r.2.2).2.2 else P r.2.2)).1 ∧ 0 ≤ (joinN r.1 r.2.1 (if i ≥ mn then loopN op (P r.2.2).1 (P r.2.2).2.1 (P r.2.2).2.2 else P r.2.2)).2.1 ∧ 0 ≤ (joinN r.1 r.2.1 (if i ≥ mn then loopN op (P r.2.2).1 (P r.2.2).2.1 (P r.2.2).2.2 else P r.2.2)).2.2.1 := by
        refine join_pos ?_ (.inr h0)
        split
        · exact loop_pos _ _ _ _ hq.2.2
        · exact hq
      exact timesL_pos hP mn op m (i + 1) _ hj.1 hj.2.1 hj.2.2
    · simp only [timesL, hf, if_true]
      exact ⟨h0, h1, h2⟩
theorem timesL_first {P : NB → NR} (hP : PosP P) (mn op : Int) (m : Nat) (i : Int) (s : NB) (h0 : 0 ≤ s.1) (hs : fullN s = false) : 0 ≤ (timesL P mn op (m + 1) i (-1, -1, s)).1 ∧ 0 ≤ (timesL P mn op (m + 1) i (-1, -1, s)).2.1 := by
  simp only [timesL, hs, Bool.false_eq_true, if_false]
  have hq := hP s h0
  have hj : 0 ≤ (joinN (-1) (-1) (if i ≥ mn then loopN op (P s).1 (P s).2.1 (P s).2.2 else P s)).1 ∧ 0 ≤ (joinN (-1) (-1) (if i ≥ mn then loopN op (P s).1 (P s).2.1 (P s).2.2 else P s)).2.1 ∧ 0 ≤ (joinN (-1) (-1) (if i ≥ mn then loopN op (P s).1 (P s).2.1 (P s).2.2 else P s)).2.2.1 := by
    refine join_pos ?_ (.inl (by omega))
    split
    · exact loop_pos _ _ _ _ hq.2.2
    · exact hq
  have h := timesL_pos hP mn op m (i + 1) _ hj.1 hj.2.1 hj.2.2
  exact ⟨h.1, h.2.1⟩
theorem timesL_state {P : NB → NR} (hP : PosP P) (mn op : Int) : ∀ (m : Nat) (i : Int) (r : NR), 0 ≤ r.2.2.1 → 0 ≤ (timesL P mn op m i r).2.2.1
  | 0, _, r, h2 => h2
  | m + 1, i, r, h2 => by
    cases hf : fullN r.2.2
    · simp only [timesL, hf, Bool.false_eq_true, if_false]
      have hq := hP r.2.2 h2
      refine timesL_state hP mn op m (i + 1) _ ?_
      have e : 0 ≤ (if i ≥ mn then loopN op (P r.2.2).1 (P r.2.2).2.1 (P r.2.2).2.2 else P r.2.2).2.2.1 := by
        split
        · exact (loop_pos _ _ _ _ hq.2.2).2.2
        · exact hq.2.2
      unfold joinN
      split
      · exact e
      · exact e
    · simp only [timesL, hf, if_true]
      exact h2
theorem times_ag {P1 P2 : NB → NR} (h : ∀ s : NB, 0 ≤ s.1 → Ag (P1 s) (P2 s)) (hn : ∀ s : NB, 0 ≤ s.1 → 0 ≤ (P1 s).2.2.1) (hP : PosP P2) (hfull1 : ∀ s : NB, fullN s = true → fullN (P1 s).2.2 = true) (mn mx : Int) (s : NB) (h0 : 0 ≤ s.1) (hs : fullN s = false) (hm : 0 ≤ mn) (hx : mx = -1 ∨ (mn ≤ mx ∧ 1 ≤ mx)) :
    Ag (timesI P1 mn mx s) (timesS P2 mn mx s) := by
  have key : Ag (timesI P1 mn mx s) (timesL P2 mn (loopOp mx) (manyS mn mx).toNat 0 (-1, -1, s)) := by
    have hmany : (manyS mn mx).toNat = (manyS mn mx - mn).toNat + mn.toNat := by
      unfold manyS
      split <;> omega
    rw [hmany]
    have hA := min_ag h hn mn (loopOp mx) ((manyS mn mx - mn).toNat) mn.toNat 0 (-1, -1, s) h0 (by omega)
    have hst : ∀ (m : Nat) (r : NR), 0 ≤ r.2.2.1 → 0 ≤ (minI P1 m r).2.2.2.1 := by
      intro m
      induction m with
      | zero => exact fun r hr => hr
      | succ m ih =>
        intro r hr
        simp only [minI]
        split
        · exact hr
        · refine ih _ ?_
          have := hn r.2.2 hr
          unfold joinN
          split
          · exact this
          · exact this
    have hst2 := hst mn.toNat (-1, -1, s) h0
    unfold timesI
    rcases hA with ⟨e1, e2⟩ | ⟨e1, e2⟩
    · rw [e1, if_neg (by simp), e2]
      generalize (minI P1 mn.toNat (-1, -1, s)).2 = r at *
      by_cases c : mx < 0
      · have o1 : loopOp mx = 5 := if_pos c
        have o2 : (manyS mn mx - mn).toNat = 1 := by unfold manyS; rw [if_pos c]; omega
        have o3 : (mx - mn).toNat = 0 := by omega
        rw [o1, o2, o3]
        unfold restI
        rw [if_pos c]
        show Ag (joinN r.1 r.2.1 (loopN 5 (P1 r.2.2).1 (P1 r.2.2).2.1 (P1 r.2.2).2.2)) _
        cases hf : fullN r.2.2
        · simp only [timesL, hf, Bool.false_eq_true, if_false]
          rw [if_pos (by omega)]
          rcases h r.2.2 hst2 with h1 | ⟨h1, h2⟩
          · rw [h1]
            exact .inl rfl
          · exact .inr ⟨full_join (full_loop h1 _ _ _) _ _, full_join (full_loop h2 _ _ _) _ _⟩
        · simp only [timesL, hf, if_true]
          rcases h r.2.2 hst2 with h1 | ⟨h1, h2⟩
          · exact .inr ⟨full_join (full_loop (hfull1 _ hf) _ _ _) _ _, hf⟩
          · exact .inr ⟨full_join (full_loop h1 _ _ _) _ _, hf⟩
      · have o1 : loopOp mx = 7 := if_neg c
        have o2 : (manyS mn mx - mn).toNat = (mx - mn).toNat := by unfold manyS; rw [if_neg c]
        rw [o1, o2]
        unfold restI
        rw [if_neg c]
        exact max_ag h hn mn _ mn r hst2 (by omega)
    · split
      · exact .inr ⟨e1, e2⟩
      · refine .inr ⟨full_maxI P1 _ _ ?_, e2⟩
        unfold restI
        split
        · exact full_join (full_loop (hfull1 _ e1) _ _ _) _ _
        · exact e1
  unfold timesS
  rcases key with h1 | ⟨h1, h2⟩
  · obtain ⟨m, hm1⟩ : ∃ m, (manyS mn mx).toNat = m + 1 := ⟨(manyS mn mx).toNat - 1, by unfold manyS; split <;> omega⟩
    have hp := timesL_first hP mn (loopOp mx) m 0 s h0 hs
    rw [← hm1] at hp
    rw [h1]
    generalize timesL P2 mn (loopOp mx) (manyS mn mx).toNat 0 (-1, -1, s) = r at *
    refine .inl ?_
    obtain ⟨a, b, c⟩ := r
    dsimp only at hp ⊢
    rw [Int.max_eq_right hp.1, Int.max_eq_right hp.2]
  · exact .inr ⟨h1, h2⟩
theorem rd_in (l : List Int) (i : Nat) (h : i < l.length) : rd l (i : Int) ∈ l := by
  unfold rd
  rw [List.getD_eq_getElem?_getD, Int.toNat_natCast, List.getElem?_eq_getElem h]
  exact List.getElem_mem _
theorem node_ops {nodes : List S156} {k : Nat} (h : nodeAt nodes k = true) : ((rd_T156 nodes (k : Int)).f0 = 1 ∨ (rd_T156 nodes (k : Int)).f0 = 2) ∨
    (((rd_T156 nodes (k : Int)).f0 = 3 ∨ (rd_T156 nodes (k : Int)).f0 = 4) ∧ (rd_T156 nodes (k : Int)).f2.length = 2) ∨
    (((rd_T156 nodes (k : Int)).f0 = 5 ∨ (rd_T156 nodes (k : Int)).f0 = 6 ∨ (rd_T156 nodes (k : Int)).f0 = 7 ∨ (rd_T156 nodes (k : Int)).f0 = 8) ∧ (rd_T156 nodes (k : Int)).f2.length = 1) := by
  obtain ⟨_, h1, _⟩ := node_kids h
  unfold kidsN at h1
  split at h1
  · exact .inl ‹_›
  · split at h1
    · exact .inr (.inl ⟨‹_›, by omega⟩)
    · split at h1
      · exact .inr (.inr ⟨‹_›, by omega⟩)
      · omega
theorem node_kid {nodes : List S156} {k : Nat} (h : nodeAt nodes k = true) (i : Nat) (hi : i < (rd_T156 nodes (k : Int)).f2.length) : rd (rd_T156 nodes (k : Int)).f2 (i : Int) = (((rd (rd_T156 nodes (k : Int)).f2 (i : Int)).toNat : Nat) : Int) ∧ (rd (rd_T156 nodes (k : Int)).f2 (i : Int)).toNat < k := by
  obtain ⟨_, _, h2⟩ := node_kids h
  have := h2 _ (rd_in _ i hi)
  omega
theorem node_set_few {nodes : List S156} {k : Nat} (h : nodeAt nodes k = true) : (rd_T156 nodes (k : Int)).f1.length ≤ 128 := by
  unfold nodeAt nodeB at h
  simp only [Bool.and_eq_true] at h
  have h2 := h.1.2
  split at h2
  · simp only [Bool.and_eq_true] at h2
    exact classB_few h2.1
  · have := of_decide_eq_true h2
    omega
def StP (P : NB → NR) : Prop := ∀ s : NB, 0 ≤ s.1 → 0 ≤ (P s).2.2.1
theorem join_st {f t : Int} {r : NR} (h : 0 ≤ r.2.2.1) : 0 ≤ (joinN f t r).2.2.1 := by
  unfold joinN
  split
  · exact h
  · exact h
theorem loop_st {op a z : Int} {s : NB} (h : 0 ≤ s.1) : 0 ≤ (loopN op a z s).2.2.1 := (loop_pos op a z s h).2.2
theorem minI_st {P : NB → NR} (hP : StP P) : ∀ (m : Nat) (r : NR), 0 ≤ r.2.2.1 → 0 ≤ (minI P m r).2.2.2.1
  | 0, r, h => h
  | m + 1, r, h => by
    simp only [minI]
    split
    · exact h
    · exact minI_st hP m _ (join_st (hP _ h))
theorem maxI_st {P : NB → NR} (hP : StP P) : ∀ (m : Nat) (r : NR), 0 ≤ r.2.2.1 → 0 ≤ (maxI P m r).2.2.1
  | 0, r, h => h
  | m + 1, r, h => by
    simp only [maxI]
    split
    · exact h
    · exact maxI_st hP m _ (join_st (loop_st (hP _ h)))
theorem timesI_st {P : NB → NR} (hP : StP P) (mn mx : Int) (s : NB) (h : 0 ≤ s.1) : 0 ≤ (timesI P mn mx s).2.2.1 := by
  have h1 := minI_st hP mn.toNat (-1, -1, s) h
  unfold timesI
  split
  · exact h1
  · refine maxI_st hP _ _ ?_
    unfold restI
    split
    · exact join_st (loop_st (hP _ h1))
    · exact h1
theorem partI_st (l : List S156) : ∀ (k : Nat) (i : Int), StP (partN timesI l k i)
  | 0, _, s, h => h
  | k + 1, i, s, h => by
    have ih := partI_st l k
    simp only [partN]
    split
    · exact h
    split
    · show 0 ≤ s.1 + 2; omega
    split
    · exact ih _ _ (ih _ _ h)
    split
    · show 0 ≤ (partN timesI l k _ _).2.2.1 + 2
      have := ih (rd (rd_T156 l i).f2 1) _ (ih (rd (rd_T156 l i).f2 0) s h)
      omega
    split
    · exact timesI_st (ih _) _ _ s h
    · exact loop_st (ih _ _ h)
theorem partS_pos (l : List S156) : ∀ (k : Nat) (i : Int), PosP (partN timesS l k i)
  | 0, _, s, h => ⟨Int.le_refl _, Int.le_refl _, h⟩
  | k + 1, i, s, h => by
    have ih := partS_pos l k
    simp only [partN]
    split
    · exact ⟨Int.le_refl _, Int.le_refl _, h⟩
    split
    · exact ⟨h, (by show 0 ≤ s.1 + 1; omega), (by show 0 ≤ s.1 + 2; omega)⟩
    have q := ih (rd (rd_T156 l i).f2 0) s h
    have u := ih (rd (rd_T156 l i).f2 1) _ q.2.2
    split
    · exact ⟨q.1, u.2.1, u.2.2⟩
    split
    · exact ⟨u.2.2, (by show 0 ≤ (partN timesS l k _ _).2.2.1 + 1; omega), (by show 0 ≤ (partN timesS l k _ _).2.2.1 + 2; omega)⟩
    split
    · exact ⟨Int.le_max_left _ _, Int.le_max_left _ _, timesL_state (ih _) _ _ _ _ _ h⟩
    · exact loop_pos _ _ _ _ q.2.2
theorem node_counts {l : List S156} {j : Nat} (h : nodeAt l j = true) (h8 : (rd_T156 l (j : Int)).f0 = 8) : 0 ≤ (rd_T156 l (j : Int)).f3 ∧ (rd_T156 l (j : Int)).f3 ≤ 30 ∧ ((rd_T156 l (j : Int)).f4 = -1 ∨ ((rd_T156 l (j : Int)).f3 ≤ (rd_T156 l (j : Int)).f4 ∧ 1 ≤ (rd_T156 l (j : Int)).f4)) ∧ (rd_T156 l (j : Int)).f4 ≤ 30 := by
  unfold nodeAt nodeB at h
  simp only [Bool.and_eq_true, h8, if_true] at h
  have h2 := h.2
  unfold timesB at h2
  simp only [Bool.and_eq_true, Bool.or_eq_true, decide_eq_true_eq, Bool.not_eq_true', decide_eq_false_iff_not] at h2
  omega
theorem part_ag (l : List S156) (hok : ∀ j, j < l.length → nodeAt l j = true) : ∀ (k j : Nat) (s : NB), j < l.length → 0 ≤ s.1 → Ag (partN timesI l k (j : Int) s) (partN timesS l k (j : Int) s)
  | 0, _, _, _, _ => .inl rfl
  | k + 1, j, s, hj, h0 => by
    cases hf : fullN s
    rotate_left
    · rw [full_part _ _ _ _ hf, full_part _ _ _ _ hf]
      exact .inl rfl
    have kid : ∀ i : Nat, i < (rd_T156 l (j : Int)).f2.length → ∀ s : NB, 0 ≤ s.1 → Ag (partN timesI l k (rd (rd_T156 l (j : Int)).f2 (i : Int)) s) (partN timesS l k (rd (rd_T156 l (j : Int)).f2 (i : Int)) s) := by
      intro i hi s hs
      obtain ⟨h1, h2⟩ := node_kid (hok j hj) i hi
      rw [h1]
      exact part_ag l hok k _ s (by omega) hs
    have k0 := kid 0
    have k1 := kid 1
    simp only [Int.ofNat_zero, Int.natCast_one, Int.cast_ofNat_Int] at k0 k1
    have hst := partI_st l k (rd (rd_T156 l (j : Int)).f2 0)
    have hfl : ∀ (i : Int) (s : NB), fullN s = true → fullN (partN timesI l k i s).2.2 = true := fun i s h => by rw [full_part _ _ _ _ h]; exact h
    have hfl2 : ∀ (i : Int) (s : NB), fullN s = true → fullN (partN timesS l k i s).2.2 = true := fun i s h => by rw [full_part _ _ _ _ h]; exact h
    simp only [partN, hf, Bool.false_eq_true, if_false]
    have two : 1 < (rd_T156 l (j : Int)).f2.length → (partN timesI l k (rd (rd_T156 l (j : Int)).f2 0) s = partN timesS l k (rd (rd_T156 l (j : Int)).f2 0) s ∧ partN timesI l k (rd (rd_T156 l (j : Int)).f2 1) (partN timesI l k (rd (rd_T156 l (j : Int)).f2 0) s).2.2 = partN timesS l k (rd (rd_T156 l (j : Int)).f2 1) (partN timesS l k (rd (rd_T156 l (j : Int)).f2 0) s).2.2) ∨
        (fullN (partN timesI l k (rd (rd_T156 l (j : Int)).f2 1) (partN timesI l k (rd (rd_T156 l (j : Int)).f2 0) s).2.2).2.2 = true ∧ fullN (partN timesS l k (rd (rd_T156 l (j : Int)).f2 1) (partN timesS l k (rd (rd_T156 l (j : Int)).f2 0) s).2.2).2.2 = true) := by
      intro hl
      have a := hst s h0
      rcases k0 (by omega) s h0 with h1 | ⟨h1, h2⟩
      · rw [← h1]
        rcases k1 hl _ a with h3 | h3
        · exact .inl ⟨rfl, h3⟩
        · exact .inr h3
      · exact .inr ⟨hfl _ _ h1, hfl2 _ _ h2⟩
    rcases node_ops (hok j hj) with (h | h) | ⟨h | h, hl⟩ | ⟨h | h | h | h, hl⟩
    · rw [if_pos (.inl h), if_pos (.inl h)]; exact .inl rfl
    · rw [if_pos (.inr h), if_pos (.inr h)]; exact .inl rfl
    · simp only [h]
      rcases two (by omega) with ⟨h1, h2⟩ | ⟨h1, h2⟩
      · refine .inl ?_
        simp only [show ¬ ((3 : Int) = 1 ∨ (3 : Int) = 2) by omega, if_false, if_true]
        rw [h2, h1]
      · refine .inr ?_
        simp only [show ¬ ((3 : Int) = 1 ∨ (3 : Int) = 2) by omega, if_false, if_true]
        exact ⟨full_edge h1 _ _ _, full_edge h2 _ _ _⟩
    · simp only [h]
      rcases two (by omega) with ⟨h1, h2⟩ | ⟨h1, h2⟩
      · refine .inl ?_
        simp only [show ¬ ((4 : Int) = 1 ∨ (4 : Int) = 2) by omega, show ¬ (4 : Int) = 3 by omega, if_false, if_true]
        rw [h2, h1]
      · refine .inr ?_
        simp only [show ¬ ((4 : Int) = 1 ∨ (4 : Int) = 2) by omega, show ¬ (4 : Int) = 3 by omega, if_false, if_true]
        exact ⟨full_edge (full_edge (full_edge (full_edge (full_two h1) _ _ _) _ _ _) _ _ _) _ _ _, full_edge (full_edge (full_edge (full_edge (full_two h2) _ _ _) _ _ _) _ _ _) _ _ _⟩
    all_goals first
      | (have h8 : (rd_T156 l (j : Int)).f0 = 8 := h
         have ht := node_counts (hok j hj) h8
         simp only [h8, show ¬ ((8 : Int) = 1 ∨ (8 : Int) = 2) by omega, show ¬ (8 : Int) = 3 by omega, show ¬ (8 : Int) = 4 by omega, if_false, if_true]
         exact times_ag (fun s hs => k0 (by omega) s hs) hst (partS_pos l k _) (fun s hs => hfl _ s hs) _ _ s h0 hf ht.1 ht.2.2.1)
      | (rw [if_neg (by omega), if_neg (by omega), if_neg (by omega), if_neg (by omega), if_neg (by omega), if_neg (by omega), if_neg (by omega), if_neg (by omega)]
         rcases k0 (by omega) s h0 with h1 | ⟨h1, h2⟩
         · rw [h1]
           exact .inl rfl
         · exact .inr ⟨full_loop h1 _ _ _, full_loop h2 _ _ _⟩)
def Bn (c : Nat) (s : NB) : Prop := 0 ≤ s.1 ∧ s.1 ≤ 10000 + c ∧ s.2.length ≤ 20000 + c
theorem Bn.le {c d : Nat} {s : NB} (h : Bn c s) (hd : c ≤ d) : Bn d s := ⟨h.1, by have := h.2.1; omega, by have := h.2.2; omega⟩
theorem Bn.small {s : NB} (h : 0 ≤ s.1) (hf : fullN s = false) : Bn 0 s := by
  have : ¬ (s.1 > 3000 ∨ (s.2.length : Int) > 12000) := fun h => by rw [(full_iff s).2 h] at hf; cases hf
  exact ⟨h, by omega, by omega⟩
theorem Bn.edge {c : Nat} {s : NB} (h : Bn c s) (a b : Int) (x : List S103) : Bn (c + 1) (edgeN s a b x) := by
  obtain ⟨h1, h2, h3⟩ := h
  exact ⟨h1, by show s.1 ≤ _; omega, by simp only [edgeN, List.length_append, List.length_singleton]; omega⟩
theorem Bn.two {c : Nat} {s : NB} (h : Bn c s) : Bn (c + 2) (s.1 + 2, s.2) := ⟨by have := h.1; show 0 ≤ s.1 + 2; omega, by have := h.2.1; show s.1 + 2 ≤ _; omega, by have := h.2.2; show s.2.length ≤ _; omega⟩
theorem Bn.loop {c : Nat} {s : NB} (h : Bn c s) (op a z : Int) : Bn (c + 6) (loopN op a z s).2.2 := by
  unfold loopN
  refine Bn.edge (c := c + 5) ?_ _ _ _
  have h1 := (h.two.edge s.1 a []).le (show c + 2 + 1 ≤ c + 3 by omega)
  have h2 := (h1.edge s.1 (s.1 + 1) []).le (show c + 3 + 1 ≤ c + 4 by omega)
  split
  · split
    · exact h1.le (by omega)
    · exact h2.le (by omega)
  · refine (Bn.edge (c := c + 4) ?_ _ _ _).le (by omega)
    split
    · exact h1.le (by omega)
    · exact h2
theorem Bn.join {c : Nat} {r : NR} (h : Bn c r.2.2) (f t : Int) : Bn (c + 1) (joinN f t r).2.2 := by
  unfold joinN
  split
  · exact h.le (by omega)
  · exact h.edge _ _ _
def BnP (C : Nat) (P : NB → NR) : Prop := ∀ (c : Nat) (s : NB), Bn c s → Bn (max c C) (P s).2.2
theorem minI_bn {C : Nat} {P : NB → NR} (hP : BnP C P) : ∀ (m : Nat) (r : NR), Bn (C + 1) r.2.2 → Bn (C + 1) (minI P m r).2.2.2
  | 0, r, h => h
  | m + 1, r, h => by
    cases hf : fullN r.2.2
    · simp only [minI, hf, Bool.false_eq_true, if_false]
      refine minI_bn hP m _ ?_
      have := (hP 0 _ (Bn.small h.1 hf)).le (show max 0 C ≤ C by omega)
      exact this.join _ _
    · simp only [minI, hf, if_true]
      exact h
theorem maxI_bn {C : Nat} {P : NB → NR} (hP : BnP C P) : ∀ (m : Nat) (r : NR), Bn (C + 8) r.2.2 → Bn (C + 8) (maxI P m r).2.2
  | 0, r, h => h
  | m + 1, r, h => by
    cases hf : fullN r.2.2
    · simp only [maxI, hf, Bool.false_eq_true, if_false]
      refine maxI_bn hP m _ ?_
      have := (hP 0 _ (Bn.small h.1 hf)).le (show max 0 C ≤ C by omega)
      exact ((this.loop _ _ _).join _ _).le (by omega)
    · simp only [maxI, hf, if_true]
      exact h
theorem restI_bn {C : Nat} {P : NB → NR} (hP : BnP C P) (mx : Int) (r : NR) (h : Bn (C + 1) r.2.2) : Bn (C + 8) (restI P mx r).2.2 := by
  unfold restI
  split
  · have := (hP (C + 1) _ h).le (show max (C + 1) C ≤ C + 1 by omega)
    exact ((this.loop _ _ _).join _ _).le (by omega)
  · exact h.le (by omega)
theorem timesI_bn {C : Nat} {P : NB → NR} (hP : BnP C P) (mn mx : Int) (s : NB) (h : Bn 0 s) : Bn (C + 8) (timesI P mn mx s).2.2 := by
  have h1 := minI_bn hP mn.toNat (-1, -1, s) (h.le (by omega))
  unfold timesI
  split
  · exact h1.le (by omega)
  · exact maxI_bn hP _ _ (restI_bn hP _ _ h1)
theorem timesL_bn {C : Nat} {P : NB → NR} (hP : BnP C P) (mn op : Int) : ∀ (m : Nat) (i : Int) (r : NR), Bn (C + 8) r.2.2 → Bn (C + 8) (timesL P mn op m i r).2.2
  | 0, _, r, h => h
  | m + 1, i, r, h => by
    cases hf : fullN r.2.2
    · simp only [timesL, hf, Bool.false_eq_true, if_false]
      refine timesL_bn hP mn op m _ _ ?_
      have := (hP 0 _ (Bn.small h.1 hf)).le (show max 0 C ≤ C by omega)
      split
      · exact ((this.loop _ _ _).join _ _).le (by omega)
      · exact (this.join _ _).le (by omega)
    · simp only [timesL, hf, if_true]
      exact h
theorem timesS_bn {C : Nat} {P : NB → NR} (hP : BnP C P) (mn mx : Int) (s : NB) (h : Bn 0 s) : Bn (C + 8) (timesS P mn mx s).2.2 := timesL_bn hP _ _ _ _ _ (h.le (by omega))
theorem part_bn (tm : (NB → NR) → Int → Int → NB → NR) (htm : ∀ (C : Nat) (P : NB → NR), BnP C P → ∀ (mn mx : Int) (s : NB), Bn 0 s → Bn (C + 8) (tm P mn mx s).2.2) (l : List S156) : ∀ (k : Nat) (i : Int), BnP (16 * k) (partN tm l k i)
  | 0, _, c, s, h => h.le (by omega)
  | k + 1, i, c, s, h => by
    have ih := part_bn tm htm l k
    cases hf : fullN s
    rotate_left
    · rw [full_part _ _ _ _ hf]
      exact h.le (by omega)
    have h0 := Bn.small h.1 hf
    have q := (ih (rd (rd_T156 l i).f2 0) 0 s h0).le (show max 0 (16 * k) ≤ 16 * k by omega)
    have u := (ih (rd (rd_T156 l i).f2 1) (16 * k) _ q).le (show max (16 * k) (16 * k) ≤ 16 * k by omega)
    simp only [partN, hf, Bool.false_eq_true, if_false]
    split
    · exact (h0.two.edge _ _ _).le (by omega)
    split
    · exact (u.edge _ _ _).le (by omega)
    split
    · exact ((((u.two.edge _ _ _).edge _ _ _).edge _ _ _).edge _ _ _).le (by omega)
    split
    · exact (htm _ _ (ih _) _ _ s h0).le (by omega)
    · exact (q.loop _ _ _).le (by omega)
theorem partI_bn (l : List S156) (k : Nat) (i : Int) : BnP (16 * k) (partN timesI l k i) := part_bn timesI (fun _ _ hP mn mx s h => timesI_bn hP mn mx s h) l k i
theorem partS_bn (l : List S156) (k : Nat) (i : Int) : BnP (16 * k) (partN timesS l k i) := part_bn timesS (fun _ _ hP mn mx s h => timesS_bn hP mn mx s h) l k i
def stepN (tm : (NB → NR) → Int → Int → NB → NR) (x : S156) (P0 P1 : NB → NR) (s : NB) : NR :=
  if x.f0 = 1 ∨ x.f0 = 2 then setN x.f1 s
  else if x.f0 = 3 then catN (P0 s) (P1 (P0 s).2.2)
  else if x.f0 = 4 then altN (P0 s) (P1 (P0 s).2.2)
  else if x.f0 = 8 then tm P0 x.f3 x.f4 s
  else loopN x.f0 (P0 s).1 (P0 s).2.1 (P0 s).2.2
theorem partN_succ (tm : (NB → NR) → Int → Int → NB → NR) (l : List S156) (k : Nat) (i : Int) {s : NB} (h : fullN s = false) : partN tm l (k + 1) i s = stepN tm (rd_T156 l i) (partN tm l k (rd (rd_T156 l i).f2 0)) (partN tm l k (rd (rd_T156 l i).f2 1)) s := by
  simp only [partN, h, Bool.false_eq_true, if_false, stepN]
abbrev NE := NB × List S138
abbrev TM := (NB → NR) → Int → Int → NB → NR
def xN (tm : TM) (x : S29) (s : NB) : NR := partN tm x.f0 x.f0.length ((x.f0.length : Int) - 1) s
def addN (tm : TM) (x : S29) (i : Int) (q : NE) : NE := (edgeN (xN tm x q.1).2.2 0 (xN tm x q.1).1 [], q.2 ++ [⟨(xN tm x q.1).2.1, i⟩])
def upN (tm : TM) (l : List S29) : Nat → NE
  | 0 => ((1, []), [])
  | k + 1 => addN tm (rd_T29 l (k : Int)) (k : Int) (upN tm l k)
theorem upN_ends (tm : TM) (l : List S29) : ∀ k, (upN tm l k).2.length = k
  | 0 => rfl
  | k + 1 => by
    show ((upN tm l k).2 ++ [_]).length = _
    rw [List.length_append, upN_ends tm l k]
    rfl
def rxN (x : S29) : Prop := 1 ≤ x.f0.length ∧ x.f0.length ≤ 1000 ∧ ∀ j, j < x.f0.length → nodeAt x.f0 j = true
theorem upN_bn (tm : TM) (htm : ∀ (C : Nat) (P : NB → NR), BnP C P → ∀ (mn mx : Int) (s : NB), Bn 0 s → Bn (C + 8) (tm P mn mx s).2.2) (l : List S29) (hx : ∀ x ∈ l, rxN x) : ∀ k, k ≤ l.length → Bn (16000 + k) (upN tm l k).1
  | 0, _ => ⟨by show (0 : Int) ≤ 1; omega, by show (1 : Int) ≤ _; omega, by show 0 ≤ _; omega⟩
  | k + 1, h => by
    have hb := upN_bn tm htm l hx k (by omega)
    have hm : rd_T29 l (k : Int) ∈ l := by
      unfold rd_T29
      rw [List.getD_eq_getElem?_getD, List.getElem?_eq_getElem (show (k : Int).toNat < l.length by omega)]
      exact List.getElem_mem _
    have h2 := (hx _ hm).2.1
    have := part_bn tm htm (rd_T29 l (k : Int)).f0 (rd_T29 l (k : Int)).f0.length (((rd_T29 l (k : Int)).f0.length : Int) - 1) (16000 + k) _ hb
    exact ((this.le (show max (16000 + k) (16 * (rd_T29 l (k : Int)).f0.length) ≤ 16000 + k by omega)).edge 0 _ []).le (by omega)
theorem upNI_bn (l : List S29) (hx : ∀ x ∈ l, rxN x) (k : Nat) (hk : k ≤ l.length) : Bn (16000 + k) (upN timesI l k).1 := upN_bn timesI (fun _ _ hP mn mx s h => timesI_bn hP mn mx s h) l hx k hk
theorem upNS_bn (l : List S29) (hx : ∀ x ∈ l, rxN x) (k : Nat) (hk : k ≤ l.length) : Bn (16000 + k) (upN timesS l k).1 := upN_bn timesS (fun _ _ hP mn mx s h => timesS_bn hP mn mx s h) l hx k hk
def okRxs (l : List S29) : Bool := decide (1 ≤ (l.length : Int) ∧ (l.length : Int) ≤ 40) && l.all fun x => rxB x.f0
def nfaP (q : NE) : NE × Bool := if fullN q.1 = true then (((0, []), []), false) else (q, true)
def nfaA (l : List S29) : NE × Bool := if okRxs l = true then nfaP (upN timesI l l.length) else (((0, []), []), false)
end Go.Proofs.Ytijmhelacmjggaa.P
