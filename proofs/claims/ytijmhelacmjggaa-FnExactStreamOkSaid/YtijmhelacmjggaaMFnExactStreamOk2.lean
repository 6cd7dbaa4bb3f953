/- The law FnExactStreamOk holds for every call: part 3 of 6 of the proof (walks of functions, and what they answer). Conditions: none beyond what the given row says. -/
import Derived.Test.YtijmhelacmjggaaMFnExactStreamOk0
import Derived.Test.YtijmhelacmjggaaMFnExactStreamOk1
import Derived.Shelf.Abstract
import Derived.Lib.Hide
namespace Go.Proofs.Ytijmhelacmjggaa.P
open Go.RowKit Go.Proofs.YtijmhelacmjggaaW.PrintWords Go.Proofs.YtijmhelacmjggaaW.PrintLast Go.Proofs.YtijmhelacmjggaaW.PrintMore
attribute [local go_sem] max2_int min2_int max_two min_two max_three min_three max_four min_four
set_option linter.unusedVariables false
set_option linter.unusedSimpArgs false
/-! ### spec_RxOk: function 59 -/
mutual
def spec_RxOk.j0 : Nat → Int → Bool → List (S156) → Option (Bool)
 | 0, _, _, _ => none
 | k + 1, x3, x18, x102000 => if x18 = true then (some false) else (if 0 ≤ x3 then (if (x3 : Int).toNat ≤ 35184372088832 then (spec_RxOk.l0 k x3 (List.replicate (x3 : Int).toNat 0) 0 x102000) else (none)) else (none))
def spec_RxOk.l0 : Nat → Int → List Int → Int → List (S156) → Option (Bool)
 | 0, _, _, _, _ => none
 | k + 1, x3, x4, x5, x102000 => if x5 < x3 then (if 0 ≤ x5 then (if x5 < (x102000.length : Int) then ((spec_l3Node.f k ((rd_T156 x102000 x5).f0) ((rd_T156 x102000 x5).f1) ((rd_T156 x102000 x5).f2) ((rd_T156 x102000 x5).f3) ((rd_T156 x102000 x5).f4) x5).bind fun t106 => (if t106 = true then (spec_RxOk.l1 k x3 x4 x5 0 x102000) else (some false))) else (none)) else (none)) else (if 0 ≤ x3 then (if (x3 : Int).toNat ≤ 35184372088832 then (spec_RxOk.l2 k x3 x4 (List.replicate (x3 : Int).toNat 0) (wrap64 (x3 - 1)) x102000) else (none)) else (none))
def spec_RxOk.l1 : Nat → Int → List Int → Int → Int → List (S156) → Option (Bool)
 | 0, _, _, _, _, _ => none
 | k + 1, x3, x4, x5, x6, x102000 => if 0 ≤ x5 then (if x5 < (x102000.length : Int) then (if x6 < (((rd_T156 x102000 x5).f2).length : Int) then (if 0 ≤ x6 then (if 0 ≤ (rd ((rd_T156 x102000 x5).f2) x6) then (if (rd ((rd_T156 x102000 x5).f2) x6) < (x4.length : Int) then (spec_RxOk.l1 k x3 (x4.set ((rd ((rd_T156 x102000 x5).f2) x6) : Int).toNat (wrap64 ((rd x4 (rd ((rd_T156 x102000 x5).f2) x6)) + 1))) x5 (wrap64 (x6 + 1)) x102000) else (none)) else (none)) else (none)) else (spec_RxOk.l0 k x3 x4 (wrap64 (x5 + 1)) x102000)) else (none)) else (none)
def spec_RxOk.l2 : Nat → Int → List Int → List Int → Int → List (S156) → Option (Bool)
 | 0, _, _, _, _, _ => none
 | k + 1, x3, x4, x7, x8, x102000 => if x8 ≥ 0 then (if x8 < (wrap64 (x3 - 1)) then (if 0 ≤ x8 then (if x8 < (x4.length : Int) then (if (rd x4 x8) = 1 then (if x8 < (x7.length : Int) then (spec_RxOk.j4 k x3 x4 x7 x8 (decide ((rd x7 x8) > 150)) x102000) else (none)) else (spec_RxOk.j4 k x3 x4 x7 x8 true x102000)) else (none)) else (none)) else (if 0 ≤ x8 then (if x8 < (x7.length : Int) then (spec_RxOk.j4 k x3 x4 x7 x8 (decide ((rd x7 x8) > 150)) x102000) else (none)) else (none))) else (some true)
def spec_RxOk.j4 : Nat → Int → List Int → List Int → Int → Bool → List (S156) → Option (Bool)
 | 0, _, _, _, _, _, _ => none
 | k + 1, x3, x4, x7, x8, x84, x102000 => if x84 = true then (some false) else (spec_RxOk.l3 k x3 x4 x7 x8 0 x102000)
def spec_RxOk.l3 : Nat → Int → List Int → List Int → Int → Int → List (S156) → Option (Bool)
 | 0, _, _, _, _, _, _ => none
 | k + 1, x3, x4, x7, x8, x9, x102000 => if 0 ≤ x8 then (if x8 < (x102000.length : Int) then (if x9 < (((rd_T156 x102000 x8).f2).length : Int) then (if 0 ≤ x9 then (if x8 < (x7.length : Int) then (if 0 ≤ (rd ((rd_T156 x102000 x8).f2) x9) then (if (rd ((rd_T156 x102000 x8).f2) x9) < (x7.length : Int) then (spec_RxOk.l3 k x3 x4 (x7.set ((rd ((rd_T156 x102000 x8).f2) x9) : Int).toNat (wrap64 ((rd x7 x8) + 1))) x8 (wrap64 (x9 + 1)) x102000) else (none)) else (none)) else (none)) else (none)) else (spec_RxOk.l2 k x3 x4 x7 (wrap64 (x8 - 1)) x102000)) else (none)) else (none)
end
def spec_RxOk.f (k : Nat) (l0_0 : List (S156)) : Option (Bool) := if (l0_0.length : Int) < 1 then (spec_RxOk.j0 k (l0_0.length : Int) true l0_0) else (spec_RxOk.j0 k (l0_0.length : Int) (decide ((l0_0.length : Int) > 300)) l0_0)
def spec_RxOk.T23 : Bool × List (List Nat × List Nat) := (true, [([], []), ([], []), ([1], [1]), ([], []), ([2, 3], [2, 3]), ([4], [4]), ([5], [5]), ([], []), ([6, 7], [6, 7]), ([8], [8]), ([], []), ([], []), ([10, 11], [10, 11]), ([12], [12]), ([13], [13]), ([0, 9, 0, 1, 2, 3, 4, 5, 6, 7, 8, 9, 10, 11, 12, 13, 14], [0, 9]), ([15, 14, 0, 1, 2, 3, 4, 5, 6, 7, 8, 9, 10, 11, 12, 13, 14], [14, 15])])
def spec_RxOk.B23 : List Nat := [0, 0, 2, 0, 14, 30, 62, 0, 254, 510, 0, 0, 3072, 7168, 15360, 32767, 65535]
theorem spec_RxOk.tab23 : rtab .any (opsOf Try.f59 23) = spec_RxOk.T23 := by kernel_rfl
theorem spec_RxOk.bits23 : waitsOk spec_RxOk.T23.2 spec_RxOk.B23 = true := by kernel_rfl
set_option maxHeartbeats 8000000 in
set_option maxRecDepth 100000 in
theorem spec_RxOk.calls (k : Nat) (A0_0 : Option Addr) (c0_0 : Nat) (l0_0 : List (S156)) (r : Bool) (w : World) (hr0_0 : Kd.C k156 w A0_0 l0_0.length l0_0) (hc0_0 : l0_0.length ≤ c0_0) (h : spec_RxOk.f k l0_0 = some r) :
  Calls Try.prog 59 #[.agg #[.slice A0_0 l0_0.length c0_0]] w fun e w' => e = .returned (.bool r) ∧ Below w.heap.size w w' := by
 have hu29 := Try.underlying29
 have hu156 := Try.underlying156
 have HR0_0 := Aside0.mk hr0_0
 have HC0_0 := Aside0.mk hc0_0
 clear hr0_0 hc0_0
 have HB := Aside0.mk (Below.refl w.heap.size w)
 have H : (if (l0_0.length : Int) < 1 then (spec_RxOk.j0 k (l0_0.length : Int) true l0_0) else (spec_RxOk.j0 k (l0_0.length : Int) (decide ((l0_0.length : Int) > 300)) l0_0)) = some r := h
 clear h
 have HC2 := Aside0.mk H
 clear H
 go_enter Try.func59, Try.ntmps59
 go_upto_region 2 with (((with_reducible refine gate_dst (N := 1) rfl ?_); refine bx_ 1 #[.slice A0_0 l0_0.length c0_0] 29 ?_; intro gb101 hg w3 hbox hb; have BK101 := Aside0.mk (hbox); have GW101 := ge_ hg HB; have GE101 := GW101; replace HB := sb_ HB hb; clear hb hbox hg; obtain ⟨hcz4_0, hfz4_0⟩ := d1_ BK101))
 (try simp only [Act.put, List.setIfInBounds_toArray, List.set_cons_zero, List.set_cons_succ])
 go_cut [18] (fun v18 wc => ∃ (kq : Nat) (x18_1 : Bool), v18 = .bool x18_1 ∧ Aside0 (spec_RxOk.j0 kq (l0_0.length : Int) x18_1 l0_0 = some r) ∧ Aside0 (kq ≤ k) ∧ Aside0 (wc.heap[gb101]? = some (.cells #[(.slice A0_0 l0_0.length c0_0)] 29 (0, 0))) ∧ Aside0 (Below w.heap.size w wc))
 case first =>
  have H := HC2.out
  clear HC2
  by_cases c5 : (l0_0.length : Int) < 1
  ·rw [if_pos c5] at H
   have c5b0 := decide_eq_true c5
   have c5b1 : decide (l0_0.length < 1) = true := decide_eq_true (by omega)
   clear c5
   (first | rw [c5b0] | (simp only [i64_w, i32_w]; rw [c5b0]) | skip)
   have H' := Aside0.mk H
   clear H
   go_wp2
   go_meet
   case rel => exact ⟨_, (true), rs_, H', ⟨by first | omega | exact Nat.le_refl _⟩, ⟨bk_ BK101.out⟩, ⟨be1_ HB.out GE101.out⟩⟩
  ·rw [if_neg c5] at H
   have c5b0 := decide_eq_false c5
   have c5b1 : decide (l0_0.length < 1) = false := decide_eq_false (by omega)
   clear c5
   (first | rw [c5b0] | (simp only [i64_w, i32_w]; rw [c5b0]) | skip)
   have H' := Aside0.mk H
   clear H
   go_wp2
   go_meet
   case rel => exact ⟨_, (decide ((l0_0.length : Int) > 300)), rs_, H', ⟨by first | omega | exact Nat.le_refl _⟩, ⟨bk_ BK101.out⟩, ⟨be1_ HB.out GE101.out⟩⟩
 case rest =>
  clear HC2
  try clear c5
  try clear c5b0
  try clear c5b1
  try clear hcz4_0
  try clear hfz4_0
  obtain ⟨kq, x18_1, rfl, HA, HJ1, BK101, HB⟩ := hcut
  cases kq with
  | zero => exact absurd HA.out (by simp [spec_RxOk.j0])
  | succ kj1 =>
   have H := HA.out
   clear HA
   simp only [spec_RxOk.j0] at H
   by_cases c6 : x18_1 = true
   ·subst c6
    rw [if_pos rfl] at H
    obtain rfl := Option.some.inj H
    go_wp2
    go_ret
    exact ⟨rt_, be1_ HB.out GE101.out⟩
   ·replace c6 := Bool.eq_false_iff.mpr c6
    subst c6
    rw [if_neg nft_] at H
    by_cases c7 : 0 ≤ (l0_0.length : Int)
    ·rw [if_pos c7] at H
     have c7b0 := eq_true c7
     have c7b1 := decide_eq_true c7
     clear c7
     by_cases c8 : ((l0_0.length : Int) : Int).toNat ≤ 35184372088832
     ·rw [if_pos c8] at H
      have c8b0 := eq_true c8
      have c8b1 := decide_eq_true c8
      clear c8
      obtain ⟨y102, hy102⟩ : ∃ y_ : List Int, y_ = (List.replicate ((l0_0.length : Int) : Int).toNat 0) := ⟨_, rfl⟩
      replace H : (spec_RxOk.l0 kj1 (l0_0.length : Int) y102 0 l0_0) = some r := by first | (rw [hy102]; with_reducible exact H) | (have H2_ := (Option.bind_some _ _).symm.trans H; rw [hy102]; with_reducible exact H2_) | (have H2_ := (Option.bind_some _ _).symm.trans H; with_reducible exact H2_) | with_reducible exact H | (rw [hy102]; exact H) | exact H
      have Ny102 := Aside0.mk hy102
      clear hy102
      have H' := Aside0.mk H
      clear H
      go_wp2_with (((with_reducible refine gate_dst (N := 20) rfl ?_); refine Kd.R_make (Kd.int .i64) _ 3 rfl (N := 20) rfl 153 _ _ rfl (l0_0.length : Int) rfl rfl Try.underlying153 (.int .i64 0) 8 info3 rfl (by decide) (by omega) 0 (ok := fun _ => True) (okp := fun _ => True) rfl (fun _ hk => hk) trivial (of_decide_eq_true as_) (Nat.le_trans (Nat.mul_le_mul_right _ (of_decide_eq_true as_ : (l0_0.length : Int).toNat ≤ 35184372088832)) (by omega)) (Below.refl _ _) (Nat.le_refl _) ?_; intro v103 w9 ho10 hb hg_ hnew_; clear hg_ hnew_; (first | rw [← Ny102.out] at ho10 | (simp only [Int.reduceToNat] at ho10; rw [← Ny102.out] at ho10)); have HO104 := Aside0.mk (Kd.R_lower ho10 (below_size (be1_ HB.out GE101.out))); replace BK101 := lb_ BK101 hb; replace HB := sb1_ HB GE101 hb; clear hb ho10))
      go_loopg [5] kj1 (fun kq v5 w' => ∃ (x4_2 : List Int) (x5_2 : Int), v5 = .int .i64 x5_2 ∧ Aside0 (spec_RxOk.l0 kq (l0_0.length : Int) x4_2 x5_2 l0_0 = some r) ∧ Aside0 (kq ≤ kj1) ∧ Aside0 (Kd.R (Kd.int .i64) 3 w' w.heap.size (fun _ => True) v103 x4_2) ∧ Aside0 (w'.heap[gb101]? = some (.cells #[(.slice A0_0 l0_0.length c0_0)] 29 (0, 0))) ∧ Aside0 (Below w.heap.size w w'))
      case atStart => exact ⟨(y102), (0), rs_, H', ⟨Nat.le_refl _⟩, ⟨ra_ HO104.out⟩, ⟨bk_ BK101.out⟩, ⟨be1_ HB.out GE101.out⟩⟩
      case round =>
       clear H'
       try clear c5
       try clear c5b0
       try clear c5b1
       try clear c6
       try clear c7
       try clear c7b0
       try clear c7b1
       try clear c8
       try clear c8b0
       try clear c8b1
       try clear hcz4_0
       try clear hfz4_0
       obtain ⟨x4_2, x5_2, rfl, HA, HK2, HO_4, BK101, HB⟩ := hrel
       cases gk with
       | zero => exact absurd HA.out (by simp [spec_RxOk.l0])
       | succ k2 =>
        have H := HA.out
        clear HA
        simp only [spec_RxOk.l0] at H
        by_cases c11 : x5_2 < (l0_0.length : Int)
        ·rw [if_pos c11] at H
         have c11b0 := decide_eq_true c11
         clear c11
         by_cases c12 : 0 ≤ x5_2
         ·rw [if_pos c12] at H
          have c12b0 := decide_eq_true c12
          clear c12
          by_cases c13 : x5_2 < (l0_0.length : Int)
          ·rw [if_pos c13] at H
           have c13b0 := decide_eq_true c13
           clear c13
           obtain ⟨t106, A14, H⟩ := ob_ H
           by_cases c15 : t106 = true
           ·subst c15
            rw [if_pos rfl] at H
            have H' := Aside0.mk H
            clear H
            obtain ⟨hcz16_0, hfz16_0⟩ := d1_ BK101
            have p105 : 0 ≤ (x5_2 : Int) := of_decide_eq_true as_
            have q105 : x5_2 < (l0_0.length : Int) := of_decide_eq_true as_
            obtain ⟨ad105, A105_1, c105_1, A105_2, c105_2, e105, hx105_0, hx105_1, hx105_2, hx105_3, hx105_4, hl105_1, hi105_1, hl105_2, hi105_2⟩ := at_T156 HR0_0.out x5_2 p105 q105
            cases e105
            replace hx105_0 := mv_ HB.out hx105_0
            replace hx105_1 := mv_ HB.out hx105_1
            replace hx105_2 := mv_ HB.out hx105_2
            replace hx105_3 := mv_ HB.out hx105_3
            replace hx105_4 := mv_ HB.out hx105_4
            have HR105_1 := Aside0.mk hi105_1
            have HC105_1 := Aside0.mk hl105_1
            clear hi105_1 hl105_1
            have HR105_2 := Aside0.mk hi105_2
            have HC105_2 := Aside0.mk hl105_2
            clear hi105_2 hl105_2
            replace p105 := eq_true p105
            replace q105 := eq_true q105
            go_wp2_with (((with_reducible refine gate_callee (f := 116) rfl ?_); refine gl_ (some 32) rfl rfl Try.func116 #[.agg #[.int .i64 ((rd_T156 l0_0 x5_2).f0), .slice A105_1 ((rd_T156 l0_0 x5_2).f1).length c105_1, .slice A105_2 ((rd_T156 l0_0 x5_2).f2).length c105_2, .int .i64 ((rd_T156 l0_0 x5_2).f3), .int .i64 ((rd_T156 l0_0 x5_2).f4)], .int .i64 x5_2] ?_; (with_reducible refine (spec_l3Node.calls k2 ((rd_T156 l0_0 x5_2).f0) _ _ ((rd_T156 l0_0 x5_2).f1) _ _ ((rd_T156 l0_0 x5_2).f2) ((rd_T156 l0_0 x5_2).f3) ((rd_T156 l0_0 x5_2).f4) x5_2 true _ ?side1 ?side2 ?side3 ?side4 A14.out).mono ?_); (case side1 => exact Kd.C_below HR105_1.out (be_ HB.out)); (case side2 => exact HC105_1.out); (case side3 => exact Kd.C_below HR105_2.out (be_ HB.out)); (case side4 => exact HC105_2.out); rintro e w17 ⟨rfl, hb⟩; refine ⟨_, rfl, ?_⟩; replace HO_4 := Aside0.mk (Kd.R_below (ra_ HO_4.out) hb); replace BK101 := lb_ BK101 hb; replace HB := sb1_ HB GE101 hb; (try clear hb)))
            go_loopg [6] k2 (fun kq v6 w' => ∃ (x4_3 : List Int) (x6_3 : Int), v6 = .int .i64 x6_3 ∧ Aside0 (spec_RxOk.l1 kq (l0_0.length : Int) x4_3 x5_2 x6_3 l0_0 = some r) ∧ Aside0 (kq ≤ k2) ∧ Aside0 (Kd.R (Kd.int .i64) 3 w' w.heap.size (fun _ => True) v103 x4_3) ∧ Aside0 (w'.heap[gb101]? = some (.cells #[(.slice (some ad105) l0_0.length c0_0)] 29 (0, 0))) ∧ Aside0 (Below w.heap.size w w'))
            case atStart => exact ⟨(x4_2), (0), rs_, H', ⟨Nat.le_refl _⟩, ⟨ra_ HO_4.out⟩, ⟨bk_ BK101.out⟩, ⟨be1_ HB.out GE101.out⟩⟩
            case round =>
             clear H'
             try clear c5
             try clear c5b0
             try clear c5b1
             try clear c6
             try clear c7
             try clear c7b0
             try clear c7b1
             try clear c8
             try clear c8b0
             try clear c8b1
             try clear c11
             try clear c11b0
             try clear c12
             try clear c12b0
             try clear c13
             try clear c13b0
             try clear c15
             try clear hcz16_0
             try clear hcz4_0
             try clear hfz16_0
             try clear hfz4_0
             try clear hx105_0
             try clear hx105_1
             try clear hx105_2
             try clear hx105_3
             try clear hx105_4
             try clear p105
             try clear q105
             obtain ⟨x4_3, x6_3, rfl, HA, HK3, HO_4, BK101, HB⟩ := hrel
             cases gk with
             | zero => exact absurd HA.out (by simp [spec_RxOk.l1])
             | succ k3 =>
              have H := HA.out
              clear HA
              simp only [spec_RxOk.l1] at H
              by_cases c18 : 0 ≤ x5_2
              ·rw [if_pos c18] at H
               have c18b0 := decide_eq_true c18
               clear c18
               by_cases c19 : x5_2 < (l0_0.length : Int)
               ·rw [if_pos c19] at H
                have c19b0 := decide_eq_true c19
                clear c19
                by_cases c20 : x6_3 < (((rd_T156 l0_0 x5_2).f2).length : Int)
                ·rw [if_pos c20] at H
                 have c20b0 := decide_eq_true c20
                 clear c20
                 by_cases c21 : 0 ≤ x6_3
                 ·rw [if_pos c21] at H
                  have c21b0 := decide_eq_true c21
                  clear c21
                  by_cases c22 : 0 ≤ (rd ((rd_T156 l0_0 x5_2).f2) x6_3)
                  ·rw [if_pos c22] at H
                   have c22b0 := decide_eq_true c22
                   clear c22
                   by_cases c23 : (rd ((rd_T156 l0_0 x5_2).f2) x6_3) < (x4_3.length : Int)
                   ·rw [if_pos c23] at H
                    have c23b0 := decide_eq_true c23
                    clear c23
                    obtain ⟨y111, hy111⟩ : ∃ y_ : List Int, y_ = (x4_3.set ((rd ((rd_T156 l0_0 x5_2).f2) x6_3) : Int).toNat (wrap64 ((rd x4_3 (rd ((rd_T156 l0_0 x5_2).f2) x6_3)) + 1))) := ⟨_, rfl⟩
                    replace H : (spec_RxOk.l1 k3 (l0_0.length : Int) y111 x5_2 (wrap64 (x6_3 + 1)) l0_0) = some r := by first | (rw [hy111]; with_reducible exact H) | (have H2_ := (Option.bind_some _ _).symm.trans H; rw [hy111]; with_reducible exact H2_) | (have H2_ := (Option.bind_some _ _).symm.trans H; with_reducible exact H2_) | with_reducible exact H | (rw [hy111]; exact H) | exact H
                    have Ny111 := Aside0.mk hy111
                    clear hy111
                    have H' := Aside0.mk H
                    clear H
                    obtain ⟨hcz25_0, hfz25_0⟩ := d1_ BK101
                    have p107 : 0 ≤ (x5_2 : Int) := of_decide_eq_true as_
                    have q107 : x5_2 < (l0_0.length : Int) := of_decide_eq_true as_
                    obtain ⟨ad107, A107_1, c107_1, A107_2, c107_2, e107, hx107_0, hx107_1, hx107_2, hx107_3, hx107_4, hl107_1, hi107_1, hl107_2, hi107_2⟩ := at_T156 HR0_0.out x5_2 p107 q107
                    obtain rfl : ad105 = ad107 := (by injection e107)
                    replace hx107_0 := mv_ HB.out hx107_0
                    replace hx107_1 := mv_ HB.out hx107_1
                    replace hx107_2 := mv_ HB.out hx107_2
                    replace hx107_3 := mv_ HB.out hx107_3
                    replace hx107_4 := mv_ HB.out hx107_4
                    have HR107_1 := Aside0.mk hi107_1
                    have HC107_1 := Aside0.mk hl107_1
                    clear hi107_1 hl107_1
                    have HR107_2 := Aside0.mk hi107_2
                    have HC107_2 := Aside0.mk hl107_2
                    clear hi107_2 hl107_2
                    replace p107 := eq_true p107
                    replace q107 := eq_true q107
                    have p108 : 0 ≤ (x5_2 : Int) := of_decide_eq_true as_
                    have q108 : x5_2 < (l0_0.length : Int) := of_decide_eq_true as_
                    obtain ⟨ad108, A108_1, c108_1, A108_2, c108_2, e108, hx108_0, hx108_1, hx108_2, hx108_3, hx108_4, hl108_1, hi108_1, hl108_2, hi108_2⟩ := at_T156 HR0_0.out x5_2 p108 q108
                    obtain rfl : ad105 = ad108 := (by injection e108)
                    replace hx108_0 := mv_ HB.out hx108_0
                    replace hx108_1 := mv_ HB.out hx108_1
                    replace hx108_2 := mv_ HB.out hx108_2
                    replace hx108_3 := mv_ HB.out hx108_3
                    replace hx108_4 := mv_ HB.out hx108_4
                    have HR108_1 := Aside0.mk hi108_1
                    have HC108_1 := Aside0.mk hl108_1
                    clear hi108_1 hl108_1
                    have HR108_2 := Aside0.mk hi108_2
                    have HC108_2 := Aside0.mk hl108_2
                    clear hi108_2 hl108_2
                    replace p108 := eq_true p108
                    replace q108 := eq_true q108
                    have ea_ := Option.some.inj (hx107_1.symm.trans hx108_1)
                    injection ea_ with ea_ en_ ec_
                    subst ea_
                    subst ec_
                    clear en_
                    have ea_ := Option.some.inj (hx107_2.symm.trans hx108_2)
                    injection ea_ with ea_ en_ ec_
                    subst ea_
                    subst ec_
                    clear en_
                    have p109 : 0 ≤ (x6_3 : Int) := of_decide_eq_true as_
                    have q109 : x6_3 < (((rd_T156 l0_0 x5_2).f2).length : Int) := of_decide_eq_true as_
                    obtain ⟨ad109, e109, hx109_0⟩ := Kd.at_int HR108_2.out x6_3 p109 q109
                    cases e109
                    replace hx109_0 := mv_ HB.out hx109_0
                    replace p109 := eq_true p109
                    replace q109 := eq_true q109
                    obtain ⟨Ao26, co26, eo26⟩ := Kd.R_slice HO_4.out
                    subst eo26
                    have p110 : 0 ≤ ((rd ((rd_T156 l0_0 x5_2).f2) x6_3) : Int) := of_decide_eq_true as_
                    have q110 : (rd ((rd_T156 l0_0 x5_2).f2) x6_3) < (x4_3.length : Int) := of_decide_eq_true as_
                    obtain ⟨ad110, e110, hx110_0⟩ := Kd.at_int (Kd.R_reads' HO_4.out).2.2 (rd ((rd_T156 l0_0 x5_2).f2) x6_3) p110 q110
                    cases e110
                    replace p110 := eq_true p110
                    replace q110 := eq_true q110
                    have p24 : 0 ≤ ((rd ((rd_T156 l0_0 x5_2).f2) x6_3) : Int) := of_decide_eq_true as_
                    have q24 : ((rd ((rd_T156 l0_0 x5_2).f2) x6_3) : Int) < ((x4_3.length : Int) : Int) := of_decide_eq_true as_
                    obtain ⟨go24, co24, eo24, gb24, gl24, cl24, HG24⟩ := Kd.R_form HO_4.out (by omega)
                    (first | cases eo24 | (injection eo24 with ea_ en_ ec_; (first | subst ea_ | (injection ea_ with ea_; subst ea_)); subst ec_; clear en_))
                    have GB24 := Aside0.mk gb24
                    have GG24 := Aside0.mk HG24
                    clear gb24 gl24 HG24
                    (first | simp only [add_plain] at hx110_0 | skip)
                    obtain ⟨hx24_0, hf24_0⟩ := Kd.R_celln 0 HO_4.out ((rd ((rd_T156 l0_0 x5_2).f2) x6_3) : Int) p24 q24
                    replace p24 := eq_true p24
                    replace q24 := eq_true q24
                    have HP27 := Kd.R_putg HO_4.out ((rd ((rd_T156 l0_0 x5_2).f2) x6_3) : Int) (wrap64 ((rd x4_3 (rd ((rd_T156 l0_0 x5_2).f2) x6_3)) + 1))
                    go_wp2_with (((with_reducible refine gate_store (t := 3) (p := 58) rfl ?_); refine store_event (t := 3) (p := 58) (v := ?vo_w28) (w1 := (wr.setCell ⟨go24, ((rd ((rd_T156 l0_0 x5_2).f2) x6_3) : Int).toNat, none⟩ (.int .i64 (wrap64 ((rd x4_3 (rd ((rd_T156 l0_0 x5_2).f2) x6_3)) + 1))))) ?hg ?ho ?hn ?hr ?_; (case ho => rfl); (case hg => rfl); (case hn => rfl); (case hr => first | (go_simp; done) | (go_simp; rfl)); intro w28 hw; have hg : wr.grownBy w28 (some go24) := (by rw [hw]; exact HP27.2); have hp_ : Kd.R (Kd.int .i64) 3 w28 w.heap.size (fun _ => True) (.slice (some ⟨go24, 0, none⟩) x4_3.length co26) y111 := (by rw [hw, Ny111.out]; exact HP27.1); clear HP27; replace BK101 := Aside0.mk (blk_grown (g := gb101) (o := .cells #[.slice (some ad105) l0_0.length c0_0] 29 (0, 0)) (bk_ BK101.out) hg (Kd.R_ne HO_4.out BK101.out (by decide))); replace HO_4 := Aside0.mk (hp_); replace HB := Aside0.mk ((by rw [hw]; exact below_set (HB.out) GB24.out : Below w.heap.size w w28)); clear hg hw hp_))
                    go_roundg k3
                    case measure => have := HJ1.out; have := HK2.out; have := HK3.out; omega
                    case rel => exact ⟨(y111), (wrap64 (x6_3 + 1)), rs_, H', ⟨by have := HJ1.out; have := HK2.out; have := HK3.out; omega⟩, ⟨ra_ HO_4.out⟩, ⟨bk_ BK101.out⟩, ⟨be1_ HB.out GE101.out⟩⟩
                   ·rw [if_neg c23] at H
                    exact absurd H (by simp)
                  ·rw [if_neg c22] at H
                   exact absurd H (by simp)
                 ·rw [if_neg c21] at H
                  exact absurd H (by simp)
                ·rw [if_neg c20] at H
                 have c20b0 := decide_eq_false c20
                 clear c20
                 have H' := Aside0.mk H
                 clear H
                 obtain ⟨hcz29_0, hfz29_0⟩ := d1_ BK101
                 have p107 : 0 ≤ (x5_2 : Int) := of_decide_eq_true as_
                 have q107 : x5_2 < (l0_0.length : Int) := of_decide_eq_true as_
                 obtain ⟨ad107, A107_1, c107_1, A107_2, c107_2, e107, hx107_0, hx107_1, hx107_2, hx107_3, hx107_4, hl107_1, hi107_1, hl107_2, hi107_2⟩ := at_T156 HR0_0.out x5_2 p107 q107
                 obtain rfl : ad105 = ad107 := (by injection e107)
                 replace hx107_0 := mv_ HB.out hx107_0
                 replace hx107_1 := mv_ HB.out hx107_1
                 replace hx107_2 := mv_ HB.out hx107_2
                 replace hx107_3 := mv_ HB.out hx107_3
                 replace hx107_4 := mv_ HB.out hx107_4
                 have HR107_1 := Aside0.mk hi107_1
                 have HC107_1 := Aside0.mk hl107_1
                 clear hi107_1 hl107_1
                 have HR107_2 := Aside0.mk hi107_2
                 have HC107_2 := Aside0.mk hl107_2
                 clear hi107_2 hl107_2
                 replace p107 := eq_true p107
                 replace q107 := eq_true q107
                 go_wp2
                 go_roundg k3
                 case measure => have := HJ1.out; have := HK2.out; have := HK3.out; omega
                 case rel => exact ⟨(x4_3), (wrap64 (x5_2 + 1)), rs_, H', ⟨by have := HJ1.out; have := HK2.out; have := HK3.out; omega⟩, ⟨ra_ HO_4.out⟩, ⟨bk_ BK101.out⟩, ⟨be1_ HB.out GE101.out⟩⟩
               ·rw [if_neg c19] at H
                exact absurd H (by simp)
              ·rw [if_neg c18] at H
               exact absurd H (by simp)
           ·replace c15 := Bool.eq_false_iff.mpr c15
            subst c15
            rw [if_neg nft_] at H
            obtain rfl := Option.some.inj H
            obtain ⟨hcz30_0, hfz30_0⟩ := d1_ BK101
            have p105 : 0 ≤ (x5_2 : Int) := of_decide_eq_true as_
            have q105 : x5_2 < (l0_0.length : Int) := of_decide_eq_true as_
            obtain ⟨ad105, A105_1, c105_1, A105_2, c105_2, e105, hx105_0, hx105_1, hx105_2, hx105_3, hx105_4, hl105_1, hi105_1, hl105_2, hi105_2⟩ := at_T156 HR0_0.out x5_2 p105 q105
            cases e105
            replace hx105_0 := mv_ HB.out hx105_0
            replace hx105_1 := mv_ HB.out hx105_1
            replace hx105_2 := mv_ HB.out hx105_2
            replace hx105_3 := mv_ HB.out hx105_3
            replace hx105_4 := mv_ HB.out hx105_4
            have HR105_1 := Aside0.mk hi105_1
            have HC105_1 := Aside0.mk hl105_1
            clear hi105_1 hl105_1
            have HR105_2 := Aside0.mk hi105_2
            have HC105_2 := Aside0.mk hl105_2
            clear hi105_2 hl105_2
            replace p105 := eq_true p105
            replace q105 := eq_true q105
            go_wp2_with (((with_reducible refine gate_callee (f := 116) rfl ?_); refine gl_ (some 32) rfl rfl Try.func116 #[.agg #[.int .i64 ((rd_T156 l0_0 x5_2).f0), .slice A105_1 ((rd_T156 l0_0 x5_2).f1).length c105_1, .slice A105_2 ((rd_T156 l0_0 x5_2).f2).length c105_2, .int .i64 ((rd_T156 l0_0 x5_2).f3), .int .i64 ((rd_T156 l0_0 x5_2).f4)], .int .i64 x5_2] ?_; (with_reducible refine (spec_l3Node.calls k2 ((rd_T156 l0_0 x5_2).f0) _ _ ((rd_T156 l0_0 x5_2).f1) _ _ ((rd_T156 l0_0 x5_2).f2) ((rd_T156 l0_0 x5_2).f3) ((rd_T156 l0_0 x5_2).f4) x5_2 false _ ?side1 ?side2 ?side3 ?side4 A14.out).mono ?_); (case side1 => exact Kd.C_below HR105_1.out (be_ HB.out)); (case side2 => exact HC105_1.out); (case side3 => exact Kd.C_below HR105_2.out (be_ HB.out)); (case side4 => exact HC105_2.out); rintro e w31 ⟨rfl, hb⟩; refine ⟨_, rfl, ?_⟩; replace HO_4 := Aside0.mk (Kd.R_below (ra_ HO_4.out) hb); replace BK101 := lb_ BK101 hb; replace HB := sb1_ HB GE101 hb; (try clear hb)))
            go_ret
            exact ⟨rt_, be1_ HB.out GE101.out⟩
          ·rw [if_neg c13] at H
           exact absurd H (by simp)
         ·rw [if_neg c12] at H
          exact absurd H (by simp)
        ·rw [if_neg c11] at H
         have c11b0 := decide_eq_false c11
         clear c11
         by_cases c32 : 0 ≤ (l0_0.length : Int)
         ·rw [if_pos c32] at H
          have c32b0 := eq_true c32
          have c32b1 := decide_eq_true c32
          clear c32
          by_cases c33 : ((l0_0.length : Int) : Int).toNat ≤ 35184372088832
          ·rw [if_pos c33] at H
           have c33b0 := eq_true c33
           have c33b1 := decide_eq_true c33
           clear c33
           obtain ⟨y112, hy112⟩ : ∃ y_ : List Int, y_ = (List.replicate ((l0_0.length : Int) : Int).toNat 0) := ⟨_, rfl⟩
           replace H : (spec_RxOk.l2 k2 (l0_0.length : Int) x4_2 y112 (wrap64 ((l0_0.length : Int) - 1)) l0_0) = some r := by first | (rw [hy112]; with_reducible exact H) | (have H2_ := (Option.bind_some _ _).symm.trans H; rw [hy112]; with_reducible exact H2_) | (have H2_ := (Option.bind_some _ _).symm.trans H; with_reducible exact H2_) | with_reducible exact H | (rw [hy112]; exact H) | exact H
           have Ny112 := Aside0.mk hy112
           clear hy112
           have H' := Aside0.mk H
           clear H
           go_wp2_with (((with_reducible refine gate_dst (N := 60) rfl ?_); refine Kd.R_make (Kd.int .i64) _ 3 rfl (N := 60) rfl 153 _ _ rfl (l0_0.length : Int) rfl rfl Try.underlying153 (.int .i64 0) 8 info3 rfl (by decide) (by omega) 0 (ok := fun _ => True) (okp := fun _ => True) rfl (fun _ hk => hk) trivial (of_decide_eq_true as_) (Nat.le_trans (Nat.mul_le_mul_right _ (of_decide_eq_true as_ : (l0_0.length : Int).toNat ≤ 35184372088832)) (by omega)) (Below.refl _ _) (Nat.le_refl _) ?_; intro v113 w34 ho35 hb hg_ hnew_; clear hg_ hnew_; (first | rw [← Ny112.out] at ho35 | (simp only [Int.reduceToNat] at ho35; rw [← Ny112.out] at ho35)); have HO114 := Aside0.mk (Kd.R_lower (Kd.R_new' ho35 (Kd.R_lt (ra_ HO_4.out))) (below_size (be1_ HB.out GE101.out))); replace HO_4 := Aside0.mk (Kd.R_elder' (ra_ HO_4.out) (Kd.R_base ho35) hb); replace BK101 := lb_ BK101 hb; replace HB := sb1_ HB GE101 hb; clear hb ho35))
           go_loopg [8] k2 (fun kq v8 w' => ∃ (x7_3 : List Int) (x8_3 : Int), v8 = .int .i64 x8_3 ∧ Aside0 (spec_RxOk.l2 kq (l0_0.length : Int) x4_2 x7_3 x8_3 l0_0 = some r) ∧ Aside0 (kq ≤ k2) ∧ Aside0 (Kd.R (Kd.int .i64) 3 w' w.heap.size (fun k_ => some k_ ≠ (v113 : Value).ownBlock) v103 x4_2) ∧ Aside0 (Kd.R (Kd.int .i64) 3 w' w.heap.size (fun k_ => some k_ ≠ (v103 : Value).ownBlock) v113 x7_3) ∧ Aside0 (w'.heap[gb101]? = some (.cells #[(.slice A0_0 l0_0.length c0_0)] 29 (0, 0))) ∧ Aside0 (Below w.heap.size w w'))
           case atStart => exact ⟨(y112), (wrap64 ((l0_0.length : Int) - 1)), rs_, H', ⟨Nat.le_refl _⟩, ⟨by (with_reducible repeat (first | apply Kd.R_alloc | apply Kd.R_drewN | apply Kd.R_drew)); exact Kd.R_mono HO_4.out (fun _ hk => hk.2)⟩, ⟨by (with_reducible repeat (first | apply Kd.R_alloc | apply Kd.R_drewN | apply Kd.R_drew)); exact Kd.R_mono HO114.out (fun _ hk => hk.2)⟩, ⟨bk_ BK101.out⟩, ⟨be1_ HB.out GE101.out⟩⟩
           case round =>
            clear H'
            try clear c5
            try clear c5b0
            try clear c5b1
            try clear c6
            try clear c7
            try clear c7b0
            try clear c7b1
            try clear c8
            try clear c8b0
            try clear c8b1
            try clear c11
            try clear c11b0
            try clear c12
            try clear c12b0
            try clear c13
            try clear c13b0
            try clear c15
            try clear c18
            try clear c18b0
            try clear c19
            try clear c19b0
            try clear c20
            try clear c20b0
            try clear c21
            try clear c21b0
            try clear c22
            try clear c22b0
            try clear c23
            try clear c23b0
            try clear p24
            try clear q24
            try clear c32
            try clear c32b0
            try clear c32b1
            try clear c33
            try clear c33b0
            try clear c33b1
            try clear hcz16_0
            try clear hcz25_0
            try clear hcz29_0
            try clear hcz30_0
            try clear hcz4_0
            try clear hfz16_0
            try clear hfz25_0
            try clear hfz29_0
            try clear hfz30_0
            try clear hfz4_0
            try clear hx105_0
            try clear hx105_1
            try clear hx105_2
            try clear hx105_3
            try clear hx105_4
            try clear hx107_0
            try clear hx107_1
            try clear hx107_2
            try clear hx107_3
            try clear hx107_4
            try clear hx108_0
            try clear hx108_1
            try clear hx108_2
            try clear hx108_3
            try clear hx108_4
            try clear hx109_0
            try clear hx110_0
            try clear hx24_0
            try clear p105
            try clear p107
            try clear p108
            try clear p109
            try clear p110
            try clear p24
            try clear q105
            try clear q107
            try clear q108
            try clear q109
            try clear q110
            try clear q24
            obtain ⟨x7_3, x8_3, rfl, HA, HK3, HO_4, HO_7, BK101, HB⟩ := hrel
            cases gk with
            | zero => exact absurd HA.out (by simp [spec_RxOk.l2])
            | succ k3 =>
             have H := HA.out
             clear HA
             simp only [spec_RxOk.l2] at H
             by_cases c36 : x8_3 ≥ 0
             ·rw [if_pos c36] at H
              have c36b0 : decide (0 ≤ x8_3) = true := decide_eq_true c36
              clear c36
              have HC37 := Aside0.mk H
              clear H
              go_upto_region 18 with (fail)
              go_cut [84] (fun v84 wc => ∃ (kq : Nat) (x84_36 : Bool), v84 = .bool x84_36 ∧ Aside0 (spec_RxOk.j4 kq (l0_0.length : Int) x4_2 x7_3 x8_3 x84_36 l0_0 = some r) ∧ Aside0 (kq ≤ k3) ∧ Aside0 (Kd.R (Kd.int .i64) 3 wc w.heap.size (fun k_ => some k_ ≠ (v113 : Value).ownBlock) v103 x4_2) ∧ Aside0 (Kd.R (Kd.int .i64) 3 wc w.heap.size (fun k_ => some k_ ≠ (v103 : Value).ownBlock) v113 x7_3) ∧ Aside0 (wc.heap[gb101]? = some (.cells #[(.slice A0_0 l0_0.length c0_0)] 29 (0, 0))) ∧ Aside0 (Below w.heap.size w wc))
              case first =>
               have H := HC37.out
               clear HC37
               by_cases c38 : x8_3 < (wrap64 ((l0_0.length : Int) - 1))
               ·rw [if_pos c38] at H
                have c38b0 := decide_eq_true c38
                clear c38
                (first | rw [c38b0] | (simp only [i64_w, i32_w]; rw [c38b0]) | skip)
                by_cases c39 : 0 ≤ x8_3
                ·rw [if_pos c39] at H
                 have c39b0 := decide_eq_true c39
                 clear c39
                 by_cases c40 : x8_3 < (x4_2.length : Int)
                 ·rw [if_pos c40] at H
                  have c40b0 := decide_eq_true c40
                  clear c40
                  by_cases c41 : (rd x4_2 x8_3) = 1
                  ·rw [if_pos c41] at H
                   have c41b0 : ((rd x4_2 x8_3) == 1) = true := beq_iff_eq.mpr c41
                   have c41b1 : ((rd x4_2 x8_3) != 1) = false := bne_eq_false_iff_eq.mpr c41
                   clear c41
                   by_cases c42 : x8_3 < (x7_3.length : Int)
                   ·rw [if_pos c42] at H
                    have c42b0 := decide_eq_true c42
                    clear c42
                    have H' := Aside0.mk H
                    clear H
                    obtain ⟨Ao43, co43, eo43⟩ := Kd.R_slice HO_4.out
                    subst eo43
                    have p115 : 0 ≤ (x8_3 : Int) := of_decide_eq_true as_
                    have q115 : x8_3 < (x4_2.length : Int) := of_decide_eq_true as_
                    obtain ⟨ad115, e115, hx115_0⟩ := Kd.at_int (Kd.R_reads' HO_4.out).2.2 x8_3 p115 q115
                    cases e115
                    replace p115 := eq_true p115
                    replace q115 := eq_true q115
                    obtain ⟨Ao44, co44, eo44⟩ := Kd.R_slice HO_7.out
                    subst eo44
                    have p116 : 0 ≤ (x8_3 : Int) := of_decide_eq_true as_
                    have q116 : x8_3 < (x7_3.length : Int) := of_decide_eq_true as_
                    obtain ⟨ad116, e116, hx116_0⟩ := Kd.at_int (Kd.R_reads' HO_7.out).2.2 x8_3 p116 q116
                    cases e116
                    replace p116 := eq_true p116
                    replace q116 := eq_true q116
                    go_wp2
                    go_meet
                    case rel => exact ⟨_, (decide ((rd x7_3 x8_3) > 150)), rs_, H', ⟨by have := HJ1.out; have := HK2.out; have := HK3.out; first | omega | exact Nat.le_refl _⟩, ⟨ra_ HO_4.out⟩, ⟨ra_ HO_7.out⟩, ⟨bk_ BK101.out⟩, ⟨be1_ HB.out GE101.out⟩⟩
                   ·rw [if_neg c42] at H
                    exact absurd H (by simp)
                  ·rw [if_neg c41] at H
                   have c41b0 : ((rd x4_2 x8_3) == 1) = false := beq_eq_false_iff_ne.mpr c41
                   have c41b1 : ((rd x4_2 x8_3) != 1) = true := bne_iff_ne.mpr c41
                   have H' := Aside0.mk H
                   clear H
                   obtain ⟨Ao45, co45, eo45⟩ := Kd.R_slice HO_4.out
                   subst eo45
                   have p115 : 0 ≤ (x8_3 : Int) := of_decide_eq_true as_
                   have q115 : x8_3 < (x4_2.length : Int) := of_decide_eq_true as_
                   obtain ⟨ad115, e115, hx115_0⟩ := Kd.at_int (Kd.R_reads' HO_4.out).2.2 x8_3 p115 q115
                   cases e115
                   replace p115 := eq_true p115
                   replace q115 := eq_true q115
                   go_wp2
                   go_meet
                   case rel => exact ⟨_, (true), rs_, H', ⟨by have := HJ1.out; have := HK2.out; have := HK3.out; first | omega | exact Nat.le_refl _⟩, ⟨ra_ HO_4.out⟩, ⟨ra_ HO_7.out⟩, ⟨bk_ BK101.out⟩, ⟨be1_ HB.out GE101.out⟩⟩
                 ·rw [if_neg c40] at H
                  exact absurd H (by simp)
                ·rw [if_neg c39] at H
                 exact absurd H (by simp)
               ·rw [if_neg c38] at H
                have c38b0 := decide_eq_false c38
                clear c38
                (first | rw [c38b0] | (simp only [i64_w, i32_w]; rw [c38b0]) | skip)
                by_cases c46 : 0 ≤ x8_3
                ·rw [if_pos c46] at H
                 have c46b0 := decide_eq_true c46
                 clear c46
                 by_cases c47 : x8_3 < (x7_3.length : Int)
                 ·rw [if_pos c47] at H
                  have c47b0 := decide_eq_true c47
                  clear c47
                  have H' := Aside0.mk H
                  clear H
                  obtain ⟨Ao48, co48, eo48⟩ := Kd.R_slice HO_7.out
                  subst eo48
                  have p117 : 0 ≤ (x8_3 : Int) := of_decide_eq_true as_
                  have q117 : x8_3 < (x7_3.length : Int) := of_decide_eq_true as_
                  obtain ⟨ad117, e117, hx117_0⟩ := Kd.at_int (Kd.R_reads' HO_7.out).2.2 x8_3 p117 q117
                  cases e117
                  replace p117 := eq_true p117
                  replace q117 := eq_true q117
                  go_wp2
                  go_meet
                  case rel => exact ⟨_, (decide ((rd x7_3 x8_3) > 150)), rs_, H', ⟨by have := HJ1.out; have := HK2.out; have := HK3.out; first | omega | exact Nat.le_refl _⟩, ⟨ra_ HO_4.out⟩, ⟨ra_ HO_7.out⟩, ⟨bk_ BK101.out⟩, ⟨be1_ HB.out GE101.out⟩⟩
                 ·rw [if_neg c47] at H
                  exact absurd H (by simp)
                ·rw [if_neg c46] at H
                 exact absurd H (by simp)
              case rest =>
               clear HC37
               try clear c5
               try clear c5b0
               try clear c5b1
               try clear c6
               try clear c7
               try clear c7b0
               try clear c7b1
               try clear c8
               try clear c8b0
               try clear c8b1
               try clear c11
               try clear c11b0
               try clear c12
               try clear c12b0
               try clear c13
               try clear c13b0
               try clear c15
               try clear c18
               try clear c18b0
               try clear c19
               try clear c19b0
               try clear c20
               try clear c20b0
               try clear c21
               try clear c21b0
               try clear c22
               try clear c22b0
               try clear c23
               try clear c23b0
               try clear p24
               try clear q24
               try clear c32
               try clear c32b0
               try clear c32b1
               try clear c33
               try clear c33b0
               try clear c33b1
               try clear c36
               try clear c36b0
               try clear c38
               try clear c38b0
               try clear c39
               try clear c39b0
               try clear c40
               try clear c40b0
               try clear c41
               try clear c41b0
               try clear c41b1
               try clear c42
               try clear c42b0
               try clear c46
               try clear c46b0
               try clear c47
               try clear c47b0
               try clear hcz16_0
               try clear hcz25_0
               try clear hcz29_0
               try clear hcz30_0
               try clear hcz4_0
               try clear hfz16_0
               try clear hfz25_0
               try clear hfz29_0
               try clear hfz30_0
               try clear hfz4_0
               try clear hx105_0
               try clear hx105_1
               try clear hx105_2
               try clear hx105_3
               try clear hx105_4
               try clear hx107_0
               try clear hx107_1
               try clear hx107_2
               try clear hx107_3
               try clear hx107_4
               try clear hx108_0
               try clear hx108_1
               try clear hx108_2
               try clear hx108_3
               try clear hx108_4
               try clear hx109_0
               try clear hx110_0
               try clear hx115_0
               try clear hx116_0
               try clear hx117_0
               try clear hx24_0
               try clear p105
               try clear p107
               try clear p108
               try clear p109
               try clear p110
               try clear p115
               try clear p116
               try clear p117
               try clear p24
               try clear q105
               try clear q107
               try clear q108
               try clear q109
               try clear q110
               try clear q115
               try clear q116
               try clear q117
               try clear q24
               obtain ⟨kq, x84_36, rfl, HA, HJ36, HO_4, HO_7, BK101, HB⟩ := hcut
               cases kq with
               | zero => exact absurd HA.out (by simp [spec_RxOk.j4])
               | succ kj36 =>
                have H := HA.out
                clear HA
                simp only [spec_RxOk.j4] at H
                by_cases c49 : x84_36 = true
                ·subst c49
                 rw [if_pos rfl] at H
                 obtain rfl := Option.some.inj H
                 go_wp2
                 go_ret
                 exact ⟨rt_, be1_ HB.out GE101.out⟩
                ·replace c49 := Bool.eq_false_iff.mpr c49
                 subst c49
                 rw [if_neg nft_] at H
                 have H' := Aside0.mk H
                 clear H
                 go_wp2
                 go_loopg [9] kj36 (fun kq v9 w' => ∃ (x7_5 : List Int) (x9_5 : Int), v9 = .int .i64 x9_5 ∧ Aside0 (spec_RxOk.l3 kq (l0_0.length : Int) x4_2 x7_5 x8_3 x9_5 l0_0 = some r) ∧ Aside0 (kq ≤ kj36) ∧ Aside0 (Kd.R (Kd.int .i64) 3 w' w.heap.size (fun k_ => some k_ ≠ (v113 : Value).ownBlock) v103 x4_2) ∧ Aside0 (Kd.R (Kd.int .i64) 3 w' w.heap.size (fun k_ => some k_ ≠ (v103 : Value).ownBlock) v113 x7_5) ∧ Aside0 (w'.heap[gb101]? = some (.cells #[(.slice A0_0 l0_0.length c0_0)] 29 (0, 0))) ∧ Aside0 (Below w.heap.size w w'))
                 case atStart => exact ⟨(x7_3), (0), rs_, H', ⟨Nat.le_refl _⟩, ⟨ra_ HO_4.out⟩, ⟨ra_ HO_7.out⟩, ⟨bk_ BK101.out⟩, ⟨be1_ HB.out GE101.out⟩⟩
                 case round =>
                  clear H'
                  try clear c5
                  try clear c5b0
                  try clear c5b1
                  try clear c6
                  try clear c7
                  try clear c7b0
                  try clear c7b1
                  try clear c8
                  try clear c8b0
                  try clear c8b1
                  try clear c11
                  try clear c11b0
                  try clear c12
                  try clear c12b0
                  try clear c13
                  try clear c13b0
                  try clear c15
                  try clear c18
                  try clear c18b0
                  try clear c19
                  try clear c19b0
                  try clear c20
                  try clear c20b0
                  try clear c21
                  try clear c21b0
                  try clear c22
                  try clear c22b0
                  try clear c23
                  try clear c23b0
                  try clear p24
                  try clear q24
                  try clear c32
                  try clear c32b0
                  try clear c32b1
                  try clear c33
                  try clear c33b0
                  try clear c33b1
                  try clear c36
                  try clear c36b0
                  try clear c38
                  try clear c38b0
                  try clear c39
                  try clear c39b0
                  try clear c40
                  try clear c40b0
                  try clear c41
                  try clear c41b0
                  try clear c41b1
                  try clear c42
                  try clear c42b0
                  try clear c46
                  try clear c46b0
                  try clear c47
                  try clear c47b0
                  try clear c49
                  try clear hcz16_0
                  try clear hcz25_0
                  try clear hcz29_0
                  try clear hcz30_0
                  try clear hcz4_0
                  try clear hfz16_0
                  try clear hfz25_0
                  try clear hfz29_0
                  try clear hfz30_0
                  try clear hfz4_0
                  try clear hx105_0
                  try clear hx105_1
                  try clear hx105_2
                  try clear hx105_3
                  try clear hx105_4
                  try clear hx107_0
                  try clear hx107_1
                  try clear hx107_2
                  try clear hx107_3
                  try clear hx107_4
                  try clear hx108_0
                  try clear hx108_1
                  try clear hx108_2
                  try clear hx108_3
                  try clear hx108_4
                  try clear hx109_0
                  try clear hx110_0
                  try clear hx115_0
                  try clear hx116_0
                  try clear hx117_0
                  try clear hx24_0
                  try clear p105
                  try clear p107
                  try clear p108
                  try clear p109
                  try clear p110
                  try clear p115
                  try clear p116
                  try clear p117
                  try clear p24
                  try clear q105
                  try clear q107
                  try clear q108
                  try clear q109
                  try clear q110
                  try clear q115
                  try clear q116
                  try clear q117
                  try clear q24
                  obtain ⟨x7_5, x9_5, rfl, HA, HK5, HO_4, HO_7, BK101, HB⟩ := hrel
                  cases gk with
                  | zero => exact absurd HA.out (by simp [spec_RxOk.l3])
                  | succ k5 =>
                   have H := HA.out
                   clear HA
                   simp only [spec_RxOk.l3] at H
                   by_cases c50 : 0 ≤ x8_3
                   ·rw [if_pos c50] at H
                    have c50b0 := decide_eq_true c50
                    clear c50
                    by_cases c51 : x8_3 < (l0_0.length : Int)
                    ·rw [if_pos c51] at H
                     have c51b0 := decide_eq_true c51
                     clear c51
                     by_cases c52 : x9_5 < (((rd_T156 l0_0 x8_3).f2).length : Int)
                     ·rw [if_pos c52] at H
                      have c52b0 := decide_eq_true c52
                      clear c52
                      by_cases c53 : 0 ≤ x9_5
                      ·rw [if_pos c53] at H
                       have c53b0 := decide_eq_true c53
                       clear c53
                       by_cases c54 : x8_3 < (x7_5.length : Int)
                       ·rw [if_pos c54] at H
                        have c54b0 := decide_eq_true c54
                        clear c54
                        by_cases c55 : 0 ≤ (rd ((rd_T156 l0_0 x8_3).f2) x9_5)
                        ·rw [if_pos c55] at H
                         have c55b0 := decide_eq_true c55
                         clear c55
                         by_cases c56 : (rd ((rd_T156 l0_0 x8_3).f2) x9_5) < (x7_5.length : Int)
                         ·rw [if_pos c56] at H
                          have c56b0 := decide_eq_true c56
                          clear c56
                          obtain ⟨y122, hy122⟩ : ∃ y_ : List Int, y_ = (x7_5.set ((rd ((rd_T156 l0_0 x8_3).f2) x9_5) : Int).toNat (wrap64 ((rd x7_5 x8_3) + 1))) := ⟨_, rfl⟩
                          replace H : (spec_RxOk.l3 k5 (l0_0.length : Int) x4_2 y122 x8_3 (wrap64 (x9_5 + 1)) l0_0) = some r := by first | (rw [hy122]; with_reducible exact H) | (have H2_ := (Option.bind_some _ _).symm.trans H; rw [hy122]; with_reducible exact H2_) | (have H2_ := (Option.bind_some _ _).symm.trans H; with_reducible exact H2_) | with_reducible exact H | (rw [hy122]; exact H) | exact H
                          have Ny122 := Aside0.mk hy122
                          clear hy122
                          have H' := Aside0.mk H
                          clear H
                          obtain ⟨hcz58_0, hfz58_0⟩ := d1_ BK101
                          have p118 : 0 ≤ (x8_3 : Int) := of_decide_eq_true as_
                          have q118 : x8_3 < (l0_0.length : Int) := of_decide_eq_true as_
                          obtain ⟨ad118, A118_1, c118_1, A118_2, c118_2, e118, hx118_0, hx118_1, hx118_2, hx118_3, hx118_4, hl118_1, hi118_1, hl118_2, hi118_2⟩ := at_T156 HR0_0.out x8_3 p118 q118
                          cases e118
                          replace hx118_0 := mv_ HB.out hx118_0
                          replace hx118_1 := mv_ HB.out hx118_1
                          replace hx118_2 := mv_ HB.out hx118_2
                          replace hx118_3 := mv_ HB.out hx118_3
                          replace hx118_4 := mv_ HB.out hx118_4
                          have HR118_1 := Aside0.mk hi118_1
                          have HC118_1 := Aside0.mk hl118_1
                          clear hi118_1 hl118_1
                          have HR118_2 := Aside0.mk hi118_2
                          have HC118_2 := Aside0.mk hl118_2
                          clear hi118_2 hl118_2
                          replace p118 := eq_true p118
                          replace q118 := eq_true q118
                          try go_wp2
                          replace HO_4 := Aside0.mk (Kd.R_drew HO_4.out)
                          replace HO_7 := Aside0.mk (Kd.R_drew HO_7.out)
                          replace BK101 := Aside0.mk (blk_drew BK101.out)
                          replace HB := Aside0.mk (below_drew1 HB.out)
                          have p119 : 0 ≤ (x8_3 : Int) := of_decide_eq_true as_
                          have q119 : x8_3 < (l0_0.length : Int) := of_decide_eq_true as_
                          obtain ⟨ad119, A119_1, c119_1, A119_2, c119_2, e119, hx119_0, hx119_1, hx119_2, hx119_3, hx119_4, hl119_1, hi119_1, hl119_2, hi119_2⟩ := at_T156 HR0_0.out x8_3 p119 q119
                          have hw119_4 := hx119_4
                          have hw119_3 := hx119_3
                          have hw119_2 := hx119_2
                          have hw119_1 := hx119_1
                          have hw119_0 := hx119_0
                          obtain rfl : ad118 = ad119 := (by injection e119)
                          replace hx119_0 := mv_ HB.out hx119_0
                          replace hx119_1 := mv_ HB.out hx119_1
                          replace hx119_2 := mv_ HB.out hx119_2
                          replace hx119_3 := mv_ HB.out hx119_3
                          replace hx119_4 := mv_ HB.out hx119_4
                          have HR119_1 := Aside0.mk hi119_1
                          have HC119_1 := Aside0.mk hl119_1
                          clear hi119_1 hl119_1
                          have HR119_2 := Aside0.mk hi119_2
                          have HC119_2 := Aside0.mk hl119_2
                          clear hi119_2 hl119_2
                          replace p119 := eq_true p119
                          replace q119 := eq_true q119
                          have p120 : 0 ≤ (x9_5 : Int) := of_decide_eq_true as_
                          have q120 : x9_5 < (((rd_T156 l0_0 x8_3).f2).length : Int) := of_decide_eq_true as_
                          obtain ⟨ad120, e120, hx120_0⟩ := Kd.at_int HR119_2.out x9_5 p120 q120
                          have hw120_0 := hx120_0
                          cases e120
                          replace hx120_0 := mv_ HB.out hx120_0
                          replace p120 := eq_true p120
                          replace q120 := eq_true q120
                          obtain ⟨Ao60, co60, eo60⟩ := Kd.R_slice HO_7.out
                          (first | subst eo60 | (injection eo60 with f1_ f2_ f3_; have f4_ := f1_.symm; have f5_ := f3_.symm; clear f1_ f2_ f3_; subst f4_; subst f5_))
                          have p121 : 0 ≤ (x8_3 : Int) := of_decide_eq_true as_
                          have q121 : x8_3 < (x7_5.length : Int) := of_decide_eq_true as_
                          obtain ⟨ad121, e121, hx121_0⟩ := Kd.at_int (Kd.R_reads' HO_7.out).2.2 x8_3 p121 q121
                          cases e121
                          replace p121 := eq_true p121
                          replace q121 := eq_true q121
                          have p57 : 0 ≤ ((rd ((rd_T156 l0_0 x8_3).f2) x9_5) : Int) := of_decide_eq_true as_
                          have q57 : ((rd ((rd_T156 l0_0 x8_3).f2) x9_5) : Int) < ((x7_5.length : Int) : Int) := of_decide_eq_true as_
                          obtain ⟨go57, co57, eo57, gb57, gl57, cl57, HG57⟩ := Kd.R_form HO_7.out (by omega)
                          (first | cases eo57 | (injection eo57 with ea_ en_ ec_; (first | subst ea_ | (injection ea_ with ea_; subst ea_)); subst ec_; clear en_))
                          have GB57 := Aside0.mk gb57
                          have GG57 := Aside0.mk HG57
                          clear gb57 gl57 HG57
                          (first | simp only [add_plain] at hx121_0 | skip)
                          obtain ⟨hx57_0, hf57_0⟩ := Kd.R_celln 0 HO_7.out ((rd ((rd_T156 l0_0 x8_3).f2) x9_5) : Int) p57 q57
                          replace p57 := eq_true p57
                          replace q57 := eq_true q57
                          have HP61 := Kd.R_putn HO_7.out ((rd ((rd_T156 l0_0 x8_3).f2) x9_5) : Int) (wrap64 ((rd x7_5 x8_3) + 1))
                          rw [← Ny122.out] at HP61
                          have HQ61 := Aside0.mk HP61
                          clear HP61
                          refine start_ (n := 17) (S := fun w' => w'.cell? ⟨gb101, 0, none⟩ = some (.slice (some ad118) l0_0.length c0_0) ∧ w'.cell? (ad118.add ((x8_3).toNat * 5)) = some (.int .i64 ((rd_T156 l0_0 x8_3).f0)) ∧ w'.cell? ⟨(ad118.add ((x8_3).toNat * 5)).block, (ad118.add ((x8_3).toNat * 5)).off + 1, none⟩ = some (.slice A119_1 ((rd_T156 l0_0 x8_3).f1).length c119_1) ∧ w'.cell? ⟨(ad118.add ((x8_3).toNat * 5)).block, (ad118.add ((x8_3).toNat * 5)).off + 2, none⟩ = some (.slice (some ad120) ((rd_T156 l0_0 x8_3).f2).length c119_2) ∧ w'.cell? ⟨(ad118.add ((x8_3).toNat * 5)).block, (ad118.add ((x8_3).toNat * 5)).off + 3, none⟩ = some (.int .i64 ((rd_T156 l0_0 x8_3).f3)) ∧ w'.cell? ⟨(ad118.add ((x8_3).toNat * 5)).block, (ad118.add ((x8_3).toNat * 5)).off + 4, none⟩ = some (.int .i64 ((rd_T156 l0_0 x8_3).f4)) ∧ w'.cell? (ad120.add (x9_5).toNat) = some (.int .i64 (rd ((rd_T156 l0_0 x8_3).f2) x9_5)) ∧ w'.cell? ⟨go57, (x8_3).toNat, none⟩ = some (.int .i64 (rd x7_5 x8_3))) (ds := [16]) #[false, false, false, false, false, false, false, false, false, false, false, false, false, false, false, false, false] (by kernel_rfl) rfl rfl ⟨(blk_cell BK101.out 0).trans rfl, (mv_ HB.out hw119_0), (mv_ HB.out hw119_1), (mv_ HB.out hw119_2), (mv_ HB.out hw119_3), (mv_ HB.out hw119_4), (mv_ HB.out hw120_0), hx121_0⟩ (fun hHeld => ?_); refine with_tabW spec_RxOk.tab23 spec_RxOk.bits23 (fun HT_ HW_ => ?_)
                          generalize wr.drew = w59 at HO_4 HO_7 BK101 HB GG57 HQ61 HR119_1 HR119_2 hf57_0 hx119_0 hx119_1 hx119_2 hx119_3 hx119_4 hx120_0 hx121_0 hx57_0 hHeld ⊢
                          refine pu_ 0 (some 96) (bb 17 1) HT_.out ?_
                          refine pu_ 1 (some 97) (bb 17 3) HT_.out ?_
                          refine pu_ 3 (some 99) (bb 17 11) HT_.out ?_
                          refine pu_ 7 (some 103) (bb 17 139) HT_.out ?_
                          refine pu_ 10 (some 106) (bb 17 1163) HT_.out ?_
                          refine pu_ 11 (some 107) (bb 17 3211) HT_.out ?_
                          refine pu_ 12 (some 108) (bb 17 7307) HT_.out ?_
                          refine ta_ 2 (some 98) (bb 17 7311) HT_.out HW_.out hHeld ?_
                          refine pu_ 4 (some 100) (bb 17 7327) HT_.out ?_
                          refine pu_ 5 (some 101) (bb 17 7359) HT_.out ?_
                          refine ta_ 6 (some 102) (bb 17 7423) HT_.out HW_.out hHeld ?_
                          refine pu_ 8 (some 104) (bb 17 7679) HT_.out ?_
                          refine ta_ 9 (some 105) (bb 17 8191) HT_.out HW_.out hHeld ?_
                          refine ta_ 13 (some 109) (bb 17 16383) HT_.out HW_.out hHeld ?_
                          refine pu_ 14 (some 110) (bb 17 32767) HT_.out ?_
                          refine pu_ 15 (some 111) (bb 17 65535) HT_.out ?_
                          refine last_ (i := 16) (N := none) (bb 17 131071) rfl rfl (one_of HT_.out (by kernel_rfl)) (by decide) (fun K hK => ?_)
                          refine skip_ (w1 := ?_) (by rfl) rfl ?_ ?_
                          rotate_left
                          ·go_simp
                           rfl
                          refine hK.out _ _ ?_
                          clear hK K
                          refine done_ (done_of HT_.out (by kernel_rfl)) ?_
                          try go_wp2
                          go_roundg k5
                          case measure => have := HJ1.out; have := HK2.out; have := HK3.out; have := HJ36.out; have := HK5.out; omega
                          case rel => exact ⟨(y122), (wrap64 (x9_5 + 1)), rs_, H', ⟨by have := HJ1.out; have := HK2.out; have := HK3.out; have := HJ36.out; have := HK5.out; omega⟩, ⟨by (with_reducible repeat (first | apply Kd.R_alloc | apply Kd.R_drewN | apply Kd.R_drew)); exact Kd.R_mono (Kd.R_far (p := ⟨go57, ((rd ((rd_T156 l0_0 x8_3).f2) x9_5) : Int).toNat, none⟩) (Kd.R_mono HO_4.out (fun k_ hk => (⟨hk, fun e_ => hk (by rw [e_]; rfl)⟩ : _ ∧ k_ ≠ go57))) (fun _ hk => hk.2) (.int .i64 (wrap64 ((rd x7_5 x8_3) + 1)))) (fun _ hk => hk.1)⟩, ⟨ra_ HQ61.out⟩, ⟨by (with_reducible repeat (first | refine blk_drewN ?_ _ | refine blk_drew ?_ | refine blk_alloc ?_ _)); refine blk_far ?_ (by have h_ := Kd.R_ne HO_7.out BK101.out (by decide); intro e_; exact h_ (by rw [e_]; rfl)) _; (with_reducible repeat (first | refine blk_drewN ?_ _ | refine blk_drew ?_ | refine blk_alloc ?_ _)); exact BK101.out⟩, ⟨be2_ HB.out GB57.out GE101.out⟩⟩
                         ·rw [if_neg c56] at H
                          exact absurd H (by simp)
                        ·rw [if_neg c55] at H
                         exact absurd H (by simp)
                       ·rw [if_neg c54] at H
                        exact absurd H (by simp)
                      ·rw [if_neg c53] at H
                       exact absurd H (by simp)
                     ·rw [if_neg c52] at H
                      have c52b0 := decide_eq_false c52
                      clear c52
                      have H' := Aside0.mk H
                      clear H
                      obtain ⟨hcz62_0, hfz62_0⟩ := d1_ BK101
                      have p118 : 0 ≤ (x8_3 : Int) := of_decide_eq_true as_
                      have q118 : x8_3 < (l0_0.length : Int) := of_decide_eq_true as_
                      obtain ⟨ad118, A118_1, c118_1, A118_2, c118_2, e118, hx118_0, hx118_1, hx118_2, hx118_3, hx118_4, hl118_1, hi118_1, hl118_2, hi118_2⟩ := at_T156 HR0_0.out x8_3 p118 q118
                      cases e118
                      replace hx118_0 := mv_ HB.out hx118_0
                      replace hx118_1 := mv_ HB.out hx118_1
                      replace hx118_2 := mv_ HB.out hx118_2
                      replace hx118_3 := mv_ HB.out hx118_3
                      replace hx118_4 := mv_ HB.out hx118_4
                      have HR118_1 := Aside0.mk hi118_1
                      have HC118_1 := Aside0.mk hl118_1
                      clear hi118_1 hl118_1
                      have HR118_2 := Aside0.mk hi118_2
                      have HC118_2 := Aside0.mk hl118_2
                      clear hi118_2 hl118_2
                      replace p118 := eq_true p118
                      replace q118 := eq_true q118
                      go_wp2
                      go_roundg k5
                      case measure => have := HJ1.out; have := HK2.out; have := HK3.out; have := HJ36.out; have := HK5.out; omega
                      case rel => exact ⟨(x7_5), (wrap64 (x8_3 - 1)), rs_, H', ⟨by have := HJ1.out; have := HK2.out; have := HK3.out; have := HJ36.out; have := HK5.out; omega⟩, ⟨ra_ HO_4.out⟩, ⟨ra_ HO_7.out⟩, ⟨bk_ BK101.out⟩, ⟨be1_ HB.out GE101.out⟩⟩
                    ·rw [if_neg c51] at H
                     exact absurd H (by simp)
                   ·rw [if_neg c50] at H
                    exact absurd H (by simp)
             ·rw [if_neg c36] at H
              have c36b0 : decide (0 ≤ x8_3) = false := decide_eq_false c36
              clear c36
              obtain rfl := Option.some.inj H
              go_wp2
              go_ret
              exact ⟨rt_, be1_ HB.out GE101.out⟩
          ·rw [if_neg c33] at H
           exact absurd H (by simp)
         ·rw [if_neg c32] at H
          exact absurd H (by simp)
     ·rw [if_neg c8] at H
      exact absurd H (by simp)
    ·rw [if_neg c7] at H
     exact absurd H (by simp)
end Go.Proofs.Ytijmhelacmjggaa.P
namespace Go.Proofs.YtijmhelacmjggaaEv
open Go.RowKit Go.Proofs.YtijmhelacmjggaaW.PrintWords
set_option linter.unusedVariables false
set_option linter.unusedSimpArgs false
theorem ev_ite {α : Type} {c : Prop} [Decidable c] {a b : Nat → Option α} {r : α} : Ev (fun k => if c then a k else b k) r ↔ (if c then Ev a r else Ev b r) := by
  by_cases h : c <;> simp [h]
theorem ev_some {α : Type} {a r : α} : Ev (fun _ => some a) r ↔ a = r := by
  constructor
  · rintro ⟨K, h⟩
    exact Option.some.inj (h K (Nat.le_refl _))
  · rintro rfl
    exact ⟨0, fun _ _ => rfl⟩
theorem ev_succ {α : Type} {g : Nat → Option α} {r : α} : Ev g r ↔ Ev (fun k => g (k + 1)) r := by
  constructor
  · rintro ⟨K, h⟩
    exact ⟨K, fun k hk => h (k + 1) (by omega)⟩
  · rintro ⟨K, h⟩
    refine ⟨K + 1, fun k hk => ?_⟩
    obtain ⟨m, rfl⟩ : ∃ m, k = m + 1 := ⟨k - 1, by omega⟩
    exact h m (by omega)
theorem ev_bind {α β : Type} {g : Nat → Option α} {f : Nat → α → Option β} {a : α} {r : β} (h : Ev g a) : Ev (fun k => (g k).bind (f k)) r ↔ Ev (fun k => f k a) r := by
  obtain ⟨K, hK⟩ := h
  constructor
  · rintro ⟨M, hM⟩
    refine ⟨max K M, fun k hk => ?_⟩
    have h1 : (g k).bind (f k) = some r := hM k (by omega)
    rw [hK k (by omega)] at h1
    exact h1
  · rintro ⟨M, hM⟩
    refine ⟨max K M, fun k hk => ?_⟩
    show (g k).bind (f k) = some r
    rw [hK k (by omega)]
    exact hM k (by omega)
theorem ev_get {α : Type} {g : Nat → Option α} {r : α} (h : Ev g r) : ∃ k, g k = some r := by
  obtain ⟨K, h⟩ := h
  exact ⟨K, h K (Nat.le_refl _)⟩
theorem ev_congr {α : Type} {g : Nat → Option α} {r s : α} (h : Ev g r) (e : r = s) : Ev g s := e ▸ h
theorem wrap_id {x : Int} (h0 : -9223372036854775808 ≤ x) (h1 : x ≤ 9223372036854775807) : wrap64 x = x := by
  unfold wrap64
  omega
theorem wrap_succ {n m : Nat} (h : n < m) (hm : m ≤ 9223372036854775807) : wrap64 ((n : Int) + 1) = ((n + 1 : Nat) : Int) := by
  rw [wrap_id (by omega) (by omega)]
  omega
theorem maxLen_le : maxLen ≤ 9223372036854775807 := by unfold maxLen; omega
theorem drop_cons {α : Type} (l : List α) (d : α) (i : Nat) (h : i < l.length) : l.drop i = l.getD i d :: l.drop (i + 1) := by
  rw [List.drop_eq_getElem_cons h, List.getD_eq_getElem?_getD, List.getElem?_eq_getElem h]
  rfl
/-- A loop from i = 0 to n whose state is told by i. -/
theorem ev_loop {ρ : Type} (n : Nat) (L : Nat → Nat → Option ρ) (R : Nat → ρ) (hend : Ev (fun k => L k n) (R n)) (hstep : ∀ i, i < n → Ev (fun k => L k (i + 1)) (R (i + 1)) → Ev (fun k => L k i) (R i)) : ∀ i, i ≤ n → Ev (fun k => L k i) (R i) := by
  have key : ∀ d i, i ≤ n → n - i = d → Ev (fun k => L k i) (R i) := by
    intro d
    induction d with
    | zero =>
      intro i hi hd
      have : i = n := by omega
      subst this
      exact hend
    | succ d ih =>
      intro i hi hd
      exact hstep i (by omega) (ih (i + 1) (by omega) (by omega))
  exact fun i hi => key _ i hi rfl
theorem all_drop {α : Type} (l : List α) (d : α) (p : α → Bool) (i : Nat) (h : i < l.length) : (l.drop i).all p = (p (l.getD i d) && (l.drop (i + 1)).all p) := by
  rw [drop_cons l d i h, List.all_cons]
/-- What a copying loop has made after i of its rounds. -/
def upTo {α β : Type} (f : α → β) (z : β) (l : List α) (i : Nat) : List β := (l.take i).map f ++ List.replicate (l.length - i) z
theorem upTo_zero {α β : Type} (f : α → β) (z : β) (l : List α) : upTo f z l 0 = List.replicate l.length z := by simp [upTo]
theorem upTo_all {α β : Type} (f : α → β) (z : β) (l : List α) : upTo f z l l.length = l.map f := by simp [upTo]
theorem upTo_length {α β : Type} (f : α → β) (z : β) (l : List α) (i : Nat) (h : i ≤ l.length) : (upTo f z l i).length = l.length := by
  simp [upTo, List.length_take]
  omega
theorem upTo_set {α β : Type} (f : α → β) (z : β) (l : List α) (d : α) (i : Nat) (h : i < l.length) : (upTo f z l i).set i (f (l.getD i d)) = upTo f z l (i + 1) := by
  unfold upTo
  have hl : ((l.take i).map f).length = i := by simp; omega
  rw [List.set_append, if_neg (by omega), hl, Nat.sub_self]
  have : l.length - i = (l.length - (i + 1)) + 1 := by omega
  rw [this, List.replicate_succ, List.set_cons_zero, List.take_succ_eq_append_getElem h, List.map_append, List.append_assoc, List.getD_eq_getElem?_getD, List.getElem?_eq_getElem h]
  rfl
/-- What holds at the end, and at each place where it holds at the next one, holds at the first. -/
theorem down (n : Nat) (P : Nat → Prop) (h0 : P n) (hs : ∀ i, i < n → P (i + 1) → P i) : ∀ i, i ≤ n → P i := by
  have key : ∀ d i, i ≤ n → n - i = d → P i := by
    intro d
    induction d with
    | zero =>
      intro i hi hd
      have : i = n := by omega
      subst this
      exact h0
    | succ d ih =>
      intro i hi hd
      exact hs i (by omega) (ih (i + 1) (by omega) (by omega))
  exact fun i hi => key _ i hi rfl
/-- The sum of the elements' weights. -/
def ws {α : Type} (w : α → Nat) : List α → Nat
  | [] => 0
  | x :: xs => w x + ws w xs
theorem ws_drop {α : Type} (w : α → Nat) (l : List α) (d : α) (i : Nat) (h : i < l.length) : ws w (l.drop i) = w (l.getD i d) + ws w (l.drop (i + 1)) := by
  rw [drop_cons l d i h]
  rfl
theorem ws_mem {α : Type} (w : α → Nat) : ∀ (l : List α) (x : α), x ∈ l → w x ≤ ws w l
  | y :: ys, x, h => by
    rcases List.mem_cons.1 h with rfl | h
    · simp [ws]
    · have := ws_mem w ys x h
      simp only [ws]
      omega
theorem ws_le {α : Type} (w : α → Nat) (l : List α) (d : α) (i : Nat) (h : i < l.length) : w (l.getD i d) ≤ ws w l := by
  refine ws_mem w l _ ?_
  rw [List.getD_eq_getElem?_getD, List.getElem?_eq_getElem h]
  exact List.getElem_mem _
/-- The first place at which a predicate holds, or -1. -/
def idxP {α : Type} (p : α → Bool) : List α → Int → Int
  | [], _ => -1
  | x :: xs, i => if p x then i else idxP p xs (i + 1)
theorem idxP_ge {α : Type} (p : α → Bool) (xs : List α) : ∀ i : Int, 0 ≤ i → (0 ≤ idxP p xs i ↔ xs.any p = true) := by
  induction xs with
  | nil => intro i _; simp [idxP]
  | cons x xs ih =>
    intro i hi
    unfold idxP
    by_cases h : p x = true
    · simp [h, hi]
    · simp [h, ih (i + 1) (by omega)]
end Go.Proofs.YtijmhelacmjggaaEv
namespace Go.Proofs.Ytijmhelacmjggaa.P
open Go.RowKit Go.Shelf Go.Proofs.YtijmhelacmjggaaW.PrintWords Go.Proofs.YtijmhelacmjggaaW.PrintLast Go.Proofs.YtijmhelacmjggaaW.PrintMore Go.Proofs.YtijmhelacmjggaaEv
set_option linter.unusedVariables false
set_option linter.unusedSimpArgs false
def Row (w0 w : World) (gg : Nat) (v : Value) (b : Bool) : Prop := Kd.R Kd.bool 4 w w0.heap.size (fun k => k ≠ gg) v [b]
/-- All blocks stay but that of the rows' row. -/
def MK (gg : Nat) (w w' : World) : Prop := w.heap.size ≤ w'.heap.size ∧ ∀ k, k < w.heap.size → k ≠ gg → w'.heap[k]? = w.heap[k]?
/-- The memo at the empty text: each node's row is empty, or holds what the node answers. -/
def Memo (w0 : World) (gm gg : Nat) (An : Option Addr) (cn : Nat) (nodes : List S156) (tx : ByteArray) (E : Nat → Bool) (w : World) : Prop :=
  ∃ cg cs, w.heap[gm]? = some (.cells #[.slice An nodes.length cn, .string tx, .slice (some ⟨gg, 0, none⟩) nodes.length cg] 164 (0, 0)) ∧ nodes.length ≤ cg ∧ w0.heap.size ≤ gm ∧ w0.heap.size ≤ gg ∧ w.heap[gg]? = some (.cells cs 124 (0, 0)) ∧ ∀ k, k < nodes.length → ∃ v, cs[k]? = some v ∧ (v = .slice none 0 0 ∨ Row w0 w gg v (E k))
section
variable {w0 w w1 w2 : World} {gm gg cn : Nat} {An : Option Addr} {nodes : List S156} {tx : ByteArray} {E : Nat → Bool} {v : Value} {b : Bool}
theorem MK.refl (gg : Nat) (w : World) : MK gg w w := ⟨Nat.le_refl _, fun _ _ _ => rfl⟩
theorem MK.trans (h : MK gg w w1) (h2 : MK gg w1 w2) : MK gg w w2 := ⟨Nat.le_trans h.1 h2.1, fun k hk hg => (h2.2 k (Nat.lt_of_lt_of_le hk h.1) hg).trans (h.2 k hk hg)⟩
theorem MK.below (h : Below w.heap.size w w1) : MK gg w w1 := ⟨h.size, fun k hk _ => h.block k hk⟩
theorem MK.drewN (gg : Nat) (w : World) (n : Nat) : MK gg w (w.drewN n) := ⟨Nat.le_refl _, fun _ _ _ => rfl⟩
theorem Row.keep (h : Row w0 w gg v b) (hk : MK gg w w1) : Row w0 w1 gg v b := Kd.R_step h fun k ho hlt => hk.2 k hlt ho
theorem Memo.below (h : Memo w0 gm gg An cn nodes tx E w) (hb : Below w.heap.size w w1) : Memo w0 gm gg An cn nodes tx E w1 := by
  obtain ⟨cg, cs, h1, h2, h3, h4, h5, h6⟩ := h
  refine ⟨cg, cs, blk_below h1 hb, h2, h3, h4, blk_below h5 hb, fun k hk => ?_⟩
  obtain ⟨v, hv, hr⟩ := h6 k hk
  exact ⟨v, hv, hr.imp id fun h => Row.keep h (MK.below hb)⟩
theorem Memo.ne (h : Memo w0 gm gg An cn nodes tx E w) : gm ≠ gg := by
  obtain ⟨cg, cs, h1, _, _, _, h5, _⟩ := h
  exact blk_ne h1 h5 (by decide)
theorem Memo.head (h : Memo w0 gm gg An cn nodes tx E w) : ∃ cg, w.heap[gm]? = some (.cells #[.slice An nodes.length cn, .string tx, .slice (some ⟨gg, 0, none⟩) nodes.length cg] 164 (0, 0)) ∧ nodes.length ≤ cg ∧ w0.heap.size ≤ gm := by
  obtain ⟨cg, cs, h1, h2, h3, _⟩ := h
  exact ⟨cg, h1, h2, h3⟩
theorem Row.form (h : Row w0 w gg v b) : ∃ g c, v = .slice (some ⟨g, 0, none⟩) 1 c ∧ 1 ≤ c := by
  obtain ⟨g, c, h1, _⟩ := Kd.R_form h (by simp)
  obtain ⟨A, c2, h2, h3, _⟩ := Kd.R_reads h
  subst h1
  injection h2 with _ _ e
  subst e
  exact ⟨g, c, rfl, h3⟩
theorem Row.C {A : Option Addr} {n c : Nat} (h : Row w0 w gg (.slice A n c) b) : Kd.C Kd.bool w A [b].length [b] := (Kd.R_reads' h).2.2
end
/-- What ends answers at a place. -/
def EOK (w0 : World) (gm gg : Nat) (An : Option Addr) (cn : Nat) (nodes : List S156) (tx : ByteArray) (E : Nat → Bool) (at_ : Nat) : Prop := ∀ w, Memo w0 gm gg An cn nodes tx E w → Below w0.heap.size w0 w →
  Calls Try.prog 121 #[.pointer (some ⟨gm, 0, none⟩), .int .i64 (at_ : Int), .int .i64 0] w fun e w' => ∃ v, e = .returned v ∧ Row w0 w' gg v (E at_) ∧ Memo w0 gm gg An cn nodes tx E w' ∧ MK gg w w' ∧ Below w0.heap.size w0 w'
def FOK (w0 : World) (gm gg : Nat) (An : Option Addr) (cn : Nat) (nodes : List S156) (tx : ByteArray) (E : Nat → Bool) (at_ : Nat) : Prop := ∀ w, Memo w0 gm gg An cn nodes tx E w → Below w0.heap.size w0 w →
  Calls Try.prog 157 #[.pointer (some ⟨gm, 0, none⟩), .int .i64 (at_ : Int), .int .i64 0] w fun e w' => ∃ v, e = .returned v ∧ Row w0 w' gg v (E at_) ∧ Memo w0 gm gg An cn nodes tx E w' ∧ MK gg w w' ∧ Below w0.heap.size w0 w'
set_option maxHeartbeats 8000000 in
set_option maxRecDepth 100000 in
theorem ends_of {w0 : World} {gm gg cn : Nat} {An : Option Addr} {nodes : List S156} {tx : ByteArray} {E : Nat → Bool} (ht : tx.size = 0) (hn : nodes.length ≤ 100000) (k : Nat) (hk1 : k < nodes.length) (hf : FOK w0 gm gg An cn nodes tx E k) : EOK w0 gm gg An cn nodes tx E k := by
  intro w hM hB
  have HF := Aside0.mk hf
  have HM := Aside0.mk hM
  have HB := Aside0.mk hB
  have HNE := Aside0.mk (Memo.ne hM)
  obtain ⟨cg, cs, hG, hcg, hgm, hgg, hC, hrow⟩ := hM
  obtain ⟨v, hv, hvr⟩ := hrow k hk1
  have hm1 : w.cell? ⟨gm, 1, none⟩ = some (.string tx) := (blk_cell hG 1).trans rfl
  have hm2 : w.cell? ⟨gm, 2, none⟩ = some (.slice (some ⟨gg, 0, none⟩) nodes.length cg) := (blk_cell hG 2).trans rfl
  have hgk : w.cell? ⟨gg, k, none⟩ = some v := (blk_cell hC k).trans hv
  have hkz : (k : Int) < (nodes.length : Int) := by omega
  have hk0 : (0 : Int) ≤ (k : Int) := by omega
  have HG1 := Aside0.mk hG
  clear hf hB hrow hv
  rcases hvr with rfl | hR
  · clear hC hgm hgg hG
    go_enter Try.func121, Try.ntmps121
    go_wp2_with fail
    have HG2 := Aside0.mk (blk_drew HG1.out)
    have HM1 := Aside0.mk (Memo.below HM.out (below_drew1 (Below.refl _ _)) : Memo w0 gm gg An cn nodes tx E w.drew)
    have HB1 := Aside0.mk (below_drew1 HB.out)
    have HK1 : Aside0 (MK gg w w.drew) := ⟨⟨Nat.le_refl _, fun _ _ _ => rfl⟩⟩
    clear HG1 HM HB hm1 hm2 hgk
    refine start_ (n := 11) (S := fun w' => w'.cell? ⟨gm, 2, none⟩ = some (.slice (some ⟨gg, 0, none⟩) nodes.length cg)) (ds := [10]) #[false, false, false, false, false, false, false, false, false, false, false] (by kernel_rfl) rfl rfl (by exact (blk_cell HG2.out 2).trans rfl) (fun hHeld => ?_)
    generalize hW1 : w.drew = W1 at HG2 HM1 HB1 HK1 hHeld ⊢
    refine pure_ (i := 0) (N := (some 27)) (v := ?_) (a' := ?_) #[true, false, false, false, false, false, false, false, false, false, false] rfl rfl (by kernel_rfl) (fun _ _ _ h => h) (Or.inl ⟨by rfl, ?_⟩) ?_ ?_
    rotate_left
    · intro w'
      go_simp
      with_reducible rfl
    rotate_left
    · simp only [Act.put, List.setIfInBounds_toArray, List.set_cons_zero, List.set_cons_succ, i64_w, i32_w]
      rfl
    refine pure_ (i := 1) (N := (some 28)) (v := ?_) (a' := ?_) #[true, true, false, false, false, false, false, false, false, false, false] rfl rfl (by kernel_rfl) (fun _ _ _ h => h) (Or.inl ⟨by rfl, ?_⟩) ?_ ?_
    rotate_left
    · intro w'
      go_simp
      with_reducible rfl
    rotate_left
    · simp only [Act.put, List.setIfInBounds_toArray, List.set_cons_zero, List.set_cons_succ, i64_w, i32_w]
      rfl
    refine pure_ (i := 2) (N := (some 29)) (v := ?_) (a' := ?_) #[true, true, true, false, false, false, false, false, false, false, false] rfl rfl (by kernel_rfl) (fun _ _ _ h => h) (Or.inl ⟨by rfl, ?_⟩) ?_ ?_
    rotate_left
    · intro w'
      go_simp
      with_reducible rfl
    rotate_left
    · simp only [Act.put, List.setIfInBounds_toArray, List.set_cons_zero, List.set_cons_succ, i64_w, i32_w]
      rfl
    refine pure_ (i := 4) (N := (some 31)) (v := ?_) (a' := ?_) #[true, true, true, false, true, false, false, false, false, false, false] rfl rfl (by kernel_rfl) (fun _ _ _ h => h) (Or.inl ⟨by rfl, ?_⟩) ?_ ?_
    rotate_left
    · intro w'
      go_simp
      with_reducible rfl
    rotate_left
    · simp only [Act.put, List.setIfInBounds_toArray, List.set_cons_zero, List.set_cons_succ, i64_w, i32_w]
      rfl
    refine pure_ (i := 5) (N := (some 32)) (v := ?_) (a' := ?_) #[true, true, true, false, true, true, false, false, false, false, false] rfl rfl (by kernel_rfl) (fun _ _ _ h => h) (Or.inl ⟨by rfl, ?_⟩) ?_ ?_
    rotate_left
    · intro w'
      go_simp
      with_reducible rfl
    rotate_left
    · simp only [Act.put, List.setIfInBounds_toArray, List.set_cons_zero, List.set_cons_succ, i64_w, i32_w]
      rfl
    refine pure_ (i := 6) (N := (some 33)) (v := ?_) (a' := ?_) #[true, true, true, false, true, true, true, false, false, false, false] rfl rfl (by kernel_rfl) (fun _ _ _ h => h) (Or.inl ⟨by rfl, ?_⟩) ?_ ?_
    rotate_left
    · intro w'
      go_simp
      with_reducible rfl
    rotate_left
    · simp only [Act.put, List.setIfInBounds_toArray, List.set_cons_zero, List.set_cons_succ, i64_w, i32_w]
      rfl
    refine pure_ (i := 7) (N := (some 34)) (v := ?_) (a' := ?_) #[true, true, true, false, true, true, true, true, false, false, false] rfl rfl (by kernel_rfl) (fun _ _ _ h => h) (Or.inl ⟨by rfl, ?_⟩) ?_ ?_
    rotate_left
    · intro w'
      go_simp
      with_reducible rfl
    rotate_left
    · simp only [Act.put, List.setIfInBounds_toArray, List.set_cons_zero, List.set_cons_succ, i64_w, i32_w]
      rfl
    refine take_ (i := 3) (N := (some 30)) (v := ?_) (a' := ?_) #[true, true, true, true, true, true, true, true, false, false, false] rfl rfl (by kernel_rfl) (fun _ _ _ h => h) (Or.inl ⟨by rfl, ?_⟩) hHeld ?_ ?_
    rotate_left
    · rintro w' s0
      go_simp
      with_reducible rfl
    rotate_left
    · simp only [Act.put, List.setIfInBounds_toArray, List.set_cons_zero, List.set_cons_succ, i64_w, i32_w]
      rfl
    refine one_ (i := 8) (N := (some 35)) #[true, true, true, true, true, true, true, true, true, false, false] rfl rfl (by kernel_rfl) (by decide) (fun K hK => ?_)
    refine goes_ Try.func157 (by kernel_rfl) rfl #[.pointer (some ⟨gm, 0, none⟩), .int .i64 (k : Int), .int .i64 0] (by rfl) rfl rfl (by (try simp only [List.map_toArray, List.map_cons, List.map_nil]); first | done | rfl) ?_
    refine (HF.out _ HM1.out HB1.out).mono ?_
    rintro e w2 ⟨v2, rfl, hR2, hM2, hK2, hB2⟩
    refine ⟨_, rfl, ?_⟩
    obtain ⟨g2, c2, rfl, hc2⟩ := Row.form hR2
    have hgm2 := (hK2.2 gm (blk_lt HG2.out) HNE.out).trans HG2.out
    refine hK.out _ _ (by exact (blk_cell hgm2 2).trans rfl) (fun hHeld => ?_)
    obtain ⟨cg2, cs2, hG2, hcg2, hgm0, hgg0, hC2, hrow2⟩ := hM2
    obtain ⟨vo, hvo, _⟩ := hrow2 k hk1
    have hx0 : w2.cell? ⟨gg, k, none⟩ = some vo := (blk_cell hC2 k).trans hvo
    have hf0 := blk_frozen hC2 k
    clear hK K
    refine norm_ (a' := ?_) ?_ ?_
    rotate_left
    · show Act.put _ (some 35) _ = _
      simp only [Act.put, List.setIfInBounds_toArray, List.set_cons_zero, List.set_cons_succ, i64_w, i32_w]
      rfl
    refine pure_ (i := 9) (N := (some 36)) (v := ?_) (a' := ?_) #[true, true, true, true, true, true, true, true, true, true, false] rfl rfl (by kernel_rfl) (fun _ _ _ h => h) (Or.inl ⟨by rfl, ?_⟩) ?_ ?_
    rotate_left
    · intro w'
      go_simp
      with_reducible rfl
    rotate_left
    · simp only [Act.put, List.setIfInBounds_toArray, List.set_cons_zero, List.set_cons_succ, i64_w, i32_w]
      rfl
    refine last_ (i := 10) (N := none) #[true, true, true, true, true, true, true, true, true, true, true] rfl rfl (by kernel_rfl) (by decide) (fun K hK => ?_)
    refine skip_ (w1 := ?_) (by rfl) rfl ?_ ?_
    rotate_left
    · go_simp
      rfl
    refine hK.out _ _ ?_
    clear hK K
    refine done_ (by kernel_rfl) ?_
    have hne := HNE.out
    have hM3 : MK gg w2 (w2.setCell ⟨gg, k, none⟩ (.slice (some ⟨g2, 0, none⟩) 1 c2)) := ⟨by simp, fun j _ hj => Below.heap_setCell w2 _ _ j hj⟩
    have hC3 := blk_set hC2 k (.slice (some ⟨g2, 0, none⟩) 1 c2)
    have hG3 := blk_far hG2 (p := ⟨gg, k, none⟩) hne (.slice (some ⟨g2, 0, none⟩) 1 c2)
    have hR3 := Row.keep hR2 hM3
    have hMM : Memo w0 gm gg An cn nodes tx E (w2.setCell ⟨gg, k, none⟩ (.slice (some ⟨g2, 0, none⟩) 1 c2)) := by
      refine ⟨cg2, _, hG3, hcg2, hgm0, hgg0, hC3, fun j hj => ?_⟩
      by_cases e : j = k
      · subst e
        exact ⟨_, by rw [Array.getElem?_setIfInBounds_self_of_lt ((Array.getElem?_eq_some_iff.1 hvo).1)], .inr hR3⟩
      · obtain ⟨v, hv, hr⟩ := hrow2 j hj
        exact ⟨v, by rw [Array.getElem?_setIfInBounds_ne (Ne.symm e)]; exact hv, hr.imp id fun h => Row.keep h hM3⟩
    have hB3 := below_set hB2 hgg0 (j := k) (v := (.slice (some ⟨g2, 0, none⟩) 1 c2))
    have hK3 := HK1.out.trans (hK2.trans hM3)
    have hx2 : (w2.setCell ⟨gg, k, none⟩ (.slice (some ⟨g2, 0, none⟩) 1 c2)).cell? ⟨gm, 2, none⟩ = some (.slice (some ⟨gg, 0, none⟩) nodes.length cg2) := (blk_cell hG3 2).trans rfl
    have hxk : (w2.setCell ⟨gg, k, none⟩ (.slice (some ⟨g2, 0, none⟩) 1 c2)).cell? ⟨gg, k, none⟩ = some (.slice (some ⟨g2, 0, none⟩) 1 c2) := (blk_cell hC3 k).trans (by rw [Array.getElem?_setIfInBounds_self_of_lt ((Array.getElem?_eq_some_iff.1 hvo).1)])
    have HMM := Aside0.mk hMM
    have HR3 := Aside0.mk hR3
    have HB3 := Aside0.mk hB3
    have HK3 := Aside0.mk hK3
    clear hMM hR3 hB3 hK3 hM3 hC3 hG3 hrow2 hC2 hG2 hx0 hf0 hHeld HM1 HB1 HK1 HG2 hgm2 hR2 hK2 hB2 hvo hW1
    generalize w2.setCell ⟨gg, k, none⟩ (.slice (some ⟨g2, 0, none⟩) 1 c2) = w3 at *
    go_wp2_with fail
    go_ret
    exact ⟨_, rfl, HR3.out, HMM.out, HK3.out, HB3.out⟩
  · obtain ⟨g2, c2, rfl, hc2⟩ := Row.form hR
    have HR := Aside0.mk hR
    clear hC hgm hgg hG hR
    go_enter Try.func121, Try.ntmps121
    go_wp2_with fail
    go_ret
    exact ⟨_, rfl, HR.out, HM.out, MK.refl _ _, HB.out⟩
end Go.Proofs.Ytijmhelacmjggaa.P
namespace Go.Proofs.Ytijmhelacmjggaa.P
open Go.RowKit Go.Proofs.YtijmhelacmjggaaW.PrintWords Go.Proofs.YtijmhelacmjggaaW.PrintLast Go.Proofs.YtijmhelacmjggaaW.PrintMore
attribute [local go_sem] max2_int min2_int max_two min_two max_three min_three max_four min_four
set_option linter.unusedVariables false
set_option linter.unusedSimpArgs false
/-! ### spec_l4Or: function 171 -/
def spec_l4Or.l0 : Nat → List Bool → List Bool → List Bool → Int → Option (List Bool)
 | 0, _, _, _, _ => none
 | k + 1, x0, x1, x5, x6 => if x6 < (x0.length : Int) then (if 0 ≤ x6 then (if rdOf false x0 x6 = true then (if x5.length < 140737488355328 then (spec_l4Or.l0 k x0 x1 (x5 ++ [true]) (wrap64 (x6 + 1))) else (none)) else (if x6 < (x1.length : Int) then (if x5.length < 140737488355328 then (spec_l4Or.l0 k x0 x1 (x5 ++ [rdOf false x1 x6]) (wrap64 (x6 + 1))) else (none)) else (none))) else (none)) else (some x5)
def spec_l4Or.f (k : Nat) (l0 : List Bool) (l1 : List Bool) : Option (List Bool) := spec_l4Or.l0 k l0 l1 (([] : List Bool)) 0
set_option maxHeartbeats 8000000 in
set_option maxRecDepth 100000 in
theorem spec_l4Or.calls (k : Nat) (A0 : Option Addr) (c0 : Nat) (l0 : List Bool) (A1 : Option Addr) (c1 : Nat) (l1 : List Bool) (r : List Bool) (w : World) (hr0 : Kd.C Kd.bool w A0 l0.length l0) (hc0 : l0.length ≤ c0) (hr1 : Kd.C Kd.bool w A1 l1.length l1) (hc1 : l1.length ≤ c1) (h : spec_l4Or.f k l0 l1 = some r) :
  Calls Try.prog 171 #[.slice A0 l0.length c0, .slice A1 l1.length c1] w fun e w' => ∃ v0_ : Value, e = .returned (v0_) ∧ Kd.R Kd.bool 4 w' w.heap.size (fun _ => True) v0_ r ∧ Below w.heap.size w w' := by
 have HR0 := Aside0.mk hr0
 have HC0 := Aside0.mk hc0
 clear hr0 hc0
 have HR1 := Aside0.mk hr1
 have HC1 := Aside0.mk hc1
 clear hr1 hc1
 have HB := Aside0.mk (Below.refl w.heap.size w)
 have H : (spec_l4Or.l0 k l0 l1 (([] : List Bool)) 0) = some r := h
 clear h
 obtain ⟨y101, hy101⟩ : ∃ y_ : List Bool, y_ = (([] : List Bool)) := ⟨_, rfl⟩
 replace H : (spec_l4Or.l0 k l0 l1 y101 0) = some r := by first | (rw [hy101]; with_reducible exact H) | (have H2_ := (Option.bind_some _ _).symm.trans H; rw [hy101]; with_reducible exact H2_) | (have H2_ := (Option.bind_some _ _).symm.trans H; with_reducible exact H2_) | with_reducible exact H | (rw [hy101]; exact H) | exact H
 have Ny101 := Aside0.mk hy101
 clear hy101
 have H' := Aside0.mk H
 clear H
 go_enter Try.func171, Try.ntmps171
 go_wp2_with (((with_reducible refine gate_dst (N := 7) rfl ?_); refine Kd.R_lit Kd.bool _ 4 ?hg (N := 7) ?hd (xs := ([] : List Bool)) (inner := []) (ok := fun _ => True) (okp := fun _ => True) ?hr ?hp (fun _ hk => hk) trivial (Below.refl _ _) (Nat.le_refl _) (by simp) ?_; (case hd => rfl); (case hg => rfl); (case hr => first | (go_simp; done) | (go_simp; rfl)); (case hp => exact (Reps.none _ _)); intro v102 w3 ho4 hb hg_ hnew_; clear hg_ hnew_; (first | rw [← Ny101.out] at ho4 | (simp only [Int.reduceToNat] at ho4; rw [← Ny101.out] at ho4)); have HO103 := Aside0.mk (Kd.R_lower ho4 (below_size (be_ HB.out))); replace HB := sb_ HB hb; clear hb ho4))
 go_loopg [5, 6] k (fun kq v5 v6 w' => ∃ (x5_1 : List Bool) (x6_1 : Int), v6 = .int .i64 x6_1 ∧ Aside0 (spec_l4Or.l0 kq l0 l1 x5_1 x6_1 = some r) ∧ Aside0 (kq ≤ k) ∧ Aside0 (Kd.R Kd.bool 4 w' w.heap.size (fun _ => True) v5 x5_1) ∧ Aside0 (Below w.heap.size w w'))
 case atStart => exact ⟨(y101), (0), rs_, H', ⟨Nat.le_refl _⟩, ⟨ra_ HO103.out⟩, ⟨be_ HB.out⟩⟩
 case round =>
  clear H'
  try clear c1
  obtain ⟨x5_1, x6_1, rfl, HA, HK1, HO_5, HB⟩ := hrel
  cases gk with
  | zero => exact absurd HA.out (by simp [spec_l4Or.l0])
  | succ k1 =>
   have H := HA.out
   clear HA
   simp only [spec_l4Or.l0] at H
   by_cases c5 : x6_1 < (l0.length : Int)
   ·rw [if_pos c5] at H
    have c5b0 := decide_eq_true c5
    clear c5
    by_cases c6 : 0 ≤ x6_1
    ·rw [if_pos c6] at H
     have c6b0 := decide_eq_true c6
     clear c6
     obtain ⟨bq7, hbq7⟩ : ∃ b_ : Bool, b_ = (rdOf false l0 x6_1) := ⟨_, rfl⟩
     replace H : (if bq7 = true then (if x5_1.length < 140737488355328 then (spec_l4Or.l0 k1 l0 l1 (x5_1 ++ [true]) (wrap64 (x6_1 + 1))) else (none)) else (if x6_1 < (l1.length : Int) then (if x5_1.length < 140737488355328 then (spec_l4Or.l0 k1 l0 l1 (x5_1 ++ [rdOf false l1 x6_1]) (wrap64 (x6_1 + 1))) else (none)) else (none))) = some r := by rw [← hbq7] at H; exact H
     have Nbq7 := Aside0.mk hbq7
     clear hbq7
     by_cases c8 : bq7 = true
     ·subst c8
      rw [if_pos rfl] at H
      by_cases c9 : x5_1.length < 140737488355328
      ·rw [if_pos c9] at H
       have LMc9 := Aside0.mk c9
       clear c9
       obtain ⟨y105, hy105⟩ : ∃ y_ : List Bool, y_ = (x5_1 ++ [true]) := ⟨_, rfl⟩
       replace H : (spec_l4Or.l0 k1 l0 l1 y105 (wrap64 (x6_1 + 1))) = some r := by first | (rw [hy105]; with_reducible exact H) | (have H2_ := (Option.bind_some _ _).symm.trans H; rw [hy105]; with_reducible exact H2_) | (have H2_ := (Option.bind_some _ _).symm.trans H; with_reducible exact H2_) | with_reducible exact H | (rw [hy105]; exact H) | exact H
       have Ny105 := Aside0.mk hy105
       clear hy105
       have H' := Aside0.mk H
       clear H
       have p104 : 0 ≤ (x6_1 : Int) := of_decide_eq_true as_
       have q104 : x6_1 < (l0.length : Int) := of_decide_eq_true as_
       obtain ⟨ad104, e104, hx104_0⟩ := Kd.at_bool HR0.out x6_1 p104 q104
       (try rw [← Nbq7.out] at hx104_0)
       cases e104
       replace hx104_0 := mv_ HB.out hx104_0
       replace p104 := eq_true p104
       replace q104 := eq_true q104
       go_wp2_with (((with_reducible refine gate_builtin (b := .append) (xs := #[.tmp 14, .tmp 25]) rfl ?_); at_builtin; refine Kd.R_append Kd.bool (w0 := w) w.heap.size rfl (.tmp 14) (.tmp 25) 124 4 (.bool false) 1 rfl Try.underlying124 info4 rfl (by decide) (by omega) u5 x5_1 true [.bool true] (fun _ => True) (fun _ => False) rfl rfl ?aP (fun _ hk => hk.elim) ?aF ?aO ?aB ?aS ?aL ?_; (case aP => exact rfl); (case aB => exact (be_ HB.out)); (case aF => exact (fun _ _ => trivial)); (case aO => exact (ra_ HO_5.out)); (case aS => exact (below_size (be_ HB.out))); (case aL => have := LMc9.out; omega); intro v106 w10 ho hb hg hat; rw [← Ny105.out] at ho; have HO107 := Aside0.mk (ho); replace HB := Aside0.mk (hb); clear HO_5; clear ho hb hg hat))
       go_roundg k1
       case measure => have := HK1.out; omega
       case rel => exact ⟨(y105), (wrap64 (x6_1 + 1)), rs_, H', ⟨by have := HK1.out; omega⟩, ⟨ra_ HO107.out⟩, ⟨be_ HB.out⟩⟩
      ·rw [if_neg c9] at H
       exact absurd H (by simp)
     ·replace c8 := Bool.eq_false_iff.mpr c8
      subst c8
      rw [if_neg nft_] at H
      by_cases c11 : x6_1 < (l1.length : Int)
      ·rw [if_pos c11] at H
       have c11b0 := decide_eq_true c11
       clear c11
       by_cases c12 : x5_1.length < 140737488355328
       ·rw [if_pos c12] at H
        have LMc12 := Aside0.mk c12
        clear c12
        obtain ⟨y109, hy109⟩ : ∃ y_ : List Bool, y_ = (x5_1 ++ [rdOf false l1 x6_1]) := ⟨_, rfl⟩
        replace H : (spec_l4Or.l0 k1 l0 l1 y109 (wrap64 (x6_1 + 1))) = some r := by first | (rw [hy109]; with_reducible exact H) | (have H2_ := (Option.bind_some _ _).symm.trans H; rw [hy109]; with_reducible exact H2_) | (have H2_ := (Option.bind_some _ _).symm.trans H; with_reducible exact H2_) | with_reducible exact H | (rw [hy109]; exact H) | exact H
        have Ny109 := Aside0.mk hy109
        clear hy109
        have H' := Aside0.mk H
        clear H
        have p104 : 0 ≤ (x6_1 : Int) := of_decide_eq_true as_
        have q104 : x6_1 < (l0.length : Int) := of_decide_eq_true as_
        obtain ⟨ad104, e104, hx104_0⟩ := Kd.at_bool HR0.out x6_1 p104 q104
        (try rw [← Nbq7.out] at hx104_0)
        cases e104
        replace hx104_0 := mv_ HB.out hx104_0
        replace p104 := eq_true p104
        replace q104 := eq_true q104
        have p108 : 0 ≤ (x6_1 : Int) := of_decide_eq_true as_
        have q108 : x6_1 < (l1.length : Int) := of_decide_eq_true as_
        obtain ⟨ad108, e108, hx108_0⟩ := Kd.at_bool HR1.out x6_1 p108 q108
        (try rw [← Nbq7.out] at hx108_0)
        cases e108
        replace hx108_0 := mv_ HB.out hx108_0
        replace p108 := eq_true p108
        replace q108 := eq_true q108
        go_wp2_with (((with_reducible refine gate_builtin (b := .append) (xs := #[.tmp 14, .tmp 25]) rfl ?_); at_builtin; refine Kd.R_append Kd.bool (w0 := w) w.heap.size rfl (.tmp 14) (.tmp 25) 124 4 (.bool false) 1 rfl Try.underlying124 info4 rfl (by decide) (by omega) u5 x5_1 (rdOf false l1 x6_1) [.bool (rdOf false l1 x6_1)] (fun _ => True) (fun _ => False) rfl rfl ?aP (fun _ hk => hk.elim) ?aF ?aO ?aB ?aS ?aL ?_; (case aP => exact rfl); (case aB => exact (be_ HB.out)); (case aF => exact (fun _ _ => trivial)); (case aO => exact (ra_ HO_5.out)); (case aS => exact (below_size (be_ HB.out))); (case aL => have := LMc12.out; omega); intro v110 w13 ho hb hg hat; rw [← Ny109.out] at ho; have HO111 := Aside0.mk (ho); replace HB := Aside0.mk (hb); clear HO_5; clear ho hb hg hat))
        go_roundg k1
        case measure => have := HK1.out; omega
        case rel => exact ⟨(y109), (wrap64 (x6_1 + 1)), rs_, H', ⟨by have := HK1.out; omega⟩, ⟨ra_ HO111.out⟩, ⟨be_ HB.out⟩⟩
       ·rw [if_neg c12] at H
        exact absurd H (by simp)
      ·rw [if_neg c11] at H
       exact absurd H (by simp)
    ·rw [if_neg c6] at H
     exact absurd H (by simp)
   ·rw [if_neg c5] at H
    have c5b0 := decide_eq_false c5
    clear c5
    obtain rfl := Option.some.inj H
    go_wp2
    go_ret
    exact ⟨_, rt_, ra_ HO_5.out, be_ HB.out⟩
end Go.Proofs.Ytijmhelacmjggaa.P
namespace Go.Proofs.Ytijmhelacmjggaa.P
open Go.RowKit Go.Shelf Go.Proofs.YtijmhelacmjggaaW.PrintWords Go.Proofs.YtijmhelacmjggaaW.PrintLast Go.Proofs.YtijmhelacmjggaaW.PrintMore Go.Proofs.YtijmhelacmjggaaEv
set_option linter.unusedVariables false
set_option linter.unusedSimpArgs false
theorem Row.new {w0 W w1 : World} {gg : Nat} {v : Value} {b : Bool} (h : Kd.R Kd.bool 4 w1 W.heap.size (fun _ => True) v [b]) (hB : Below w0.heap.size w0 W) (hg : gg < W.heap.size) : Row w0 w1 gg v b :=
  Kd.R_lower (Kd.R_mono (Kd.R_bound h) fun k hk => by have := hk.2.1; omega) hB.size
theorem Row.cell {w0 w : World} {gg g c : Nat} {b : Bool} (h : Row w0 w gg (.slice (some ⟨g, 0, none⟩) 1 c) b) : w.cell? ⟨g, 0, none⟩ = some (.bool b) := by
  obtain ⟨ad, e, hc⟩ := Kd.at_bool (Row.C h) 0 (by omega) (by simp)
  cases e
  exact hc
theorem Row.frozen {w0 w : World} {gg g c : Nat} {b : Bool} (h : Row w0 w gg (.slice (some ⟨g, 0, none⟩) 1 c) b) : w.frozen? ⟨g, 0, none⟩ = false := by
  obtain ⟨cells, hc⟩ := Kd.R_typed h g rfl
  exact blk_frozen hc 0
theorem Memo.gg_lt {w0 w : World} {gm gg cn : Nat} {An : Option Addr} {nodes : List S156} {tx : ByteArray} {E : Nat → Bool} (h : Memo w0 gm gg An cn nodes tx E w) : gg < w.heap.size := by
  obtain ⟨cg, cs, _, _, _, _, h5, _⟩ := h
  exact blk_lt h5
theorem or_one (a b : Bool) : ∃ k, spec_l4Or.f k [a] [b] = some [a || b] := by
  refine ⟨4, ?_⟩
  cases a <;> cases b <;> simp [spec_l4Or.f, spec_l4Or.l0, rdOf, wrap_id]
set_option maxHeartbeats 8000000 in
set_option maxRecDepth 100000 in
theorem step_of {w0 : World} {gm gg cn : Nat} {An : Option Addr} {nodes : List S156} {tx : ByteArray} {E : Nat → Bool} (kid : Nat) (he : EOK w0 gm gg An cn nodes tx E kid) (v : Value) (b : Bool) (w : World) (hM : Memo w0 gm gg An cn nodes tx E w) (hB : Below w0.heap.size w0 w) (hv : Row w0 w gg v b) :
    Calls Try.prog 170 #[.pointer (some ⟨gm, 0, none⟩), .int .i64 (kid : Int), v] w fun e w' => ∃ v', e = .returned v' ∧ Row w0 w' gg v' (b && E kid) ∧ Memo w0 gm gg An cn nodes tx E w' ∧ MK gg w w' ∧ Below w0.heap.size w0 w' := by
  have HE := Aside0.mk he
  have HM := Aside0.mk hM
  have HB := Aside0.mk hB
  have HK := Aside0.mk (MK.refl gg w)
  obtain ⟨g, c, rfl, hc⟩ := Row.form hv
  have HV := Aside0.mk hv
  clear he hM hB hv
  go_enter Try.func170, Try.ntmps170
  go_wp2_with ((with_reducible refine gate_dst (N := 11) rfl ?_); refine Kd.R_make Kd.bool _ 4 rfl (N := 11) rfl 124 _ _ rfl (1 : Int) rfl rfl Try.underlying124 (.bool false) 1 info4 rfl (by decide) (by omega) false (ok := fun _ => True) (okp := fun _ => True) rfl (fun _ hk => hk) trivial (by omega) (by decide) (Below.refl _ _) (Nat.le_refl _) ?_; intro H7v w_ ho hb hg_ hnew_; clear hg_; replace ho : Kd.R Kd.bool 4 w_ _ (fun _ => True) H7v [false] := ho; have H7 := Aside0.mk (Row.new ho HB.out (Memo.gg_lt HM.out)); have nHV := Aside0.mk (Row.keep HV.out (MK.below hb)); clear HV; have HV := nHV; clear nHV; have nM := Aside0.mk (Memo.below HM.out hb); have nB := Aside0.mk (below_step HB.out hb); have nK := Aside0.mk (HK.out.trans (MK.below hb)); clear HM HB HK ho hb hnew_; have HM := nM; have HB := nB; have HK := nK; clear nM nB nK)
  obtain ⟨g7, c7, rfl, hc7⟩ := Row.form H7.out
  go_loopg [7, 8] 2 (fun gk_ v7 v8 wr => ∃ (kk : Nat), v8 = .int .i64 (kk : Int) ∧ kk ≤ 1 ∧ 2 - kk ≤ gk_ ∧ Aside0 (Row w0 wr gg v7 (if kk = 0 then false else b && E kid)) ∧ Aside0 (Row w0 wr gg (.slice (some ⟨g, 0, none⟩) 1 c) b) ∧ Aside0 (Memo w0 gm gg An cn nodes tx E wr) ∧ Aside0 (Below w0.heap.size w0 wr) ∧ Aside0 (MK gg w wr))
  case atStart => exact ⟨0, rfl, by omega, by omega, H7, HV, HM, HB, HK⟩
  case round =>
    clear H7 HV HM HB HK
    obtain ⟨kk, rfl, hkk, hgk, H7, HV, HM, HB, HK⟩ := hrel
    obtain ⟨g8, c8, rfl, hc8⟩ := Row.form H7.out
    have hx0 := Row.cell HV.out
    obtain rfl | rfl : kk = 0 ∨ kk = 1 := by omega
    · cases b with
      | false =>
        go_wp2_with fail
        go_roundg 1
        case measure => omega
        case rel => exact ⟨1, rfl, by omega, by omega, H7, HV, HM, HB, HK⟩
      | true =>
        go_wp2_with (first | (go_at_call 121; refine (HE.out _ HM.out HB.out).mono ?_; rintro e w_ ⟨v_, rfl, hR_, hM_, hK_, hB_⟩; have nH7 := Aside0.mk (Row.keep H7.out hK_); have nHV := Aside0.mk (Row.keep HV.out hK_); clear H7; have H7 := nH7; clear nH7; clear HV; have HV := nHV; clear nHV; obtain ⟨g_, c_, rfl, hc_⟩ := Row.form hR_; have H9 := Aside0.mk hR_; have nK := Aside0.mk (HK.out.trans hK_); clear HM HB HK hR_ hK_; have HM := Aside0.mk hM_; have HB := Aside0.mk hB_; have HK := nK; clear nK hM_ hB_) | (go_at_call 171; obtain ⟨k_, hk_⟩ := or_one false (E kid); refine (spec_l4Or.calls k_ _ _ [false] _ _ [(E kid)] _ _ (Row.C H7.out) (Kd.R_reads' H7.out).2.1 (Row.C H9.out) (Kd.R_reads' H9.out).2.1 hk_).mono ?_; rintro e w_ ⟨H10v, rfl, ho, hb⟩; have H10 := Aside0.mk (Row.new ho HB.out (Memo.gg_lt HM.out)); have nHV := Aside0.mk (Row.keep HV.out (MK.below hb)); clear HV; have HV := nHV; clear nHV; have nM := Aside0.mk (Memo.below HM.out hb); have nB := Aside0.mk (below_step HB.out hb); have nK := Aside0.mk (HK.out.trans (MK.below hb)); clear HM HB HK ho hb hk_; have HM := nM; have HB := nB; have HK := nK; clear nM nB nK))
        go_roundg 1
        case measure => omega
        case rel => exact ⟨1, rfl, by omega, by omega, ⟨by have h := H10.out; simpa using h⟩, HV, HM, HB, HK⟩
    · go_wp2_with fail
      go_ret
      exact ⟨_, rfl, by have h := H7.out; simpa using h, HM.out, HK.out, HB.out⟩
set_option maxHeartbeats 8000000 in
set_option maxRecDepth 100000 in
theorem again_of {w0 : World} {gm gg cn : Nat} {An : Option Addr} {nodes : List S156} {tx : ByteArray} {E : Nat → Bool} (kid : Nat) (he : EOK w0 gm gg An cn nodes tx E kid) (v : Value) (b : Bool) (w : World) (hM : Memo w0 gm gg An cn nodes tx E w) (hB : Below w0.heap.size w0 w) (hv : Row w0 w gg v b) :
    Calls Try.prog 172 #[.pointer (some ⟨gm, 0, none⟩), .int .i64 (kid : Int), v] w fun e w' => ∃ v', e = .returned v' ∧ Row w0 w' gg v' b ∧ Memo w0 gm gg An cn nodes tx E w' ∧ MK gg w w' ∧ Below w0.heap.size w0 w' := by
  have HE := Aside0.mk he
  have HM := Aside0.mk hM
  have HB := Aside0.mk hB
  have HK := Aside0.mk (MK.refl gg w)
  obtain ⟨g, c, rfl, hc⟩ := Row.form hv
  have HV := Aside0.mk hv
  clear he hM hB hv
  go_enter Try.func172, Try.ntmps172
  go_wp2_with (first | (go_at_call 171; obtain ⟨k_, hk_⟩ := or_one b b; refine (spec_l4Or.calls k_ _ _ [b] _ _ [b] _ _ (Row.C HV.out) (Kd.R_reads' HV.out).2.1 (Row.C HV.out) (Kd.R_reads' HV.out).2.1 hk_).mono ?_; rintro e w_ ⟨H7v, rfl, ho, hb⟩; have H7 := Aside0.mk (Row.new ho HB.out (Memo.gg_lt HM.out)); have nHV := Aside0.mk (Row.keep HV.out (MK.below hb)); clear HV; have HV := nHV; clear nHV; (try rw [Bool.or_self] at H7); have nM := Aside0.mk (Memo.below HM.out hb); have nB := Aside0.mk (below_step HB.out hb); have nK := Aside0.mk (HK.out.trans (MK.below hb)); clear HM HB HK ho hb hk_; have HM := nM; have HB := nB; have HK := nK; clear nM nB nK) | ((with_reducible refine gate_dst (N := 15) rfl ?_); refine Kd.R_make Kd.bool _ 4 rfl (N := 15) rfl 124 _ _ rfl (1 : Int) rfl rfl Try.underlying124 (.bool false) 1 info4 rfl (by decide) (by omega) false (ok := fun _ => True) (okp := fun _ => True) rfl (fun _ hk => hk) trivial (by omega) (by decide) (Below.refl _ _) (Nat.le_refl _) ?_; intro H8v w_ ho hb hg_ hnew_; clear hg_; replace ho : Kd.R Kd.bool 4 w_ _ (fun _ => True) H8v [false] := ho; have H8 := Aside0.mk (Row.new ho HB.out (Memo.gg_lt HM.out)); have H1 : ∃ W1 : World, Memo w0 gm gg An cn nodes tx E W1 ∧ Row w0 W1 gg (.slice (some ⟨g, 0, none⟩) 1 c) b ∧ Row w0 W1 gg H7v b ∧ Below W1.heap.size W1 w_ ∧ (∃ b_, H8v.ownBlock = some b_ ∧ W1.heap.size ≤ b_) ∧ Below w0.heap.size w0 W1 ∧ MK gg w W1 := ⟨_, HM.out, HV.out, H7.out, hb, hnew_, HB.out, HK.out⟩; have nHV := Aside0.mk (Row.keep HV.out (MK.below hb)); have nH7 := Aside0.mk (Row.keep H7.out (MK.below hb)); clear HV; have HV := nHV; clear nHV; clear H7; have H7 := nH7; clear nH7; have nM := Aside0.mk (Memo.below HM.out hb); have nB := Aside0.mk (below_step HB.out hb); have nK := Aside0.mk (HK.out.trans (MK.below hb)); clear HM HB HK ho hb hnew_; have HM := nM; have HB := nB; have HK := nK; clear nM nB nK))
  obtain ⟨W1, hM1, hV1, h71, hb1, ⟨g8', e8, hg8⟩, hB1, hK1⟩ := H1
  obtain ⟨g7, c7, rfl, hc7⟩ := Row.form H7.out
  obtain ⟨g8, c8, rfl, hc8⟩ := Row.form H8.out
  obtain rfl : g8 = g8' := by simpa [Value.ownBlock] using e8
  have HM1 := Aside0.mk hM1
  have HV1 := Aside0.mk hV1
  have H71 := Aside0.mk h71
  have HB1 := Aside0.mk hB1
  have HK1 := Aside0.mk hK1
  have Hb1 := Aside0.mk hb1
  have HG8 := Aside0.mk hg8
  clear hM1 hV1 h71 hB1 hb1 hg8 e8 hK1
  go_loopg [7, 9] 2 (fun gk_ v7 v9 wr => ∃ (kk : Nat), v9 = .int .i64 (kk : Int) ∧ kk ≤ 1 ∧ 2 - kk ≤ gk_ ∧ Aside0 (kk = 0 → v7 = .slice (some ⟨g7, 0, none⟩) 1 c7 ∧ Below W1.heap.size W1 wr ∧ Row w0 wr gg (.slice (some ⟨g8, 0, none⟩) 1 c8) false) ∧ Aside0 (Row w0 wr gg v7 b) ∧ Aside0 (Memo w0 gm gg An cn nodes tx E wr) ∧ Aside0 (Below w0.heap.size w0 wr) ∧ Aside0 (MK gg w wr))
  case atStart => exact ⟨0, rfl, by omega, by omega, ⟨fun _ => ⟨rfl, Hb1.out, H8.out⟩⟩, H7, HM, HB, HK⟩
  case round =>
    clear H7 H8 HV HM HB HK Hb1
    obtain ⟨kk, rfl, hkk, hgk, HZ, H7, HM, HB, HK⟩ := hrel
    obtain rfl | rfl : kk = 0 ∨ kk = 1 := by omega
    · obtain ⟨rfl, hbw, h8⟩ := HZ.out rfl
      have hx7 := Row.cell H7.out
      have hx8 := Row.cell h8
      have hf8 := Row.frozen h8
      have Hbw := Aside0.mk hbw
      have H8 := Aside0.mk h8
      clear HZ hbw h8
      cases b with
      | false =>
        go_wp2_with fail
        go_roundg 1
        case measure => omega
        case rel => exact ⟨1, rfl, by omega, by omega, ⟨fun h => absurd h (by omega)⟩, H7, HM, HB, HK⟩
      | true =>
        go_upto_region 8 with (fail)
        have Hbs := below_set Hbw.out HG8.out (j := 0) (v := .bool true)
        clear H7 HM HB HK Hbw H8 hx7 hx8 hf8
        have HM := Aside0.mk (Memo.below HM1.out Hbs)
        have H7 := Aside0.mk (Row.keep H71.out (MK.below (gg := gg) Hbs))
        have HK := Aside0.mk (HK1.out.trans (MK.below (gg := gg) Hbs))
        have HB := Aside0.mk (below_step HB1.out Hbs)
        clear Hbs
        generalize wr.setCell ⟨g8, 0, none⟩ (.bool true) = w9 at *
        go_wp2_with (first | (go_at_call 121; refine (HE.out _ HM.out HB.out).mono ?_; rintro e w_ ⟨v_, rfl, hR_, hM_, hK_, hB_⟩; have nH7 := Aside0.mk (Row.keep H7.out hK_); clear H7; have H7 := nH7; clear nH7; obtain ⟨g_, c_, rfl, hc_⟩ := Row.form hR_; have H9 := Aside0.mk hR_; have nK := Aside0.mk (HK.out.trans hK_); clear HM HB HK hR_ hK_; have HM := Aside0.mk hM_; have HB := Aside0.mk hB_; have HK := nK; clear nK hM_ hB_) | (go_at_call 171; obtain ⟨k_, hk_⟩ := or_one true (E kid); refine (spec_l4Or.calls k_ _ _ [true] _ _ [(E kid)] _ _ (Row.C H7.out) (Kd.R_reads' H7.out).2.1 (Row.C H9.out) (Kd.R_reads' H9.out).2.1 hk_).mono ?_; rintro e w_ ⟨H10v, rfl, ho, hb⟩; have H10 := Aside0.mk (Row.new ho HB.out (Memo.gg_lt HM.out)); have nM := Aside0.mk (Memo.below HM.out hb); have nB := Aside0.mk (below_step HB.out hb); have nK := Aside0.mk (HK.out.trans (MK.below hb)); clear HM HB HK ho hb hk_; have HM := nM; have HB := nB; have HK := nK; clear nM nB nK))
        go_roundg 1
        case measure => omega
        case rel => exact ⟨1, rfl, by omega, by omega, ⟨fun h => absurd h (by omega)⟩, ⟨by have h := H10.out; simpa using h⟩, HM, HB, HK⟩
    · have hfm := Row.form H7.out
      obtain ⟨g9, c9, rfl, hc9⟩ := hfm
      clear HZ
      go_wp2_with fail
      go_ret
      exact ⟨_, rfl, H7.out, HM.out, HK.out, HB.out⟩
set_option maxHeartbeats 16000000 in
set_option maxRecDepth 100000 in
theorem find_empty {w0 : World} {gm gg cn : Nat} {An : Option Addr} {nodes : List S156} {tx : ByteArray} {E : Nat → Bool} (ht : tx.size = 0) (hn : nodes.length ≤ 100000) (k : Nat) (hk1 : k < nodes.length) (hN : Kd.C k156 w0 An nodes.length nodes) (hop : (rd_T156 nodes (k : Int)).f0 = 1) (hE : E k = true) : FOK w0 gm gg An cn nodes tx E k := by
  intro w hM hB
  obtain ⟨ad, A1, c1, A2, c2, rfl, hx0, hx1, hx2, hx3, hx4, _, _, hc2, hC2⟩ := at_T156 hN (k : Int) (by omega) (by omega)
  rw [Int.toNat_natCast] at hx0 hx1 hx2 hx3 hx4
  replace hx0 := (hB.cell (World.block_lt_of_cell? w0 _ hx0)).trans hx0
  replace hx1 := (hB.cell (World.block_lt_of_cell? w0 _ hx1)).trans hx1
  replace hx2 := (hB.cell (World.block_lt_of_cell? w0 _ hx2)).trans hx2
  replace hx3 := (hB.cell (World.block_lt_of_cell? w0 _ hx3)).trans hx3
  replace hx4 := (hB.cell (World.block_lt_of_cell? w0 _ hx4)).trans hx4
  obtain ⟨x, hxd⟩ : ∃ x, rd_T156 nodes (k : Int) = x := ⟨_, rfl⟩
  rw [hxd] at hx0 hx1 hx2 hx3 hx4 hc2 hC2 hop
  rw [hop] at hx0
  clear hxd
  skip
  obtain ⟨cg, hG, hcg, hgm⟩ := Memo.head hM
  have hm0 : w.cell? ⟨gm, 0, none⟩ = some (.slice (some ad) nodes.length cn) := (blk_cell hG 0).trans rfl
  have hm1 : w.cell? ⟨gm, 1, none⟩ = some (.string tx) := (blk_cell hG 1).trans rfl
  have ha1 : (w.alloc (.cells #[.int .i64 1, .slice A1 x.f1.length c1, .slice A2 x.f2.length c2, .int .i64 x.f3, .int .i64 x.f4] 156)).cell? ⟨gm, 1, none⟩ = some (.string tx) := (blk_cell (blk_alloc hG _) 1).trans rfl
  have hkz : (k : Int) < (nodes.length : Int) := by omega
  have hk0 : (0 : Int) ≤ (k : Int) := by omega
  obtain ⟨gn, hgn⟩ : ∃ gn, w.heap.size = gn := ⟨_, rfl⟩
  have HGN : Aside0 (gn ≠ gg) := ⟨by have := Memo.gg_lt hM; omega⟩
  have BN : Aside0 ((w.alloc (.cells #[.int .i64 1, .slice A1 x.f1.length c1, .slice A2 x.f2.length c2, .int .i64 x.f3, .int .i64 x.f4] 156)).heap[gn]? = some (.cells #[.int .i64 1, .slice A1 x.f1.length c1, .slice A2 x.f2.length c2, .int .i64 x.f3, .int .i64 x.f4] 156 (0, 0))) := ⟨by rw [← hgn]; exact blk_new w _⟩
  have HK := Aside0.mk (MK.below (gg := gg) (below_alloc (Below.refl w.heap.size w) (.cells #[.int .i64 1, .slice A1 x.f1.length c1, .slice A2 x.f2.length c2, .int .i64 x.f3, .int .i64 x.f4] 156)))
  have HB := Aside0.mk (below_alloc hB (.cells #[.int .i64 1, .slice A1 x.f1.length c1, .slice A2 x.f2.length c2, .int .i64 x.f3, .int .i64 x.f4] 156))
  have HM := Aside0.mk (Memo.below hM (below_alloc (Below.refl w.heap.size w) (.cells #[.int .i64 1, .slice A1 x.f1.length c1, .slice A2 x.f2.length c2, .int .i64 x.f3, .int .i64 x.f4] 156)))
  have HE := Aside0.mk hE
  clear hG hM hB hE
  go_enter Try.func157, Try.ntmps157
  go_upto_region 5 with (first | ((with_reducible refine gate_dst (N := 26) rfl ?_); refine Kd.R_make Kd.bool _ 4 rfl (N := 26) rfl 124 _ _ rfl (1 : Int) rfl rfl Try.underlying124 (.bool false) 1 info4 rfl (by decide) (by omega) false (ok := fun _ => True) (okp := fun _ => True) rfl (fun _ hk => hk) trivial (by omega) (by decide) (Below.refl _ _) (Nat.le_refl _) ?_; intro H8v w_ ho hb hg_ hnew_; clear hg_; replace ho : Kd.R Kd.bool 4 w_ _ (fun _ => True) H8v [false] := ho; have H8 := Aside0.mk (Row.new ho HB.out (Memo.gg_lt HM.out)); have nBN := Aside0.mk (blk_below BN.out hb); clear BN; have BN := nBN; clear nBN; have nM := Aside0.mk (Memo.below HM.out hb); have nB := Aside0.mk (below_step HB.out hb); have nK := Aside0.mk (HK.out.trans (MK.below hb)); clear HM HB HK ho hb hnew_; have HM := nM; have HB := nB; have HK := nK; clear nM nB nK; obtain ⟨cg_, hG_, _, _⟩ := Memo.head HM.out; have ha2 : w_.cell? ⟨gm, 1, none⟩ = some (.string tx) := (blk_cell hG_ 1).trans rfl; clear hG_) | ((with_reducible refine gate_dst (N := 33) rfl ?_); refine Kd.R_make Kd.bool _ 4 rfl (N := 33) rfl 124 _ _ rfl (1 : Int) rfl rfl Try.underlying124 (.bool false) 1 info4 rfl (by decide) (by omega) false (ok := fun _ => True) (okp := fun _ => True) rfl (fun _ hk => hk) trivial (by omega) (by decide) (Below.refl _ _) (Nat.le_refl _) ?_; intro H9v w_ ho hb hg_ hnew_; clear hg_; replace ho : Kd.R Kd.bool 4 w_ _ (fun _ => True) H9v [false] := ho; have H9 := Aside0.mk (Row.new ho HB.out (Memo.gg_lt HM.out)); have HX1 : ∃ W1 : World, Memo w0 gm gg (some ad) cn nodes tx E W1 ∧ Row w0 W1 gg H8v false ∧ W1.heap[gn]? = some (.cells #[.int .i64 1, .slice A1 x.f1.length c1, .slice A2 x.f2.length c2, .int .i64 x.f3, .int .i64 x.f4] 156 (0, 0)) ∧ Below W1.heap.size W1 w_ ∧ (∃ b_, H9v.ownBlock = some b_ ∧ W1.heap.size ≤ b_) ∧ Below w0.heap.size w0 W1 ∧ MK gg w W1 := ⟨_, HM.out, H8.out, BN.out, hb, hnew_, HB.out, HK.out⟩; have nH8 := Aside0.mk (Row.keep H8.out (MK.below hb)); clear H8; have H8 := nH8; clear nH8; have nBN := Aside0.mk (blk_below BN.out hb); clear BN; have BN := nBN; clear nBN; have nM := Aside0.mk (Memo.below HM.out hb); have nB := Aside0.mk (below_step HB.out hb); have nK := Aside0.mk (HK.out.trans (MK.below hb)); clear HM HB HK ho hb hnew_; have HM := nM; have HB := nB; have HK := nK; clear nM nB nK; obtain ⟨H9g, H9c, rfl, H9h⟩ := Row.form H9.out; have hx9 := Row.cell H9.out; have hf9 := Row.frozen H9.out))
  obtain ⟨W1, hM1, h81, hBN1, hb1, ⟨g9', e9, hg9⟩, hB1, hK1⟩ := HX1
  obtain rfl : H9g = g9' := by simpa [Value.ownBlock] using e9
  have Hbs := below_set hb1 hg9 (j := 0) (v := .bool true)
  have nH9 := Aside0.mk ((Kd.R_put H9.out 0 true).1)
  clear H8 H9 HM HB HK BN
  have HM := Aside0.mk (Memo.below hM1 Hbs)
  have H8 := Aside0.mk (Row.keep h81 (MK.below (gg := gg) Hbs))
  have HK := Aside0.mk (hK1.trans (MK.below (gg := gg) Hbs))
  have HB := Aside0.mk (below_step hB1 Hbs)
  have BN := Aside0.mk (blk_below hBN1 Hbs)
  have H9 : Aside0 (Row w0 (w_.setCell ⟨H9g, 0, none⟩ (.bool true)) gg (.slice (some ⟨H9g, 0, none⟩) 1 H9c) true) := nH9
  clear nH9 Hbs hM1 h81 hBN1 hb1 hg9 e9 hB1 hK1 hx9 hf9
  generalize w_.setCell ⟨H9g, 0, none⟩ (.bool true) = w9 at *
  obtain ⟨H8g, H8c, rfl, hH8⟩ := Row.form H8.out
  obtain ⟨cg_, hG_, _, _⟩ := Memo.head HM.out
  have ht1 : w9.cell? ⟨gm, 1, none⟩ = some (.string tx) := (blk_cell hG_ 1).trans rfl
  clear hG_
  have hn0 : w9.cell? ⟨gn, 0, none⟩ = some (.int .i64 1) := (blk_cell BN.out 0).trans rfl
  have hn2 : w9.cell? ⟨gn, 2, none⟩ = some (.slice A2 x.f2.length c2) := (blk_cell BN.out 2).trans rfl
  have hn3 : w9.cell? ⟨gn, 3, none⟩ = some (.int .i64 x.f3) := (blk_cell BN.out 3).trans rfl
  have hn4 : w9.cell? ⟨gn, 4, none⟩ = some (.int .i64 x.f4) := (blk_cell BN.out 4).trans rfl
  go_wp2_with fail
  go_ret
  exact ⟨_, rfl, by rw [HE.out]; exact H9.out, HM.out, HK.out, HB.out⟩
set_option maxHeartbeats 16000000 in
set_option maxRecDepth 100000 in
theorem find_set {w0 : World} {gm gg cn : Nat} {An : Option Addr} {nodes : List S156} {tx : ByteArray} {E : Nat → Bool} (ht : tx.size = 0) (hn : nodes.length ≤ 100000) (k : Nat) (hk1 : k < nodes.length) (hN : Kd.C k156 w0 An nodes.length nodes) (hop : (rd_T156 nodes (k : Int)).f0 = 2) (hE : E k = false) : FOK w0 gm gg An cn nodes tx E k := by
  intro w hM hB
  obtain ⟨ad, A1, c1, A2, c2, rfl, hx0, hx1, hx2, hx3, hx4, _, _, hc2, hC2⟩ := at_T156 hN (k : Int) (by omega) (by omega)
  rw [Int.toNat_natCast] at hx0 hx1 hx2 hx3 hx4
  replace hx0 := (hB.cell (World.block_lt_of_cell? w0 _ hx0)).trans hx0
  replace hx1 := (hB.cell (World.block_lt_of_cell? w0 _ hx1)).trans hx1
  replace hx2 := (hB.cell (World.block_lt_of_cell? w0 _ hx2)).trans hx2
  replace hx3 := (hB.cell (World.block_lt_of_cell? w0 _ hx3)).trans hx3
  replace hx4 := (hB.cell (World.block_lt_of_cell? w0 _ hx4)).trans hx4
  obtain ⟨x, hxd⟩ : ∃ x, rd_T156 nodes (k : Int) = x := ⟨_, rfl⟩
  rw [hxd] at hx0 hx1 hx2 hx3 hx4 hc2 hC2 hop
  rw [hop] at hx0
  clear hxd
  skip
  obtain ⟨cg, hG, hcg, hgm⟩ := Memo.head hM
  have hm0 : w.cell? ⟨gm, 0, none⟩ = some (.slice (some ad) nodes.length cn) := (blk_cell hG 0).trans rfl
  have hm1 : w.cell? ⟨gm, 1, none⟩ = some (.string tx) := (blk_cell hG 1).trans rfl
  have ha1 : (w.alloc (.cells #[.int .i64 2, .slice A1 x.f1.length c1, .slice A2 x.f2.length c2, .int .i64 x.f3, .int .i64 x.f4] 156)).cell? ⟨gm, 1, none⟩ = some (.string tx) := (blk_cell (blk_alloc hG _) 1).trans rfl
  have hkz : (k : Int) < (nodes.length : Int) := by omega
  have hk0 : (0 : Int) ≤ (k : Int) := by omega
  obtain ⟨gn, hgn⟩ : ∃ gn, w.heap.size = gn := ⟨_, rfl⟩
  have HGN : Aside0 (gn ≠ gg) := ⟨by have := Memo.gg_lt hM; omega⟩
  have BN : Aside0 ((w.alloc (.cells #[.int .i64 2, .slice A1 x.f1.length c1, .slice A2 x.f2.length c2, .int .i64 x.f3, .int .i64 x.f4] 156)).heap[gn]? = some (.cells #[.int .i64 2, .slice A1 x.f1.length c1, .slice A2 x.f2.length c2, .int .i64 x.f3, .int .i64 x.f4] 156 (0, 0))) := ⟨by rw [← hgn]; exact blk_new w _⟩
  have HK := Aside0.mk (MK.below (gg := gg) (below_alloc (Below.refl w.heap.size w) (.cells #[.int .i64 2, .slice A1 x.f1.length c1, .slice A2 x.f2.length c2, .int .i64 x.f3, .int .i64 x.f4] 156)))
  have HB := Aside0.mk (below_alloc hB (.cells #[.int .i64 2, .slice A1 x.f1.length c1, .slice A2 x.f2.length c2, .int .i64 x.f3, .int .i64 x.f4] 156))
  have HM := Aside0.mk (Memo.below hM (below_alloc (Below.refl w.heap.size w) (.cells #[.int .i64 2, .slice A1 x.f1.length c1, .slice A2 x.f2.length c2, .int .i64 x.f3, .int .i64 x.f4] 156)))
  have HE := Aside0.mk hE
  clear hG hM hB hE
  go_enter Try.func157, Try.ntmps157
  go_upto_region 5 with (first | ((with_reducible refine gate_dst (N := 26) rfl ?_); refine Kd.R_make Kd.bool _ 4 rfl (N := 26) rfl 124 _ _ rfl (1 : Int) rfl rfl Try.underlying124 (.bool false) 1 info4 rfl (by decide) (by omega) false (ok := fun _ => True) (okp := fun _ => True) rfl (fun _ hk => hk) trivial (by omega) (by decide) (Below.refl _ _) (Nat.le_refl _) ?_; intro H8v w_ ho hb hg_ hnew_; clear hg_; replace ho : Kd.R Kd.bool 4 w_ _ (fun _ => True) H8v [false] := ho; have H8 := Aside0.mk (Row.new ho HB.out (Memo.gg_lt HM.out)); have nBN := Aside0.mk (blk_below BN.out hb); clear BN; have BN := nBN; clear nBN; have nM := Aside0.mk (Memo.below HM.out hb); have nB := Aside0.mk (below_step HB.out hb); have nK := Aside0.mk (HK.out.trans (MK.below hb)); clear HM HB HK ho hb hnew_; have HM := nM; have HB := nB; have HK := nK; clear nM nB nK; obtain ⟨cg_, hG_, _, _⟩ := Memo.head HM.out; have ha2 : w_.cell? ⟨gm, 1, none⟩ = some (.string tx) := (blk_cell hG_ 1).trans rfl; clear hG_) | ((with_reducible refine gate_dst (N := 33) rfl ?_); refine Kd.R_make Kd.bool _ 4 rfl (N := 33) rfl 124 _ _ rfl (1 : Int) rfl rfl Try.underlying124 (.bool false) 1 info4 rfl (by decide) (by omega) false (ok := fun _ => True) (okp := fun _ => True) rfl (fun _ hk => hk) trivial (by omega) (by decide) (Below.refl _ _) (Nat.le_refl _) ?_; intro H9v w_ ho hb hg_ hnew_; clear hg_; replace ho : Kd.R Kd.bool 4 w_ _ (fun _ => True) H9v [false] := ho; have H9 := Aside0.mk (Row.new ho HB.out (Memo.gg_lt HM.out)); have HX1 : ∃ W1 : World, Memo w0 gm gg (some ad) cn nodes tx E W1 ∧ Row w0 W1 gg H8v false ∧ W1.heap[gn]? = some (.cells #[.int .i64 2, .slice A1 x.f1.length c1, .slice A2 x.f2.length c2, .int .i64 x.f3, .int .i64 x.f4] 156 (0, 0)) ∧ Below W1.heap.size W1 w_ ∧ (∃ b_, H9v.ownBlock = some b_ ∧ W1.heap.size ≤ b_) ∧ Below w0.heap.size w0 W1 ∧ MK gg w W1 := ⟨_, HM.out, H8.out, BN.out, hb, hnew_, HB.out, HK.out⟩; have nH8 := Aside0.mk (Row.keep H8.out (MK.below hb)); clear H8; have H8 := nH8; clear nH8; have nBN := Aside0.mk (blk_below BN.out hb); clear BN; have BN := nBN; clear nBN; have nM := Aside0.mk (Memo.below HM.out hb); have nB := Aside0.mk (below_step HB.out hb); have nK := Aside0.mk (HK.out.trans (MK.below hb)); clear HM HB HK ho hb hnew_; have HM := nM; have HB := nB; have HK := nK; clear nM nB nK; obtain ⟨H9g, H9c, rfl, H9h⟩ := Row.form H9.out; have hx9 := Row.cell H9.out; have hf9 := Row.frozen H9.out))
  obtain ⟨W1, hM1, h81, hBN1, hb1, ⟨g9', e9, hg9⟩, hB1, hK1⟩ := HX1
  obtain rfl : H9g = g9' := by simpa [Value.ownBlock] using e9
  have Hbs := below_set hb1 hg9 (j := 0) (v := .bool true)
  have nH9 := Aside0.mk ((Kd.R_put H9.out 0 true).1)
  clear H8 H9 HM HB HK BN
  have HM := Aside0.mk (Memo.below hM1 Hbs)
  have H8 := Aside0.mk (Row.keep h81 (MK.below (gg := gg) Hbs))
  have HK := Aside0.mk (hK1.trans (MK.below (gg := gg) Hbs))
  have HB := Aside0.mk (below_step hB1 Hbs)
  have BN := Aside0.mk (blk_below hBN1 Hbs)
  have H9 : Aside0 (Row w0 (w_.setCell ⟨H9g, 0, none⟩ (.bool true)) gg (.slice (some ⟨H9g, 0, none⟩) 1 H9c) true) := nH9
  clear nH9 Hbs hM1 h81 hBN1 hb1 hg9 e9 hB1 hK1 hx9 hf9
  generalize w_.setCell ⟨H9g, 0, none⟩ (.bool true) = w9 at *
  obtain ⟨H8g, H8c, rfl, hH8⟩ := Row.form H8.out
  obtain ⟨cg_, hG_, _, _⟩ := Memo.head HM.out
  have ht1 : w9.cell? ⟨gm, 1, none⟩ = some (.string tx) := (blk_cell hG_ 1).trans rfl
  clear hG_
  have hn0 : w9.cell? ⟨gn, 0, none⟩ = some (.int .i64 2) := (blk_cell BN.out 0).trans rfl
  have hn2 : w9.cell? ⟨gn, 2, none⟩ = some (.slice A2 x.f2.length c2) := (blk_cell BN.out 2).trans rfl
  have hn3 : w9.cell? ⟨gn, 3, none⟩ = some (.int .i64 x.f3) := (blk_cell BN.out 3).trans rfl
  have hn4 : w9.cell? ⟨gn, 4, none⟩ = some (.int .i64 x.f4) := (blk_cell BN.out 4).trans rfl
  go_wp2_with fail
  go_quiet (fail)
  go_wp2_with fail
  have HM := HM
  go_ret
  exact ⟨_, rfl, by rw [HE.out]; exact Row.keep H8.out (MK.drewN gg w9 _), Memo.below HM.out (pw_below_drewN (Below.refl _ _) _), HK.out.trans (MK.drewN gg w9 _), pw_below_drewN HB.out _⟩
set_option maxHeartbeats 16000000 in
set_option maxRecDepth 100000 in
theorem find_star {w0 : World} {gm gg cn : Nat} {An : Option Addr} {nodes : List S156} {tx : ByteArray} {E : Nat → Bool} (ht : tx.size = 0) (hn : nodes.length ≤ 100000) (k : Nat) (hk1 : k < nodes.length) (hN : Kd.C k156 w0 An nodes.length nodes) (hop : (rd_T156 nodes (k : Int)).f0 = 5) (hlen : (rd_T156 nodes (k : Int)).f2.length = 1) (k0 : Nat) (e0 : rd (rd_T156 nodes (k : Int)).f2 0 = (k0 : Int)) (he0 : EOK w0 gm gg An cn nodes tx E k0) (hE : E k = true) : FOK w0 gm gg An cn nodes tx E k := by
  intro w hM hB
  obtain ⟨ad, A1, c1, A2, c2, rfl, hx0, hx1, hx2, hx3, hx4, _, _, hc2, hC2⟩ := at_T156 hN (k : Int) (by omega) (by omega)
  rw [Int.toNat_natCast] at hx0 hx1 hx2 hx3 hx4
  replace hx0 := (hB.cell (World.block_lt_of_cell? w0 _ hx0)).trans hx0
  replace hx1 := (hB.cell (World.block_lt_of_cell? w0 _ hx1)).trans hx1
  replace hx2 := (hB.cell (World.block_lt_of_cell? w0 _ hx2)).trans hx2
  replace hx3 := (hB.cell (World.block_lt_of_cell? w0 _ hx3)).trans hx3
  replace hx4 := (hB.cell (World.block_lt_of_cell? w0 _ hx4)).trans hx4
  obtain ⟨x, hxd⟩ : ∃ x, rd_T156 nodes (k : Int) = x := ⟨_, rfl⟩
  rw [hxd] at hx0 hx1 hx2 hx3 hx4 hc2 hC2 hop hlen e0
  rw [hop] at hx0
  clear hxd
  obtain ⟨ad2, rfl, hkc0⟩ := Kd.at_int hC2 0 (by omega) (by rw [hlen]; decide)
  rw [e0] at hkc0
  rw [show (0 : Int).toNat = 0 from rfl] at hkc0
  rw [hlen] at hx2
  clear hC2 hc2 hlen
  obtain ⟨cg, hG, hcg, hgm⟩ := Memo.head hM
  have hm0 : w.cell? ⟨gm, 0, none⟩ = some (.slice (some ad) nodes.length cn) := (blk_cell hG 0).trans rfl
  have hm1 : w.cell? ⟨gm, 1, none⟩ = some (.string tx) := (blk_cell hG 1).trans rfl
  have ha1 : (w.alloc (.cells #[.int .i64 5, .slice A1 x.f1.length c1, .slice (some ad2) 1 c2, .int .i64 x.f3, .int .i64 x.f4] 156)).cell? ⟨gm, 1, none⟩ = some (.string tx) := (blk_cell (blk_alloc hG _) 1).trans rfl
  have hkz : (k : Int) < (nodes.length : Int) := by omega
  have hk0 : (0 : Int) ≤ (k : Int) := by omega
  obtain ⟨gn, hgn⟩ : ∃ gn, w.heap.size = gn := ⟨_, rfl⟩
  have HGN : Aside0 (gn ≠ gg) := ⟨by have := Memo.gg_lt hM; omega⟩
  have BN : Aside0 ((w.alloc (.cells #[.int .i64 5, .slice A1 x.f1.length c1, .slice (some ad2) 1 c2, .int .i64 x.f3, .int .i64 x.f4] 156)).heap[gn]? = some (.cells #[.int .i64 5, .slice A1 x.f1.length c1, .slice (some ad2) 1 c2, .int .i64 x.f3, .int .i64 x.f4] 156 (0, 0))) := ⟨by rw [← hgn]; exact blk_new w _⟩
  have HK := Aside0.mk (MK.below (gg := gg) (below_alloc (Below.refl w.heap.size w) (.cells #[.int .i64 5, .slice A1 x.f1.length c1, .slice (some ad2) 1 c2, .int .i64 x.f3, .int .i64 x.f4] 156)))
  have HB := Aside0.mk (below_alloc hB (.cells #[.int .i64 5, .slice A1 x.f1.length c1, .slice (some ad2) 1 c2, .int .i64 x.f3, .int .i64 x.f4] 156))
  have HM := Aside0.mk (Memo.below hM (below_alloc (Below.refl w.heap.size w) (.cells #[.int .i64 5, .slice A1 x.f1.length c1, .slice (some ad2) 1 c2, .int .i64 x.f3, .int .i64 x.f4] 156)))
  have HE := Aside0.mk hE
  clear hG hM hB hE
  go_enter Try.func157, Try.ntmps157
  go_upto_region 5 with (first | ((with_reducible refine gate_dst (N := 26) rfl ?_); refine Kd.R_make Kd.bool _ 4 rfl (N := 26) rfl 124 _ _ rfl (1 : Int) rfl rfl Try.underlying124 (.bool false) 1 info4 rfl (by decide) (by omega) false (ok := fun _ => True) (okp := fun _ => True) rfl (fun _ hk => hk) trivial (by omega) (by decide) (Below.refl _ _) (Nat.le_refl _) ?_; intro H8v w_ ho hb hg_ hnew_; clear hg_; replace ho : Kd.R Kd.bool 4 w_ _ (fun _ => True) H8v [false] := ho; have H8 := Aside0.mk (Row.new ho HB.out (Memo.gg_lt HM.out)); have nBN := Aside0.mk (blk_below BN.out hb); clear BN; have BN := nBN; clear nBN; have nM := Aside0.mk (Memo.below HM.out hb); have nB := Aside0.mk (below_step HB.out hb); have nK := Aside0.mk (HK.out.trans (MK.below hb)); clear HM HB HK ho hb hnew_; have HM := nM; have HB := nB; have HK := nK; clear nM nB nK; obtain ⟨cg_, hG_, _, _⟩ := Memo.head HM.out; have ha2 : w_.cell? ⟨gm, 1, none⟩ = some (.string tx) := (blk_cell hG_ 1).trans rfl; clear hG_) | ((with_reducible refine gate_dst (N := 33) rfl ?_); refine Kd.R_make Kd.bool _ 4 rfl (N := 33) rfl 124 _ _ rfl (1 : Int) rfl rfl Try.underlying124 (.bool false) 1 info4 rfl (by decide) (by omega) false (ok := fun _ => True) (okp := fun _ => True) rfl (fun _ hk => hk) trivial (by omega) (by decide) (Below.refl _ _) (Nat.le_refl _) ?_; intro H9v w_ ho hb hg_ hnew_; clear hg_; replace ho : Kd.R Kd.bool 4 w_ _ (fun _ => True) H9v [false] := ho; have H9 := Aside0.mk (Row.new ho HB.out (Memo.gg_lt HM.out)); have HX1 : ∃ W1 : World, Memo w0 gm gg (some ad) cn nodes tx E W1 ∧ Row w0 W1 gg H8v false ∧ W1.heap[gn]? = some (.cells #[.int .i64 5, .slice A1 x.f1.length c1, .slice (some ad2) 1 c2, .int .i64 x.f3, .int .i64 x.f4] 156 (0, 0)) ∧ Below W1.heap.size W1 w_ ∧ (∃ b_, H9v.ownBlock = some b_ ∧ W1.heap.size ≤ b_) ∧ Below w0.heap.size w0 W1 ∧ MK gg w W1 := ⟨_, HM.out, H8.out, BN.out, hb, hnew_, HB.out, HK.out⟩; have nH8 := Aside0.mk (Row.keep H8.out (MK.below hb)); clear H8; have H8 := nH8; clear nH8; have nBN := Aside0.mk (blk_below BN.out hb); clear BN; have BN := nBN; clear nBN; have nM := Aside0.mk (Memo.below HM.out hb); have nB := Aside0.mk (below_step HB.out hb); have nK := Aside0.mk (HK.out.trans (MK.below hb)); clear HM HB HK ho hb hnew_; have HM := nM; have HB := nB; have HK := nK; clear nM nB nK; obtain ⟨H9g, H9c, rfl, H9h⟩ := Row.form H9.out; have hx9 := Row.cell H9.out; have hf9 := Row.frozen H9.out))
  obtain ⟨W1, hM1, h81, hBN1, hb1, ⟨g9', e9, hg9⟩, hB1, hK1⟩ := HX1
  obtain rfl : H9g = g9' := by simpa [Value.ownBlock] using e9
  have Hbs := below_set hb1 hg9 (j := 0) (v := .bool true)
  have nH9 := Aside0.mk ((Kd.R_put H9.out 0 true).1)
  clear H8 H9 HM HB HK BN
  have HM := Aside0.mk (Memo.below hM1 Hbs)
  have H8 := Aside0.mk (Row.keep h81 (MK.below (gg := gg) Hbs))
  have HK := Aside0.mk (hK1.trans (MK.below (gg := gg) Hbs))
  have HB := Aside0.mk (below_step hB1 Hbs)
  have BN := Aside0.mk (blk_below hBN1 Hbs)
  have H9 : Aside0 (Row w0 (w_.setCell ⟨H9g, 0, none⟩ (.bool true)) gg (.slice (some ⟨H9g, 0, none⟩) 1 H9c) true) := nH9
  clear nH9 Hbs hM1 h81 hBN1 hb1 hg9 e9 hB1 hK1 hx9 hf9
  generalize w_.setCell ⟨H9g, 0, none⟩ (.bool true) = w9 at *
  obtain ⟨H8g, H8c, rfl, hH8⟩ := Row.form H8.out
  obtain ⟨cg_, hG_, _, _⟩ := Memo.head HM.out
  have ht1 : w9.cell? ⟨gm, 1, none⟩ = some (.string tx) := (blk_cell hG_ 1).trans rfl
  clear hG_
  have hn0 : w9.cell? ⟨gn, 0, none⟩ = some (.int .i64 5) := (blk_cell BN.out 0).trans rfl
  have hn2 : w9.cell? ⟨gn, 2, none⟩ = some (.slice (some ad2) 1 c2) := (blk_cell BN.out 2).trans rfl
  have hn3 : w9.cell? ⟨gn, 3, none⟩ = some (.int .i64 x.f3) := (blk_cell BN.out 3).trans rfl
  have hn4 : w9.cell? ⟨gn, 4, none⟩ = some (.int .i64 x.f4) := (blk_cell BN.out 4).trans rfl
  have hq0 := (HB.out.cell (World.block_lt_of_cell? w0 _ hkc0)).trans hkc0
  have hz0 := hq0
  rw [show ad2.add 0 = ad2 by cases ad2; rfl] at hz0
  have HE0 := Aside0.mk he0
  clear hkc0 he0
  go_wp2_with (go_at_call 172; refine (again_of k0 HE0.out _ true _ HM.out HB.out H9.out).mono ?_; rintro e w_ ⟨v_, rfl, hR_, hM_, hK_, hB_⟩; have HA := Aside0.mk hR_; have nK := Aside0.mk (HK.out.trans hK_); clear HM HB HK hR_ hK_; have HM := Aside0.mk hM_; have HB := Aside0.mk hB_; have HK := nK; clear nK hM_ hB_)
  go_ret
  exact ⟨_, rfl, by rw [HE.out]; exact HA.out, HM.out, HK.out, HB.out⟩
set_option maxHeartbeats 16000000 in
set_option maxRecDepth 100000 in
theorem find_maybe {w0 : World} {gm gg cn : Nat} {An : Option Addr} {nodes : List S156} {tx : ByteArray} {E : Nat → Bool} (ht : tx.size = 0) (hn : nodes.length ≤ 100000) (k : Nat) (hk1 : k < nodes.length) (hN : Kd.C k156 w0 An nodes.length nodes) (hop : (rd_T156 nodes (k : Int)).f0 = 7) (hlen : (rd_T156 nodes (k : Int)).f2.length = 1) (k0 : Nat) (e0 : rd (rd_T156 nodes (k : Int)).f2 0 = (k0 : Int)) (he0 : EOK w0 gm gg An cn nodes tx E k0) (hE : E k = true) : FOK w0 gm gg An cn nodes tx E k := by
  intro w hM hB
  obtain ⟨ad, A1, c1, A2, c2, rfl, hx0, hx1, hx2, hx3, hx4, _, _, hc2, hC2⟩ := at_T156 hN (k : Int) (by omega) (by omega)
  rw [Int.toNat_natCast] at hx0 hx1 hx2 hx3 hx4
  replace hx0 := (hB.cell (World.block_lt_of_cell? w0 _ hx0)).trans hx0
  replace hx1 := (hB.cell (World.block_lt_of_cell? w0 _ hx1)).trans hx1
  replace hx2 := (hB.cell (World.block_lt_of_cell? w0 _ hx2)).trans hx2
  replace hx3 := (hB.cell (World.block_lt_of_cell? w0 _ hx3)).trans hx3
  replace hx4 := (hB.cell (World.block_lt_of_cell? w0 _ hx4)).trans hx4
  obtain ⟨x, hxd⟩ : ∃ x, rd_T156 nodes (k : Int) = x := ⟨_, rfl⟩
  rw [hxd] at hx0 hx1 hx2 hx3 hx4 hc2 hC2 hop hlen e0
  rw [hop] at hx0
  clear hxd
  obtain ⟨ad2, rfl, hkc0⟩ := Kd.at_int hC2 0 (by omega) (by rw [hlen]; decide)
  rw [e0] at hkc0
  rw [show (0 : Int).toNat = 0 from rfl] at hkc0
  rw [hlen] at hx2
  clear hC2 hc2 hlen
  obtain ⟨cg, hG, hcg, hgm⟩ := Memo.head hM
  have hm0 : w.cell? ⟨gm, 0, none⟩ = some (.slice (some ad) nodes.length cn) := (blk_cell hG 0).trans rfl
  have hm1 : w.cell? ⟨gm, 1, none⟩ = some (.string tx) := (blk_cell hG 1).trans rfl
  have ha1 : (w.alloc (.cells #[.int .i64 7, .slice A1 x.f1.length c1, .slice (some ad2) 1 c2, .int .i64 x.f3, .int .i64 x.f4] 156)).cell? ⟨gm, 1, none⟩ = some (.string tx) := (blk_cell (blk_alloc hG _) 1).trans rfl
  have hkz : (k : Int) < (nodes.length : Int) := by omega
  have hk0 : (0 : Int) ≤ (k : Int) := by omega
  obtain ⟨gn, hgn⟩ : ∃ gn, w.heap.size = gn := ⟨_, rfl⟩
  have HGN : Aside0 (gn ≠ gg) := ⟨by have := Memo.gg_lt hM; omega⟩
  have BN : Aside0 ((w.alloc (.cells #[.int .i64 7, .slice A1 x.f1.length c1, .slice (some ad2) 1 c2, .int .i64 x.f3, .int .i64 x.f4] 156)).heap[gn]? = some (.cells #[.int .i64 7, .slice A1 x.f1.length c1, .slice (some ad2) 1 c2, .int .i64 x.f3, .int .i64 x.f4] 156 (0, 0))) := ⟨by rw [← hgn]; exact blk_new w _⟩
  have HK := Aside0.mk (MK.below (gg := gg) (below_alloc (Below.refl w.heap.size w) (.cells #[.int .i64 7, .slice A1 x.f1.length c1, .slice (some ad2) 1 c2, .int .i64 x.f3, .int .i64 x.f4] 156)))
  have HB := Aside0.mk (below_alloc hB (.cells #[.int .i64 7, .slice A1 x.f1.length c1, .slice (some ad2) 1 c2, .int .i64 x.f3, .int .i64 x.f4] 156))
  have HM := Aside0.mk (Memo.below hM (below_alloc (Below.refl w.heap.size w) (.cells #[.int .i64 7, .slice A1 x.f1.length c1, .slice (some ad2) 1 c2, .int .i64 x.f3, .int .i64 x.f4] 156)))
  have HE := Aside0.mk hE
  clear hG hM hB hE
  go_enter Try.func157, Try.ntmps157
  go_upto_region 5 with (first | ((with_reducible refine gate_dst (N := 26) rfl ?_); refine Kd.R_make Kd.bool _ 4 rfl (N := 26) rfl 124 _ _ rfl (1 : Int) rfl rfl Try.underlying124 (.bool false) 1 info4 rfl (by decide) (by omega) false (ok := fun _ => True) (okp := fun _ => True) rfl (fun _ hk => hk) trivial (by omega) (by decide) (Below.refl _ _) (Nat.le_refl _) ?_; intro H8v w_ ho hb hg_ hnew_; clear hg_; replace ho : Kd.R Kd.bool 4 w_ _ (fun _ => True) H8v [false] := ho; have H8 := Aside0.mk (Row.new ho HB.out (Memo.gg_lt HM.out)); have nBN := Aside0.mk (blk_below BN.out hb); clear BN; have BN := nBN; clear nBN; have nM := Aside0.mk (Memo.below HM.out hb); have nB := Aside0.mk (below_step HB.out hb); have nK := Aside0.mk (HK.out.trans (MK.below hb)); clear HM HB HK ho hb hnew_; have HM := nM; have HB := nB; have HK := nK; clear nM nB nK; obtain ⟨cg_, hG_, _, _⟩ := Memo.head HM.out; have ha2 : w_.cell? ⟨gm, 1, none⟩ = some (.string tx) := (blk_cell hG_ 1).trans rfl; clear hG_) | ((with_reducible refine gate_dst (N := 33) rfl ?_); refine Kd.R_make Kd.bool _ 4 rfl (N := 33) rfl 124 _ _ rfl (1 : Int) rfl rfl Try.underlying124 (.bool false) 1 info4 rfl (by decide) (by omega) false (ok := fun _ => True) (okp := fun _ => True) rfl (fun _ hk => hk) trivial (by omega) (by decide) (Below.refl _ _) (Nat.le_refl _) ?_; intro H9v w_ ho hb hg_ hnew_; clear hg_; replace ho : Kd.R Kd.bool 4 w_ _ (fun _ => True) H9v [false] := ho; have H9 := Aside0.mk (Row.new ho HB.out (Memo.gg_lt HM.out)); have HX1 : ∃ W1 : World, Memo w0 gm gg (some ad) cn nodes tx E W1 ∧ Row w0 W1 gg H8v false ∧ W1.heap[gn]? = some (.cells #[.int .i64 7, .slice A1 x.f1.length c1, .slice (some ad2) 1 c2, .int .i64 x.f3, .int .i64 x.f4] 156 (0, 0)) ∧ Below W1.heap.size W1 w_ ∧ (∃ b_, H9v.ownBlock = some b_ ∧ W1.heap.size ≤ b_) ∧ Below w0.heap.size w0 W1 ∧ MK gg w W1 := ⟨_, HM.out, H8.out, BN.out, hb, hnew_, HB.out, HK.out⟩; have nH8 := Aside0.mk (Row.keep H8.out (MK.below hb)); clear H8; have H8 := nH8; clear nH8; have nBN := Aside0.mk (blk_below BN.out hb); clear BN; have BN := nBN; clear nBN; have nM := Aside0.mk (Memo.below HM.out hb); have nB := Aside0.mk (below_step HB.out hb); have nK := Aside0.mk (HK.out.trans (MK.below hb)); clear HM HB HK ho hb hnew_; have HM := nM; have HB := nB; have HK := nK; clear nM nB nK; obtain ⟨H9g, H9c, rfl, H9h⟩ := Row.form H9.out; have hx9 := Row.cell H9.out; have hf9 := Row.frozen H9.out))
  obtain ⟨W1, hM1, h81, hBN1, hb1, ⟨g9', e9, hg9⟩, hB1, hK1⟩ := HX1
  obtain rfl : H9g = g9' := by simpa [Value.ownBlock] using e9
  have Hbs := below_set hb1 hg9 (j := 0) (v := .bool true)
  have nH9 := Aside0.mk ((Kd.R_put H9.out 0 true).1)
  clear H8 H9 HM HB HK BN
  have HM := Aside0.mk (Memo.below hM1 Hbs)
  have H8 := Aside0.mk (Row.keep h81 (MK.below (gg := gg) Hbs))
  have HK := Aside0.mk (hK1.trans (MK.below (gg := gg) Hbs))
  have HB := Aside0.mk (below_step hB1 Hbs)
  have BN := Aside0.mk (blk_below hBN1 Hbs)
  have H9 : Aside0 (Row w0 (w_.setCell ⟨H9g, 0, none⟩ (.bool true)) gg (.slice (some ⟨H9g, 0, none⟩) 1 H9c) true) := nH9
  clear nH9 Hbs hM1 h81 hBN1 hb1 hg9 e9 hB1 hK1 hx9 hf9
  generalize w_.setCell ⟨H9g, 0, none⟩ (.bool true) = w9 at *
  obtain ⟨H8g, H8c, rfl, hH8⟩ := Row.form H8.out
  obtain ⟨cg_, hG_, _, _⟩ := Memo.head HM.out
  have ht1 : w9.cell? ⟨gm, 1, none⟩ = some (.string tx) := (blk_cell hG_ 1).trans rfl
  clear hG_
  have hn0 : w9.cell? ⟨gn, 0, none⟩ = some (.int .i64 7) := (blk_cell BN.out 0).trans rfl
  have hn2 : w9.cell? ⟨gn, 2, none⟩ = some (.slice (some ad2) 1 c2) := (blk_cell BN.out 2).trans rfl
  have hn3 : w9.cell? ⟨gn, 3, none⟩ = some (.int .i64 x.f3) := (blk_cell BN.out 3).trans rfl
  have hn4 : w9.cell? ⟨gn, 4, none⟩ = some (.int .i64 x.f4) := (blk_cell BN.out 4).trans rfl
  have hq0 := (HB.out.cell (World.block_lt_of_cell? w0 _ hkc0)).trans hkc0
  have hz0 := hq0
  rw [show ad2.add 0 = ad2 by cases ad2; rfl] at hz0
  have HE0 := Aside0.mk he0
  clear hkc0 he0
  go_wp2_with (first | (go_at_call 121; refine (HE0.out _ HM.out HB.out).mono ?_; rintro e w_ ⟨v_, rfl, hR_, hM_, hK_, hB_⟩; have nH9 := Aside0.mk (Row.keep H9.out hK_); clear H9; have H9 := nH9; clear nH9; obtain ⟨g_, c_, rfl, hc_⟩ := Row.form hR_; have HA := Aside0.mk hR_; have nK := Aside0.mk (HK.out.trans hK_); clear HM HB HK hR_ hK_; have HM := Aside0.mk hM_; have HB := Aside0.mk hB_; have HK := nK; clear nK hM_ hB_) | (go_at_call 171; obtain ⟨k_, hk_⟩ := or_one true (E k0); refine (spec_l4Or.calls k_ _ _ [true] _ _ [(E k0)] _ _ (Row.C H9.out) (Kd.R_reads' H9.out).2.1 (Row.C HA.out) (Kd.R_reads' HA.out).2.1 hk_).mono ?_; rintro e w_ ⟨HOv, rfl, ho, hb⟩; have HO := Aside0.mk (Row.new ho HB.out (Memo.gg_lt HM.out)); have nM := Aside0.mk (Memo.below HM.out hb); have nB := Aside0.mk (below_step HB.out hb); have nK := Aside0.mk (HK.out.trans (MK.below hb)); clear HM HB HK ho hb hk_; have HM := nM; have HB := nB; have HK := nK; clear nM nB nK))
  go_ret
  exact ⟨_, rfl, by rw [HE.out]; exact (by have h := HO.out; simpa using h), HM.out, HK.out, HB.out⟩
theorem MK.cell {gg : Nat} {w w1 : World} (h : MK gg w w1) {p : Addr} {v : Value} (hc : w.cell? p = some v) (hne : p.block ≠ gg) : w1.cell? p = some v := by
  have hb := h.2 p.block (World.block_lt_of_cell? w p hc) hne
  exact (World.cell?_of_block hb).trans hc
theorem Memo.gg_ge {w0 w : World} {gm gg cn : Nat} {An : Option Addr} {nodes : List S156} {tx : ByteArray} {E : Nat → Bool} (h : Memo w0 gm gg An cn nodes tx E w) : w0.heap.size ≤ gg := by
  obtain ⟨cg, cs, _, _, _, h4, _⟩ := h
  exact h4
set_option maxHeartbeats 16000000 in
set_option maxRecDepth 100000 in
theorem find_cat {w0 : World} {gm gg cn : Nat} {An : Option Addr} {nodes : List S156} {tx : ByteArray} {E : Nat → Bool} (ht : tx.size = 0) (hn : nodes.length ≤ 100000) (k : Nat) (hk1 : k < nodes.length) (hN : Kd.C k156 w0 An nodes.length nodes) (hop : (rd_T156 nodes (k : Int)).f0 = 3) (hlen : (rd_T156 nodes (k : Int)).f2.length = 2) (k0 : Nat) (e0 : rd (rd_T156 nodes (k : Int)).f2 0 = (k0 : Int)) (he0 : EOK w0 gm gg An cn nodes tx E k0) (k1 : Nat) (e1 : rd (rd_T156 nodes (k : Int)).f2 1 = (k1 : Int)) (he1 : EOK w0 gm gg An cn nodes tx E k1) (hE : E k = (E k0 && E k1)) : FOK w0 gm gg An cn nodes tx E k := by
  intro w hM hB
  obtain ⟨ad, A1, c1, A2, c2, rfl, hx0, hx1, hx2, hx3, hx4, _, _, hc2, hC2⟩ := at_T156 hN (k : Int) (by omega) (by omega)
  rw [Int.toNat_natCast] at hx0 hx1 hx2 hx3 hx4
  replace hx0 := (hB.cell (World.block_lt_of_cell? w0 _ hx0)).trans hx0
  replace hx1 := (hB.cell (World.block_lt_of_cell? w0 _ hx1)).trans hx1
  replace hx2 := (hB.cell (World.block_lt_of_cell? w0 _ hx2)).trans hx2
  replace hx3 := (hB.cell (World.block_lt_of_cell? w0 _ hx3)).trans hx3
  replace hx4 := (hB.cell (World.block_lt_of_cell? w0 _ hx4)).trans hx4
  obtain ⟨x, hxd⟩ : ∃ x, rd_T156 nodes (k : Int) = x := ⟨_, rfl⟩
  rw [hxd] at hx0 hx1 hx2 hx3 hx4 hc2 hC2 hop hlen e0 e1
  rw [hop] at hx0
  clear hxd
  obtain ⟨ad2, rfl, hkc0⟩ := Kd.at_int hC2 0 (by omega) (by rw [hlen]; decide)
  rw [e0] at hkc0
  rw [show (0 : Int).toNat = 0 from rfl] at hkc0
  obtain ⟨ad3, e3, hkc1⟩ := Kd.at_int hC2 1 (by omega) (by rw [hlen]; decide)
  cases e3
  rw [e1] at hkc1
  rw [show (1 : Int).toNat = 1 from rfl] at hkc1
  rw [hlen] at hx2
  clear hC2 hc2 hlen
  obtain ⟨cg, hG, hcg, hgm⟩ := Memo.head hM
  have hm0 : w.cell? ⟨gm, 0, none⟩ = some (.slice (some ad) nodes.length cn) := (blk_cell hG 0).trans rfl
  have hm1 : w.cell? ⟨gm, 1, none⟩ = some (.string tx) := (blk_cell hG 1).trans rfl
  have ha1 : (w.alloc (.cells #[.int .i64 3, .slice A1 x.f1.length c1, .slice (some ad2) 2 c2, .int .i64 x.f3, .int .i64 x.f4] 156)).cell? ⟨gm, 1, none⟩ = some (.string tx) := (blk_cell (blk_alloc hG _) 1).trans rfl
  have hkz : (k : Int) < (nodes.length : Int) := by omega
  have hk0 : (0 : Int) ≤ (k : Int) := by omega
  obtain ⟨gn, hgn⟩ : ∃ gn, w.heap.size = gn := ⟨_, rfl⟩
  have HGN : Aside0 (gn ≠ gg) := ⟨by have := Memo.gg_lt hM; omega⟩
  have BN : Aside0 ((w.alloc (.cells #[.int .i64 3, .slice A1 x.f1.length c1, .slice (some ad2) 2 c2, .int .i64 x.f3, .int .i64 x.f4] 156)).heap[gn]? = some (.cells #[.int .i64 3, .slice A1 x.f1.length c1, .slice (some ad2) 2 c2, .int .i64 x.f3, .int .i64 x.f4] 156 (0, 0))) := ⟨by rw [← hgn]; exact blk_new w _⟩
  have HK := Aside0.mk (MK.below (gg := gg) (below_alloc (Below.refl w.heap.size w) (.cells #[.int .i64 3, .slice A1 x.f1.length c1, .slice (some ad2) 2 c2, .int .i64 x.f3, .int .i64 x.f4] 156)))
  have HB := Aside0.mk (below_alloc hB (.cells #[.int .i64 3, .slice A1 x.f1.length c1, .slice (some ad2) 2 c2, .int .i64 x.f3, .int .i64 x.f4] 156))
  have HM := Aside0.mk (Memo.below hM (below_alloc (Below.refl w.heap.size w) (.cells #[.int .i64 3, .slice A1 x.f1.length c1, .slice (some ad2) 2 c2, .int .i64 x.f3, .int .i64 x.f4] 156)))
  have HE := Aside0.mk hE
  clear hG hM hB hE
  go_enter Try.func157, Try.ntmps157
  go_upto_region 5 with (first | ((with_reducible refine gate_dst (N := 26) rfl ?_); refine Kd.R_make Kd.bool _ 4 rfl (N := 26) rfl 124 _ _ rfl (1 : Int) rfl rfl Try.underlying124 (.bool false) 1 info4 rfl (by decide) (by omega) false (ok := fun _ => True) (okp := fun _ => True) rfl (fun _ hk => hk) trivial (by omega) (by decide) (Below.refl _ _) (Nat.le_refl _) ?_; intro H8v w_ ho hb hg_ hnew_; clear hg_; replace ho : Kd.R Kd.bool 4 w_ _ (fun _ => True) H8v [false] := ho; have H8 := Aside0.mk (Row.new ho HB.out (Memo.gg_lt HM.out)); have nBN := Aside0.mk (blk_below BN.out hb); clear BN; have BN := nBN; clear nBN; have nM := Aside0.mk (Memo.below HM.out hb); have nB := Aside0.mk (below_step HB.out hb); have nK := Aside0.mk (HK.out.trans (MK.below hb)); clear HM HB HK ho hb hnew_; have HM := nM; have HB := nB; have HK := nK; clear nM nB nK; obtain ⟨cg_, hG_, _, _⟩ := Memo.head HM.out; have ha2 : w_.cell? ⟨gm, 1, none⟩ = some (.string tx) := (blk_cell hG_ 1).trans rfl; clear hG_) | ((with_reducible refine gate_dst (N := 33) rfl ?_); refine Kd.R_make Kd.bool _ 4 rfl (N := 33) rfl 124 _ _ rfl (1 : Int) rfl rfl Try.underlying124 (.bool false) 1 info4 rfl (by decide) (by omega) false (ok := fun _ => True) (okp := fun _ => True) rfl (fun _ hk => hk) trivial (by omega) (by decide) (Below.refl _ _) (Nat.le_refl _) ?_; intro H9v w_ ho hb hg_ hnew_; clear hg_; replace ho : Kd.R Kd.bool 4 w_ _ (fun _ => True) H9v [false] := ho; have H9 := Aside0.mk (Row.new ho HB.out (Memo.gg_lt HM.out)); have HX1 : ∃ W1 : World, Memo w0 gm gg (some ad) cn nodes tx E W1 ∧ Row w0 W1 gg H8v false ∧ W1.heap[gn]? = some (.cells #[.int .i64 3, .slice A1 x.f1.length c1, .slice (some ad2) 2 c2, .int .i64 x.f3, .int .i64 x.f4] 156 (0, 0)) ∧ Below W1.heap.size W1 w_ ∧ (∃ b_, H9v.ownBlock = some b_ ∧ W1.heap.size ≤ b_) ∧ Below w0.heap.size w0 W1 ∧ MK gg w W1 := ⟨_, HM.out, H8.out, BN.out, hb, hnew_, HB.out, HK.out⟩; have nH8 := Aside0.mk (Row.keep H8.out (MK.below hb)); clear H8; have H8 := nH8; clear nH8; have nBN := Aside0.mk (blk_below BN.out hb); clear BN; have BN := nBN; clear nBN; have nM := Aside0.mk (Memo.below HM.out hb); have nB := Aside0.mk (below_step HB.out hb); have nK := Aside0.mk (HK.out.trans (MK.below hb)); clear HM HB HK ho hb hnew_; have HM := nM; have HB := nB; have HK := nK; clear nM nB nK; obtain ⟨H9g, H9c, rfl, H9h⟩ := Row.form H9.out; have hx9 := Row.cell H9.out; have hf9 := Row.frozen H9.out))
  obtain ⟨W1, hM1, h81, hBN1, hb1, ⟨g9', e9, hg9⟩, hB1, hK1⟩ := HX1
  obtain rfl : H9g = g9' := by simpa [Value.ownBlock] using e9
  have Hbs := below_set hb1 hg9 (j := 0) (v := .bool true)
  have nH9 := Aside0.mk ((Kd.R_put H9.out 0 true).1)
  clear H8 H9 HM HB HK BN
  have HM := Aside0.mk (Memo.below hM1 Hbs)
  have H8 := Aside0.mk (Row.keep h81 (MK.below (gg := gg) Hbs))
  have HK := Aside0.mk (hK1.trans (MK.below (gg := gg) Hbs))
  have HB := Aside0.mk (below_step hB1 Hbs)
  have BN := Aside0.mk (blk_below hBN1 Hbs)
  have H9 : Aside0 (Row w0 (w_.setCell ⟨H9g, 0, none⟩ (.bool true)) gg (.slice (some ⟨H9g, 0, none⟩) 1 H9c) true) := nH9
  clear nH9 Hbs hM1 h81 hBN1 hb1 hg9 e9 hB1 hK1 hx9 hf9
  generalize w_.setCell ⟨H9g, 0, none⟩ (.bool true) = w9 at *
  obtain ⟨H8g, H8c, rfl, hH8⟩ := Row.form H8.out
  obtain ⟨cg_, hG_, _, _⟩ := Memo.head HM.out
  have ht1 : w9.cell? ⟨gm, 1, none⟩ = some (.string tx) := (blk_cell hG_ 1).trans rfl
  clear hG_
  have hn0 : w9.cell? ⟨gn, 0, none⟩ = some (.int .i64 3) := (blk_cell BN.out 0).trans rfl
  have hn2 : w9.cell? ⟨gn, 2, none⟩ = some (.slice (some ad2) 2 c2) := (blk_cell BN.out 2).trans rfl
  have hn3 : w9.cell? ⟨gn, 3, none⟩ = some (.int .i64 x.f3) := (blk_cell BN.out 3).trans rfl
  have hn4 : w9.cell? ⟨gn, 4, none⟩ = some (.int .i64 x.f4) := (blk_cell BN.out 4).trans rfl
  have hq0 := (HB.out.cell (World.block_lt_of_cell? w0 _ hkc0)).trans hkc0
  have hq1 := (HB.out.cell (World.block_lt_of_cell? w0 _ hkc1)).trans hkc1
  have hz0 := hq0
  rw [show ad2.add 0 = ad2 by cases ad2; rfl] at hz0
  have HE0 := Aside0.mk he0
  have HE1 := Aside0.mk he1
  have hkb := hkc0
  clear hkc0 he0 hkc1 he1
  have hs_ := World.cell?_spot hz0
  rw [show ad2.add 1 = ⟨ad2.block, ad2.off + 1, none⟩ by (obtain ⟨b_, o_, s_⟩ := ad2; simp only at hs_; subst hs_; rfl)] at hq1
  go_wp2_with fail
  replace HM : Aside0 (Memo w0 gm gg (some ad) cn nodes tx E w9.drew) := ⟨Memo.below HM.out (below_drew1 (Below.refl _ _))⟩
  replace HB : Aside0 (Below w0.heap.size w0 w9.drew) := ⟨below_drew1 HB.out⟩
  replace HK : Aside0 (MK gg w w9.drew) := ⟨HK.out.trans (MK.below (below_drew1 (Below.refl _ _)))⟩
  replace BN := Aside0.mk (blk_drew BN.out)
  have HAD : Aside0 (ad2.block ≠ gg) := ⟨by have h1 := World.block_lt_of_cell? w0 _ hkb; have h2 := Memo.gg_ge HM.out; rw [add_block] at h1; omega⟩
  refine start_ (n := 14) (S := fun w' => w'.cell? ⟨gn, 2, none⟩ = some (.slice (some ad2) 2 c2) ∧ w'.cell? ad2 = some (.int .i64 (k0 : Int)) ∧ w'.cell? ⟨ad2.block, ad2.off + 1, none⟩ = some (.int .i64 (k1 : Int))) (ds := []) #[false, false, false, false, false, false, false, false, false, false, false, false, false, false] (by kernel_rfl) rfl rfl ⟨(blk_cell BN.out 2).trans rfl, hz0, hq1⟩ (fun hHeld => ?_)
  generalize hW1 : w9.drew = W1 at HM HB HK BN hHeld ⊢
  refine pure_ (i := 0) (N := (some 70)) (v := ?_) (a' := ?_) #[true, false, false, false, false, false, false, false, false, false, false, false, false, false] rfl rfl (by kernel_rfl) (fun _ _ _ h => h) (Or.inl ⟨by rfl, ?_⟩) ?_ ?_
  rotate_left
  · intro w'
    go_simp
    with_reducible rfl
  rotate_left
  · simp only [Act.put, List.setIfInBounds_toArray, List.set_cons_zero, List.set_cons_succ, i64_w, i32_w]
    rfl
  refine pure_ (i := 1) (N := (some 71)) (v := ?_) (a' := ?_) #[true, true, false, false, false, false, false, false, false, false, false, false, false, false] rfl rfl (by kernel_rfl) (fun _ _ _ h => h) (Or.inl ⟨by rfl, ?_⟩) ?_ ?_
  rotate_left
  · intro w'
    go_simp
    with_reducible rfl
  rotate_left
  · simp only [Act.put, List.setIfInBounds_toArray, List.set_cons_zero, List.set_cons_succ, i64_w, i32_w]
    rfl
  refine pure_ (i := 5) (N := (some 75)) (v := ?_) (a' := ?_) #[true, true, false, false, false, true, false, false, false, false, false, false, false, false] rfl rfl (by kernel_rfl) (fun _ _ _ h => h) (Or.inl ⟨by rfl, ?_⟩) ?_ ?_
  rotate_left
  · intro w'
    go_simp
    with_reducible rfl
  rotate_left
  · simp only [Act.put, List.setIfInBounds_toArray, List.set_cons_zero, List.set_cons_succ, i64_w, i32_w]
    rfl
  refine pure_ (i := 6) (N := (some 76)) (v := ?_) (a' := ?_) #[true, true, false, false, false, true, true, false, false, false, false, false, false, false] rfl rfl (by kernel_rfl) (fun _ _ _ h => h) (Or.inl ⟨by rfl, ?_⟩) ?_ ?_
  rotate_left
  · intro w'
    go_simp
    with_reducible rfl
  rotate_left
  · simp only [Act.put, List.setIfInBounds_toArray, List.set_cons_zero, List.set_cons_succ, i64_w, i32_w]
    rfl
  refine pure_ (i := 10) (N := (some 80)) (v := ?_) (a' := ?_) #[true, true, false, false, false, true, true, false, false, false, true, false, false, false] rfl rfl (by kernel_rfl) (fun _ _ _ h => h) (Or.inl ⟨by rfl, ?_⟩) ?_ ?_
  rotate_left
  · intro w'
    go_simp
    with_reducible rfl
  rotate_left
  · simp only [Act.put, List.setIfInBounds_toArray, List.set_cons_zero, List.set_cons_succ, i64_w, i32_w]
    rfl
  refine take_ (i := 2) (N := (some 72)) (v := ?_) (a' := ?_) #[true, true, true, false, false, true, true, false, false, false, true, false, false, false] rfl rfl (by kernel_rfl) (fun _ _ _ h => h) (Or.inl ⟨by rfl, ?_⟩) hHeld ?_ ?_
  rotate_left
  · rintro w' ⟨s0, s1, s2⟩
    go_simp
    with_reducible rfl
  rotate_left
  · simp only [Act.put, List.setIfInBounds_toArray, List.set_cons_zero, List.set_cons_succ, i64_w, i32_w]
    rfl
  refine pure_ (i := 3) (N := (some 73)) (v := ?_) (a' := ?_) #[true, true, true, true, false, true, true, false, false, false, true, false, false, false] rfl rfl (by kernel_rfl) (fun _ _ _ h => h) (Or.inl ⟨by rfl, ?_⟩) ?_ ?_
  rotate_left
  · intro w'
    go_simp
    with_reducible rfl
  rotate_left
  · simp only [Act.put, List.setIfInBounds_toArray, List.set_cons_zero, List.set_cons_succ, i64_w, i32_w]
    rfl
  refine take_ (i := 4) (N := (some 74)) (v := ?_) (a' := ?_) #[true, true, true, true, true, true, true, false, false, false, true, false, false, false] rfl rfl (by kernel_rfl) (fun _ _ _ h => h) (Or.inl ⟨by rfl, ?_⟩) hHeld ?_ ?_
  rotate_left
  · rintro w' ⟨s0, s1, s2⟩
    go_simp
    with_reducible rfl
  rotate_left
  · simp only [Act.put, List.setIfInBounds_toArray, List.set_cons_zero, List.set_cons_succ, i64_w, i32_w]
    rfl
  refine take_ (i := 7) (N := (some 77)) (v := ?_) (a' := ?_) #[true, true, true, true, true, true, true, true, false, false, true, false, false, false] rfl rfl (by kernel_rfl) (fun _ _ _ h => h) (Or.inl ⟨by rfl, ?_⟩) hHeld ?_ ?_
  rotate_left
  · rintro w' ⟨s0, s1, s2⟩
    go_simp
    with_reducible rfl
  rotate_left
  · simp only [Act.put, List.setIfInBounds_toArray, List.set_cons_zero, List.set_cons_succ, i64_w, i32_w]
    rfl
  refine pure_ (i := 8) (N := (some 78)) (v := ?_) (a' := ?_) #[true, true, true, true, true, true, true, true, true, false, true, false, false, false] rfl rfl (by kernel_rfl) (fun _ _ _ h => h) (Or.inl ⟨by rfl, ?_⟩) ?_ ?_
  rotate_left
  · intro w'
    go_simp
    with_reducible rfl
  rotate_left
  · simp only [Act.put, List.setIfInBounds_toArray, List.set_cons_zero, List.set_cons_succ, i64_w, i32_w]
    rfl
  refine take_ (i := 9) (N := (some 79)) (v := ?_) (a' := ?_) #[true, true, true, true, true, true, true, true, true, true, true, false, false, false] rfl rfl (by kernel_rfl) (fun _ _ _ h => h) (Or.inl ⟨by rfl, ?_⟩) hHeld ?_ ?_
  rotate_left
  · rintro w' ⟨s0, s1, s2⟩
    go_simp
    with_reducible rfl
  rotate_left
  · simp only [Act.put, List.setIfInBounds_toArray, List.set_cons_zero, List.set_cons_succ, i64_w, i32_w]
    rfl
  refine one_ (i := 11) (N := (some 81)) #[true, true, true, true, true, true, true, true, true, true, true, true, false, false] rfl rfl (by kernel_rfl) (by decide) (fun K hK => ?_)
  refine goes_ Try.func121 (by kernel_rfl) rfl #[.pointer (some ⟨gm, 0, none⟩), .int .i64 (k0 : Int), .int .i64 0] (by rfl) rfl rfl (by (try simp only [List.map_toArray, List.map_cons, List.map_nil]); first | done | rfl) ?_
  refine (HE0.out _ HM.out HB.out).mono ?_
  rintro e w_ ⟨v_, rfl, hR_, hM_, hK_, hB_⟩
  refine ⟨_, rfl, ?_⟩
  obtain ⟨HAg, HAc, rfl, HAh⟩ := Row.form hR_
  have HA := Aside0.mk hR_
  have nK := Aside0.mk (HK.out.trans hK_)
  clear HM HB HK hR_
  have HM := Aside0.mk hM_
  have HB := Aside0.mk hB_
  have HK := nK
  clear nK hM_ hB_
  refine hK.out _ _ ⟨MK.cell hK_ (hHeld.1) HGN.out, MK.cell hK_ (hHeld.2.1) (by have := HAD.out; first | exact this | (show ad2.block ≠ gg; exact this)), MK.cell hK_ (hHeld.2.2) (by have := HAD.out; first | exact this | (show ad2.block ≠ gg; exact this))⟩ (fun hHeld => ?_)
  clear hK_
  clear hK K
  refine norm_ (a' := ?_) ?_ ?_
  rotate_left
  · show Act.put _ (some 81) _ = _
    simp only [Act.put, List.setIfInBounds_toArray, List.set_cons_zero, List.set_cons_succ, i64_w, i32_w]
    rfl
  refine one_ (i := 12) (N := (some 82)) #[true, true, true, true, true, true, true, true, true, true, true, true, true, false] rfl rfl (by kernel_rfl) (by decide) (fun K hK => ?_)
  refine goes_ Try.func170 (by kernel_rfl) rfl #[.pointer (some ⟨gm, 0, none⟩), .int .i64 (k1 : Int), .slice (some ⟨HAg, 0, none⟩) 1 HAc] (by rfl) rfl rfl (by (try simp only [List.map_toArray, List.map_cons, List.map_nil]); first | done | rfl) ?_
  refine (step_of k1 HE1.out _ (E k0) _ HM.out HB.out HA.out).mono ?_
  rintro e w_ ⟨v_, rfl, hR_, hM_, hK_, hB_⟩
  refine ⟨_, rfl, ?_⟩
  obtain ⟨HOg, HOc, rfl, HOh⟩ := Row.form hR_
  have HO := Aside0.mk hR_
  have nK := Aside0.mk (HK.out.trans hK_)
  clear HM HB HK hR_
  have HM := Aside0.mk hM_
  have HB := Aside0.mk hB_
  have HK := nK
  clear nK hM_ hB_
  refine hK.out _ _ ⟨MK.cell hK_ (hHeld.1) HGN.out, MK.cell hK_ (hHeld.2.1) (by have := HAD.out; first | exact this | (show ad2.block ≠ gg; exact this)), MK.cell hK_ (hHeld.2.2) (by have := HAD.out; first | exact this | (show ad2.block ≠ gg; exact this))⟩ (fun hHeld => ?_)
  clear hK_
  clear hK K
  refine norm_ (a' := ?_) ?_ ?_
  rotate_left
  · show Act.put _ (some 82) _ = _
    simp only [Act.put, List.setIfInBounds_toArray, List.set_cons_zero, List.set_cons_succ, i64_w, i32_w]
    rfl
  refine pure_ (i := 13) (N := (some 6)) (v := ?_) (a' := ?_) #[true, true, true, true, true, true, true, true, true, true, true, true, true, true] rfl rfl (by kernel_rfl) (fun _ _ _ h => h) (Or.inl ⟨by rfl, ?_⟩) ?_ ?_
  rotate_left
  · intro w'
    go_simp
    with_reducible rfl
  rotate_left
  · simp only [Act.put, List.setIfInBounds_toArray, List.set_cons_zero, List.set_cons_succ, i64_w, i32_w]
    rfl
  refine done_ (by kernel_rfl) ?_
  go_wp2_with fail
  go_ret
  exact ⟨_, rfl, by rw [HE.out]; exact HO.out, HM.out, HK.out, HB.out⟩
set_option maxHeartbeats 16000000 in
set_option maxRecDepth 100000 in
theorem find_alt {w0 : World} {gm gg cn : Nat} {An : Option Addr} {nodes : List S156} {tx : ByteArray} {E : Nat → Bool} (ht : tx.size = 0) (hn : nodes.length ≤ 100000) (k : Nat) (hk1 : k < nodes.length) (hN : Kd.C k156 w0 An nodes.length nodes) (hop : (rd_T156 nodes (k : Int)).f0 = 4) (hlen : (rd_T156 nodes (k : Int)).f2.length = 2) (k0 : Nat) (e0 : rd (rd_T156 nodes (k : Int)).f2 0 = (k0 : Int)) (he0 : EOK w0 gm gg An cn nodes tx E k0) (k1 : Nat) (e1 : rd (rd_T156 nodes (k : Int)).f2 1 = (k1 : Int)) (he1 : EOK w0 gm gg An cn nodes tx E k1) (hE : E k = (E k0 || E k1)) : FOK w0 gm gg An cn nodes tx E k := by
  intro w hM hB
  obtain ⟨ad, A1, c1, A2, c2, rfl, hx0, hx1, hx2, hx3, hx4, _, _, hc2, hC2⟩ := at_T156 hN (k : Int) (by omega) (by omega)
  rw [Int.toNat_natCast] at hx0 hx1 hx2 hx3 hx4
  replace hx0 := (hB.cell (World.block_lt_of_cell? w0 _ hx0)).trans hx0
  replace hx1 := (hB.cell (World.block_lt_of_cell? w0 _ hx1)).trans hx1
  replace hx2 := (hB.cell (World.block_lt_of_cell? w0 _ hx2)).trans hx2
  replace hx3 := (hB.cell (World.block_lt_of_cell? w0 _ hx3)).trans hx3
  replace hx4 := (hB.cell (World.block_lt_of_cell? w0 _ hx4)).trans hx4
  obtain ⟨x, hxd⟩ : ∃ x, rd_T156 nodes (k : Int) = x := ⟨_, rfl⟩
  rw [hxd] at hx0 hx1 hx2 hx3 hx4 hc2 hC2 hop hlen e0 e1
  rw [hop] at hx0
  clear hxd
  obtain ⟨ad2, rfl, hkc0⟩ := Kd.at_int hC2 0 (by omega) (by rw [hlen]; decide)
  rw [e0] at hkc0
  rw [show (0 : Int).toNat = 0 from rfl] at hkc0
  obtain ⟨ad3, e3, hkc1⟩ := Kd.at_int hC2 1 (by omega) (by rw [hlen]; decide)
  cases e3
  rw [e1] at hkc1
  rw [show (1 : Int).toNat = 1 from rfl] at hkc1
  rw [hlen] at hx2
  clear hC2 hc2 hlen
  obtain ⟨cg, hG, hcg, hgm⟩ := Memo.head hM
  have hm0 : w.cell? ⟨gm, 0, none⟩ = some (.slice (some ad) nodes.length cn) := (blk_cell hG 0).trans rfl
  have hm1 : w.cell? ⟨gm, 1, none⟩ = some (.string tx) := (blk_cell hG 1).trans rfl
  have ha1 : (w.alloc (.cells #[.int .i64 4, .slice A1 x.f1.length c1, .slice (some ad2) 2 c2, .int .i64 x.f3, .int .i64 x.f4] 156)).cell? ⟨gm, 1, none⟩ = some (.string tx) := (blk_cell (blk_alloc hG _) 1).trans rfl
  have hkz : (k : Int) < (nodes.length : Int) := by omega
  have hk0 : (0 : Int) ≤ (k : Int) := by omega
  obtain ⟨gn, hgn⟩ : ∃ gn, w.heap.size = gn := ⟨_, rfl⟩
  have HGN : Aside0 (gn ≠ gg) := ⟨by have := Memo.gg_lt hM; omega⟩
  have BN : Aside0 ((w.alloc (.cells #[.int .i64 4, .slice A1 x.f1.length c1, .slice (some ad2) 2 c2, .int .i64 x.f3, .int .i64 x.f4] 156)).heap[gn]? = some (.cells #[.int .i64 4, .slice A1 x.f1.length c1, .slice (some ad2) 2 c2, .int .i64 x.f3, .int .i64 x.f4] 156 (0, 0))) := ⟨by rw [← hgn]; exact blk_new w _⟩
  have HK := Aside0.mk (MK.below (gg := gg) (below_alloc (Below.refl w.heap.size w) (.cells #[.int .i64 4, .slice A1 x.f1.length c1, .slice (some ad2) 2 c2, .int .i64 x.f3, .int .i64 x.f4] 156)))
  have HB := Aside0.mk (below_alloc hB (.cells #[.int .i64 4, .slice A1 x.f1.length c1, .slice (some ad2) 2 c2, .int .i64 x.f3, .int .i64 x.f4] 156))
  have HM := Aside0.mk (Memo.below hM (below_alloc (Below.refl w.heap.size w) (.cells #[.int .i64 4, .slice A1 x.f1.length c1, .slice (some ad2) 2 c2, .int .i64 x.f3, .int .i64 x.f4] 156)))
  have HE := Aside0.mk hE
  clear hG hM hB hE
  go_enter Try.func157, Try.ntmps157
  go_upto_region 5 with (first | ((with_reducible refine gate_dst (N := 26) rfl ?_); refine Kd.R_make Kd.bool _ 4 rfl (N := 26) rfl 124 _ _ rfl (1 : Int) rfl rfl Try.underlying124 (.bool false) 1 info4 rfl (by decide) (by omega) false (ok := fun _ => True) (okp := fun _ => True) rfl (fun _ hk => hk) trivial (by omega) (by decide) (Below.refl _ _) (Nat.le_refl _) ?_; intro H8v w_ ho hb hg_ hnew_; clear hg_; replace ho : Kd.R Kd.bool 4 w_ _ (fun _ => True) H8v [false] := ho; have H8 := Aside0.mk (Row.new ho HB.out (Memo.gg_lt HM.out)); have nBN := Aside0.mk (blk_below BN.out hb); clear BN; have BN := nBN; clear nBN; have nM := Aside0.mk (Memo.below HM.out hb); have nB := Aside0.mk (below_step HB.out hb); have nK := Aside0.mk (HK.out.trans (MK.below hb)); clear HM HB HK ho hb hnew_; have HM := nM; have HB := nB; have HK := nK; clear nM nB nK; obtain ⟨cg_, hG_, _, _⟩ := Memo.head HM.out; have ha2 : w_.cell? ⟨gm, 1, none⟩ = some (.string tx) := (blk_cell hG_ 1).trans rfl; clear hG_) | ((with_reducible refine gate_dst (N := 33) rfl ?_); refine Kd.R_make Kd.bool _ 4 rfl (N := 33) rfl 124 _ _ rfl (1 : Int) rfl rfl Try.underlying124 (.bool false) 1 info4 rfl (by decide) (by omega) false (ok := fun _ => True) (okp := fun _ => True) rfl (fun _ hk => hk) trivial (by omega) (by decide) (Below.refl _ _) (Nat.le_refl _) ?_; intro H9v w_ ho hb hg_ hnew_; clear hg_; replace ho : Kd.R Kd.bool 4 w_ _ (fun _ => True) H9v [false] := ho; have H9 := Aside0.mk (Row.new ho HB.out (Memo.gg_lt HM.out)); have HX1 : ∃ W1 : World, Memo w0 gm gg (some ad) cn nodes tx E W1 ∧ Row w0 W1 gg H8v false ∧ W1.heap[gn]? = some (.cells #[.int .i64 4, .slice A1 x.f1.length c1, .slice (some ad2) 2 c2, .int .i64 x.f3, .int .i64 x.f4] 156 (0, 0)) ∧ Below W1.heap.size W1 w_ ∧ (∃ b_, H9v.ownBlock = some b_ ∧ W1.heap.size ≤ b_) ∧ Below w0.heap.size w0 W1 ∧ MK gg w W1 := ⟨_, HM.out, H8.out, BN.out, hb, hnew_, HB.out, HK.out⟩; have nH8 := Aside0.mk (Row.keep H8.out (MK.below hb)); clear H8; have H8 := nH8; clear nH8; have nBN := Aside0.mk (blk_below BN.out hb); clear BN; have BN := nBN; clear nBN; have nM := Aside0.mk (Memo.below HM.out hb); have nB := Aside0.mk (below_step HB.out hb); have nK := Aside0.mk (HK.out.trans (MK.below hb)); clear HM HB HK ho hb hnew_; have HM := nM; have HB := nB; have HK := nK; clear nM nB nK; obtain ⟨H9g, H9c, rfl, H9h⟩ := Row.form H9.out; have hx9 := Row.cell H9.out; have hf9 := Row.frozen H9.out))
  obtain ⟨W1, hM1, h81, hBN1, hb1, ⟨g9', e9, hg9⟩, hB1, hK1⟩ := HX1
  obtain rfl : H9g = g9' := by simpa [Value.ownBlock] using e9
  have Hbs := below_set hb1 hg9 (j := 0) (v := .bool true)
  have nH9 := Aside0.mk ((Kd.R_put H9.out 0 true).1)
  clear H8 H9 HM HB HK BN
  have HM := Aside0.mk (Memo.below hM1 Hbs)
  have H8 := Aside0.mk (Row.keep h81 (MK.below (gg := gg) Hbs))
  have HK := Aside0.mk (hK1.trans (MK.below (gg := gg) Hbs))
  have HB := Aside0.mk (below_step hB1 Hbs)
  have BN := Aside0.mk (blk_below hBN1 Hbs)
  have H9 : Aside0 (Row w0 (w_.setCell ⟨H9g, 0, none⟩ (.bool true)) gg (.slice (some ⟨H9g, 0, none⟩) 1 H9c) true) := nH9
  clear nH9 Hbs hM1 h81 hBN1 hb1 hg9 e9 hB1 hK1 hx9 hf9
  generalize w_.setCell ⟨H9g, 0, none⟩ (.bool true) = w9 at *
  obtain ⟨H8g, H8c, rfl, hH8⟩ := Row.form H8.out
  obtain ⟨cg_, hG_, _, _⟩ := Memo.head HM.out
  have ht1 : w9.cell? ⟨gm, 1, none⟩ = some (.string tx) := (blk_cell hG_ 1).trans rfl
  clear hG_
  have hn0 : w9.cell? ⟨gn, 0, none⟩ = some (.int .i64 4) := (blk_cell BN.out 0).trans rfl
  have hn2 : w9.cell? ⟨gn, 2, none⟩ = some (.slice (some ad2) 2 c2) := (blk_cell BN.out 2).trans rfl
  have hn3 : w9.cell? ⟨gn, 3, none⟩ = some (.int .i64 x.f3) := (blk_cell BN.out 3).trans rfl
  have hn4 : w9.cell? ⟨gn, 4, none⟩ = some (.int .i64 x.f4) := (blk_cell BN.out 4).trans rfl
  have hq0 := (HB.out.cell (World.block_lt_of_cell? w0 _ hkc0)).trans hkc0
  have hq1 := (HB.out.cell (World.block_lt_of_cell? w0 _ hkc1)).trans hkc1
  have hz0 := hq0
  rw [show ad2.add 0 = ad2 by cases ad2; rfl] at hz0
  have HE0 := Aside0.mk he0
  have HE1 := Aside0.mk he1
  have hkb := hkc0
  clear hkc0 he0 hkc1 he1
  have hs_ := World.cell?_spot hz0
  rw [show ad2.add 1 = ⟨ad2.block, ad2.off + 1, none⟩ by (obtain ⟨b_, o_, s_⟩ := ad2; simp only at hs_; subst hs_; rfl)] at hq1
  go_wp2_with fail
  replace HM : Aside0 (Memo w0 gm gg (some ad) cn nodes tx E w9.drew) := ⟨Memo.below HM.out (below_drew1 (Below.refl _ _))⟩
  replace HB : Aside0 (Below w0.heap.size w0 w9.drew) := ⟨below_drew1 HB.out⟩
  replace HK : Aside0 (MK gg w w9.drew) := ⟨HK.out.trans (MK.below (below_drew1 (Below.refl _ _)))⟩
  replace BN := Aside0.mk (blk_drew BN.out)
  have HAD : Aside0 (ad2.block ≠ gg) := ⟨by have h1 := World.block_lt_of_cell? w0 _ hkb; have h2 := Memo.gg_ge HM.out; rw [add_block] at h1; omega⟩
  refine start_ (n := 16) (S := fun w' => w'.cell? ⟨gn, 2, none⟩ = some (.slice (some ad2) 2 c2) ∧ w'.cell? ad2 = some (.int .i64 (k0 : Int)) ∧ w'.cell? ⟨ad2.block, ad2.off + 1, none⟩ = some (.int .i64 (k1 : Int))) (ds := []) #[false, false, false, false, false, false, false, false, false, false, false, false, false, false, false, false] (by kernel_rfl) rfl rfl ⟨(blk_cell BN.out 2).trans rfl, hz0, hq1⟩ (fun hHeld => ?_)
  generalize hW1 : w9.drew = W1 at HM HB HK BN hHeld ⊢
  refine pure_ (i := 0) (N := (some 85)) (v := ?_) (a' := ?_) #[true, false, false, false, false, false, false, false, false, false, false, false, false, false, false, false] rfl rfl (by kernel_rfl) (fun _ _ _ h => h) (Or.inl ⟨by rfl, ?_⟩) ?_ ?_
  rotate_left
  · intro w'
    go_simp
    with_reducible rfl
  rotate_left
  · simp only [Act.put, List.setIfInBounds_toArray, List.set_cons_zero, List.set_cons_succ, i64_w, i32_w]
    rfl
  refine pure_ (i := 1) (N := (some 86)) (v := ?_) (a' := ?_) #[true, true, false, false, false, false, false, false, false, false, false, false, false, false, false, false] rfl rfl (by kernel_rfl) (fun _ _ _ h => h) (Or.inl ⟨by rfl, ?_⟩) ?_ ?_
  rotate_left
  · intro w'
    go_simp
    with_reducible rfl
  rotate_left
  · simp only [Act.put, List.setIfInBounds_toArray, List.set_cons_zero, List.set_cons_succ, i64_w, i32_w]
    rfl
  refine pure_ (i := 5) (N := (some 90)) (v := ?_) (a' := ?_) #[true, true, false, false, false, true, false, false, false, false, false, false, false, false, false, false] rfl rfl (by kernel_rfl) (fun _ _ _ h => h) (Or.inl ⟨by rfl, ?_⟩) ?_ ?_
  rotate_left
  · intro w'
    go_simp
    with_reducible rfl
  rotate_left
  · simp only [Act.put, List.setIfInBounds_toArray, List.set_cons_zero, List.set_cons_succ, i64_w, i32_w]
    rfl
  refine pure_ (i := 7) (N := (some 92)) (v := ?_) (a' := ?_) #[true, true, false, false, false, true, false, true, false, false, false, false, false, false, false, false] rfl rfl (by kernel_rfl) (fun _ _ _ h => h) (Or.inl ⟨by rfl, ?_⟩) ?_ ?_
  rotate_left
  · intro w'
    go_simp
    with_reducible rfl
  rotate_left
  · simp only [Act.put, List.setIfInBounds_toArray, List.set_cons_zero, List.set_cons_succ, i64_w, i32_w]
    rfl
  refine pure_ (i := 8) (N := (some 93)) (v := ?_) (a' := ?_) #[true, true, false, false, false, true, false, true, true, false, false, false, false, false, false, false] rfl rfl (by kernel_rfl) (fun _ _ _ h => h) (Or.inl ⟨by rfl, ?_⟩) ?_ ?_
  rotate_left
  · intro w'
    go_simp
    with_reducible rfl
  rotate_left
  · simp only [Act.put, List.setIfInBounds_toArray, List.set_cons_zero, List.set_cons_succ, i64_w, i32_w]
    rfl
  refine pure_ (i := 12) (N := (some 97)) (v := ?_) (a' := ?_) #[true, true, false, false, false, true, false, true, true, false, false, false, true, false, false, false] rfl rfl (by kernel_rfl) (fun _ _ _ h => h) (Or.inl ⟨by rfl, ?_⟩) ?_ ?_
  rotate_left
  · intro w'
    go_simp
    with_reducible rfl
  rotate_left
  · simp only [Act.put, List.setIfInBounds_toArray, List.set_cons_zero, List.set_cons_succ, i64_w, i32_w]
    rfl
  refine take_ (i := 2) (N := (some 87)) (v := ?_) (a' := ?_) #[true, true, true, false, false, true, false, true, true, false, false, false, true, false, false, false] rfl rfl (by kernel_rfl) (fun _ _ _ h => h) (Or.inl ⟨by rfl, ?_⟩) hHeld ?_ ?_
  rotate_left
  · rintro w' ⟨s0, s1, s2⟩
    go_simp
    with_reducible rfl
  rotate_left
  · simp only [Act.put, List.setIfInBounds_toArray, List.set_cons_zero, List.set_cons_succ, i64_w, i32_w]
    rfl
  refine pure_ (i := 3) (N := (some 88)) (v := ?_) (a' := ?_) #[true, true, true, true, false, true, false, true, true, false, false, false, true, false, false, false] rfl rfl (by kernel_rfl) (fun _ _ _ h => h) (Or.inl ⟨by rfl, ?_⟩) ?_ ?_
  rotate_left
  · intro w'
    go_simp
    with_reducible rfl
  rotate_left
  · simp only [Act.put, List.setIfInBounds_toArray, List.set_cons_zero, List.set_cons_succ, i64_w, i32_w]
    rfl
  refine take_ (i := 4) (N := (some 89)) (v := ?_) (a' := ?_) #[true, true, true, true, true, true, false, true, true, false, false, false, true, false, false, false] rfl rfl (by kernel_rfl) (fun _ _ _ h => h) (Or.inl ⟨by rfl, ?_⟩) hHeld ?_ ?_
  rotate_left
  · rintro w' ⟨s0, s1, s2⟩
    go_simp
    with_reducible rfl
  rotate_left
  · simp only [Act.put, List.setIfInBounds_toArray, List.set_cons_zero, List.set_cons_succ, i64_w, i32_w]
    rfl
  refine take_ (i := 9) (N := (some 94)) (v := ?_) (a' := ?_) #[true, true, true, true, true, true, false, true, true, true, false, false, true, false, false, false] rfl rfl (by kernel_rfl) (fun _ _ _ h => h) (Or.inl ⟨by rfl, ?_⟩) hHeld ?_ ?_
  rotate_left
  · rintro w' ⟨s0, s1, s2⟩
    go_simp
    with_reducible rfl
  rotate_left
  · simp only [Act.put, List.setIfInBounds_toArray, List.set_cons_zero, List.set_cons_succ, i64_w, i32_w]
    rfl
  refine pure_ (i := 10) (N := (some 95)) (v := ?_) (a' := ?_) #[true, true, true, true, true, true, false, true, true, true, true, false, true, false, false, false] rfl rfl (by kernel_rfl) (fun _ _ _ h => h) (Or.inl ⟨by rfl, ?_⟩) ?_ ?_
  rotate_left
  · intro w'
    go_simp
    with_reducible rfl
  rotate_left
  · simp only [Act.put, List.setIfInBounds_toArray, List.set_cons_zero, List.set_cons_succ, i64_w, i32_w]
    rfl
  refine take_ (i := 11) (N := (some 96)) (v := ?_) (a' := ?_) #[true, true, true, true, true, true, false, true, true, true, true, true, true, false, false, false] rfl rfl (by kernel_rfl) (fun _ _ _ h => h) (Or.inl ⟨by rfl, ?_⟩) hHeld ?_ ?_
  rotate_left
  · rintro w' ⟨s0, s1, s2⟩
    go_simp
    with_reducible rfl
  rotate_left
  · simp only [Act.put, List.setIfInBounds_toArray, List.set_cons_zero, List.set_cons_succ, i64_w, i32_w]
    rfl
  refine one_ (i := 6) (N := (some 91)) #[true, true, true, true, true, true, true, true, true, true, true, true, true, false, false, false] rfl rfl (by kernel_rfl) (by decide) (fun K hK => ?_)
  refine goes_ Try.func121 (by kernel_rfl) rfl #[.pointer (some ⟨gm, 0, none⟩), .int .i64 (k0 : Int), .int .i64 0] (by rfl) rfl rfl (by (try simp only [List.map_toArray, List.map_cons, List.map_nil]); first | done | rfl) ?_
  refine (HE0.out _ HM.out HB.out).mono ?_
  rintro e w_ ⟨v_, rfl, hR_, hM_, hK_, hB_⟩
  refine ⟨_, rfl, ?_⟩
  obtain ⟨HAg, HAc, rfl, HAh⟩ := Row.form hR_
  have HA := Aside0.mk hR_
  have nK := Aside0.mk (HK.out.trans hK_)
  clear HM HB HK hR_
  have HM := Aside0.mk hM_
  have HB := Aside0.mk hB_
  have HK := nK
  clear nK hM_ hB_
  refine hK.out _ _ ⟨MK.cell hK_ (hHeld.1) HGN.out, MK.cell hK_ (hHeld.2.1) (by have := HAD.out; first | exact this | (show ad2.block ≠ gg; exact this)), MK.cell hK_ (hHeld.2.2) (by have := HAD.out; first | exact this | (show ad2.block ≠ gg; exact this))⟩ (fun hHeld => ?_)
  clear hK_
  clear hK K
  refine norm_ (a' := ?_) ?_ ?_
  rotate_left
  · show Act.put _ (some 91) _ = _
    simp only [Act.put, List.setIfInBounds_toArray, List.set_cons_zero, List.set_cons_succ, i64_w, i32_w]
    rfl
  refine one_ (i := 13) (N := (some 98)) #[true, true, true, true, true, true, true, true, true, true, true, true, true, true, false, false] rfl rfl (by kernel_rfl) (by decide) (fun K hK => ?_)
  refine goes_ Try.func121 (by kernel_rfl) rfl #[.pointer (some ⟨gm, 0, none⟩), .int .i64 (k1 : Int), .int .i64 0] (by rfl) rfl rfl (by (try simp only [List.map_toArray, List.map_cons, List.map_nil]); first | done | rfl) ?_
  refine (HE1.out _ HM.out HB.out).mono ?_
  rintro e w_ ⟨v_, rfl, hR_, hM_, hK_, hB_⟩
  refine ⟨_, rfl, ?_⟩
  obtain ⟨HCg, HCc, rfl, HCh⟩ := Row.form hR_
  have HC := Aside0.mk hR_
  have nHA := Aside0.mk (Row.keep HA.out hK_)
  clear HA
  have HA := nHA
  clear nHA
  have nK := Aside0.mk (HK.out.trans hK_)
  clear HM HB HK hR_
  have HM := Aside0.mk hM_
  have HB := Aside0.mk hB_
  have HK := nK
  clear nK hM_ hB_
  refine hK.out _ _ ⟨MK.cell hK_ (hHeld.1) HGN.out, MK.cell hK_ (hHeld.2.1) (by have := HAD.out; first | exact this | (show ad2.block ≠ gg; exact this)), MK.cell hK_ (hHeld.2.2) (by have := HAD.out; first | exact this | (show ad2.block ≠ gg; exact this))⟩ (fun hHeld => ?_)
  clear hK_
  clear hK K
  refine norm_ (a' := ?_) ?_ ?_
  rotate_left
  · show Act.put _ (some 98) _ = _
    simp only [Act.put, List.setIfInBounds_toArray, List.set_cons_zero, List.set_cons_succ, i64_w, i32_w]
    rfl
  refine one_ (i := 14) (N := (some 99)) #[true, true, true, true, true, true, true, true, true, true, true, true, true, true, true, false] rfl rfl (by kernel_rfl) (by decide) (fun K hK => ?_)
  refine goes_ Try.func171 (by kernel_rfl) rfl #[.slice (some ⟨HAg, 0, none⟩) 1 HAc, .slice (some ⟨HCg, 0, none⟩) 1 HCc] (by rfl) rfl rfl (by (try simp only [List.map_toArray, List.map_cons, List.map_nil]); first | done | rfl) ?_
  obtain ⟨k_, hk_⟩ := or_one (E k0) (E k1)
  refine (spec_l4Or.calls k_ _ _ [(E k0)] _ _ [(E k1)] _ _ (Row.C HA.out) (Kd.R_reads' HA.out).2.1 (Row.C HC.out) (Kd.R_reads' HC.out).2.1 hk_).mono ?_
  rintro e w_ ⟨v_, rfl, ho, hb⟩
  have hR_ := Row.new ho HB.out (Memo.gg_lt HM.out)
  have hM_ := Memo.below HM.out hb
  have hB_ := below_step HB.out hb
  have hK_ := MK.below (gg := gg) hb
  clear ho hb hk_
  refine ⟨_, rfl, ?_⟩
  obtain ⟨HOg, HOc, rfl, HOh⟩ := Row.form hR_
  have HO := Aside0.mk hR_
  have nK := Aside0.mk (HK.out.trans hK_)
  clear HM HB HK hR_
  have HM := Aside0.mk hM_
  have HB := Aside0.mk hB_
  have HK := nK
  clear nK hM_ hB_
  refine hK.out _ _ ⟨MK.cell hK_ (hHeld.1) HGN.out, MK.cell hK_ (hHeld.2.1) (by have := HAD.out; first | exact this | (show ad2.block ≠ gg; exact this)), MK.cell hK_ (hHeld.2.2) (by have := HAD.out; first | exact this | (show ad2.block ≠ gg; exact this))⟩ (fun hHeld => ?_)
  clear hK_
  clear hK K
  refine norm_ (a' := ?_) ?_ ?_
  rotate_left
  · show Act.put _ (some 99) _ = _
    simp only [Act.put, List.setIfInBounds_toArray, List.set_cons_zero, List.set_cons_succ, i64_w, i32_w]
    rfl
  refine pure_ (i := 15) (N := (some 6)) (v := ?_) (a' := ?_) #[true, true, true, true, true, true, true, true, true, true, true, true, true, true, true, true] rfl rfl (by kernel_rfl) (fun _ _ _ h => h) (Or.inl ⟨by rfl, ?_⟩) ?_ ?_
  rotate_left
  · intro w'
    go_simp
    with_reducible rfl
  rotate_left
  · simp only [Act.put, List.setIfInBounds_toArray, List.set_cons_zero, List.set_cons_succ, i64_w, i32_w]
    rfl
  refine done_ (by kernel_rfl) ?_
  go_wp2_with fail
  go_ret
  exact ⟨_, rfl, by rw [HE.out]; exact HO.out, HM.out, HK.out, HB.out⟩
set_option maxHeartbeats 16000000 in
set_option maxRecDepth 100000 in
theorem find_plus {w0 : World} {gm gg cn : Nat} {An : Option Addr} {nodes : List S156} {tx : ByteArray} {E : Nat → Bool} (ht : tx.size = 0) (hn : nodes.length ≤ 100000) (k : Nat) (hk1 : k < nodes.length) (hN : Kd.C k156 w0 An nodes.length nodes) (hop : (rd_T156 nodes (k : Int)).f0 = 6) (hlen : (rd_T156 nodes (k : Int)).f2.length = 1) (k0 : Nat) (e0 : rd (rd_T156 nodes (k : Int)).f2 0 = (k0 : Int)) (he0 : EOK w0 gm gg An cn nodes tx E k0) (hE : E k = E k0) : FOK w0 gm gg An cn nodes tx E k := by
  intro w hM hB
  obtain ⟨ad, A1, c1, A2, c2, rfl, hx0, hx1, hx2, hx3, hx4, _, _, hc2, hC2⟩ := at_T156 hN (k : Int) (by omega) (by omega)
  rw [Int.toNat_natCast] at hx0 hx1 hx2 hx3 hx4
  replace hx0 := (hB.cell (World.block_lt_of_cell? w0 _ hx0)).trans hx0
  replace hx1 := (hB.cell (World.block_lt_of_cell? w0 _ hx1)).trans hx1
  replace hx2 := (hB.cell (World.block_lt_of_cell? w0 _ hx2)).trans hx2
  replace hx3 := (hB.cell (World.block_lt_of_cell? w0 _ hx3)).trans hx3
  replace hx4 := (hB.cell (World.block_lt_of_cell? w0 _ hx4)).trans hx4
  obtain ⟨x, hxd⟩ : ∃ x, rd_T156 nodes (k : Int) = x := ⟨_, rfl⟩
  rw [hxd] at hx0 hx1 hx2 hx3 hx4 hc2 hC2 hop hlen e0
  rw [hop] at hx0
  clear hxd
  obtain ⟨ad2, rfl, hkc0⟩ := Kd.at_int hC2 0 (by omega) (by rw [hlen]; decide)
  rw [e0] at hkc0
  rw [show (0 : Int).toNat = 0 from rfl] at hkc0
  rw [hlen] at hx2
  clear hC2 hc2 hlen
  obtain ⟨cg, hG, hcg, hgm⟩ := Memo.head hM
  have hm0 : w.cell? ⟨gm, 0, none⟩ = some (.slice (some ad) nodes.length cn) := (blk_cell hG 0).trans rfl
  have hm1 : w.cell? ⟨gm, 1, none⟩ = some (.string tx) := (blk_cell hG 1).trans rfl
  have ha1 : (w.alloc (.cells #[.int .i64 6, .slice A1 x.f1.length c1, .slice (some ad2) 1 c2, .int .i64 x.f3, .int .i64 x.f4] 156)).cell? ⟨gm, 1, none⟩ = some (.string tx) := (blk_cell (blk_alloc hG _) 1).trans rfl
  have hkz : (k : Int) < (nodes.length : Int) := by omega
  have hk0 : (0 : Int) ≤ (k : Int) := by omega
  obtain ⟨gn, hgn⟩ : ∃ gn, w.heap.size = gn := ⟨_, rfl⟩
  have HGN : Aside0 (gn ≠ gg) := ⟨by have := Memo.gg_lt hM; omega⟩
  have BN : Aside0 ((w.alloc (.cells #[.int .i64 6, .slice A1 x.f1.length c1, .slice (some ad2) 1 c2, .int .i64 x.f3, .int .i64 x.f4] 156)).heap[gn]? = some (.cells #[.int .i64 6, .slice A1 x.f1.length c1, .slice (some ad2) 1 c2, .int .i64 x.f3, .int .i64 x.f4] 156 (0, 0))) := ⟨by rw [← hgn]; exact blk_new w _⟩
  have HK := Aside0.mk (MK.below (gg := gg) (below_alloc (Below.refl w.heap.size w) (.cells #[.int .i64 6, .slice A1 x.f1.length c1, .slice (some ad2) 1 c2, .int .i64 x.f3, .int .i64 x.f4] 156)))
  have HB := Aside0.mk (below_alloc hB (.cells #[.int .i64 6, .slice A1 x.f1.length c1, .slice (some ad2) 1 c2, .int .i64 x.f3, .int .i64 x.f4] 156))
  have HM := Aside0.mk (Memo.below hM (below_alloc (Below.refl w.heap.size w) (.cells #[.int .i64 6, .slice A1 x.f1.length c1, .slice (some ad2) 1 c2, .int .i64 x.f3, .int .i64 x.f4] 156)))
  have HE := Aside0.mk hE
  clear hG hM hB hE
  go_enter Try.func157, Try.ntmps157
  go_upto_region 5 with (first | ((with_reducible refine gate_dst (N := 26) rfl ?_); refine Kd.R_make Kd.bool _ 4 rfl (N := 26) rfl 124 _ _ rfl (1 : Int) rfl rfl Try.underlying124 (.bool false) 1 info4 rfl (by decide) (by omega) false (ok := fun _ => True) (okp := fun _ => True) rfl (fun _ hk => hk) trivial (by omega) (by decide) (Below.refl _ _) (Nat.le_refl _) ?_; intro H8v w_ ho hb hg_ hnew_; clear hg_; replace ho : Kd.R Kd.bool 4 w_ _ (fun _ => True) H8v [false] := ho; have H8 := Aside0.mk (Row.new ho HB.out (Memo.gg_lt HM.out)); have nBN := Aside0.mk (blk_below BN.out hb); clear BN; have BN := nBN; clear nBN; have nM := Aside0.mk (Memo.below HM.out hb); have nB := Aside0.mk (below_step HB.out hb); have nK := Aside0.mk (HK.out.trans (MK.below hb)); clear HM HB HK ho hb hnew_; have HM := nM; have HB := nB; have HK := nK; clear nM nB nK; obtain ⟨cg_, hG_, _, _⟩ := Memo.head HM.out; have ha2 : w_.cell? ⟨gm, 1, none⟩ = some (.string tx) := (blk_cell hG_ 1).trans rfl; clear hG_) | ((with_reducible refine gate_dst (N := 33) rfl ?_); refine Kd.R_make Kd.bool _ 4 rfl (N := 33) rfl 124 _ _ rfl (1 : Int) rfl rfl Try.underlying124 (.bool false) 1 info4 rfl (by decide) (by omega) false (ok := fun _ => True) (okp := fun _ => True) rfl (fun _ hk => hk) trivial (by omega) (by decide) (Below.refl _ _) (Nat.le_refl _) ?_; intro H9v w_ ho hb hg_ hnew_; clear hg_; replace ho : Kd.R Kd.bool 4 w_ _ (fun _ => True) H9v [false] := ho; have H9 := Aside0.mk (Row.new ho HB.out (Memo.gg_lt HM.out)); have HX1 : ∃ W1 : World, Memo w0 gm gg (some ad) cn nodes tx E W1 ∧ Row w0 W1 gg H8v false ∧ W1.heap[gn]? = some (.cells #[.int .i64 6, .slice A1 x.f1.length c1, .slice (some ad2) 1 c2, .int .i64 x.f3, .int .i64 x.f4] 156 (0, 0)) ∧ Below W1.heap.size W1 w_ ∧ (∃ b_, H9v.ownBlock = some b_ ∧ W1.heap.size ≤ b_) ∧ Below w0.heap.size w0 W1 ∧ MK gg w W1 := ⟨_, HM.out, H8.out, BN.out, hb, hnew_, HB.out, HK.out⟩; have nH8 := Aside0.mk (Row.keep H8.out (MK.below hb)); clear H8; have H8 := nH8; clear nH8; have nBN := Aside0.mk (blk_below BN.out hb); clear BN; have BN := nBN; clear nBN; have nM := Aside0.mk (Memo.below HM.out hb); have nB := Aside0.mk (below_step HB.out hb); have nK := Aside0.mk (HK.out.trans (MK.below hb)); clear HM HB HK ho hb hnew_; have HM := nM; have HB := nB; have HK := nK; clear nM nB nK; obtain ⟨H9g, H9c, rfl, H9h⟩ := Row.form H9.out; have hx9 := Row.cell H9.out; have hf9 := Row.frozen H9.out))
  obtain ⟨W1, hM1, h81, hBN1, hb1, ⟨g9', e9, hg9⟩, hB1, hK1⟩ := HX1
  obtain rfl : H9g = g9' := by simpa [Value.ownBlock] using e9
  have Hbs := below_set hb1 hg9 (j := 0) (v := .bool true)
  have nH9 := Aside0.mk ((Kd.R_put H9.out 0 true).1)
  clear H8 H9 HM HB HK BN
  have HM := Aside0.mk (Memo.below hM1 Hbs)
  have H8 := Aside0.mk (Row.keep h81 (MK.below (gg := gg) Hbs))
  have HK := Aside0.mk (hK1.trans (MK.below (gg := gg) Hbs))
  have HB := Aside0.mk (below_step hB1 Hbs)
  have BN := Aside0.mk (blk_below hBN1 Hbs)
  have H9 : Aside0 (Row w0 (w_.setCell ⟨H9g, 0, none⟩ (.bool true)) gg (.slice (some ⟨H9g, 0, none⟩) 1 H9c) true) := nH9
  clear nH9 Hbs hM1 h81 hBN1 hb1 hg9 e9 hB1 hK1 hx9 hf9
  generalize w_.setCell ⟨H9g, 0, none⟩ (.bool true) = w9 at *
  obtain ⟨H8g, H8c, rfl, hH8⟩ := Row.form H8.out
  obtain ⟨cg_, hG_, _, _⟩ := Memo.head HM.out
  have ht1 : w9.cell? ⟨gm, 1, none⟩ = some (.string tx) := (blk_cell hG_ 1).trans rfl
  clear hG_
  have hn0 : w9.cell? ⟨gn, 0, none⟩ = some (.int .i64 6) := (blk_cell BN.out 0).trans rfl
  have hn2 : w9.cell? ⟨gn, 2, none⟩ = some (.slice (some ad2) 1 c2) := (blk_cell BN.out 2).trans rfl
  have hn3 : w9.cell? ⟨gn, 3, none⟩ = some (.int .i64 x.f3) := (blk_cell BN.out 3).trans rfl
  have hn4 : w9.cell? ⟨gn, 4, none⟩ = some (.int .i64 x.f4) := (blk_cell BN.out 4).trans rfl
  have hq0 := (HB.out.cell (World.block_lt_of_cell? w0 _ hkc0)).trans hkc0
  have hz0 := hq0
  rw [show ad2.add 0 = ad2 by cases ad2; rfl] at hz0
  have HE0 := Aside0.mk he0
  have hkb := hkc0
  clear hkc0 he0
  go_wp2_with fail
  replace HM : Aside0 (Memo w0 gm gg (some ad) cn nodes tx E w9.drew) := ⟨Memo.below HM.out (below_drew1 (Below.refl _ _))⟩
  replace HB : Aside0 (Below w0.heap.size w0 w9.drew) := ⟨below_drew1 HB.out⟩
  replace HK : Aside0 (MK gg w w9.drew) := ⟨HK.out.trans (MK.below (below_drew1 (Below.refl _ _)))⟩
  replace BN := Aside0.mk (blk_drew BN.out)
  have HAD : Aside0 (ad2.block ≠ gg) := ⟨by have h1 := World.block_lt_of_cell? w0 _ hkb; have h2 := Memo.gg_ge HM.out; rw [add_block] at h1; omega⟩
  refine start_ (n := 14) (S := fun w' => w'.cell? ⟨gn, 2, none⟩ = some (.slice (some ad2) 1 c2) ∧ w'.cell? ad2 = some (.int .i64 (k0 : Int))) (ds := []) #[false, false, false, false, false, false, false, false, false, false, false, false, false, false] (by kernel_rfl) rfl rfl ⟨(blk_cell BN.out 2).trans rfl, hz0⟩ (fun hHeld => ?_)
  generalize hW1 : w9.drew = W1 at HM HB HK BN hHeld ⊢
  refine pure_ (i := 0) (N := (some 111)) (v := ?_) (a' := ?_) #[true, false, false, false, false, false, false, false, false, false, false, false, false, false] rfl rfl (by kernel_rfl) (fun _ _ _ h => h) (Or.inl ⟨by rfl, ?_⟩) ?_ ?_
  rotate_left
  · intro w'
    go_simp
    with_reducible rfl
  rotate_left
  · simp only [Act.put, List.setIfInBounds_toArray, List.set_cons_zero, List.set_cons_succ, i64_w, i32_w]
    rfl
  refine pure_ (i := 1) (N := (some 112)) (v := ?_) (a' := ?_) #[true, true, false, false, false, false, false, false, false, false, false, false, false, false] rfl rfl (by kernel_rfl) (fun _ _ _ h => h) (Or.inl ⟨by rfl, ?_⟩) ?_ ?_
  rotate_left
  · intro w'
    go_simp
    with_reducible rfl
  rotate_left
  · simp only [Act.put, List.setIfInBounds_toArray, List.set_cons_zero, List.set_cons_succ, i64_w, i32_w]
    rfl
  refine pure_ (i := 5) (N := (some 116)) (v := ?_) (a' := ?_) #[true, true, false, false, false, true, false, false, false, false, false, false, false, false] rfl rfl (by kernel_rfl) (fun _ _ _ h => h) (Or.inl ⟨by rfl, ?_⟩) ?_ ?_
  rotate_left
  · intro w'
    go_simp
    with_reducible rfl
  rotate_left
  · simp only [Act.put, List.setIfInBounds_toArray, List.set_cons_zero, List.set_cons_succ, i64_w, i32_w]
    rfl
  refine pure_ (i := 6) (N := (some 117)) (v := ?_) (a' := ?_) #[true, true, false, false, false, true, true, false, false, false, false, false, false, false] rfl rfl (by kernel_rfl) (fun _ _ _ h => h) (Or.inl ⟨by rfl, ?_⟩) ?_ ?_
  rotate_left
  · intro w'
    go_simp
    with_reducible rfl
  rotate_left
  · simp only [Act.put, List.setIfInBounds_toArray, List.set_cons_zero, List.set_cons_succ, i64_w, i32_w]
    rfl
  refine pure_ (i := 10) (N := (some 121)) (v := ?_) (a' := ?_) #[true, true, false, false, false, true, true, false, false, false, true, false, false, false] rfl rfl (by kernel_rfl) (fun _ _ _ h => h) (Or.inl ⟨by rfl, ?_⟩) ?_ ?_
  rotate_left
  · intro w'
    go_simp
    with_reducible rfl
  rotate_left
  · simp only [Act.put, List.setIfInBounds_toArray, List.set_cons_zero, List.set_cons_succ, i64_w, i32_w]
    rfl
  refine take_ (i := 2) (N := (some 113)) (v := ?_) (a' := ?_) #[true, true, true, false, false, true, true, false, false, false, true, false, false, false] rfl rfl (by kernel_rfl) (fun _ _ _ h => h) (Or.inl ⟨by rfl, ?_⟩) hHeld ?_ ?_
  rotate_left
  · rintro w' ⟨s0, s1⟩
    go_simp
    with_reducible rfl
  rotate_left
  · simp only [Act.put, List.setIfInBounds_toArray, List.set_cons_zero, List.set_cons_succ, i64_w, i32_w]
    rfl
  refine pure_ (i := 3) (N := (some 114)) (v := ?_) (a' := ?_) #[true, true, true, true, false, true, true, false, false, false, true, false, false, false] rfl rfl (by kernel_rfl) (fun _ _ _ h => h) (Or.inl ⟨by rfl, ?_⟩) ?_ ?_
  rotate_left
  · intro w'
    go_simp
    with_reducible rfl
  rotate_left
  · simp only [Act.put, List.setIfInBounds_toArray, List.set_cons_zero, List.set_cons_succ, i64_w, i32_w]
    rfl
  refine take_ (i := 4) (N := (some 115)) (v := ?_) (a' := ?_) #[true, true, true, true, true, true, true, false, false, false, true, false, false, false] rfl rfl (by kernel_rfl) (fun _ _ _ h => h) (Or.inl ⟨by rfl, ?_⟩) hHeld ?_ ?_
  rotate_left
  · rintro w' ⟨s0, s1⟩
    go_simp
    with_reducible rfl
  rotate_left
  · simp only [Act.put, List.setIfInBounds_toArray, List.set_cons_zero, List.set_cons_succ, i64_w, i32_w]
    rfl
  refine take_ (i := 7) (N := (some 118)) (v := ?_) (a' := ?_) #[true, true, true, true, true, true, true, true, false, false, true, false, false, false] rfl rfl (by kernel_rfl) (fun _ _ _ h => h) (Or.inl ⟨by rfl, ?_⟩) hHeld ?_ ?_
  rotate_left
  · rintro w' ⟨s0, s1⟩
    go_simp
    with_reducible rfl
  rotate_left
  · simp only [Act.put, List.setIfInBounds_toArray, List.set_cons_zero, List.set_cons_succ, i64_w, i32_w]
    rfl
  refine pure_ (i := 8) (N := (some 119)) (v := ?_) (a' := ?_) #[true, true, true, true, true, true, true, true, true, false, true, false, false, false] rfl rfl (by kernel_rfl) (fun _ _ _ h => h) (Or.inl ⟨by rfl, ?_⟩) ?_ ?_
  rotate_left
  · intro w'
    go_simp
    with_reducible rfl
  rotate_left
  · simp only [Act.put, List.setIfInBounds_toArray, List.set_cons_zero, List.set_cons_succ, i64_w, i32_w]
    rfl
  refine take_ (i := 9) (N := (some 120)) (v := ?_) (a' := ?_) #[true, true, true, true, true, true, true, true, true, true, true, false, false, false] rfl rfl (by kernel_rfl) (fun _ _ _ h => h) (Or.inl ⟨by rfl, ?_⟩) hHeld ?_ ?_
  rotate_left
  · rintro w' ⟨s0, s1⟩
    go_simp
    with_reducible rfl
  rotate_left
  · simp only [Act.put, List.setIfInBounds_toArray, List.set_cons_zero, List.set_cons_succ, i64_w, i32_w]
    rfl
  refine one_ (i := 11) (N := (some 122)) #[true, true, true, true, true, true, true, true, true, true, true, true, false, false] rfl rfl (by kernel_rfl) (by decide) (fun K hK => ?_)
  refine goes_ Try.func121 (by kernel_rfl) rfl #[.pointer (some ⟨gm, 0, none⟩), .int .i64 (k0 : Int), .int .i64 0] (by rfl) rfl rfl (by (try simp only [List.map_toArray, List.map_cons, List.map_nil]); first | done | rfl) ?_
  refine (HE0.out _ HM.out HB.out).mono ?_
  rintro e w_ ⟨v_, rfl, hR_, hM_, hK_, hB_⟩
  refine ⟨_, rfl, ?_⟩
  obtain ⟨HAg, HAc, rfl, HAh⟩ := Row.form hR_
  have HA := Aside0.mk hR_
  have nK := Aside0.mk (HK.out.trans hK_)
  clear HM HB HK hR_
  have HM := Aside0.mk hM_
  have HB := Aside0.mk hB_
  have HK := nK
  clear nK hM_ hB_
  refine hK.out _ _ ⟨MK.cell hK_ (hHeld.1) HGN.out, MK.cell hK_ (hHeld.2) (by have := HAD.out; first | exact this | (show ad2.block ≠ gg; exact this))⟩ (fun hHeld => ?_)
  clear hK_
  clear hK K
  refine norm_ (a' := ?_) ?_ ?_
  rotate_left
  · show Act.put _ (some 122) _ = _
    simp only [Act.put, List.setIfInBounds_toArray, List.set_cons_zero, List.set_cons_succ, i64_w, i32_w]
    rfl
  refine one_ (i := 12) (N := (some 123)) #[true, true, true, true, true, true, true, true, true, true, true, true, true, false] rfl rfl (by kernel_rfl) (by decide) (fun K hK => ?_)
  refine goes_ Try.func172 (by kernel_rfl) rfl #[.pointer (some ⟨gm, 0, none⟩), .int .i64 (k0 : Int), .slice (some ⟨HAg, 0, none⟩) 1 HAc] (by rfl) rfl rfl (by (try simp only [List.map_toArray, List.map_cons, List.map_nil]); first | done | rfl) ?_
  refine (again_of k0 HE0.out _ (E k0) _ HM.out HB.out HA.out).mono ?_
  rintro e w_ ⟨v_, rfl, hR_, hM_, hK_, hB_⟩
  refine ⟨_, rfl, ?_⟩
  obtain ⟨HOg, HOc, rfl, HOh⟩ := Row.form hR_
  have HO := Aside0.mk hR_
  have nK := Aside0.mk (HK.out.trans hK_)
  clear HM HB HK hR_
  have HM := Aside0.mk hM_
  have HB := Aside0.mk hB_
  have HK := nK
  clear nK hM_ hB_
  refine hK.out _ _ ⟨MK.cell hK_ (hHeld.1) HGN.out, MK.cell hK_ (hHeld.2) (by have := HAD.out; first | exact this | (show ad2.block ≠ gg; exact this))⟩ (fun hHeld => ?_)
  clear hK_
  clear hK K
  refine norm_ (a' := ?_) ?_ ?_
  rotate_left
  · show Act.put _ (some 123) _ = _
    simp only [Act.put, List.setIfInBounds_toArray, List.set_cons_zero, List.set_cons_succ, i64_w, i32_w]
    rfl
  refine pure_ (i := 13) (N := (some 6)) (v := ?_) (a' := ?_) #[true, true, true, true, true, true, true, true, true, true, true, true, true, true] rfl rfl (by kernel_rfl) (fun _ _ _ h => h) (Or.inl ⟨by rfl, ?_⟩) ?_ ?_
  rotate_left
  · intro w'
    go_simp
    with_reducible rfl
  rotate_left
  · simp only [Act.put, List.setIfInBounds_toArray, List.set_cons_zero, List.set_cons_succ, i64_w, i32_w]
    rfl
  refine done_ (by kernel_rfl) ?_
  go_wp2_with fail
  go_ret
  exact ⟨_, rfl, by rw [HE.out]; exact HO.out, HM.out, HK.out, HB.out⟩
set_option maxHeartbeats 16000000 in
set_option maxRecDepth 100000 in
theorem find_times {w0 : World} {gm gg cn : Nat} {An : Option Addr} {nodes : List S156} {tx : ByteArray} {E : Nat → Bool} (ht : tx.size = 0) (hn : nodes.length ≤ 100000) (k : Nat) (hk1 : k < nodes.length) (hN : Kd.C k156 w0 An nodes.length nodes) (hop : (rd_T156 nodes (k : Int)).f0 = 8) (hlen : (rd_T156 nodes (k : Int)).f2.length = 1) (k0 : Nat) (e0 : rd (rd_T156 nodes (k : Int)).f2 0 = (k0 : Int)) (he0 : EOK w0 gm gg An cn nodes tx E k0) (hmi : 0 ≤ (rd_T156 nodes (k : Int)).f3 ∧ (rd_T156 nodes (k : Int)).f3 ≤ 1000) (hma : (rd_T156 nodes (k : Int)).f4 ≤ 1000) (hE : E k = (decide ((rd_T156 nodes (k : Int)).f3 = 0) || E k0)) : FOK w0 gm gg An cn nodes tx E k := by
  intro w hM hB
  obtain ⟨ad, A1, c1, A2, c2, rfl, hx0, hx1, hx2, hx3, hx4, _, _, hc2, hC2⟩ := at_T156 hN (k : Int) (by omega) (by omega)
  rw [Int.toNat_natCast] at hx0 hx1 hx2 hx3 hx4
  replace hx0 := (hB.cell (World.block_lt_of_cell? w0 _ hx0)).trans hx0
  replace hx1 := (hB.cell (World.block_lt_of_cell? w0 _ hx1)).trans hx1
  replace hx2 := (hB.cell (World.block_lt_of_cell? w0 _ hx2)).trans hx2
  replace hx3 := (hB.cell (World.block_lt_of_cell? w0 _ hx3)).trans hx3
  replace hx4 := (hB.cell (World.block_lt_of_cell? w0 _ hx4)).trans hx4
  obtain ⟨x, hxd⟩ : ∃ x, rd_T156 nodes (k : Int) = x := ⟨_, rfl⟩
  rw [hxd] at hx0 hx1 hx2 hx3 hx4 hc2 hC2 hop hlen e0 hmi hma hE
  rw [hop] at hx0
  clear hxd
  obtain ⟨ad2, rfl, hkc0⟩ := Kd.at_int hC2 0 (by omega) (by rw [hlen]; decide)
  rw [e0] at hkc0
  rw [show (0 : Int).toNat = 0 from rfl] at hkc0
  rw [hlen] at hx2
  clear hC2 hc2 hlen
  obtain ⟨cg, hG, hcg, hgm⟩ := Memo.head hM
  have hm0 : w.cell? ⟨gm, 0, none⟩ = some (.slice (some ad) nodes.length cn) := (blk_cell hG 0).trans rfl
  have hm1 : w.cell? ⟨gm, 1, none⟩ = some (.string tx) := (blk_cell hG 1).trans rfl
  have ha1 : (w.alloc (.cells #[.int .i64 8, .slice A1 x.f1.length c1, .slice (some ad2) 1 c2, .int .i64 x.f3, .int .i64 x.f4] 156)).cell? ⟨gm, 1, none⟩ = some (.string tx) := (blk_cell (blk_alloc hG _) 1).trans rfl
  have hkz : (k : Int) < (nodes.length : Int) := by omega
  have hk0 : (0 : Int) ≤ (k : Int) := by omega
  obtain ⟨gn, hgn⟩ : ∃ gn, w.heap.size = gn := ⟨_, rfl⟩
  have HGN : Aside0 (gn ≠ gg) := ⟨by have := Memo.gg_lt hM; omega⟩
  have BN : Aside0 ((w.alloc (.cells #[.int .i64 8, .slice A1 x.f1.length c1, .slice (some ad2) 1 c2, .int .i64 x.f3, .int .i64 x.f4] 156)).heap[gn]? = some (.cells #[.int .i64 8, .slice A1 x.f1.length c1, .slice (some ad2) 1 c2, .int .i64 x.f3, .int .i64 x.f4] 156 (0, 0))) := ⟨by rw [← hgn]; exact blk_new w _⟩
  have HK := Aside0.mk (MK.below (gg := gg) (below_alloc (Below.refl w.heap.size w) (.cells #[.int .i64 8, .slice A1 x.f1.length c1, .slice (some ad2) 1 c2, .int .i64 x.f3, .int .i64 x.f4] 156)))
  have HB := Aside0.mk (below_alloc hB (.cells #[.int .i64 8, .slice A1 x.f1.length c1, .slice (some ad2) 1 c2, .int .i64 x.f3, .int .i64 x.f4] 156))
  have HM := Aside0.mk (Memo.below hM (below_alloc (Below.refl w.heap.size w) (.cells #[.int .i64 8, .slice A1 x.f1.length c1, .slice (some ad2) 1 c2, .int .i64 x.f3, .int .i64 x.f4] 156)))
  have HE := Aside0.mk hE
  clear hG hM hB hE
  go_enter Try.func157, Try.ntmps157
  go_upto_region 5 with (first | ((with_reducible refine gate_dst (N := 26) rfl ?_); refine Kd.R_make Kd.bool _ 4 rfl (N := 26) rfl 124 _ _ rfl (1 : Int) rfl rfl Try.underlying124 (.bool false) 1 info4 rfl (by decide) (by omega) false (ok := fun _ => True) (okp := fun _ => True) rfl (fun _ hk => hk) trivial (by omega) (by decide) (Below.refl _ _) (Nat.le_refl _) ?_; intro H8v w_ ho hb hg_ hnew_; clear hg_; replace ho : Kd.R Kd.bool 4 w_ _ (fun _ => True) H8v [false] := ho; have H8 := Aside0.mk (Row.new ho HB.out (Memo.gg_lt HM.out)); have nBN := Aside0.mk (blk_below BN.out hb); clear BN; have BN := nBN; clear nBN; have nM := Aside0.mk (Memo.below HM.out hb); have nB := Aside0.mk (below_step HB.out hb); have nK := Aside0.mk (HK.out.trans (MK.below hb)); clear HM HB HK ho hb hnew_; have HM := nM; have HB := nB; have HK := nK; clear nM nB nK; obtain ⟨cg_, hG_, _, _⟩ := Memo.head HM.out; have ha2 : w_.cell? ⟨gm, 1, none⟩ = some (.string tx) := (blk_cell hG_ 1).trans rfl; clear hG_) | ((with_reducible refine gate_dst (N := 33) rfl ?_); refine Kd.R_make Kd.bool _ 4 rfl (N := 33) rfl 124 _ _ rfl (1 : Int) rfl rfl Try.underlying124 (.bool false) 1 info4 rfl (by decide) (by omega) false (ok := fun _ => True) (okp := fun _ => True) rfl (fun _ hk => hk) trivial (by omega) (by decide) (Below.refl _ _) (Nat.le_refl _) ?_; intro H9v w_ ho hb hg_ hnew_; clear hg_; replace ho : Kd.R Kd.bool 4 w_ _ (fun _ => True) H9v [false] := ho; have H9 := Aside0.mk (Row.new ho HB.out (Memo.gg_lt HM.out)); have HX1 : ∃ W1 : World, Memo w0 gm gg (some ad) cn nodes tx E W1 ∧ Row w0 W1 gg H8v false ∧ W1.heap[gn]? = some (.cells #[.int .i64 8, .slice A1 x.f1.length c1, .slice (some ad2) 1 c2, .int .i64 x.f3, .int .i64 x.f4] 156 (0, 0)) ∧ Below W1.heap.size W1 w_ ∧ (∃ b_, H9v.ownBlock = some b_ ∧ W1.heap.size ≤ b_) ∧ Below w0.heap.size w0 W1 ∧ MK gg w W1 := ⟨_, HM.out, H8.out, BN.out, hb, hnew_, HB.out, HK.out⟩; have nH8 := Aside0.mk (Row.keep H8.out (MK.below hb)); clear H8; have H8 := nH8; clear nH8; have nBN := Aside0.mk (blk_below BN.out hb); clear BN; have BN := nBN; clear nBN; have nM := Aside0.mk (Memo.below HM.out hb); have nB := Aside0.mk (below_step HB.out hb); have nK := Aside0.mk (HK.out.trans (MK.below hb)); clear HM HB HK ho hb hnew_; have HM := nM; have HB := nB; have HK := nK; clear nM nB nK; obtain ⟨H9g, H9c, rfl, H9h⟩ := Row.form H9.out; have hx9 := Row.cell H9.out; have hf9 := Row.frozen H9.out))
  obtain ⟨W1, hM1, h81, hBN1, hb1, ⟨g9', e9, hg9⟩, hB1, hK1⟩ := HX1
  obtain rfl : H9g = g9' := by simpa [Value.ownBlock] using e9
  have Hbs := below_set hb1 hg9 (j := 0) (v := .bool true)
  have nH9 := Aside0.mk ((Kd.R_put H9.out 0 true).1)
  clear H8 H9 HM HB HK BN
  have HM := Aside0.mk (Memo.below hM1 Hbs)
  have H8 := Aside0.mk (Row.keep h81 (MK.below (gg := gg) Hbs))
  have HK := Aside0.mk (hK1.trans (MK.below (gg := gg) Hbs))
  have HB := Aside0.mk (below_step hB1 Hbs)
  have BN := Aside0.mk (blk_below hBN1 Hbs)
  have H9 : Aside0 (Row w0 (w_.setCell ⟨H9g, 0, none⟩ (.bool true)) gg (.slice (some ⟨H9g, 0, none⟩) 1 H9c) true) := nH9
  clear nH9 Hbs hM1 h81 hBN1 hb1 hg9 e9 hB1 hK1 hx9 hf9
  generalize w_.setCell ⟨H9g, 0, none⟩ (.bool true) = w9 at *
  obtain ⟨H8g, H8c, rfl, hH8⟩ := Row.form H8.out
  obtain ⟨cg_, hG_, _, _⟩ := Memo.head HM.out
  have ht1 : w9.cell? ⟨gm, 1, none⟩ = some (.string tx) := (blk_cell hG_ 1).trans rfl
  clear hG_
  have hn0 : w9.cell? ⟨gn, 0, none⟩ = some (.int .i64 8) := (blk_cell BN.out 0).trans rfl
  have hn2 : w9.cell? ⟨gn, 2, none⟩ = some (.slice (some ad2) 1 c2) := (blk_cell BN.out 2).trans rfl
  have hn3 : w9.cell? ⟨gn, 3, none⟩ = some (.int .i64 x.f3) := (blk_cell BN.out 3).trans rfl
  have hn4 : w9.cell? ⟨gn, 4, none⟩ = some (.int .i64 x.f4) := (blk_cell BN.out 4).trans rfl
  have hq0 := (HB.out.cell (World.block_lt_of_cell? w0 _ hkc0)).trans hkc0
  have hz0 := hq0
  rw [show ad2.add 0 = ad2 by cases ad2; rfl] at hz0
  have HE0 := Aside0.mk he0
  have hkb := hkc0
  clear hkc0 he0
  have HAD : Aside0 (ad2.block ≠ gg) := ⟨by have h1 := World.block_lt_of_cell? w0 _ hkb; have h2 := Memo.gg_ge HM.out; rw [add_block] at h1; omega⟩
  have HZ := Aside0.mk hz0
  clear hkb hz0 hq0 hn2 hn3 hn4 ht1
  obtain ⟨cc, hcc⟩ : ∃ cc, (decide (x.f3 = 0) || E k0) = cc := ⟨_, rfl⟩
  have HCC := Aside0.mk hcc
  rw [hcc] at HE
  clear hcc
  go_wp2_with fail
  go_loopg [9, 10] (x.f3.toNat + 1) (fun gk_ v9 v10 wr => ∃ (kk : Nat), v10 = .int .i64 (kk : Int) ∧ (kk : Int) ≤ x.f3 ∧ x.f3.toNat - kk < gk_ ∧ Aside0 (Row w0 wr gg v9 (decide (kk = 0) || E k0)) ∧ Aside0 (Row w0 wr gg (.slice (some ⟨H8g, 0, none⟩) 1 H8c) false) ∧ Aside0 (Memo w0 gm gg (some ad) cn nodes tx E wr) ∧ Aside0 (Below w0.heap.size w0 wr) ∧ Aside0 (MK gg w wr) ∧ Aside0 (wr.heap[gn]? = some (.cells #[.int .i64 8, .slice A1 x.f1.length c1, .slice (some ad2) 1 c2, .int .i64 x.f3, .int .i64 x.f4] 156 (0, 0))) ∧ Aside0 (wr.cell? ad2 = some (.int .i64 (k0 : Int))))
  case atStart => exact ⟨0, rfl, by omega, by omega, ⟨by simpa using H9.out⟩, H8, HM, HB, HK, BN, HZ⟩
  case round =>
    clear H9 H8 HM HB HK BN HZ
    obtain ⟨kk, rfl, hkk, hgk, H9, H8, HM, HB, HK, BN, HZ⟩ := hrel
    obtain ⟨g9, c9, rfl, hc9⟩ := Row.form H9.out
    have hn2 : wr.cell? ⟨gn, 2, none⟩ = some (.slice (some ad2) 1 c2) := (blk_cell BN.out 2).trans rfl
    have hn3 : wr.cell? ⟨gn, 3, none⟩ = some (.int .i64 x.f3) := (blk_cell BN.out 3).trans rfl
    have hn4 : wr.cell? ⟨gn, 4, none⟩ = some (.int .i64 x.f4) := (blk_cell BN.out 4).trans rfl
    have hz0 := HZ.out
    by_cases hlt : (kk : Int) < x.f3
    · have hd : decide ((kk : Int) < x.f3) = true := decide_eq_true hlt
      go_wp2_with (go_at_call 170; refine (step_of k0 HE0.out _ (decide (kk = 0) || E k0) _ HM.out HB.out H9.out).mono ?_; rintro e w_ ⟨v_, rfl, hR_, hM_, hK_, hB_⟩; have nH8 := Aside0.mk (Row.keep H8.out hK_); clear H8; have H8 := nH8; clear nH8; have HS := Aside0.mk hR_; obtain ⟨HSg, HSc, rfl, HSh⟩ := Row.form hR_; have nBN := Aside0.mk ((hK_.2 gn (blk_lt BN.out) HGN.out).trans BN.out); have nZ := Aside0.mk (MK.cell hK_ HZ.out HAD.out); have nK := Aside0.mk (HK.out.trans hK_); clear HM HB HK hR_ hK_ BN HZ; have HM := Aside0.mk hM_; have HB := Aside0.mk hB_; have HK := nK; have BN := nBN; have HZ := nZ; clear nK nBN nZ hM_ hB_)
      go_roundg (x.f3.toNat - kk)
      case measure => omega
      case rel => exact ⟨kk + 1, by go_num, by omega, by omega, ⟨by have h := HS.out; rw [show (decide (kk + 1 = 0) || E k0) = ((decide (kk = 0) || E k0) && E k0) by cases E k0 <;> simp]; exact h⟩, H8, HM, HB, HK, BN, HZ⟩
    · have hd : decide ((kk : Int) < x.f3) = false := decide_eq_false hlt
      have he : Aside0 ((decide (kk = 0) || E k0) = cc) := ⟨by rw [← HCC.out]; congr 2; rw [eq_iff_iff]; omega⟩
      replace H9 := Aside0.mk (he.out ▸ H9.out)
      clear he
      by_cases hmx : x.f4 < 0
      · have hd2 : decide (x.f4 < 0) = true := decide_eq_true hmx
        go_wp2_with (go_at_call 172; refine (again_of k0 HE0.out _ cc _ HM.out HB.out H9.out).mono ?_; rintro e w_ ⟨v_, rfl, hR_, hM_, hK_, hB_⟩; have HA := Aside0.mk hR_; obtain ⟨HAg, HAc, rfl, HAh⟩ := Row.form hR_; have nBN := Aside0.mk ((hK_.2 gn (blk_lt BN.out) HGN.out).trans BN.out); have nZ := Aside0.mk (MK.cell hK_ HZ.out HAD.out); have nK := Aside0.mk (HK.out.trans hK_); clear HM HB HK hR_ hK_ BN HZ; have HM := Aside0.mk hM_; have HB := Aside0.mk hB_; have HK := nK; have BN := nBN; have HZ := nZ; clear nK nBN nZ hM_ hB_)
        go_ret
        exact ⟨_, rfl, by rw [HE.out]; exact HA.out, HM.out, HK.out, HB.out⟩
      · have hd2 : decide (x.f4 < 0) = false := decide_eq_false hmx
        go_wp2_with (go_at_call 171; obtain ⟨k_, hk_⟩ := or_one false cc; refine (spec_l4Or.calls k_ _ _ [false] _ _ [cc] _ _ (Row.C H8.out) (Kd.R_reads' H8.out).2.1 (Row.C H9.out) (Kd.R_reads' H9.out).2.1 hk_).mono ?_; rintro e w_ ⟨HOv, rfl, ho, hb⟩; have HO := Aside0.mk (Row.new ho HB.out (Memo.gg_lt HM.out)); have nH9 := Aside0.mk (Row.keep H9.out (MK.below hb)); clear H9; have H9 := nH9; clear nH9; have nBN := Aside0.mk (blk_below BN.out hb); have nZ := Aside0.mk (MK.cell (MK.below (gg := gg) hb) HZ.out HAD.out); clear BN HZ; have BN := nBN; have HZ := nZ; clear nBN nZ; have nM := Aside0.mk (Memo.below HM.out hb); have nB := Aside0.mk (below_step HB.out hb); have nK := Aside0.mk (HK.out.trans (MK.below hb)); clear HM HB HK ho hb hk_; have HM := nM; have HB := nB; have HK := nK; clear nM nB nK; obtain ⟨HOg, HOc, rfl, HOh⟩ := Row.form HO.out; have hn2 : w_.cell? ⟨gn, 2, none⟩ = some (.slice (some ad2) 1 c2) := (blk_cell BN.out 2).trans rfl; have hn3 : w_.cell? ⟨gn, 3, none⟩ = some (.int .i64 x.f3) := (blk_cell BN.out 3).trans rfl; have hn4 : w_.cell? ⟨gn, 4, none⟩ = some (.int .i64 x.f4) := (blk_cell BN.out 4).trans rfl; have hz0 := HZ.out)
        replace HO := Aside0.mk (show Row w0 w_ gg (.slice (some ⟨HOg, 0, none⟩) 1 HOc) cc by have h := HO.out; simpa using h)
        go_loopg [8, 9, 11] ((x.f4 - x.f3).toNat + 1) (fun gk_ v8 v9 v11 wr => ∃ (j : Int) (bo : Bool), v11 = .int .i64 j ∧ x.f3 ≤ j ∧ j ≤ 1000 ∧ (x.f4 - j).toNat < gk_ ∧ Aside0 (bo = true → cc = true) ∧ Aside0 (Row w0 wr gg v8 cc) ∧ Aside0 (Row w0 wr gg v9 bo) ∧ Aside0 (Memo w0 gm gg (some ad) cn nodes tx E wr) ∧ Aside0 (Below w0.heap.size w0 wr) ∧ Aside0 (MK gg w wr) ∧ Aside0 (wr.heap[gn]? = some (.cells #[.int .i64 8, .slice A1 x.f1.length c1, .slice (some ad2) 1 c2, .int .i64 x.f3, .int .i64 x.f4] 156 (0, 0))) ∧ Aside0 (wr.cell? ad2 = some (.int .i64 (k0 : Int))))
        case atStart => exact ⟨x.f3, cc, rfl, by omega, by omega, by omega, ⟨fun h => h⟩, HO, H9, HM, HB, HK, BN, HZ⟩
        case round =>
          clear HO H9 HM HB HK BN HZ hn2 hn3 hn4 hz0 H8
          obtain ⟨j, bo, rfl, hj0, hj1, hgk2, HI, H8, H9, HM, HB, HK, BN, HZ⟩ := hrel
          obtain ⟨g8, c8, rfl, hc8⟩ := Row.form H8.out
          obtain ⟨g7, c7, rfl, hc7⟩ := Row.form H9.out
          have hn2 : wr.cell? ⟨gn, 2, none⟩ = some (.slice (some ad2) 1 c2) := (blk_cell BN.out 2).trans rfl
          have hn3 : wr.cell? ⟨gn, 3, none⟩ = some (.int .i64 x.f3) := (blk_cell BN.out 3).trans rfl
          have hn4 : wr.cell? ⟨gn, 4, none⟩ = some (.int .i64 x.f4) := (blk_cell BN.out 4).trans rfl
          have hz0 := HZ.out
          by_cases hlt2 : j < x.f4
          · have hd3 : decide (j < x.f4) = true := decide_eq_true hlt2
            have hwr : IntKind.i64.wrap (j + 1) = j + 1 := by rw [i64_w]; exact wrap_id (by omega) (by omega)
            go_wp2_with (first | (go_at_call 170; refine (step_of k0 HE0.out _ bo _ HM.out HB.out H9.out).mono ?_; rintro e w_ ⟨v_, rfl, hR_, hM_, hK_, hB_⟩; have nH8 := Aside0.mk (Row.keep H8.out hK_); clear H8; have H8 := nH8; clear nH8; have HS := Aside0.mk hR_; obtain ⟨HSg, HSc, rfl, HSh⟩ := Row.form hR_; have nBN := Aside0.mk ((hK_.2 gn (blk_lt BN.out) HGN.out).trans BN.out); have nZ := Aside0.mk (MK.cell hK_ HZ.out HAD.out); have nK := Aside0.mk (HK.out.trans hK_); clear HM HB HK hR_ hK_ BN HZ; have HM := Aside0.mk hM_; have HB := Aside0.mk hB_; have HK := nK; have BN := nBN; have HZ := nZ; clear nK nBN nZ hM_ hB_) | (go_at_call 171; obtain ⟨k_, hk_⟩ := or_one cc (bo && E k0); refine (spec_l4Or.calls k_ _ _ [cc] _ _ [(bo && E k0)] _ _ (Row.C H8.out) (Kd.R_reads' H8.out).2.1 (Row.C HS.out) (Kd.R_reads' HS.out).2.1 hk_).mono ?_; rintro e w_ ⟨HO2v, rfl, ho, hb⟩; have HO2 := Aside0.mk (Row.new ho HB.out (Memo.gg_lt HM.out)); have nHS := Aside0.mk (Row.keep HS.out (MK.below hb)); clear HS; have HS := nHS; clear nHS; have nBN := Aside0.mk (blk_below BN.out hb); have nZ := Aside0.mk (MK.cell (MK.below (gg := gg) hb) HZ.out HAD.out); clear BN HZ; have BN := nBN; have HZ := nZ; clear nBN nZ; have nM := Aside0.mk (Memo.below HM.out hb); have nB := Aside0.mk (below_step HB.out hb); have nK := Aside0.mk (HK.out.trans (MK.below hb)); clear HM HB HK ho hb hk_; have HM := nM; have HB := nB; have HK := nK; clear nM nB nK; obtain ⟨HO2g, HO2c, rfl, HO2h⟩ := Row.form HO2.out))
            go_roundg ((x.f4 - j).toNat)
            case measure => omega
            case rel => exact ⟨j + 1, bo && E k0, by go_num, by omega, by omega, by omega, ⟨fun h => HI.out (by simp at h; exact h.1)⟩, ⟨by have h := HO2.out; rw [show (cc || (bo && E k0)) = cc by (have := HI.out; cases cc <;> cases bo <;> simp_all)] at h; exact h⟩, HS, HM, HB, HK, BN, HZ⟩
          · have hd3 : decide (j < x.f4) = false := decide_eq_false hlt2
            go_wp2_with fail
            go_ret
            exact ⟨_, rfl, by rw [HE.out]; exact H8.out, HM.out, HK.out, HB.out⟩
end Go.Proofs.Ytijmhelacmjggaa.P
namespace Go.Proofs.Ytijmhelacmjggaa.P
open Go.RowKit Go.Proofs.YtijmhelacmjggaaW.PrintWords Go.Proofs.YtijmhelacmjggaaW.PrintLast Go.Proofs.YtijmhelacmjggaaW.PrintMore
attribute [local go_sem] max2_int min2_int max_two min_two max_three min_three max_four min_four
set_option linter.unusedVariables false
set_option linter.unusedSimpArgs false
/-! ### impl_within: function 79 -/
def impl_within.f (a0 : Int) (a1 : Int) (a2 : Int) : Option (Bool) := if a0 ≥ a1 then (some (decide (a0 ≤ a2))) else (some false)
set_option maxHeartbeats 8000000 in
set_option maxRecDepth 100000 in
theorem impl_within.calls (a0 : Int) (a1 : Int) (a2 : Int) (r : Bool) (w : World) (h : impl_within.f a0 a1 a2 = some r) :
  Calls Try.prog 79 #[.int .i64 a0, .int .i64 a1, .int .i64 a2] w fun e w' => e = .returned (.bool r) ∧ Drawn0 w w' := by
 have H : (if a0 ≥ a1 then (some (decide (a0 ≤ a2))) else (some false)) = some r := h
 clear h
 by_cases c4 : a0 ≥ a1
 ·rw [if_pos c4] at H
  have c4b0 : decide (a1 ≤ a0) = true := decide_eq_true c4
  clear c4
  obtain rfl := Option.some.inj H
  go_enter Try.func79, Try.ntmps79
  go_wp2
  go_ret
  exact ⟨by first | rfl | (simp; done) | (simp [*]; done), by repeat (first | exact Drawn0.refl _ | apply Drawn0.step)⟩
 ·rw [if_neg c4] at H
  have c4b0 : decide (a1 ≤ a0) = false := decide_eq_false c4
  clear c4
  obtain rfl := Option.some.inj H
  go_enter Try.func79, Try.ntmps79
  go_wp2
  go_ret
  exact ⟨by first | rfl | (simp; done) | (simp [*]; done), by repeat (first | exact Drawn0.refl _ | apply Drawn0.step)⟩
end Go.Proofs.Ytijmhelacmjggaa.P
namespace Go.Proofs.Ytijmhelacmjggaa.P
open Go.RowKit Go.Proofs.YtijmhelacmjggaaW.PrintWords Go.Proofs.YtijmhelacmjggaaW.PrintLast Go.Proofs.YtijmhelacmjggaaEv
set_option linter.unusedVariables false
set_option linter.unusedSimpArgs false
theorem spec_l1In_eq (a b c : Int) : spec_l1In.f a b c = some (decide (b ≤ a ∧ a ≤ c)) := by
  unfold spec_l1In.f
  by_cases h : a ≥ b <;> simp [h]
theorem impl_within_eq (a b c : Int) : impl_within.f a b c = some (decide (b ≤ a ∧ a ≤ c)) := by
  unfold impl_within.f
  by_cases h : a ≥ b <;> simp [h]
end Go.Proofs.Ytijmhelacmjggaa.P
namespace Go.Proofs.Ytijmhelacmjggaa.P
open Go.RowKit Go.Proofs.YtijmhelacmjggaaW.PrintWords Go.Proofs.YtijmhelacmjggaaW.PrintLast Go.Proofs.YtijmhelacmjggaaW.PrintMore
attribute [local go_sem] max2_int min2_int max_two min_two max_three min_three max_four min_four
set_option linter.unusedVariables false
set_option linter.unusedSimpArgs false
/-! ### impl_kidsOf: function 152 -/
mutual
def impl_kidsOf.j0 : Nat → Int → Bool → Option (Int)
 | 0, _, _ => none
 | k + 1, x3, x4 => if x4 = true then (some 0) else (if x3 = 3 then (impl_kidsOf.j1 k x3 (x3 == 3)) else (impl_kidsOf.j1 k x3 (x3 == 4)))
def impl_kidsOf.j1 : Nat → Int → Bool → Option (Int)
 | 0, _, _ => none
 | k + 1, x3, x7 => if x7 = true then (some 2) else (if x3 = 5 then (some 1) else (if x3 = 6 then (some 1) else (if x3 = 7 then (some 1) else (if x3 = 8 then (some 1) else (some (-1))))))
end
def impl_kidsOf.f (k : Nat) (a0 : Int) : Option (Int) := if a0 = 1 then (impl_kidsOf.j0 k a0 (a0 == 1)) else (impl_kidsOf.j0 k a0 (a0 == 2))
set_option maxHeartbeats 8000000 in
set_option maxRecDepth 100000 in
theorem impl_kidsOf.calls (k : Nat) (a0 : Int) (r : Int) (w : World) (h : impl_kidsOf.f k a0 = some r) :
  Calls Try.prog 152 #[.int .i64 a0] w fun e w' => e = .returned (.int .i64 r) ∧ Drawn0 w w' := by
 have H : (if a0 = 1 then (impl_kidsOf.j0 k a0 (a0 == 1)) else (impl_kidsOf.j0 k a0 (a0 == 2))) = some r := h
 clear h
 have HC2 := Aside0.mk H
 clear H
 go_enter Try.func152, Try.ntmps152
 go_upto_if 4 with (fail)
 go_cut [4] (fun v4 wc => ∃ (kq : Nat) (x4_1 : Bool), v4 = .bool x4_1 ∧ Aside0 (impl_kidsOf.j0 kq a0 x4_1 = some r) ∧ Aside0 (kq ≤ k) ∧ Drawn0 w wc)
 case first =>
  have H := HC2.out
  clear HC2
  by_cases c3 : a0 = 1
  ·rw [if_pos c3] at H
   have c3b0 : (a0 == 1) = true := beq_iff_eq.mpr c3
   have c3b1 : (a0 != 1) = false := bne_eq_false_iff_eq.mpr c3
   clear c3
   (first | rw [c3b0] | (simp only [i64_w, i32_w]; rw [c3b0]) | skip)
   have H' := Aside0.mk H
   clear H
   go_wp2
   go_meet
   case rel => exact ⟨_, ((a0 == 1)), rs_, H', ⟨by first | omega | exact Nat.le_refl _⟩, by repeat (first | exact Drawn0.refl _ | apply Drawn0.step)⟩
  ·rw [if_neg c3] at H
   have c3b0 : (a0 == 1) = false := beq_eq_false_iff_ne.mpr c3
   have c3b1 : (a0 != 1) = true := bne_iff_ne.mpr c3
   (first | rw [c3b0] | (simp only [i64_w, i32_w]; rw [c3b0]) | skip)
   have H' := Aside0.mk H
   clear H
   go_wp2
   go_meet
   case rel => exact ⟨_, ((a0 == 2)), rs_, H', ⟨by first | omega | exact Nat.le_refl _⟩, by repeat (first | exact Drawn0.refl _ | apply Drawn0.step)⟩
 case rest =>
  clear HC2
  try clear c3
  try clear c3b0
  try clear c3b1
  obtain ⟨kq, x4_1, rfl, HA, HJ1, ⟨mc1, rfl⟩⟩ := hcut
  cases kq with
  | zero => exact absurd HA.out (by simp [impl_kidsOf.j0])
  | succ kj1 =>
   have H := HA.out
   clear HA
   simp only [impl_kidsOf.j0] at H
   by_cases c4 : x4_1 = true
   ·subst c4
    rw [if_pos rfl] at H
    obtain rfl := Option.some.inj H
    go_wp2
    go_ret
    exact ⟨by first | rfl | (simp; done) | (simp [*]; done), by repeat (first | exact Drawn0.refl _ | apply Drawn0.step)⟩
   ·replace c4 := Bool.eq_false_iff.mpr c4
    subst c4
    rw [if_neg nft_] at H
    have HC5 := Aside0.mk H
    clear H
    go_upto_if 7 with (fail)
    go_cut [7] (fun v7 wc => ∃ (kq : Nat) (x7_4 : Bool), v7 = .bool x7_4 ∧ Aside0 (impl_kidsOf.j1 kq a0 x7_4 = some r) ∧ Aside0 (kq ≤ kj1) ∧ Drawn0 w wc)
    case first =>
     have H := HC5.out
     clear HC5
     by_cases c6 : a0 = 3
     ·rw [if_pos c6] at H
      have c6b0 : (a0 == 3) = true := beq_iff_eq.mpr c6
      have c6b1 : (a0 != 3) = false := bne_eq_false_iff_eq.mpr c6
      clear c6
      (first | rw [c6b0] | (simp only [i64_w, i32_w]; rw [c6b0]) | skip)
      have H' := Aside0.mk H
      clear H
      go_wp2
      go_meet
      case rel => exact ⟨_, ((a0 == 3)), rs_, H', ⟨by have := HJ1.out; first | omega | exact Nat.le_refl _⟩, by repeat (first | exact Drawn0.refl _ | apply Drawn0.step)⟩
     ·rw [if_neg c6] at H
      have c6b0 : (a0 == 3) = false := beq_eq_false_iff_ne.mpr c6
      have c6b1 : (a0 != 3) = true := bne_iff_ne.mpr c6
      (first | rw [c6b0] | (simp only [i64_w, i32_w]; rw [c6b0]) | skip)
      have H' := Aside0.mk H
      clear H
      go_wp2
      go_meet
      case rel => exact ⟨_, ((a0 == 4)), rs_, H', ⟨by have := HJ1.out; first | omega | exact Nat.le_refl _⟩, by repeat (first | exact Drawn0.refl _ | apply Drawn0.step)⟩
    case rest =>
     clear HC5
     try clear c3
     try clear c3b0
     try clear c3b1
     try clear c4
     try clear c6
     try clear c6b0
     try clear c6b1
     obtain ⟨kq, x7_4, rfl, HA, HJ4, ⟨mc4, rfl⟩⟩ := hcut
     cases kq with
     | zero => exact absurd HA.out (by simp [impl_kidsOf.j1])
     | succ kj4 =>
      have H := HA.out
      clear HA
      simp only [impl_kidsOf.j1] at H
      by_cases c7 : x7_4 = true
      ·subst c7
       rw [if_pos rfl] at H
       obtain rfl := Option.some.inj H
       go_wp2
       go_ret
       exact ⟨by first | rfl | (simp; done) | (simp [*]; done), by repeat (first | exact Drawn0.refl _ | apply Drawn0.step)⟩
      ·replace c7 := Bool.eq_false_iff.mpr c7
       subst c7
       rw [if_neg nft_] at H
       by_cases c8 : a0 = 5
       ·rw [if_pos c8] at H
        have c8b0 : (a0 == 5) = true := beq_iff_eq.mpr c8
        have c8b1 : (a0 != 5) = false := bne_eq_false_iff_eq.mpr c8
        clear c8
        obtain rfl := Option.some.inj H
        go_wp2
        go_ret
        exact ⟨by first | rfl | (simp; done) | (simp [*]; done), by repeat (first | exact Drawn0.refl _ | apply Drawn0.step)⟩
       ·rw [if_neg c8] at H
        have c8b0 : (a0 == 5) = false := beq_eq_false_iff_ne.mpr c8
        have c8b1 : (a0 != 5) = true := bne_iff_ne.mpr c8
        by_cases c9 : a0 = 6
        ·rw [if_pos c9] at H
         have c9b0 : (a0 == 6) = true := beq_iff_eq.mpr c9
         have c9b1 : (a0 != 6) = false := bne_eq_false_iff_eq.mpr c9
         clear c9
         obtain rfl := Option.some.inj H
         go_wp2
         go_ret
         exact ⟨by first | rfl | (simp; done) | (simp [*]; done), by repeat (first | exact Drawn0.refl _ | apply Drawn0.step)⟩
        ·rw [if_neg c9] at H
         have c9b0 : (a0 == 6) = false := beq_eq_false_iff_ne.mpr c9
         have c9b1 : (a0 != 6) = true := bne_iff_ne.mpr c9
         by_cases c10 : a0 = 7
         ·rw [if_pos c10] at H
          have c10b0 : (a0 == 7) = true := beq_iff_eq.mpr c10
          have c10b1 : (a0 != 7) = false := bne_eq_false_iff_eq.mpr c10
          clear c10
          obtain rfl := Option.some.inj H
          go_wp2
          go_ret
          exact ⟨by first | rfl | (simp; done) | (simp [*]; done), by repeat (first | exact Drawn0.refl _ | apply Drawn0.step)⟩
         ·rw [if_neg c10] at H
          have c10b0 : (a0 == 7) = false := beq_eq_false_iff_ne.mpr c10
          have c10b1 : (a0 != 7) = true := bne_iff_ne.mpr c10
          by_cases c11 : a0 = 8
          ·rw [if_pos c11] at H
           have c11b0 : (a0 == 8) = true := beq_iff_eq.mpr c11
           have c11b1 : (a0 != 8) = false := bne_eq_false_iff_eq.mpr c11
           clear c11
           obtain rfl := Option.some.inj H
           go_wp2
           go_ret
           exact ⟨by first | rfl | (simp; done) | (simp [*]; done), by repeat (first | exact Drawn0.refl _ | apply Drawn0.step)⟩
          ·rw [if_neg c11] at H
           have c11b0 : (a0 == 8) = false := beq_eq_false_iff_ne.mpr c11
           have c11b1 : (a0 != 8) = true := bne_iff_ne.mpr c11
           obtain rfl := Option.some.inj H
           go_wp2
           go_ret
           exact ⟨by first | rfl | (simp; done) | (simp [*]; done), by repeat (first | exact Drawn0.refl _ | apply Drawn0.step)⟩
/-! ### impl_timesOk: function 156 -/
def impl_timesOk.f (a0 : Int) (a1 : Int) : Option (Bool) := (impl_within.f a0 0 30).bind fun t101 => (if t101 = true then (if a1 = (-1) then (some true) else ((impl_within.f a1 a0 30).bind fun t102 => (if t102 = true then (some (a1 != 0)) else (some false)))) else (some false))
set_option maxHeartbeats 8000000 in
set_option maxRecDepth 100000 in
theorem impl_timesOk.calls (a0 : Int) (a1 : Int) (r : Bool) (w : World) (h : impl_timesOk.f a0 a1 = some r) :
  Calls Try.prog 156 #[.int .i64 a0, .int .i64 a1] w fun e w' => e = .returned (.bool r) ∧ Drawn0 w w' := by
 have H : ((impl_within.f a0 0 30).bind fun t101 => (if t101 = true then (if a1 = (-1) then (some true) else ((impl_within.f a1 a0 30).bind fun t102 => (if t102 = true then (some (a1 != 0)) else (some false)))) else (some false))) = some r := h
 clear h
 obtain ⟨t101, A3, H⟩ := ob_ H
 by_cases c4 : t101 = true
 ·subst c4
  rw [if_pos rfl] at H
  by_cases c5 : a1 = (-1)
  ·rw [if_pos c5] at H
   have c5b0 : (a1 == (-1)) = true := beq_iff_eq.mpr c5
   have c5b1 : (a1 != (-1)) = false := bne_eq_false_iff_eq.mpr c5
   clear c5
   obtain rfl := Option.some.inj H
   go_enter Try.func156, Try.ntmps156
   go_wp2_with (first | ((with_reducible refine gate_callee (f := 79) rfl ?_); refine gl_ (some 6) rfl rfl Try.func79 #[.int .i64 a0, .int .i64 0, .int .i64 30] ?_; (with_reducible refine (impl_within.calls a0 0 30 true _ A3.out).mono ?_); rintro e w' ⟨rfl, ⟨nd, rfl⟩⟩; refine ⟨_, rfl, ?_⟩))
   go_ret
   exact ⟨by first | rfl | (simp; done) | (simp [*]; done), by repeat (first | exact Drawn0.refl _ | apply Drawn0.step)⟩
  ·rw [if_neg c5] at H
   have c5b0 : (a1 == (-1)) = false := beq_eq_false_iff_ne.mpr c5
   have c5b1 : (a1 != (-1)) = true := bne_iff_ne.mpr c5
   obtain ⟨t102, A6, H⟩ := ob_ H
   by_cases c7 : t102 = true
   ·subst c7
    rw [if_pos rfl] at H
    obtain rfl := Option.some.inj H
    go_enter Try.func156, Try.ntmps156
    go_wp2_with (first | ((with_reducible refine gate_callee (f := 79) rfl ?_); refine gl_ (some 6) rfl rfl Try.func79 #[.int .i64 a0, .int .i64 0, .int .i64 30] ?_; (with_reducible refine (impl_within.calls a0 0 30 true _ A3.out).mono ?_); rintro e w' ⟨rfl, ⟨nd, rfl⟩⟩; refine ⟨_, rfl, ?_⟩) | (go_at_call 79; (with_reducible refine (impl_within.calls a1 a0 30 true _ A6.out).mono ?_); rintro e w' ⟨rfl, ⟨nd, rfl⟩⟩))
    go_ret
    exact ⟨by first | rfl | (simp; done) | (simp [*]; done), by repeat (first | exact Drawn0.refl _ | apply Drawn0.step)⟩
   ·replace c7 := Bool.eq_false_iff.mpr c7
    subst c7
    rw [if_neg nft_] at H
    obtain rfl := Option.some.inj H
    go_enter Try.func156, Try.ntmps156
    go_wp2_with (first | ((with_reducible refine gate_callee (f := 79) rfl ?_); refine gl_ (some 6) rfl rfl Try.func79 #[.int .i64 a0, .int .i64 0, .int .i64 30] ?_; (with_reducible refine (impl_within.calls a0 0 30 true _ A3.out).mono ?_); rintro e w' ⟨rfl, ⟨nd, rfl⟩⟩; refine ⟨_, rfl, ?_⟩) | (go_at_call 79; (with_reducible refine (impl_within.calls a1 a0 30 false _ A6.out).mono ?_); rintro e w' ⟨rfl, ⟨nd, rfl⟩⟩))
    go_ret
    exact ⟨by first | rfl | (simp; done) | (simp [*]; done), by repeat (first | exact Drawn0.refl _ | apply Drawn0.step)⟩
 ·replace c4 := Bool.eq_false_iff.mpr c4
  subst c4
  rw [if_neg nft_] at H
  obtain rfl := Option.some.inj H
  go_enter Try.func156, Try.ntmps156
  go_wp2_with (first | ((with_reducible refine gate_callee (f := 79) rfl ?_); refine gl_ (some 6) rfl rfl Try.func79 #[.int .i64 a0, .int .i64 0, .int .i64 30] ?_; (with_reducible refine (impl_within.calls a0 0 30 false _ A3.out).mono ?_); rintro e w' ⟨rfl, ⟨nd, rfl⟩⟩; refine ⟨_, rfl, ?_⟩))
  go_ret
  exact ⟨by first | rfl | (simp; done) | (simp [*]; done), by repeat (first | exact Drawn0.refl _ | apply Drawn0.step)⟩
/-! ### impl_ClassOk: function 155 -/
def impl_ClassOk.l0 : Nat → List (S103) → List (S103) → Int → Int → Option (Bool)
 | 0, _, _, _, _ => none
 | k + 1, x0, x5, x6, x7 => if x7 < x6 then (if 0 ≤ x7 then (if x7 < (x5.length : Int) then (if ((rd_T103 x5 x7).f0) < 0 then (some false) else (if ((rd_T103 x5 x7).f0) > ((rd_T103 x5 x7).f1) then (some false) else (if ((rd_T103 x5 x7).f1) > 255 then (some false) else (if x7 > 0 then (if 0 ≤ (wrap64 (x7 - 1)) then (if (wrap64 (x7 - 1)) < (x0.length : Int) then (if ((rd_T103 x5 x7).f0) < (wrap64 (((rd_T103 x0 (wrap64 (x7 - 1))).f1) + 2)) then (some false) else (impl_ClassOk.l0 k x0 x5 x6 (wrap64 (x7 + 1)))) else (none)) else (none)) else (impl_ClassOk.l0 k x0 x5 x6 (wrap64 (x7 + 1))))))) else (none)) else (none)) else (some true)
def impl_ClassOk.f (k : Nat) (l0 : List (S103)) : Option (Bool) := impl_ClassOk.l0 k l0 l0 (l0.length : Int) 0
set_option maxHeartbeats 8000000 in
set_option maxRecDepth 100000 in
theorem impl_ClassOk.calls (k : Nat) (A0 : Option Addr) (c0 : Nat) (l0 : List (S103)) (r : Bool) (w : World) (hr0 : Kd.C k103 w A0 l0.length l0) (hc0 : l0.length ≤ c0) (h : impl_ClassOk.f k l0 = some r) :
  Calls Try.prog 155 #[.slice A0 l0.length c0] w fun e w' => e = .returned (.bool r) ∧ Below w.heap.size w w' := by
 have hu103 := Try.underlying103
 have HR0 := Aside0.mk hr0
 have HC0 := Aside0.mk hc0
 clear hr0 hc0
 have HB := Aside0.mk (Below.refl w.heap.size w)
 have H : (impl_ClassOk.l0 k l0 l0 (l0.length : Int) 0) = some r := h
 clear h
 have H' := Aside0.mk H
 clear H
 go_enter Try.func155, Try.ntmps155
 go_wp2
 repeat (go_quiet (fail); try go_wp2)
 go_loopg [7] k (fun kq v7 w' => ∃ (x7_1 : Int), v7 = .int .i64 x7_1 ∧ Aside0 (impl_ClassOk.l0 kq l0 l0 (l0.length : Int) x7_1 = some r) ∧ Aside0 (kq ≤ k) ∧ Aside0 (Below w.heap.size w w'))
 case atStart => exact ⟨(0), rs_, H', ⟨Nat.le_refl _⟩, ⟨be_ HB.out⟩⟩
 case round =>
  clear H'
  obtain ⟨x7_1, rfl, HA, HK1, HB⟩ := hrel
  cases gk with
  | zero => exact absurd HA.out (by simp [impl_ClassOk.l0])
  | succ k1 =>
   have H := HA.out
   clear HA
   simp only [impl_ClassOk.l0] at H
   by_cases c2 : x7_1 < (l0.length : Int)
   ·rw [if_pos c2] at H
    have c2b0 := decide_eq_true c2
    clear c2
    by_cases c3 : 0 ≤ x7_1
    ·rw [if_pos c3] at H
     have c3b0 := decide_eq_true c3
     clear c3
     by_cases c4 : x7_1 < (l0.length : Int)
     ·rw [if_pos c4] at H
      have c4b0 := decide_eq_true c4
      clear c4
      by_cases c5 : ((rd_T103 l0 x7_1).f0) < 0
      ·rw [if_pos c5] at H
       have c5b0 := decide_eq_true c5
       clear c5
       obtain rfl := Option.some.inj H
       have p101 : 0 ≤ (x7_1 : Int) := of_decide_eq_true as_
       have q101 : x7_1 < (l0.length : Int) := of_decide_eq_true as_
       obtain ⟨ad101, e101, hx101_0, hx101_1⟩ := at_T103 HR0.out x7_1 p101 q101
       cases e101
       replace hx101_0 := mv_ HB.out hx101_0
       replace hx101_1 := mv_ HB.out hx101_1
       replace p101 := eq_true p101
       replace q101 := eq_true q101
       go_wp2_with (((with_reducible refine gate_dst (N := 4) rfl ?_); refine bx_ 4 #[.int .i64 0, .int .i64 0] 103 ?_; intro gb102 hg w6 hbox hb; have BK102 := Aside0.mk (hbox); have GW102 := ge_ hg HB; have GE102 := GW102; replace HB := sb_ HB hb; clear hb hbox hg; obtain ⟨hcz7_0, hcz7_1, hfz7_0, hfz7_1⟩ := d2_ BK102))
       repeat (go_quiet (fail); try go_wp2_with (fail))
       go_ret
       exact ⟨rt_, be1_ HB.out GE102.out⟩
      ·rw [if_neg c5] at H
       have c5b0 := decide_eq_false c5
       clear c5
       by_cases c8 : ((rd_T103 l0 x7_1).f0) > ((rd_T103 l0 x7_1).f1)
       ·rw [if_pos c8] at H
        have c8b0 : decide (((rd_T103 l0 x7_1).f1) < ((rd_T103 l0 x7_1).f0)) = true := decide_eq_true c8
        clear c8
        obtain rfl := Option.some.inj H
        have p101 : 0 ≤ (x7_1 : Int) := of_decide_eq_true as_
        have q101 : x7_1 < (l0.length : Int) := of_decide_eq_true as_
        obtain ⟨ad101, e101, hx101_0, hx101_1⟩ := at_T103 HR0.out x7_1 p101 q101
        cases e101
        replace hx101_0 := mv_ HB.out hx101_0
        replace hx101_1 := mv_ HB.out hx101_1
        replace p101 := eq_true p101
        replace q101 := eq_true q101
        go_wp2_with (((with_reducible refine gate_dst (N := 4) rfl ?_); refine bx_ 4 #[.int .i64 0, .int .i64 0] 103 ?_; intro gb102 hg w9 hbox hb; have BK102 := Aside0.mk (hbox); have GW102 := ge_ hg HB; have GE102 := GW102; replace HB := sb_ HB hb; clear hb hbox hg; obtain ⟨hcz10_0, hcz10_1, hfz10_0, hfz10_1⟩ := d2_ BK102))
        repeat (go_quiet (fail); try go_wp2_with (fail))
        go_ret
        exact ⟨rt_, be1_ HB.out GE102.out⟩
       ·rw [if_neg c8] at H
        have c8b0 : decide (((rd_T103 l0 x7_1).f1) < ((rd_T103 l0 x7_1).f0)) = false := decide_eq_false c8
        clear c8
        by_cases c11 : ((rd_T103 l0 x7_1).f1) > 255
        ·rw [if_pos c11] at H
         have c11b0 : decide (255 < ((rd_T103 l0 x7_1).f1)) = true := decide_eq_true c11
         clear c11
         obtain rfl := Option.some.inj H
         have p101 : 0 ≤ (x7_1 : Int) := of_decide_eq_true as_
         have q101 : x7_1 < (l0.length : Int) := of_decide_eq_true as_
         obtain ⟨ad101, e101, hx101_0, hx101_1⟩ := at_T103 HR0.out x7_1 p101 q101
         cases e101
         replace hx101_0 := mv_ HB.out hx101_0
         replace hx101_1 := mv_ HB.out hx101_1
         replace p101 := eq_true p101
         replace q101 := eq_true q101
         go_wp2_with (((with_reducible refine gate_dst (N := 4) rfl ?_); refine bx_ 4 #[.int .i64 0, .int .i64 0] 103 ?_; intro gb102 hg w12 hbox hb; have BK102 := Aside0.mk (hbox); have GW102 := ge_ hg HB; have GE102 := GW102; replace HB := sb_ HB hb; clear hb hbox hg; obtain ⟨hcz13_0, hcz13_1, hfz13_0, hfz13_1⟩ := d2_ BK102))
         repeat (go_quiet (fail); try go_wp2_with (fail))
         go_ret
         exact ⟨rt_, be1_ HB.out GE102.out⟩
        ·rw [if_neg c11] at H
         have c11b0 : decide (255 < ((rd_T103 l0 x7_1).f1)) = false := decide_eq_false c11
         clear c11
         by_cases c14 : x7_1 > 0
         ·rw [if_pos c14] at H
          have c14b0 : decide (0 < x7_1) = true := decide_eq_true c14
          clear c14
          obtain ⟨ji15, hji15⟩ : ∃ j_ : Int, (wrap64 (x7_1 - 1)) = j_ := ⟨_, rfl⟩
          replace H : (if 0 ≤ (ji15) then (if (ji15) < (l0.length : Int) then (if ((rd_T103 l0 x7_1).f0) < (wrap64 (((rd_T103 l0 (ji15)).f1) + 2)) then (some false) else (impl_ClassOk.l0 k1 l0 l0 (l0.length : Int) (wrap64 (x7_1 + 1)))) else (none)) else (none)) = some r := by first | (rw [hji15] at H; exact H) | (simp only [hji15] at H ⊢; exact H)
          have hji15w : (IntKind.i64.wrap (x7_1 - 1)) = ji15 := (i64_w _).trans hji15
          by_cases c16 : 0 ≤ (ji15)
          ·rw [if_pos c16] at H
           have c16b0 := decide_eq_true c16
           clear c16
           by_cases c17 : (ji15) < (l0.length : Int)
           ·rw [if_pos c17] at H
            have c17b0 := decide_eq_true c17
            clear c17
            by_cases c18 : ((rd_T103 l0 x7_1).f0) < (wrap64 (((rd_T103 l0 (ji15)).f1) + 2))
            ·rw [if_pos c18] at H
             have c18b0 := decide_eq_true c18
             clear c18
             obtain rfl := Option.some.inj H
             have p101 : 0 ≤ (x7_1 : Int) := of_decide_eq_true as_
             have q101 : x7_1 < (l0.length : Int) := of_decide_eq_true as_
             obtain ⟨ad101, e101, hx101_0, hx101_1⟩ := at_T103 HR0.out x7_1 p101 q101
             cases e101
             replace hx101_0 := mv_ HB.out hx101_0
             replace hx101_1 := mv_ HB.out hx101_1
             replace p101 := eq_true p101
             replace q101 := eq_true q101
             go_wp2_with (((with_reducible refine gate_dst (N := 4) rfl ?_); refine bx_ 4 #[.int .i64 0, .int .i64 0] 103 ?_; intro gb102 hg w19 hbox hb; have BK102 := Aside0.mk (hbox); have GW102 := ge_ hg HB; have GE102 := GW102; replace HB := sb_ HB hb; clear hb hbox hg; obtain ⟨hcz20_0, hcz20_1, hfz20_0, hfz20_1⟩ := d2_ BK102; have p103 : 0 ≤ ((ji15) : Int) := of_decide_eq_true as_; have q103 : (ji15) < (l0.length : Int) := of_decide_eq_true as_; obtain ⟨ad103, e103, hx103_0, hx103_1⟩ := at_T103 HR0.out (ji15) p103 q103; obtain rfl : ad101 = ad103 := (by injection e103); have hn103_0 : ad101.block ≠ gb102 := Nat.ne_of_lt (Nat.lt_of_lt_of_le (by have := World.block_lt_of_cell? _ _ hx103_0; first | rwa [add_block] at this | exact this) GW102.out); have hn103_1 : ad101.block ≠ gb102 := Nat.ne_of_lt (Nat.lt_of_lt_of_le (by have := World.block_lt_of_cell? _ _ hx103_0; first | rwa [add_block] at this | exact this) GW102.out); replace hx103_0 := mv_ HB.out hx103_0; replace hx103_1 := mv_ HB.out hx103_1; replace hx103_0 := (cell_far (p := ⟨gb102, 0, none⟩) (by first | (rw [add_block]; exact hn103_0) | (show (Addr.add _ _).block ≠ _; rw [add_block]; exact hn103_0) | exact hn103_0) (.int .i64 ((rd_T103 l0 x7_1).f0))).trans hx103_0; replace hx103_1 := (cell_far (p := ⟨gb102, 0, none⟩) (by first | (rw [add_block]; exact hn103_0) | (show (Addr.add _ _).block ≠ _; rw [add_block]; exact hn103_0) | exact hn103_0) (.int .i64 ((rd_T103 l0 x7_1).f0))).trans hx103_1; replace hx103_0 := (cell_far (p := ⟨gb102, 1, none⟩) (by first | (rw [add_block]; exact hn103_1) | (show (Addr.add _ _).block ≠ _; rw [add_block]; exact hn103_1) | exact hn103_1) (.int .i64 ((rd_T103 l0 x7_1).f1))).trans hx103_0; replace hx103_1 := (cell_far (p := ⟨gb102, 1, none⟩) (by first | (rw [add_block]; exact hn103_1) | (show (Addr.add _ _).block ≠ _; rw [add_block]; exact hn103_1) | exact hn103_1) (.int .i64 ((rd_T103 l0 x7_1).f1))).trans hx103_1; (try have hy103_0 := fun (n_ : Nat) => (show ((((w19.drewN n_).setCell ⟨gb102, 0, none⟩ (.int .i64 ((rd_T103 l0 x7_1).f0))).setCell ⟨gb102, 1, none⟩ (.int .i64 ((rd_T103 l0 x7_1).f1)))).cell? _ = some _ from hx103_0)); (try have hy103_1 := fun (n_ : Nat) => (show ((((w19.drewN n_).setCell ⟨gb102, 0, none⟩ (.int .i64 ((rd_T103 l0 x7_1).f0))).setCell ⟨gb102, 1, none⟩ (.int .i64 ((rd_T103 l0 x7_1).f1)))).cell? _ = some _ from hx103_1)); clear hn103_0; clear hn103_1; replace p103 := eq_true p103; replace q103 := eq_true q103))
             repeat (go_quiet (fail); try go_wp2_with (fail))
             go_ret
             exact ⟨by first | rfl | (simp [errW_none, errW_some] <;> rfl) | (simp only [← hji15]; first | rfl | (simp [errW_none, errW_some] <;> rfl)) | (simp [*, errW_none, errW_some] <;> rfl), be1_ HB.out GE102.out⟩
            ·rw [if_neg c18] at H
             have c18b0 := decide_eq_false c18
             clear c18
             have H' := Aside0.mk H
             clear H
             have p101 : 0 ≤ (x7_1 : Int) := of_decide_eq_true as_
             have q101 : x7_1 < (l0.length : Int) := of_decide_eq_true as_
             obtain ⟨ad101, e101, hx101_0, hx101_1⟩ := at_T103 HR0.out x7_1 p101 q101
             cases e101
             replace hx101_0 := mv_ HB.out hx101_0
             replace hx101_1 := mv_ HB.out hx101_1
             replace p101 := eq_true p101
             replace q101 := eq_true q101
             go_wp2_with (((with_reducible refine gate_dst (N := 4) rfl ?_); refine bx_ 4 #[.int .i64 0, .int .i64 0] 103 ?_; intro gb102 hg w21 hbox hb; have BK102 := Aside0.mk (hbox); have GW102 := ge_ hg HB; have GE102 := GW102; replace HB := sb_ HB hb; clear hb hbox hg; obtain ⟨hcz22_0, hcz22_1, hfz22_0, hfz22_1⟩ := d2_ BK102; have p103 : 0 ≤ ((ji15) : Int) := of_decide_eq_true as_; have q103 : (ji15) < (l0.length : Int) := of_decide_eq_true as_; obtain ⟨ad103, e103, hx103_0, hx103_1⟩ := at_T103 HR0.out (ji15) p103 q103; obtain rfl : ad101 = ad103 := (by injection e103); have hn103_0 : ad101.block ≠ gb102 := Nat.ne_of_lt (Nat.lt_of_lt_of_le (by have := World.block_lt_of_cell? _ _ hx103_0; first | rwa [add_block] at this | exact this) GW102.out); have hn103_1 : ad101.block ≠ gb102 := Nat.ne_of_lt (Nat.lt_of_lt_of_le (by have := World.block_lt_of_cell? _ _ hx103_0; first | rwa [add_block] at this | exact this) GW102.out); replace hx103_0 := mv_ HB.out hx103_0; replace hx103_1 := mv_ HB.out hx103_1; replace hx103_0 := (cell_far (p := ⟨gb102, 0, none⟩) (by first | (rw [add_block]; exact hn103_0) | (show (Addr.add _ _).block ≠ _; rw [add_block]; exact hn103_0) | exact hn103_0) (.int .i64 ((rd_T103 l0 x7_1).f0))).trans hx103_0; replace hx103_1 := (cell_far (p := ⟨gb102, 0, none⟩) (by first | (rw [add_block]; exact hn103_0) | (show (Addr.add _ _).block ≠ _; rw [add_block]; exact hn103_0) | exact hn103_0) (.int .i64 ((rd_T103 l0 x7_1).f0))).trans hx103_1; replace hx103_0 := (cell_far (p := ⟨gb102, 1, none⟩) (by first | (rw [add_block]; exact hn103_1) | (show (Addr.add _ _).block ≠ _; rw [add_block]; exact hn103_1) | exact hn103_1) (.int .i64 ((rd_T103 l0 x7_1).f1))).trans hx103_0; replace hx103_1 := (cell_far (p := ⟨gb102, 1, none⟩) (by first | (rw [add_block]; exact hn103_1) | (show (Addr.add _ _).block ≠ _; rw [add_block]; exact hn103_1) | exact hn103_1) (.int .i64 ((rd_T103 l0 x7_1).f1))).trans hx103_1; (try have hy103_0 := fun (n_ : Nat) => (show ((((w21.drewN n_).setCell ⟨gb102, 0, none⟩ (.int .i64 ((rd_T103 l0 x7_1).f0))).setCell ⟨gb102, 1, none⟩ (.int .i64 ((rd_T103 l0 x7_1).f1)))).cell? _ = some _ from hx103_0)); (try have hy103_1 := fun (n_ : Nat) => (show ((((w21.drewN n_).setCell ⟨gb102, 0, none⟩ (.int .i64 ((rd_T103 l0 x7_1).f0))).setCell ⟨gb102, 1, none⟩ (.int .i64 ((rd_T103 l0 x7_1).f1)))).cell? _ = some _ from hx103_1)); clear hn103_0; clear hn103_1; replace p103 := eq_true p103; replace q103 := eq_true q103))
             repeat (go_quiet (fail); try go_wp2_with (fail))
             go_roundg k1
             case measure => have := HK1.out; omega
             case rel => exact ⟨(wrap64 (x7_1 + 1)), rs_, H', ⟨by have := HK1.out; omega⟩, ⟨be1_ HB.out GE102.out⟩⟩
           ·rw [if_neg c17] at H
            exact absurd H (by simp)
          ·rw [if_neg c16] at H
           exact absurd H (by simp)
         ·rw [if_neg c14] at H
          have c14b0 : decide (0 < x7_1) = false := decide_eq_false c14
          clear c14
          have H' := Aside0.mk H
          clear H
          have p101 : 0 ≤ (x7_1 : Int) := of_decide_eq_true as_
          have q101 : x7_1 < (l0.length : Int) := of_decide_eq_true as_
          obtain ⟨ad101, e101, hx101_0, hx101_1⟩ := at_T103 HR0.out x7_1 p101 q101
          cases e101
          replace hx101_0 := mv_ HB.out hx101_0
          replace hx101_1 := mv_ HB.out hx101_1
          replace p101 := eq_true p101
          replace q101 := eq_true q101
          go_wp2_with (((with_reducible refine gate_dst (N := 4) rfl ?_); refine bx_ 4 #[.int .i64 0, .int .i64 0] 103 ?_; intro gb102 hg w23 hbox hb; have BK102 := Aside0.mk (hbox); have GW102 := ge_ hg HB; have GE102 := GW102; replace HB := sb_ HB hb; clear hb hbox hg; obtain ⟨hcz24_0, hcz24_1, hfz24_0, hfz24_1⟩ := d2_ BK102))
          repeat (go_quiet (fail); try go_wp2_with (fail))
          go_roundg k1
          case measure => have := HK1.out; omega
          case rel => exact ⟨(wrap64 (x7_1 + 1)), rs_, H', ⟨by have := HK1.out; omega⟩, ⟨be1_ HB.out GE102.out⟩⟩
     ·rw [if_neg c4] at H
      exact absurd H (by simp)
    ·rw [if_neg c3] at H
     exact absurd H (by simp)
   ·rw [if_neg c2] at H
    have c2b0 := decide_eq_false c2
    clear c2
    obtain rfl := Option.some.inj H
    go_wp2
    repeat (go_quiet (fail); try go_wp2)
    go_ret
    exact ⟨rt_, be_ HB.out⟩
end Go.Proofs.Ytijmhelacmjggaa.P
namespace Go.Proofs.Ytijmhelacmjggaa.P
open Go.RowKit Go.Proofs.YtijmhelacmjggaaW.PrintWords Go.Proofs.YtijmhelacmjggaaW.PrintLast Go.Proofs.YtijmhelacmjggaaW.PrintMore Go.Proofs.YtijmhelacmjggaaEv
set_option linter.unusedVariables false
set_option linter.unusedSimpArgs false
def kidsN (op : Int) : Int := if op = 1 ∨ op = 2 then 0 else if op = 3 ∨ op = 4 then 2 else if op = 5 ∨ op = 6 ∨ op = 7 ∨ op = 8 then 1 else -1
theorem impl_kidsOf_ev (op : Int) : Ev (fun k => impl_kidsOf.f k op) (kidsN op) := by
  have h1 : ∀ b, Ev (fun k => impl_kidsOf.j1 k op b) (if b then 2 else if op = 5 ∨ op = 6 ∨ op = 7 ∨ op = 8 then 1 else -1) := by
    intro b
    rw [ev_succ]
    simp only [impl_kidsOf.j1, ev_ite, ev_some]
    cases b <;> grind
  have h0 : ∀ b, Ev (fun k => impl_kidsOf.j0 k op b) (if b then 0 else if op = 3 ∨ op = 4 then 2 else if op = 5 ∨ op = 6 ∨ op = 7 ∨ op = 8 then 1 else -1) := by
    intro b
    rw [ev_succ]
    simp only [impl_kidsOf.j0, ev_ite, ev_some]
    cases b
    · by_cases h3 : op = 3
      · simpa [h3] using h1 (op == 3)
      · rw [if_neg (by simp), if_neg h3]
        refine ev_congr (h1 (op == 4)) ?_
        grind
    · simp
  unfold impl_kidsOf.f kidsN
  simp only [ev_ite]
  by_cases e1 : op = 1
  · rw [if_pos e1]
    refine ev_congr (h0 _) ?_
    grind
  · rw [if_neg e1]
    refine ev_congr (h0 _) ?_
    grind
def timesB (mi ma : Int) : Bool := decide (0 ≤ mi ∧ mi ≤ 30) && (decide (ma = -1) || (decide (mi ≤ ma ∧ ma ≤ 30) && decide (ma ≠ 0)))
theorem impl_timesOk_eq (mi ma : Int) : impl_timesOk.f mi ma = some (timesB mi ma) := by
  unfold impl_timesOk.f timesB
  simp only [impl_within_eq, Option.bind_some]
  by_cases h : 0 ≤ mi ∧ mi ≤ 30 <;> by_cases h1 : ma = -1 <;> by_cases h2 : mi ≤ ma ∧ ma ≤ 30 <;> simp_all <;> grind
/-- Spans that rise, with a gap. -/
def spansR : Int → List S103 → Bool
  | _, [] => true
  | last, s :: rest => decide (0 ≤ s.f0) && decide (s.f0 ≤ s.f1) && decide (s.f1 ≤ 255) && decide (last + 2 ≤ s.f0) && spansR s.f1 rest
def classB (l : List S103) : Bool := spansR (-2) l
theorem spansR_few : ∀ (l : List S103) (last : Int), -2 ≤ last → spansR last l = true → 2 * (l.length : Int) ≤ 255 - last ∨ l = [] := by
  intro l
  induction l with
  | nil => intro last _ _; exact .inr rfl
  | cons a l ih =>
    intro last h0 h
    simp only [spansR, Bool.and_eq_true, decide_eq_true_eq] at h
    left
    rcases ih a.f1 (by omega) h.2 with h1 | h1
    · simp only [List.length_cons]
      omega
    · subst h1
      simp
      omega
theorem classB_few {l : List S103} (h : classB l = true) : l.length ≤ 128 := by
  rcases spansR_few l (-2) (by omega) h with h1 | h1
  · omega
  · simp [h1]
theorem impl_ClassOk_ev (l : List S103) (hl : l.length ≤ 9223372036854775807) : Ev (fun k => impl_ClassOk.f k l) (classB l) := by
  unfold impl_ClassOk.f classB
  have key := down l.length (fun i => ∀ last : Int, (i = 0 → last = -2) → (0 < i → last = (rd_T103 l ((i - 1 : Nat) : Int)).f1 ∧ 0 ≤ last ∧ last ≤ 255) → Ev (fun k => impl_ClassOk.l0 k l l l.length (i : Nat)) (spansR last (l.drop i))) ?_ ?_ 0 (by omega) (-2) (fun _ => rfl) (by omega)
  · exact key
  · intro last _ _
    rw [ev_succ]
    simp only [impl_ClassOk.l0, ev_ite, ev_some]
    rw [if_neg (by omega), List.drop_length]
    rfl
  · intro i hi ih last hl0 hl1
    rw [ev_succ, drop_cons l z103 i hi]
    have hr : l.getD i z103 = rd_T103 l i := by simp [rd_T103]
    rw [hr]
    have ih2 := fun h => ih (rd_T103 l i).f1 (by omega) (fun _ => ⟨by rw [Nat.add_sub_cancel], h⟩)
    simp only [impl_ClassOk.l0, Option.bind_some, ev_ite, ev_some, spansR]
    rw [if_pos (by omega), if_pos (by omega), if_pos (by omega), wrap_succ hi (by omega)]
    have hprev : 0 < i → (0 ≤ wrap64 ((i : Int) - 1) ∧ wrap64 ((i : Int) - 1) < l.length ∧ (rd_T103 l (wrap64 ((i : Int) - 1))).f1 = last ∧ wrap64 (last + 2) = last + 2) := by
      intro hp
      have := hl1 hp
      rw [wrap_id (x := (i : Int) - 1) (by omega) (by omega), wrap_id (x := last + 2) (by omega) (by omega)]
      exact ⟨by omega, by omega, by rw [this.1, show ((i : Int) - 1) = ((i - 1 : Nat) : Int) by omega], rfl⟩
    generalize (l.drop (i + 1)) = T at *
    generalize rd_T103 l (i : Int) = a at *
    generalize hG : (fun k => impl_ClassOk.l0 k l l (l.length : Int) ((i + 1 : Nat) : Int)) = G at *
    by_cases c1 : a.f0 < 0
    · rw [if_pos c1]; simp [show ¬ 0 ≤ a.f0 by omega]
    rw [if_neg c1]
    by_cases c2 : a.f0 > a.f1
    · rw [if_pos c2]; simp [show ¬ a.f0 ≤ a.f1 by omega]
    rw [if_neg c2]
    by_cases c3 : a.f1 > 255
    · rw [if_pos c3]; simp [show ¬ a.f1 ≤ 255 by omega]
    rw [if_neg c3]
    have hend : (last + 2 ≤ a.f0) → Ev G (decide (0 ≤ a.f0) && decide (a.f0 ≤ a.f1) && decide (a.f1 ≤ 255) && decide (last + 2 ≤ a.f0) && spansR a.f1 T) := by
      intro h5
      refine ev_congr (ih2 (by omega)) ?_
      simp [show 0 ≤ a.f0 by omega, show a.f0 ≤ a.f1 by omega, show a.f1 ≤ 255 by omega, h5]
    by_cases h00 : i = 0
    · rw [if_neg (by omega)]
      exact hend (by have := hl0 h00; omega)
    · obtain ⟨h1', h2', h3', h4'⟩ := hprev (by omega)
      rw [if_pos (by omega), if_pos h1', if_pos h2', h3', h4']
      by_cases c5 : a.f0 < last + 2
      · rw [if_pos c5]; simp [show ¬ last + 2 ≤ a.f0 by omega]
      · rw [if_neg c5]
        exact hend (by omega)
theorem spec_ClassOk_ev (l : List S103) : Ev (fun k => spec_ClassOk.f k l) (classB l) := by
  unfold spec_ClassOk.f
  simp only [ev_ite]
  by_cases h6 : l.length ≤ 128
  · rw [if_neg (by omega)]
    unfold classB
    have key := down l.length (fun i => ∀ last : Int, (i = 0 → last = -2) → (0 < i → last = (rd_T103 l ((i - 1 : Nat) : Int)).f1 ∧ 0 ≤ last ∧ last ≤ 255) → Ev (fun k => spec_ClassOk.l0 k l (i : Nat)) (spansR last (l.drop i))) ?_ ?_ 0 (by omega) (-2) (fun _ => rfl) (by omega)
    · exact key
    · intro last _ _
      rw [ev_succ]
      simp only [spec_ClassOk.l0, ev_ite, ev_some]
      rw [if_neg (by omega), List.drop_length]
      rfl
    · intro i hi ih last hl0 hl1
      rw [ev_succ, drop_cons l z103 i hi]
      have hr : l.getD i z103 = rd_T103 l i := by simp [rd_T103]
      rw [hr]
      have ih2 := fun h => ih (rd_T103 l i).f1 (by omega) (fun _ => ⟨by rw [Nat.add_sub_cancel], h⟩)
      simp only [spec_ClassOk.l0, spec_l1In_eq, Option.bind_some, ev_ite, ev_some, spansR]
      rw [if_pos (by omega), if_pos (by omega), wrap_succ hi (by omega)]
      have hprev : 0 < i → (0 ≤ wrap64 ((i : Int) - 1) ∧ wrap64 ((i : Int) - 1) < l.length ∧ (rd_T103 l (wrap64 ((i : Int) - 1))).f1 = last ∧ wrap64 (last + 2) = last + 2) := by
        intro hp
        have := hl1 hp
        rw [wrap_id (x := (i : Int) - 1) (by omega) (by omega), wrap_id (x := last + 2) (by omega) (by omega)]
        exact ⟨by omega, by omega, by rw [this.1, show ((i : Int) - 1) = ((i - 1 : Nat) : Int) by omega], rfl⟩
      generalize (l.drop (i + 1)) = T at *
      generalize rd_T103 l (i : Int) = a at *
      generalize hG : (fun k => spec_ClassOk.l0 k l ((i + 1 : Nat) : Int)) = G at *
      by_cases c1 : 0 ≤ a.f0 ∧ a.f0 ≤ 255
      · rw [if_pos (by simpa using c1)]
        by_cases c2 : a.f0 ≤ a.f1 ∧ a.f1 ≤ 255
        · rw [if_pos (by simpa using c2)]
          have hend : (last + 2 ≤ a.f0) → Ev G (decide (0 ≤ a.f0) && decide (a.f0 ≤ a.f1) && decide (a.f1 ≤ 255) && decide (last + 2 ≤ a.f0) && spansR a.f1 T) := by
            intro h5
            refine ev_congr (ih2 (by omega)) ?_
            simp [c1, c2, h5]
          by_cases h00 : i = 0
          · rw [if_neg (by omega)]
            exact hend (by have := hl0 h00; omega)
          · obtain ⟨h1', h2', h3', h4'⟩ := hprev (by omega)
            rw [if_pos (by omega), if_pos h1', if_pos h2', h3', h4']
            by_cases c5 : a.f0 < last + 2
            · rw [if_pos c5]; simp [show ¬ last + 2 ≤ a.f0 by omega]
            · rw [if_neg c5]
              exact hend (by omega)
        · rw [if_neg (by simpa using c2)]
          grind
      · rw [if_neg (by simpa using c1)]
        grind
  · rw [if_pos (by omega)]
    refine ev_some.2 ?_
    cases h : classB l
    · rfl
    · exact absurd (classB_few h) h6
def nodeB (op : Int) (set : List S103) (kids : List Int) (mi ma place : Int) : Bool :=
  decide ((kids.length : Int) = kidsN op) && !(kids.any fun x => !decide (0 ≤ x ∧ x ≤ place - 1)) && (if op = 2 then classB set && !decide (set.length = 0) else decide (set.length = 0)) && (if op = 8 then timesB mi ma else decide (mi = 0) && decide (ma = 0))
end Go.Proofs.Ytijmhelacmjggaa.P
namespace Go.Proofs.Ytijmhelacmjggaa.P
open Go.RowKit Go.Proofs.YtijmhelacmjggaaW.PrintWords Go.Proofs.YtijmhelacmjggaaW.PrintLast Go.Proofs.YtijmhelacmjggaaW.PrintMore
attribute [local go_sem] max2_int min2_int max_two min_two max_three min_three max_four min_four
set_option linter.unusedVariables false
set_option linter.unusedSimpArgs false
/-! ### impl_RNode: function 118 -/
def impl_RNode.f (l0 : List (S156)) : Option (Int) := some (l0.length : Int)
set_option maxHeartbeats 8000000 in
set_option maxRecDepth 100000 in
theorem impl_RNode.calls (A0 : Option Addr) (c0 : Nat) (l0 : List (S156)) (r : Int) (w : World) (hr0 : Kd.C k156 w A0 l0.length l0) (hc0 : l0.length ≤ c0) (h : impl_RNode.f l0 = some r) :
  Calls Try.prog 118 #[.slice A0 l0.length c0] w fun e w' => e = .returned (.int .i64 r) ∧ Drawn0 w w' := by
 have HR0 := Aside0.mk hr0
 have HC0 := Aside0.mk hc0
 clear hr0 hc0
 have H : (some (l0.length : Int)) = some r := h
 clear h
 obtain rfl := Option.some.inj H
 go_enter Try.func118, Try.ntmps118
 go_wp2
 go_ret
 exact ⟨by first | rfl | (simp; done) | (simp [*]; done), by repeat (first | exact Drawn0.refl _ | apply Drawn0.step)⟩
end Go.Proofs.Ytijmhelacmjggaa.P
namespace Go.Proofs.Ytijmhelacmjggaa.P
open Go.RowKit Go.Shelf Go.Proofs.YtijmhelacmjggaaW.PrintWords Go.Proofs.YtijmhelacmjggaaW.PrintLast Go.Proofs.YtijmhelacmjggaaW.PrintMore Go.Proofs.YtijmhelacmjggaaEv
set_option linter.unusedVariables false
set_option linter.unusedSimpArgs false
theorem IndexFunc_int (g : Nat) (lb : Array Value) (eg : ∀ args w, (callFunc g args).run Try.prog w = .ok (.enter g args) w) (p : Int → Bool) (A0 : Option Addr) (c0 : Nat) (l0 : List Int) (w : World) (hr0 : Kd.C (Kd.int .i64) w A0 l0.length l0)
    (hp : ∀ (n : Nat) (x : Int), x ∈ l0 → Calls Try.prog g (#[.int .i64 x] ++ lb) (w.drewN n) fun e w' => e = .returned (.bool (p x)) ∧ ∃ m, w' = (w.drewN n).drewN m) :
    Calls Try.prog 168 #[.slice A0 l0.length c0, .func (.func g) #[] lb] w fun e w' => e = .returned (.int .i64 (idxP p l0 0)) ∧ Drawn0 w w' := by
  have hn := hr0.2.1
  have HP := Lib.hid hp
  clear hp
  have HR := Aside0.mk hr0
  clear hr0
  go_enter Try.func168, Try.ntmps168
  go_wp2
  go_loopg [5, 8] l0.length (fun gg _ s8 wr => ∃ kk nd : Nat, kk ≤ l0.length ∧ l0.length - kk ≤ gg ∧ s8 = .int .i64 kk ∧ wr = w.drewN nd ∧ Aside0 (idxP p l0 0 = idxP p (l0.drop kk) kk))
  case atStart => exact ⟨0, 0, Nat.zero_le _, by omega, rfl, rfl, ⟨by simp⟩⟩
  case round =>
    obtain ⟨kk, nd, hkk, hg, rfl, rfl, HA⟩ := hrel
    by_cases hlt : kk < l0.length
    · have hltz : (kk : Int) < (l0.length : Int) := by omega
      obtain ⟨ad, rfl, hx0⟩ := Kd.at_int HR.out (kk : Int) (by omega) hltz
      rw [Int.toNat_natCast] at hx0
      have hmem : rd l0 (kk : Int) ∈ l0 := by
        unfold rd
        rw [List.getD_eq_getElem?_getD, List.getElem?_eq_getElem (by simpa using hlt)]
        exact List.getElem_mem _
      have hcall := HP.out nd (rd l0 (kk : Int)) hmem
      have hstep : Aside0 (idxP p l0 0 = if p (rd l0 (kk : Int)) then (kk : Int) else idxP p (l0.drop (kk + 1)) ((kk + 1 : Nat) : Int)) := ⟨by
        rw [HA.out, drop_cons l0 0 kk hlt]
        have hr : l0.getD kk 0 = rd l0 (kk : Int) := by simp [rd]
        rw [hr]
        rfl⟩
      clear hmem
      generalize rd l0 (kk : Int) = y at *
      cases hq : p y with
      | true =>
        rw [hq] at hcall
        have hs2 : Aside0 (idxP p l0 0 = (kk : Int)) := ⟨by rw [hstep.out, hq]; rfl⟩
        clear hstep hq HA
        go_wp2_with (go_at_fn g; refine hcall.mono ?_; rintro e w' ⟨rfl, m, rfl⟩)
        go_ret
        exact ⟨by (rw [hs2.out]; try rfl), by repeat (first | exact Drawn0.refl _ | apply Drawn0.step)⟩
      | false =>
        rw [hq] at hcall
        have hs2 : Aside0 (idxP p l0 0 = idxP p (l0.drop (kk + 1)) ((kk + 1 : Nat) : Int)) := ⟨by rw [hstep.out, hq]; rfl⟩
        clear hstep hq HA
        go_wp2_with (go_at_fn g; refine hcall.mono ?_; rintro e w' ⟨rfl, m, rfl⟩)
        go_roundg (l0.length - (kk + 1))
        case measure => omega
        case rel => exact ⟨kk + 1, _, by omega, by omega, by go_num, by first | rfl | exact World.drewN_drewN _ _ _, hs2⟩
    · have hltz : ¬ (kk : Int) < (l0.length : Int) := by omega
      have hk : kk = l0.length := by omega
      have hs2 : Aside0 (idxP p l0 0 = -1) := ⟨by rw [HA.out, hk]; simp [idxP]⟩
      clear hk HA
      go_wp2
      go_ret
      exact ⟨by (rw [hs2.out]; try rfl), by repeat (first | exact Drawn0.refl _ | apply Drawn0.step)⟩
theorem ContainsFunc_int (g : Nat) (lb : Array Value) (eg : ∀ args w, (callFunc g args).run Try.prog w = .ok (.enter g args) w) (p : Int → Bool) (A0 : Option Addr) (c0 : Nat) (l0 : List Int) (w : World) (hr0 : Kd.C (Kd.int .i64) w A0 l0.length l0)
    (hp : ∀ (n : Nat) (x : Int), x ∈ l0 → Calls Try.prog g (#[.int .i64 x] ++ lb) (w.drewN n) fun e w' => e = .returned (.bool (p x)) ∧ ∃ m, w' = (w.drewN n).drewN m) :
    Calls Try.prog 153 #[.slice A0 l0.length c0, .func (.func g) #[] lb] w fun e w' => e = .returned (.bool (l0.any p)) ∧ Drawn0 w w' := by
  have hc := IndexFunc_int g lb eg p A0 c0 l0 w hr0 hp
  have ha : l0.any p = decide (0 ≤ idxP p l0 0) := by
    rw [Bool.eq_iff_iff, decide_eq_true_iff, idxP_ge p l0 0 (by omega)]
  rw [ha]
  clear ha hr0 hp
  generalize idxP p l0 0 = i at hc ⊢
  go_enter Try.func153, Try.ntmps153
  go_wp2_with (go_at_call 168; refine hc.mono ?_; rintro e w' ⟨rfl, ⟨nd, rfl⟩⟩)
  go_ret
  exact ⟨rfl, by repeat (first | exact Drawn0.refl _ | apply Drawn0.step)⟩
end Go.Proofs.Ytijmhelacmjggaa.P
