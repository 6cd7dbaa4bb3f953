/- The law FnExactBuildNfa holds for every call: part 4 of 5 of the proof (walks of functions, and what they answer). Conditions: none beyond what the given row says. -/
import Derived.Test.YtijmhelacmjggaaMFnExactBuildNfa0
import Derived.Test.YtijmhelacmjggaaMFnExactBuildNfa1
import Derived.Test.YtijmhelacmjggaaMFnExactBuildNfa2
import Derived.Lib.SliceRun
import Derived.Shelf.Abstract
import Derived.Lib.Hide
set_option maxHeartbeats 16000000
set_option maxRecDepth 100000
namespace Go.Proofs.Ytijmhelacmjggaa.P
open Go.RowKit Go.Proofs.YtijmhelacmjggaaW.PrintWords Go.Proofs.YtijmhelacmjggaaW.PrintLast Go.Proofs.YtijmhelacmjggaaW.PrintMore
attribute [local go_sem] max2_int min2_int max_two min_two max_three min_three max_four min_four
set_option linter.unusedVariables false
set_option linter.unusedSimpArgs false
/-! ### spec_NfaOk: function 102 -/
mutual
def spec_NfaOk.j0 : Nat → Bool → Int → List (S187) → List (S138) → Option (Bool)
 | 0, _, _, _, _ => none
 | k + 1, x21, x102000, x102001, x102002 => if x21 = true then (some false) else (spec_NfaOk.l0 k 0 x102000 x102001 x102002)
def spec_NfaOk.l0 : Nat → Int → Int → List (S187) → List (S138) → Option (Bool)
 | 0, _, _, _, _ => none
 | k + 1, x3, x102000, x102001, x102002 => if x3 < (x102001.length : Int) then (if 0 ≤ x3 then ((spec_l1In.f ((rd_T187 x102001 x3).f0) 0 (wrap64 (x102000 - 1))).bind fun t105 => (if t105 = true then ((spec_l1In.f ((rd_T187 x102001 x3).f1) 0 (wrap64 (x102000 - 1))).bind fun t106 => (if t106 = true then ((spec_ClassOk.f k ((rd_T187 x102001 x3).f2)).bind fun t107 => (if t107 = true then (spec_NfaOk.l0 k (wrap64 (x3 + 1)) x102000 x102001 x102002) else (some false))) else (some false))) else (some false))) else (none)) else (spec_NfaOk.l1 k 0 x102000 x102001 x102002)
def spec_NfaOk.l1 : Nat → Int → Int → List (S187) → List (S138) → Option (Bool)
 | 0, _, _, _, _ => none
 | k + 1, x5, x102000, x102001, x102002 => if x5 < (x102002.length : Int) then (if 0 ≤ x5 then (if ((rd_T138 x102002 x5).f1) = x5 then ((spec_l1In.f ((rd_T138 x102002 x5).f0) 0 (wrap64 (x102000 - 1))).bind fun t110 => (if t110 = true then (spec_NfaOk.l1 k (wrap64 (x5 + 1)) x102000 x102001 x102002) else (some false))) else (some false)) else (none)) else (some true)
end
def spec_NfaOk.f (k : Nat) (a0_0 : Int) (l0_1 : List (S187)) (l0_2 : List (S138)) : Option (Bool) := (spec_l1In.f a0_0 1 3000).bind fun t102 => (if t102 = true then (if (l0_1.length : Int) > 12000 then (spec_NfaOk.j0 k true a0_0 l0_1 l0_2) else (spec_NfaOk.j0 k (decide ((l0_2.length : Int) > 40)) a0_0 l0_1 l0_2)) else (spec_NfaOk.j0 k true a0_0 l0_1 l0_2))
theorem spec_NfaOk.calls (k : Nat) (a0_0 : Int) (A0_1 : Option Addr) (c0_1 : Nat) (l0_1 : List (S187)) (A0_2 : Option Addr) (c0_2 : Nat) (l0_2 : List (S138)) (r : Bool) (w : World) (hr0_1 : Kd.C k187 w A0_1 l0_1.length l0_1) (hc0_1 : l0_1.length ≤ c0_1) (hr0_2 : Kd.C k138 w A0_2 l0_2.length l0_2) (hc0_2 : l0_2.length ≤ c0_2) (h : spec_NfaOk.f k a0_0 l0_1 l0_2 = some r) :
  Calls Try.prog 102 #[.agg #[.int .i64 a0_0, .slice A0_1 l0_1.length c0_1, .slice A0_2 l0_2.length c0_2]] w fun e w' => e = .returned (.bool r) ∧ Below w.heap.size w w' := by
 have hu78 := Try.underlying78; have hu187 := Try.underlying187; have HR0_1 := q_ hr0_1; have HC0_1 := q_ hc0_1; clear hr0_1 hc0_1; have HR0_2 := q_ hr0_2; have HC0_2 := q_ hc0_2; clear hr0_2 hc0_2; have HB := q_ (Below.refl w.heap.size w)
 have H : ((spec_l1In.f a0_0 1 3000).bind fun t102 => (if t102 = true then (if (l0_1.length : Int) > 12000 then (spec_NfaOk.j0 k true a0_0 l0_1 l0_2) else (spec_NfaOk.j0 k (decide ((l0_2.length : Int) > 40)) a0_0 l0_1 l0_2)) else (spec_NfaOk.j0 k true a0_0 l0_1 l0_2))) = some r := h
 clear h; have HC2 := q_ H; clear H
 go_enter Try.func102, Try.ntmps102
 go_upto_region 1 with (first | ((with_reducible refine gate_dst (N := 1) rfl ?_); (try (refine gate_guard (by rfl) ?_; dsimp only)); refine bx_ 1 #[.int .i64 a0_0, .slice A0_1 l0_1.length c0_1, .slice A0_2 l0_2.length c0_2] 78 ?_; intro gb101 hg w3 hbox hb; have BK101 := q_ (hbox); have GE101 := ge_ hg HB; replace HB := sb_ HB hb; clear hb hbox hg))
 repeat (go_quiet (first | ((with_reducible refine gate_dst (N := 1) rfl ?_); (try (refine gate_guard (by rfl) ?_; dsimp only)); refine bx_ 1 #[.int .i64 a0_0, .slice A0_1 l0_1.length c0_1, .slice A0_2 l0_2.length c0_2] 78 ?_; intro gb101 hg w3 hbox hb; have BK101 := q_ (hbox); have GE101 := ge_ hg HB; replace HB := sb_ HB hb; clear hb hbox hg)); go_upto_region 1 with (first | ((with_reducible refine gate_dst (N := 1) rfl ?_); (try (refine gate_guard (by rfl) ?_; dsimp only)); refine bx_ 1 #[.int .i64 a0_0, .slice A0_1 l0_1.length c0_1, .slice A0_2 l0_2.length c0_2] 78 ?_; intro gb101 hg w3 hbox hb; have BK101 := q_ (hbox); have GE101 := ge_ hg HB; replace HB := sb_ HB hb; clear hb hbox hg)))
 (try simp only [Act.put, List.setIfInBounds_toArray, List.set_cons_zero, List.set_cons_succ])
 go_cut [21] (fun v21 wc => ∃ (kq : Nat) (x21_1 : Bool), v21 = .bool x21_1 ∧ J0 (spec_NfaOk.j0 kq x21_1 a0_0 l0_1 l0_2 = some r) ∧ J0 (kq ≤ k) ∧ J0 (wc.heap[gb101]? = some (.cells #[.int .i64 a0_0, (.slice A0_1 l0_1.length c0_1), (.slice A0_2 l0_2.length c0_2)] 78 (0, 0))) ∧ J0 (Below w.heap.size w wc))
 case first =>
  have H := HC2.o; clear HC2; obtain ⟨t102, A4, H⟩ := ob_ H
  by_cases c5 : t102 = true
  ·subst c5; rw [if_pos rfl] at H
   by_cases c6 : (l0_1.length : Int) > 12000
   ·rw [if_pos c6] at H
    have c6b0 : decide (12000 < (l0_1.length : Int)) = true := dt_ c6
    have c6b1 : decide (12000 < l0_1.length) = true := decide_eq_true (by omega)
    clear c6
    (first | rw [c6b0] | (simp only [i64_w, i32_w]; rw [c6b0]) | skip)
    have H' := q_ H
    clear H; obtain ⟨hcz7_0, hcz7_1, hcz7_2, hfz7_0, hfz7_1, hfz7_2⟩ := d3_ BK101
    go_wp2_with (first | (go_at_call 89; (with_reducible refine (spec_l1In.calls a0_0 1 3000 true _ A4.o).mono ?_); rintro e w' ⟨rfl, ⟨nd, rfl⟩⟩; (try first | exact ⟨rfl, _, World.drewN_drewN _ _ _⟩ | exact ⟨rfl, _, Eq.trans (World.drewN_drewN _ _ _) (congrArg (World.drewN _) (Nat.add_assoc _ _ _))⟩)))
    repeat (go_quiet (first | (go_at_call 89; (with_reducible refine (spec_l1In.calls a0_0 1 3000 true _ A4.o).mono ?_); rintro e w' ⟨rfl, ⟨nd, rfl⟩⟩; (try first | exact ⟨rfl, _, World.drewN_drewN _ _ _⟩ | exact ⟨rfl, _, Eq.trans (World.drewN_drewN _ _ _) (congrArg (World.drewN _) (Nat.add_assoc _ _ _))⟩))); try go_wp2_with (first | (go_at_call 89; (with_reducible refine (spec_l1In.calls a0_0 1 3000 true _ A4.o).mono ?_); rintro e w' ⟨rfl, ⟨nd, rfl⟩⟩; (try first | exact ⟨rfl, _, World.drewN_drewN _ _ _⟩ | exact ⟨rfl, _, Eq.trans (World.drewN_drewN _ _ _) (congrArg (World.drewN _) (Nat.add_assoc _ _ _))⟩))))
    go_meet
    case rel => exact ⟨_, (true), rs_, H', ⟨by first | omega | exact Nat.le_refl _⟩, ⟨bk_ BK101.o⟩, ⟨be1_ HB.o GE101.o⟩⟩
   ·rw [if_neg c6] at H
    have c6b0 : decide (12000 < (l0_1.length : Int)) = false := df_ c6
    have c6b1 : decide (12000 < l0_1.length) = false := decide_eq_false (by omega)
    clear c6
    (first | rw [c6b0] | (simp only [i64_w, i32_w]; rw [c6b0]) | skip)
    have H' := q_ H
    clear H; obtain ⟨hcz8_0, hcz8_1, hcz8_2, hfz8_0, hfz8_1, hfz8_2⟩ := d3_ BK101
    go_wp2_with (first | (go_at_call 89; (with_reducible refine (spec_l1In.calls a0_0 1 3000 true _ A4.o).mono ?_); rintro e w' ⟨rfl, ⟨nd, rfl⟩⟩; (try first | exact ⟨rfl, _, World.drewN_drewN _ _ _⟩ | exact ⟨rfl, _, Eq.trans (World.drewN_drewN _ _ _) (congrArg (World.drewN _) (Nat.add_assoc _ _ _))⟩)))
    repeat (go_quiet (first | (go_at_call 89; (with_reducible refine (spec_l1In.calls a0_0 1 3000 true _ A4.o).mono ?_); rintro e w' ⟨rfl, ⟨nd, rfl⟩⟩; (try first | exact ⟨rfl, _, World.drewN_drewN _ _ _⟩ | exact ⟨rfl, _, Eq.trans (World.drewN_drewN _ _ _) (congrArg (World.drewN _) (Nat.add_assoc _ _ _))⟩))); try go_wp2_with (first | (go_at_call 89; (with_reducible refine (spec_l1In.calls a0_0 1 3000 true _ A4.o).mono ?_); rintro e w' ⟨rfl, ⟨nd, rfl⟩⟩; (try first | exact ⟨rfl, _, World.drewN_drewN _ _ _⟩ | exact ⟨rfl, _, Eq.trans (World.drewN_drewN _ _ _) (congrArg (World.drewN _) (Nat.add_assoc _ _ _))⟩))))
    go_meet
    case rel => exact ⟨_, (decide ((l0_2.length : Int) > 40)), rs_, H', ⟨by first | omega | exact Nat.le_refl _⟩, ⟨bk_ BK101.o⟩, ⟨be1_ HB.o GE101.o⟩⟩
  ·replace c5 := Bool.eq_false_iff.mpr c5; subst c5; rw [if_neg nft_] at H
   have H' := q_ H
   clear H; obtain ⟨hcz9_0, hcz9_1, hcz9_2, hfz9_0, hfz9_1, hfz9_2⟩ := d3_ BK101
   go_wp2_with (first | (go_at_call 89; (with_reducible refine (spec_l1In.calls a0_0 1 3000 false _ A4.o).mono ?_); rintro e w' ⟨rfl, ⟨nd, rfl⟩⟩; (try first | exact ⟨rfl, _, World.drewN_drewN _ _ _⟩ | exact ⟨rfl, _, Eq.trans (World.drewN_drewN _ _ _) (congrArg (World.drewN _) (Nat.add_assoc _ _ _))⟩)))
   repeat (go_quiet (first | (go_at_call 89; (with_reducible refine (spec_l1In.calls a0_0 1 3000 false _ A4.o).mono ?_); rintro e w' ⟨rfl, ⟨nd, rfl⟩⟩; (try first | exact ⟨rfl, _, World.drewN_drewN _ _ _⟩ | exact ⟨rfl, _, Eq.trans (World.drewN_drewN _ _ _) (congrArg (World.drewN _) (Nat.add_assoc _ _ _))⟩))); try go_wp2_with (first | (go_at_call 89; (with_reducible refine (spec_l1In.calls a0_0 1 3000 false _ A4.o).mono ?_); rintro e w' ⟨rfl, ⟨nd, rfl⟩⟩; (try first | exact ⟨rfl, _, World.drewN_drewN _ _ _⟩ | exact ⟨rfl, _, Eq.trans (World.drewN_drewN _ _ _) (congrArg (World.drewN _) (Nat.add_assoc _ _ _))⟩))))
   go_meet
   case rel => exact ⟨_, (true), rs_, H', ⟨by first | omega | exact Nat.le_refl _⟩, ⟨bk_ BK101.o⟩, ⟨be1_ HB.o GE101.o⟩⟩
 case rest =>
  clear HC2; (try clear c5); (try clear c6); (try clear c6b0); (try clear c6b1); (try clear hcz7_0); (try clear hcz7_1); (try clear hcz7_2); (try clear hcz8_0); (try clear hcz8_1); (try clear hcz8_2); (try clear hcz9_0); (try clear hcz9_1); (try clear hcz9_2); (try clear hfz7_0); (try clear hfz7_1); (try clear hfz7_2); (try clear hfz8_0); (try clear hfz8_1); (try clear hfz8_2); (try clear hfz9_0); (try clear hfz9_1); (try clear hfz9_2); obtain ⟨kq, x21_1, rfl, HA, HJ1, BK101, HB⟩ := hcut
  cases kq with
  | zero => exact absurd HA.o (by simp [spec_NfaOk.j0])
  | succ kj1 =>
   have H := HA.o; clear HA
   simp only [spec_NfaOk.j0] at H
   by_cases c10 : x21_1 = true
   ·subst c10; rw [if_pos rfl] at H; obtain rfl := Option.some.inj H
    go_wp2
    repeat (go_quiet (fail); try go_wp2)
    go_ret
    exact ⟨rt_, be1_ HB.o GE101.o⟩
   ·replace c10 := Bool.eq_false_iff.mpr c10; subst c10; rw [if_neg nft_] at H
    have H' := q_ H
    clear H
    go_wp2
    repeat (go_quiet (fail); try go_wp2)
    go_loopg [3] kj1 (fun kq v3 w' => ∃ (x3_2 : Int), v3 = .int .i64 x3_2 ∧ J0 (spec_NfaOk.l0 kq x3_2 a0_0 l0_1 l0_2 = some r) ∧ J0 (kq ≤ kj1) ∧ J0 (w'.heap[gb101]? = some (.cells #[.int .i64 a0_0, (.slice A0_1 l0_1.length c0_1), (.slice A0_2 l0_2.length c0_2)] 78 (0, 0))) ∧ J0 (Below w.heap.size w w'))
    case atStart => exact ⟨(0), rs_, H', ⟨Nat.le_refl _⟩, ⟨bk_ BK101.o⟩, ⟨be1_ HB.o GE101.o⟩⟩
    case round =>
     clear H'; (try clear c5); (try clear c6); (try clear c6b0); (try clear c6b1); (try clear c10); (try clear hcz7_0); (try clear hcz7_1); (try clear hcz7_2); (try clear hcz8_0); (try clear hcz8_1); (try clear hcz8_2); (try clear hcz9_0); (try clear hcz9_1); (try clear hcz9_2); (try clear hfz7_0); (try clear hfz7_1); (try clear hfz7_2); (try clear hfz8_0); (try clear hfz8_1); (try clear hfz8_2); (try clear hfz9_0); (try clear hfz9_1); (try clear hfz9_2); obtain ⟨x3_2, rfl, HA, HK2, BK101, HB⟩ := hrel
     cases gk with
     | zero => exact absurd HA.o (by simp [spec_NfaOk.l0])
     | succ k2 =>
      have H := HA.o; clear HA
      simp only [spec_NfaOk.l0] at H
      by_cases c11 : x3_2 < (l0_1.length : Int)
      ·rw [if_pos c11] at H; have c11b0 := dt_ c11; clear c11
       by_cases c12 : 0 ≤ x3_2
       ·rw [if_pos c12] at H; have c12b0 := dt_ c12; clear c12; obtain ⟨t105, A13, H⟩ := ob_ H
        by_cases c14 : t105 = true
        ·subst c14; rw [if_pos rfl] at H; obtain ⟨t106, A15, H⟩ := ob_ H
         by_cases c16 : t106 = true
         ·subst c16; rw [if_pos rfl] at H; obtain ⟨t107, A17, H⟩ := ob_ H
          by_cases c18 : t107 = true
          ·subst c18; rw [if_pos rfl] at H
           have H' := q_ H
           clear H; obtain ⟨hcz19_0, hcz19_1, hcz19_2, hfz19_0, hfz19_1, hfz19_2⟩ := d3_ BK101
           have p103 : 0 ≤ (x3_2 : Int) := of_decide_eq_true as_
           have q103 : x3_2 < (l0_1.length : Int) := of_decide_eq_true as_
           obtain ⟨ad103, A103_2, c103_2, e103, hx103_0, hx103_1, hx103_2, hl103_2, hi103_2⟩ := at_T187 HR0_1.o x3_2 p103 q103
           cases e103
           replace hx103_0 := mv_ HB.o hx103_0; replace hx103_1 := mv_ HB.o hx103_1; replace hx103_2 := mv_ HB.o hx103_2; have HR103_2 := q_ hi103_2; have HC103_2 := q_ hl103_2; clear hi103_2 hl103_2; replace p103 := eq_true p103; replace q103 := eq_true q103
           go_wp2_with (first | ((with_reducible refine gate_dst (N := 4) rfl ?_); (try (refine gate_guard (by rfl) ?_; dsimp only)); refine bx_ 4 #[.int .i64 0, .int .i64 0, .slice none 0 0] 187 ?_; intro gb104 hg w20 hbox hb; have BK104 := q_ (hbox); have GE104 := ge1_ hg HB GE101; have NB101_104 := nl_ hg BK101; have NB104_101 := ng_ hg BK101; replace BK101 := lb_ BK101 hb; replace HB := sb1_ HB GE101 hb; clear hb hbox hg; have hnb21 := NB104_101.o; have hnc21 := NB101_104.o; obtain ⟨hcz22_0, hcz22_1, hcz22_2, hfz22_0, hfz22_1, hfz22_2⟩ := d3_ BK104; obtain ⟨hcz23_0, hcz23_1, hcz23_2, hfz23_0, hfz23_1, hfz23_2⟩ := d3_ BK101) | (go_at_call 89; (with_reducible refine (spec_l1In.calls ((rd_T187 l0_1 x3_2).f0) 0 (wrap64 (a0_0 - 1)) true _ A13.o).mono ?_); rintro e w' ⟨rfl, ⟨nd, rfl⟩⟩; (try first | exact ⟨rfl, _, World.drewN_drewN _ _ _⟩ | exact ⟨rfl, _, Eq.trans (World.drewN_drewN _ _ _) (congrArg (World.drewN _) (Nat.add_assoc _ _ _))⟩)) | (go_at_call 89; (with_reducible refine (spec_l1In.calls ((rd_T187 l0_1 x3_2).f1) 0 (wrap64 (a0_0 - 1)) true _ A15.o).mono ?_); rintro e w' ⟨rfl, ⟨nd, rfl⟩⟩; (try first | exact ⟨rfl, _, World.drewN_drewN _ _ _⟩ | exact ⟨rfl, _, Eq.trans (World.drewN_drewN _ _ _) (congrArg (World.drewN _) (Nat.add_assoc _ _ _))⟩)) | (go_at_call 141; (with_reducible refine (spec_ClassOk.calls k2 _ _ ((rd_T187 l0_1 x3_2).f2) true _ ?side1 ?side2 A17.o).mono ?_); (case side1 => exact Kd.C_below HR103_2.o (be2_ HB.o GE101.o GE104.o)); (case side2 => exact HC103_2.o); rintro e w24 ⟨rfl, hb⟩; replace BK101 := q_ (blk_below (g := gb101) (o := .cells #[.int .i64 a0_0, .slice (some ad103) l0_1.length c0_1, .slice A0_2 l0_2.length c0_2] 78 (0, 0)) (by (with_reducible repeat (first | refine blk_drewN ?_ _ | refine blk_drew ?_ | refine blk_alloc ?_ _)); refine blk_far ?_ NB101_104.o _; (with_reducible repeat (first | refine blk_drewN ?_ _ | refine blk_drew ?_ | refine blk_alloc ?_ _)); refine blk_far ?_ NB101_104.o _; (with_reducible repeat (first | refine blk_drewN ?_ _ | refine blk_drew ?_ | refine blk_alloc ?_ _)); refine blk_far ?_ NB101_104.o _; (with_reducible repeat (first | refine blk_drewN ?_ _ | refine blk_drew ?_ | refine blk_alloc ?_ _)); exact BK101.o) hb); replace BK104 := q_ (blk_below (g := gb104) (o := .cells #[.int .i64 ((rd_T187 l0_1 x3_2).f0), .int .i64 ((rd_T187 l0_1 x3_2).f1), .slice A103_2 ((rd_T187 l0_1 x3_2).f2).length c103_2] 187 (0, 0)) (by (with_reducible repeat (first | refine blk_drewN ?_ _ | refine blk_drew ?_ | refine blk_alloc ?_ _)); refine blk_put (cs := #[.int .i64 ((rd_T187 l0_1 x3_2).f0), .int .i64 ((rd_T187 l0_1 x3_2).f1), .slice none 0 0]) ?_ 2 _ rfl; (with_reducible repeat (first | refine blk_drewN ?_ _ | refine blk_drew ?_ | refine blk_alloc ?_ _)); refine blk_put (cs := #[.int .i64 ((rd_T187 l0_1 x3_2).f0), .int .i64 0, .slice none 0 0]) ?_ 1 _ rfl; (with_reducible repeat (first | refine blk_drewN ?_ _ | refine blk_drew ?_ | refine blk_alloc ?_ _)); refine blk_put (cs := #[.int .i64 0, .int .i64 0, .slice none 0 0]) ?_ 0 _ rfl; (with_reducible repeat (first | refine blk_drewN ?_ _ | refine blk_drew ?_ | refine blk_alloc ?_ _)); exact BK104.o) hb); replace HB := sb2_ HB GE101 GE104 hb; (try clear hb)))
           repeat (go_quiet (first | (go_at_call 89; (with_reducible refine (spec_l1In.calls ((rd_T187 l0_1 x3_2).f0) 0 (wrap64 (a0_0 - 1)) true _ A13.o).mono ?_); rintro e w' ⟨rfl, ⟨nd, rfl⟩⟩; (try first | exact ⟨rfl, _, World.drewN_drewN _ _ _⟩ | exact ⟨rfl, _, Eq.trans (World.drewN_drewN _ _ _) (congrArg (World.drewN _) (Nat.add_assoc _ _ _))⟩)) | (go_at_call 89; (with_reducible refine (spec_l1In.calls ((rd_T187 l0_1 x3_2).f1) 0 (wrap64 (a0_0 - 1)) true _ A15.o).mono ?_); rintro e w' ⟨rfl, ⟨nd, rfl⟩⟩; (try first | exact ⟨rfl, _, World.drewN_drewN _ _ _⟩ | exact ⟨rfl, _, Eq.trans (World.drewN_drewN _ _ _) (congrArg (World.drewN _) (Nat.add_assoc _ _ _))⟩)) | (go_at_call 141; (with_reducible refine (spec_ClassOk.calls k2 _ _ ((rd_T187 l0_1 x3_2).f2) true _ ?side1 ?side2 A17.o).mono ?_); (case side1 => exact Kd.C_below HR103_2.o (be2_ HB.o GE101.o GE104.o)); (case side2 => exact HC103_2.o); rintro e w24 ⟨rfl, hb⟩; replace BK101 := q_ (blk_below (g := gb101) (o := .cells #[.int .i64 a0_0, .slice (some ad103) l0_1.length c0_1, .slice A0_2 l0_2.length c0_2] 78 (0, 0)) (by (with_reducible repeat (first | refine blk_drewN ?_ _ | refine blk_drew ?_ | refine blk_alloc ?_ _)); refine blk_far ?_ NB101_104.o _; (with_reducible repeat (first | refine blk_drewN ?_ _ | refine blk_drew ?_ | refine blk_alloc ?_ _)); refine blk_far ?_ NB101_104.o _; (with_reducible repeat (first | refine blk_drewN ?_ _ | refine blk_drew ?_ | refine blk_alloc ?_ _)); refine blk_far ?_ NB101_104.o _; (with_reducible repeat (first | refine blk_drewN ?_ _ | refine blk_drew ?_ | refine blk_alloc ?_ _)); exact BK101.o) hb); replace BK104 := q_ (blk_below (g := gb104) (o := .cells #[.int .i64 ((rd_T187 l0_1 x3_2).f0), .int .i64 ((rd_T187 l0_1 x3_2).f1), .slice A103_2 ((rd_T187 l0_1 x3_2).f2).length c103_2] 187 (0, 0)) (by (with_reducible repeat (first | refine blk_drewN ?_ _ | refine blk_drew ?_ | refine blk_alloc ?_ _)); refine blk_put (cs := #[.int .i64 ((rd_T187 l0_1 x3_2).f0), .int .i64 ((rd_T187 l0_1 x3_2).f1), .slice none 0 0]) ?_ 2 _ rfl; (with_reducible repeat (first | refine blk_drewN ?_ _ | refine blk_drew ?_ | refine blk_alloc ?_ _)); refine blk_put (cs := #[.int .i64 ((rd_T187 l0_1 x3_2).f0), .int .i64 0, .slice none 0 0]) ?_ 1 _ rfl; (with_reducible repeat (first | refine blk_drewN ?_ _ | refine blk_drew ?_ | refine blk_alloc ?_ _)); refine blk_put (cs := #[.int .i64 0, .int .i64 0, .slice none 0 0]) ?_ 0 _ rfl; (with_reducible repeat (first | refine blk_drewN ?_ _ | refine blk_drew ?_ | refine blk_alloc ?_ _)); exact BK104.o) hb); replace HB := sb2_ HB GE101 GE104 hb; (try clear hb))); try go_wp2_with (first | (go_at_call 89; (with_reducible refine (spec_l1In.calls ((rd_T187 l0_1 x3_2).f0) 0 (wrap64 (a0_0 - 1)) true _ A13.o).mono ?_); rintro e w' ⟨rfl, ⟨nd, rfl⟩⟩; (try first | exact ⟨rfl, _, World.drewN_drewN _ _ _⟩ | exact ⟨rfl, _, Eq.trans (World.drewN_drewN _ _ _) (congrArg (World.drewN _) (Nat.add_assoc _ _ _))⟩)) | (go_at_call 89; (with_reducible refine (spec_l1In.calls ((rd_T187 l0_1 x3_2).f1) 0 (wrap64 (a0_0 - 1)) true _ A15.o).mono ?_); rintro e w' ⟨rfl, ⟨nd, rfl⟩⟩; (try first | exact ⟨rfl, _, World.drewN_drewN _ _ _⟩ | exact ⟨rfl, _, Eq.trans (World.drewN_drewN _ _ _) (congrArg (World.drewN _) (Nat.add_assoc _ _ _))⟩)) | (go_at_call 141; (with_reducible refine (spec_ClassOk.calls k2 _ _ ((rd_T187 l0_1 x3_2).f2) true _ ?side1 ?side2 A17.o).mono ?_); (case side1 => exact Kd.C_below HR103_2.o (be2_ HB.o GE101.o GE104.o)); (case side2 => exact HC103_2.o); rintro e w24 ⟨rfl, hb⟩; replace BK101 := q_ (blk_below (g := gb101) (o := .cells #[.int .i64 a0_0, .slice (some ad103) l0_1.length c0_1, .slice A0_2 l0_2.length c0_2] 78 (0, 0)) (by (with_reducible repeat (first | refine blk_drewN ?_ _ | refine blk_drew ?_ | refine blk_alloc ?_ _)); refine blk_far ?_ NB101_104.o _; (with_reducible repeat (first | refine blk_drewN ?_ _ | refine blk_drew ?_ | refine blk_alloc ?_ _)); refine blk_far ?_ NB101_104.o _; (with_reducible repeat (first | refine blk_drewN ?_ _ | refine blk_drew ?_ | refine blk_alloc ?_ _)); refine blk_far ?_ NB101_104.o _; (with_reducible repeat (first | refine blk_drewN ?_ _ | refine blk_drew ?_ | refine blk_alloc ?_ _)); exact BK101.o) hb); replace BK104 := q_ (blk_below (g := gb104) (o := .cells #[.int .i64 ((rd_T187 l0_1 x3_2).f0), .int .i64 ((rd_T187 l0_1 x3_2).f1), .slice A103_2 ((rd_T187 l0_1 x3_2).f2).length c103_2] 187 (0, 0)) (by (with_reducible repeat (first | refine blk_drewN ?_ _ | refine blk_drew ?_ | refine blk_alloc ?_ _)); refine blk_put (cs := #[.int .i64 ((rd_T187 l0_1 x3_2).f0), .int .i64 ((rd_T187 l0_1 x3_2).f1), .slice none 0 0]) ?_ 2 _ rfl; (with_reducible repeat (first | refine blk_drewN ?_ _ | refine blk_drew ?_ | refine blk_alloc ?_ _)); refine blk_put (cs := #[.int .i64 ((rd_T187 l0_1 x3_2).f0), .int .i64 0, .slice none 0 0]) ?_ 1 _ rfl; (with_reducible repeat (first | refine blk_drewN ?_ _ | refine blk_drew ?_ | refine blk_alloc ?_ _)); refine blk_put (cs := #[.int .i64 0, .int .i64 0, .slice none 0 0]) ?_ 0 _ rfl; (with_reducible repeat (first | refine blk_drewN ?_ _ | refine blk_drew ?_ | refine blk_alloc ?_ _)); exact BK104.o) hb); replace HB := sb2_ HB GE101 GE104 hb; (try clear hb))))
           go_roundg k2
           case measure => have := HJ1.o; have := HK2.o; omega
           case rel => exact ⟨(wrap64 (x3_2 + 1)), rs_, H', ⟨by have := HJ1.o; have := HK2.o; omega⟩, ⟨bk_ BK101.o⟩, ⟨be2_ HB.o GE101.o GE104.o⟩⟩
          ·replace c18 := Bool.eq_false_iff.mpr c18; subst c18; rw [if_neg nft_] at H; obtain rfl := Option.some.inj H; obtain ⟨hcz25_0, hcz25_1, hcz25_2, hfz25_0, hfz25_1, hfz25_2⟩ := d3_ BK101
           have p103 : 0 ≤ (x3_2 : Int) := of_decide_eq_true as_
           have q103 : x3_2 < (l0_1.length : Int) := of_decide_eq_true as_
           obtain ⟨ad103, A103_2, c103_2, e103, hx103_0, hx103_1, hx103_2, hl103_2, hi103_2⟩ := at_T187 HR0_1.o x3_2 p103 q103
           cases e103
           replace hx103_0 := mv_ HB.o hx103_0; replace hx103_1 := mv_ HB.o hx103_1; replace hx103_2 := mv_ HB.o hx103_2; have HR103_2 := q_ hi103_2; have HC103_2 := q_ hl103_2; clear hi103_2 hl103_2; replace p103 := eq_true p103; replace q103 := eq_true q103
           go_wp2_with (first | ((with_reducible refine gate_dst (N := 4) rfl ?_); (try (refine gate_guard (by rfl) ?_; dsimp only)); refine bx_ 4 #[.int .i64 0, .int .i64 0, .slice none 0 0] 187 ?_; intro gb104 hg w26 hbox hb; have BK104 := q_ (hbox); have GE104 := ge1_ hg HB GE101; have NB101_104 := nl_ hg BK101; have NB104_101 := ng_ hg BK101; replace BK101 := lb_ BK101 hb; replace HB := sb1_ HB GE101 hb; clear hb hbox hg; have hnb27 := NB104_101.o; have hnc27 := NB101_104.o; obtain ⟨hcz28_0, hcz28_1, hcz28_2, hfz28_0, hfz28_1, hfz28_2⟩ := d3_ BK104; obtain ⟨hcz29_0, hcz29_1, hcz29_2, hfz29_0, hfz29_1, hfz29_2⟩ := d3_ BK101) | (go_at_call 89; (with_reducible refine (spec_l1In.calls ((rd_T187 l0_1 x3_2).f0) 0 (wrap64 (a0_0 - 1)) true _ A13.o).mono ?_); rintro e w' ⟨rfl, ⟨nd, rfl⟩⟩; (try first | exact ⟨rfl, _, World.drewN_drewN _ _ _⟩ | exact ⟨rfl, _, Eq.trans (World.drewN_drewN _ _ _) (congrArg (World.drewN _) (Nat.add_assoc _ _ _))⟩)) | (go_at_call 89; (with_reducible refine (spec_l1In.calls ((rd_T187 l0_1 x3_2).f1) 0 (wrap64 (a0_0 - 1)) true _ A15.o).mono ?_); rintro e w' ⟨rfl, ⟨nd, rfl⟩⟩; (try first | exact ⟨rfl, _, World.drewN_drewN _ _ _⟩ | exact ⟨rfl, _, Eq.trans (World.drewN_drewN _ _ _) (congrArg (World.drewN _) (Nat.add_assoc _ _ _))⟩)) | (go_at_call 141; (with_reducible refine (spec_ClassOk.calls k2 _ _ ((rd_T187 l0_1 x3_2).f2) false _ ?side1 ?side2 A17.o).mono ?_); (case side1 => exact Kd.C_below HR103_2.o (be2_ HB.o GE101.o GE104.o)); (case side2 => exact HC103_2.o); rintro e w30 ⟨rfl, hb⟩; replace BK101 := q_ (blk_below (g := gb101) (o := .cells #[.int .i64 a0_0, .slice (some ad103) l0_1.length c0_1, .slice A0_2 l0_2.length c0_2] 78 (0, 0)) (by (with_reducible repeat (first | refine blk_drewN ?_ _ | refine blk_drew ?_ | refine blk_alloc ?_ _)); refine blk_far ?_ NB101_104.o _; (with_reducible repeat (first | refine blk_drewN ?_ _ | refine blk_drew ?_ | refine blk_alloc ?_ _)); refine blk_far ?_ NB101_104.o _; (with_reducible repeat (first | refine blk_drewN ?_ _ | refine blk_drew ?_ | refine blk_alloc ?_ _)); refine blk_far ?_ NB101_104.o _; (with_reducible repeat (first | refine blk_drewN ?_ _ | refine blk_drew ?_ | refine blk_alloc ?_ _)); exact BK101.o) hb); replace BK104 := q_ (blk_below (g := gb104) (o := .cells #[.int .i64 ((rd_T187 l0_1 x3_2).f0), .int .i64 ((rd_T187 l0_1 x3_2).f1), .slice A103_2 ((rd_T187 l0_1 x3_2).f2).length c103_2] 187 (0, 0)) (by (with_reducible repeat (first | refine blk_drewN ?_ _ | refine blk_drew ?_ | refine blk_alloc ?_ _)); refine blk_put (cs := #[.int .i64 ((rd_T187 l0_1 x3_2).f0), .int .i64 ((rd_T187 l0_1 x3_2).f1), .slice none 0 0]) ?_ 2 _ rfl; (with_reducible repeat (first | refine blk_drewN ?_ _ | refine blk_drew ?_ | refine blk_alloc ?_ _)); refine blk_put (cs := #[.int .i64 ((rd_T187 l0_1 x3_2).f0), .int .i64 0, .slice none 0 0]) ?_ 1 _ rfl; (with_reducible repeat (first | refine blk_drewN ?_ _ | refine blk_drew ?_ | refine blk_alloc ?_ _)); refine blk_put (cs := #[.int .i64 0, .int .i64 0, .slice none 0 0]) ?_ 0 _ rfl; (with_reducible repeat (first | refine blk_drewN ?_ _ | refine blk_drew ?_ | refine blk_alloc ?_ _)); exact BK104.o) hb); replace HB := sb2_ HB GE101 GE104 hb; (try clear hb)))
           repeat (go_quiet (first | (go_at_call 89; (with_reducible refine (spec_l1In.calls ((rd_T187 l0_1 x3_2).f0) 0 (wrap64 (a0_0 - 1)) true _ A13.o).mono ?_); rintro e w' ⟨rfl, ⟨nd, rfl⟩⟩; (try first | exact ⟨rfl, _, World.drewN_drewN _ _ _⟩ | exact ⟨rfl, _, Eq.trans (World.drewN_drewN _ _ _) (congrArg (World.drewN _) (Nat.add_assoc _ _ _))⟩)) | (go_at_call 89; (with_reducible refine (spec_l1In.calls ((rd_T187 l0_1 x3_2).f1) 0 (wrap64 (a0_0 - 1)) true _ A15.o).mono ?_); rintro e w' ⟨rfl, ⟨nd, rfl⟩⟩; (try first | exact ⟨rfl, _, World.drewN_drewN _ _ _⟩ | exact ⟨rfl, _, Eq.trans (World.drewN_drewN _ _ _) (congrArg (World.drewN _) (Nat.add_assoc _ _ _))⟩)) | (go_at_call 141; (with_reducible refine (spec_ClassOk.calls k2 _ _ ((rd_T187 l0_1 x3_2).f2) false _ ?side1 ?side2 A17.o).mono ?_); (case side1 => exact Kd.C_below HR103_2.o (be2_ HB.o GE101.o GE104.o)); (case side2 => exact HC103_2.o); rintro e w30 ⟨rfl, hb⟩; replace BK101 := q_ (blk_below (g := gb101) (o := .cells #[.int .i64 a0_0, .slice (some ad103) l0_1.length c0_1, .slice A0_2 l0_2.length c0_2] 78 (0, 0)) (by (with_reducible repeat (first | refine blk_drewN ?_ _ | refine blk_drew ?_ | refine blk_alloc ?_ _)); refine blk_far ?_ NB101_104.o _; (with_reducible repeat (first | refine blk_drewN ?_ _ | refine blk_drew ?_ | refine blk_alloc ?_ _)); refine blk_far ?_ NB101_104.o _; (with_reducible repeat (first | refine blk_drewN ?_ _ | refine blk_drew ?_ | refine blk_alloc ?_ _)); refine blk_far ?_ NB101_104.o _; (with_reducible repeat (first | refine blk_drewN ?_ _ | refine blk_drew ?_ | refine blk_alloc ?_ _)); exact BK101.o) hb); replace BK104 := q_ (blk_below (g := gb104) (o := .cells #[.int .i64 ((rd_T187 l0_1 x3_2).f0), .int .i64 ((rd_T187 l0_1 x3_2).f1), .slice A103_2 ((rd_T187 l0_1 x3_2).f2).length c103_2] 187 (0, 0)) (by (with_reducible repeat (first | refine blk_drewN ?_ _ | refine blk_drew ?_ | refine blk_alloc ?_ _)); refine blk_put (cs := #[.int .i64 ((rd_T187 l0_1 x3_2).f0), .int .i64 ((rd_T187 l0_1 x3_2).f1), .slice none 0 0]) ?_ 2 _ rfl; (with_reducible repeat (first | refine blk_drewN ?_ _ | refine blk_drew ?_ | refine blk_alloc ?_ _)); refine blk_put (cs := #[.int .i64 ((rd_T187 l0_1 x3_2).f0), .int .i64 0, .slice none 0 0]) ?_ 1 _ rfl; (with_reducible repeat (first | refine blk_drewN ?_ _ | refine blk_drew ?_ | refine blk_alloc ?_ _)); refine blk_put (cs := #[.int .i64 0, .int .i64 0, .slice none 0 0]) ?_ 0 _ rfl; (with_reducible repeat (first | refine blk_drewN ?_ _ | refine blk_drew ?_ | refine blk_alloc ?_ _)); exact BK104.o) hb); replace HB := sb2_ HB GE101 GE104 hb; (try clear hb))); try go_wp2_with (first | (go_at_call 89; (with_reducible refine (spec_l1In.calls ((rd_T187 l0_1 x3_2).f0) 0 (wrap64 (a0_0 - 1)) true _ A13.o).mono ?_); rintro e w' ⟨rfl, ⟨nd, rfl⟩⟩; (try first | exact ⟨rfl, _, World.drewN_drewN _ _ _⟩ | exact ⟨rfl, _, Eq.trans (World.drewN_drewN _ _ _) (congrArg (World.drewN _) (Nat.add_assoc _ _ _))⟩)) | (go_at_call 89; (with_reducible refine (spec_l1In.calls ((rd_T187 l0_1 x3_2).f1) 0 (wrap64 (a0_0 - 1)) true _ A15.o).mono ?_); rintro e w' ⟨rfl, ⟨nd, rfl⟩⟩; (try first | exact ⟨rfl, _, World.drewN_drewN _ _ _⟩ | exact ⟨rfl, _, Eq.trans (World.drewN_drewN _ _ _) (congrArg (World.drewN _) (Nat.add_assoc _ _ _))⟩)) | (go_at_call 141; (with_reducible refine (spec_ClassOk.calls k2 _ _ ((rd_T187 l0_1 x3_2).f2) false _ ?side1 ?side2 A17.o).mono ?_); (case side1 => exact Kd.C_below HR103_2.o (be2_ HB.o GE101.o GE104.o)); (case side2 => exact HC103_2.o); rintro e w30 ⟨rfl, hb⟩; replace BK101 := q_ (blk_below (g := gb101) (o := .cells #[.int .i64 a0_0, .slice (some ad103) l0_1.length c0_1, .slice A0_2 l0_2.length c0_2] 78 (0, 0)) (by (with_reducible repeat (first | refine blk_drewN ?_ _ | refine blk_drew ?_ | refine blk_alloc ?_ _)); refine blk_far ?_ NB101_104.o _; (with_reducible repeat (first | refine blk_drewN ?_ _ | refine blk_drew ?_ | refine blk_alloc ?_ _)); refine blk_far ?_ NB101_104.o _; (with_reducible repeat (first | refine blk_drewN ?_ _ | refine blk_drew ?_ | refine blk_alloc ?_ _)); refine blk_far ?_ NB101_104.o _; (with_reducible repeat (first | refine blk_drewN ?_ _ | refine blk_drew ?_ | refine blk_alloc ?_ _)); exact BK101.o) hb); replace BK104 := q_ (blk_below (g := gb104) (o := .cells #[.int .i64 ((rd_T187 l0_1 x3_2).f0), .int .i64 ((rd_T187 l0_1 x3_2).f1), .slice A103_2 ((rd_T187 l0_1 x3_2).f2).length c103_2] 187 (0, 0)) (by (with_reducible repeat (first | refine blk_drewN ?_ _ | refine blk_drew ?_ | refine blk_alloc ?_ _)); refine blk_put (cs := #[.int .i64 ((rd_T187 l0_1 x3_2).f0), .int .i64 ((rd_T187 l0_1 x3_2).f1), .slice none 0 0]) ?_ 2 _ rfl; (with_reducible repeat (first | refine blk_drewN ?_ _ | refine blk_drew ?_ | refine blk_alloc ?_ _)); refine blk_put (cs := #[.int .i64 ((rd_T187 l0_1 x3_2).f0), .int .i64 0, .slice none 0 0]) ?_ 1 _ rfl; (with_reducible repeat (first | refine blk_drewN ?_ _ | refine blk_drew ?_ | refine blk_alloc ?_ _)); refine blk_put (cs := #[.int .i64 0, .int .i64 0, .slice none 0 0]) ?_ 0 _ rfl; (with_reducible repeat (first | refine blk_drewN ?_ _ | refine blk_drew ?_ | refine blk_alloc ?_ _)); exact BK104.o) hb); replace HB := sb2_ HB GE101 GE104 hb; (try clear hb))))
           go_ret
           exact ⟨rt_, be2_ HB.o GE101.o GE104.o⟩
         ·replace c16 := Bool.eq_false_iff.mpr c16; subst c16; rw [if_neg nft_] at H; obtain rfl := Option.some.inj H; obtain ⟨hcz31_0, hcz31_1, hcz31_2, hfz31_0, hfz31_1, hfz31_2⟩ := d3_ BK101
          have p103 : 0 ≤ (x3_2 : Int) := of_decide_eq_true as_
          have q103 : x3_2 < (l0_1.length : Int) := of_decide_eq_true as_
          obtain ⟨ad103, A103_2, c103_2, e103, hx103_0, hx103_1, hx103_2, hl103_2, hi103_2⟩ := at_T187 HR0_1.o x3_2 p103 q103
          cases e103
          replace hx103_0 := mv_ HB.o hx103_0; replace hx103_1 := mv_ HB.o hx103_1; replace hx103_2 := mv_ HB.o hx103_2; have HR103_2 := q_ hi103_2; have HC103_2 := q_ hl103_2; clear hi103_2 hl103_2; replace p103 := eq_true p103; replace q103 := eq_true q103
          go_wp2_with (first | ((with_reducible refine gate_dst (N := 4) rfl ?_); (try (refine gate_guard (by rfl) ?_; dsimp only)); refine bx_ 4 #[.int .i64 0, .int .i64 0, .slice none 0 0] 187 ?_; intro gb104 hg w32 hbox hb; have BK104 := q_ (hbox); have GE104 := ge1_ hg HB GE101; have NB101_104 := nl_ hg BK101; have NB104_101 := ng_ hg BK101; replace BK101 := lb_ BK101 hb; replace HB := sb1_ HB GE101 hb; clear hb hbox hg; have hnb33 := NB104_101.o; have hnc33 := NB101_104.o; obtain ⟨hcz34_0, hcz34_1, hcz34_2, hfz34_0, hfz34_1, hfz34_2⟩ := d3_ BK104; obtain ⟨hcz35_0, hcz35_1, hcz35_2, hfz35_0, hfz35_1, hfz35_2⟩ := d3_ BK101) | (go_at_call 89; (with_reducible refine (spec_l1In.calls ((rd_T187 l0_1 x3_2).f0) 0 (wrap64 (a0_0 - 1)) true _ A13.o).mono ?_); rintro e w' ⟨rfl, ⟨nd, rfl⟩⟩; (try first | exact ⟨rfl, _, World.drewN_drewN _ _ _⟩ | exact ⟨rfl, _, Eq.trans (World.drewN_drewN _ _ _) (congrArg (World.drewN _) (Nat.add_assoc _ _ _))⟩)) | (go_at_call 89; (with_reducible refine (spec_l1In.calls ((rd_T187 l0_1 x3_2).f1) 0 (wrap64 (a0_0 - 1)) false _ A15.o).mono ?_); rintro e w' ⟨rfl, ⟨nd, rfl⟩⟩; (try first | exact ⟨rfl, _, World.drewN_drewN _ _ _⟩ | exact ⟨rfl, _, Eq.trans (World.drewN_drewN _ _ _) (congrArg (World.drewN _) (Nat.add_assoc _ _ _))⟩)))
          repeat (go_quiet (first | (go_at_call 89; (with_reducible refine (spec_l1In.calls ((rd_T187 l0_1 x3_2).f0) 0 (wrap64 (a0_0 - 1)) true _ A13.o).mono ?_); rintro e w' ⟨rfl, ⟨nd, rfl⟩⟩; (try first | exact ⟨rfl, _, World.drewN_drewN _ _ _⟩ | exact ⟨rfl, _, Eq.trans (World.drewN_drewN _ _ _) (congrArg (World.drewN _) (Nat.add_assoc _ _ _))⟩)) | (go_at_call 89; (with_reducible refine (spec_l1In.calls ((rd_T187 l0_1 x3_2).f1) 0 (wrap64 (a0_0 - 1)) false _ A15.o).mono ?_); rintro e w' ⟨rfl, ⟨nd, rfl⟩⟩; (try first | exact ⟨rfl, _, World.drewN_drewN _ _ _⟩ | exact ⟨rfl, _, Eq.trans (World.drewN_drewN _ _ _) (congrArg (World.drewN _) (Nat.add_assoc _ _ _))⟩))); try go_wp2_with (first | (go_at_call 89; (with_reducible refine (spec_l1In.calls ((rd_T187 l0_1 x3_2).f0) 0 (wrap64 (a0_0 - 1)) true _ A13.o).mono ?_); rintro e w' ⟨rfl, ⟨nd, rfl⟩⟩; (try first | exact ⟨rfl, _, World.drewN_drewN _ _ _⟩ | exact ⟨rfl, _, Eq.trans (World.drewN_drewN _ _ _) (congrArg (World.drewN _) (Nat.add_assoc _ _ _))⟩)) | (go_at_call 89; (with_reducible refine (spec_l1In.calls ((rd_T187 l0_1 x3_2).f1) 0 (wrap64 (a0_0 - 1)) false _ A15.o).mono ?_); rintro e w' ⟨rfl, ⟨nd, rfl⟩⟩; (try first | exact ⟨rfl, _, World.drewN_drewN _ _ _⟩ | exact ⟨rfl, _, Eq.trans (World.drewN_drewN _ _ _) (congrArg (World.drewN _) (Nat.add_assoc _ _ _))⟩))))
          go_ret
          exact ⟨rt_, be2_ HB.o GE101.o GE104.o⟩
        ·replace c14 := Bool.eq_false_iff.mpr c14; subst c14; rw [if_neg nft_] at H; obtain rfl := Option.some.inj H; obtain ⟨hcz36_0, hcz36_1, hcz36_2, hfz36_0, hfz36_1, hfz36_2⟩ := d3_ BK101
         have p103 : 0 ≤ (x3_2 : Int) := of_decide_eq_true as_
         have q103 : x3_2 < (l0_1.length : Int) := of_decide_eq_true as_
         obtain ⟨ad103, A103_2, c103_2, e103, hx103_0, hx103_1, hx103_2, hl103_2, hi103_2⟩ := at_T187 HR0_1.o x3_2 p103 q103
         cases e103
         replace hx103_0 := mv_ HB.o hx103_0; replace hx103_1 := mv_ HB.o hx103_1; replace hx103_2 := mv_ HB.o hx103_2; have HR103_2 := q_ hi103_2; have HC103_2 := q_ hl103_2; clear hi103_2 hl103_2; replace p103 := eq_true p103; replace q103 := eq_true q103
         go_wp2_with (first | ((with_reducible refine gate_dst (N := 4) rfl ?_); (try (refine gate_guard (by rfl) ?_; dsimp only)); refine bx_ 4 #[.int .i64 0, .int .i64 0, .slice none 0 0] 187 ?_; intro gb104 hg w37 hbox hb; have BK104 := q_ (hbox); have GE104 := ge1_ hg HB GE101; have NB101_104 := nl_ hg BK101; have NB104_101 := ng_ hg BK101; replace BK101 := lb_ BK101 hb; replace HB := sb1_ HB GE101 hb; clear hb hbox hg; have hnb38 := NB104_101.o; have hnc38 := NB101_104.o; obtain ⟨hcz39_0, hcz39_1, hcz39_2, hfz39_0, hfz39_1, hfz39_2⟩ := d3_ BK104; obtain ⟨hcz40_0, hcz40_1, hcz40_2, hfz40_0, hfz40_1, hfz40_2⟩ := d3_ BK101) | (go_at_call 89; (with_reducible refine (spec_l1In.calls ((rd_T187 l0_1 x3_2).f0) 0 (wrap64 (a0_0 - 1)) false _ A13.o).mono ?_); rintro e w' ⟨rfl, ⟨nd, rfl⟩⟩; (try first | exact ⟨rfl, _, World.drewN_drewN _ _ _⟩ | exact ⟨rfl, _, Eq.trans (World.drewN_drewN _ _ _) (congrArg (World.drewN _) (Nat.add_assoc _ _ _))⟩)))
         repeat (go_quiet (first | (go_at_call 89; (with_reducible refine (spec_l1In.calls ((rd_T187 l0_1 x3_2).f0) 0 (wrap64 (a0_0 - 1)) false _ A13.o).mono ?_); rintro e w' ⟨rfl, ⟨nd, rfl⟩⟩; (try first | exact ⟨rfl, _, World.drewN_drewN _ _ _⟩ | exact ⟨rfl, _, Eq.trans (World.drewN_drewN _ _ _) (congrArg (World.drewN _) (Nat.add_assoc _ _ _))⟩))); try go_wp2_with (first | (go_at_call 89; (with_reducible refine (spec_l1In.calls ((rd_T187 l0_1 x3_2).f0) 0 (wrap64 (a0_0 - 1)) false _ A13.o).mono ?_); rintro e w' ⟨rfl, ⟨nd, rfl⟩⟩; (try first | exact ⟨rfl, _, World.drewN_drewN _ _ _⟩ | exact ⟨rfl, _, Eq.trans (World.drewN_drewN _ _ _) (congrArg (World.drewN _) (Nat.add_assoc _ _ _))⟩))))
         go_ret
         exact ⟨rt_, be2_ HB.o GE101.o GE104.o⟩
       ·rw [if_neg c12] at H
        exact absurd H (by simp)
      ·rw [if_neg c11] at H; have c11b0 := df_ c11; clear c11
       have H' := q_ H
       clear H; obtain ⟨hcz41_0, hcz41_1, hcz41_2, hfz41_0, hfz41_1, hfz41_2⟩ := d3_ BK101
       go_wp2
       repeat (go_quiet (fail); try go_wp2)
       go_loopg [5] k2 (fun kq v5 w' => ∃ (x5_3 : Int), v5 = .int .i64 x5_3 ∧ J0 (spec_NfaOk.l1 kq x5_3 a0_0 l0_1 l0_2 = some r) ∧ J0 (kq ≤ k2) ∧ J0 (w'.heap[gb101]? = some (.cells #[.int .i64 a0_0, (.slice A0_1 l0_1.length c0_1), (.slice A0_2 l0_2.length c0_2)] 78 (0, 0))) ∧ J0 (Below w.heap.size w w'))
       case atStart => exact ⟨(0), rs_, H', ⟨Nat.le_refl _⟩, ⟨bk_ BK101.o⟩, ⟨be1_ HB.o GE101.o⟩⟩
       case round =>
        clear H'; (try clear c5); (try clear c6); (try clear c6b0); (try clear c6b1); (try clear c10); (try clear c11); (try clear c11b0); (try clear c12); (try clear c12b0); (try clear c14); (try clear c16); (try clear c18); (try clear hcz19_0); (try clear hcz19_1); (try clear hcz19_2); (try clear hcz22_0); (try clear hcz22_1); (try clear hcz22_2); (try clear hcz23_0); (try clear hcz23_1); (try clear hcz23_2); (try clear hcz25_0); (try clear hcz25_1); (try clear hcz25_2); (try clear hcz28_0); (try clear hcz28_1); (try clear hcz28_2); (try clear hcz29_0); (try clear hcz29_1); (try clear hcz29_2); (try clear hcz31_0); (try clear hcz31_1); (try clear hcz31_2); (try clear hcz34_0); (try clear hcz34_1); (try clear hcz34_2); (try clear hcz35_0); (try clear hcz35_1); (try clear hcz35_2); (try clear hcz36_0); (try clear hcz36_1); (try clear hcz36_2); (try clear hcz39_0); (try clear hcz39_1); (try clear hcz39_2); (try clear hcz40_0); (try clear hcz40_1); (try clear hcz40_2); (try clear hcz41_0); (try clear hcz41_1); (try clear hcz41_2); (try clear hcz7_0); (try clear hcz7_1); (try clear hcz7_2); (try clear hcz8_0); (try clear hcz8_1); (try clear hcz8_2); (try clear hcz9_0); (try clear hcz9_1); (try clear hcz9_2); (try clear hfz19_0); (try clear hfz19_1); (try clear hfz19_2); (try clear hfz22_0); (try clear hfz22_1); (try clear hfz22_2); (try clear hfz23_0); (try clear hfz23_1); (try clear hfz23_2); (try clear hfz25_0); (try clear hfz25_1); (try clear hfz25_2); (try clear hfz28_0); (try clear hfz28_1); (try clear hfz28_2); (try clear hfz29_0); (try clear hfz29_1); (try clear hfz29_2); (try clear hfz31_0); (try clear hfz31_1); (try clear hfz31_2); (try clear hfz34_0); (try clear hfz34_1); (try clear hfz34_2); (try clear hfz35_0); (try clear hfz35_1); (try clear hfz35_2); (try clear hfz36_0); (try clear hfz36_1); (try clear hfz36_2); (try clear hfz39_0); (try clear hfz39_1); (try clear hfz39_2); (try clear hfz40_0); (try clear hfz40_1); (try clear hfz40_2); (try clear hfz41_0); (try clear hfz41_1); (try clear hfz41_2); (try clear hfz7_0); (try clear hfz7_1); (try clear hfz7_2); (try clear hfz8_0); (try clear hfz8_1); (try clear hfz8_2); (try clear hfz9_0); (try clear hfz9_1); (try clear hfz9_2); (try clear hx103_0); (try clear hx103_1); (try clear hx103_2); (try clear p103); (try clear q103); obtain ⟨x5_3, rfl, HA, HK3, BK101, HB⟩ := hrel
        cases gk with
        | zero => exact absurd HA.o (by simp [spec_NfaOk.l1])
        | succ k3 =>
         have H := HA.o; clear HA
         simp only [spec_NfaOk.l1] at H
         by_cases c42 : x5_3 < (l0_2.length : Int)
         ·rw [if_pos c42] at H; have c42b0 := dt_ c42; clear c42
          by_cases c43 : 0 ≤ x5_3
          ·rw [if_pos c43] at H; have c43b0 := dt_ c43; clear c43
           by_cases c44 : ((rd_T138 l0_2 x5_3).f1) = x5_3
           ·rw [if_pos c44] at H
            have c44b0 : (((rd_T138 l0_2 x5_3).f1) == x5_3) = true := beq_iff_eq.mpr c44
            have c44b1 : (((rd_T138 l0_2 x5_3).f1) != x5_3) = false := bne_eq_false_iff_eq.mpr c44
            clear c44; obtain ⟨t110, A45, H⟩ := ob_ H
            by_cases c46 : t110 = true
            ·subst c46; rw [if_pos rfl] at H
             have H' := q_ H
             clear H; obtain ⟨hcz47_0, hcz47_1, hcz47_2, hfz47_0, hfz47_1, hfz47_2⟩ := d3_ BK101
             have p108 : 0 ≤ (x5_3 : Int) := of_decide_eq_true as_
             have q108 : x5_3 < (l0_2.length : Int) := of_decide_eq_true as_
             obtain ⟨ad108, e108, hx108_0, hx108_1⟩ := at_T138 HR0_2.o x5_3 p108 q108
             cases e108
             replace hx108_0 := mv_ HB.o hx108_0; replace hx108_1 := mv_ HB.o hx108_1; replace p108 := eq_true p108; replace q108 := eq_true q108
             go_wp2_with (first | (go_at_call 89; (with_reducible refine (spec_l1In.calls ((rd_T138 l0_2 x5_3).f0) 0 (wrap64 (a0_0 - 1)) true _ A45.o).mono ?_); rintro e w' ⟨rfl, ⟨nd, rfl⟩⟩; (try first | exact ⟨rfl, _, World.drewN_drewN _ _ _⟩ | exact ⟨rfl, _, Eq.trans (World.drewN_drewN _ _ _) (congrArg (World.drewN _) (Nat.add_assoc _ _ _))⟩)))
             repeat (go_quiet (first | (go_at_call 89; (with_reducible refine (spec_l1In.calls ((rd_T138 l0_2 x5_3).f0) 0 (wrap64 (a0_0 - 1)) true _ A45.o).mono ?_); rintro e w' ⟨rfl, ⟨nd, rfl⟩⟩; (try first | exact ⟨rfl, _, World.drewN_drewN _ _ _⟩ | exact ⟨rfl, _, Eq.trans (World.drewN_drewN _ _ _) (congrArg (World.drewN _) (Nat.add_assoc _ _ _))⟩))); try go_wp2_with (first | (go_at_call 89; (with_reducible refine (spec_l1In.calls ((rd_T138 l0_2 x5_3).f0) 0 (wrap64 (a0_0 - 1)) true _ A45.o).mono ?_); rintro e w' ⟨rfl, ⟨nd, rfl⟩⟩; (try first | exact ⟨rfl, _, World.drewN_drewN _ _ _⟩ | exact ⟨rfl, _, Eq.trans (World.drewN_drewN _ _ _) (congrArg (World.drewN _) (Nat.add_assoc _ _ _))⟩))))
             go_roundg k3
             case measure => have := HJ1.o; have := HK2.o; have := HK3.o; omega
             case rel => exact ⟨(wrap64 (x5_3 + 1)), rs_, H', ⟨by have := HJ1.o; have := HK2.o; have := HK3.o; omega⟩, ⟨bk_ BK101.o⟩, ⟨be1_ HB.o GE101.o⟩⟩
            ·replace c46 := Bool.eq_false_iff.mpr c46; subst c46; rw [if_neg nft_] at H; obtain rfl := Option.some.inj H; obtain ⟨hcz48_0, hcz48_1, hcz48_2, hfz48_0, hfz48_1, hfz48_2⟩ := d3_ BK101
             have p108 : 0 ≤ (x5_3 : Int) := of_decide_eq_true as_
             have q108 : x5_3 < (l0_2.length : Int) := of_decide_eq_true as_
             obtain ⟨ad108, e108, hx108_0, hx108_1⟩ := at_T138 HR0_2.o x5_3 p108 q108
             cases e108
             replace hx108_0 := mv_ HB.o hx108_0; replace hx108_1 := mv_ HB.o hx108_1; replace p108 := eq_true p108; replace q108 := eq_true q108
             go_wp2_with (first | (go_at_call 89; (with_reducible refine (spec_l1In.calls ((rd_T138 l0_2 x5_3).f0) 0 (wrap64 (a0_0 - 1)) false _ A45.o).mono ?_); rintro e w' ⟨rfl, ⟨nd, rfl⟩⟩; (try first | exact ⟨rfl, _, World.drewN_drewN _ _ _⟩ | exact ⟨rfl, _, Eq.trans (World.drewN_drewN _ _ _) (congrArg (World.drewN _) (Nat.add_assoc _ _ _))⟩)))
             repeat (go_quiet (first | (go_at_call 89; (with_reducible refine (spec_l1In.calls ((rd_T138 l0_2 x5_3).f0) 0 (wrap64 (a0_0 - 1)) false _ A45.o).mono ?_); rintro e w' ⟨rfl, ⟨nd, rfl⟩⟩; (try first | exact ⟨rfl, _, World.drewN_drewN _ _ _⟩ | exact ⟨rfl, _, Eq.trans (World.drewN_drewN _ _ _) (congrArg (World.drewN _) (Nat.add_assoc _ _ _))⟩))); try go_wp2_with (first | (go_at_call 89; (with_reducible refine (spec_l1In.calls ((rd_T138 l0_2 x5_3).f0) 0 (wrap64 (a0_0 - 1)) false _ A45.o).mono ?_); rintro e w' ⟨rfl, ⟨nd, rfl⟩⟩; (try first | exact ⟨rfl, _, World.drewN_drewN _ _ _⟩ | exact ⟨rfl, _, Eq.trans (World.drewN_drewN _ _ _) (congrArg (World.drewN _) (Nat.add_assoc _ _ _))⟩))))
             go_ret
             exact ⟨rt_, be1_ HB.o GE101.o⟩
           ·rw [if_neg c44] at H
            have c44b0 : (((rd_T138 l0_2 x5_3).f1) == x5_3) = false := beq_eq_false_iff_ne.mpr c44
            have c44b1 : (((rd_T138 l0_2 x5_3).f1) != x5_3) = true := bne_iff_ne.mpr c44
            obtain rfl := Option.some.inj H; obtain ⟨hcz49_0, hcz49_1, hcz49_2, hfz49_0, hfz49_1, hfz49_2⟩ := d3_ BK101
            have p108 : 0 ≤ (x5_3 : Int) := of_decide_eq_true as_
            have q108 : x5_3 < (l0_2.length : Int) := of_decide_eq_true as_
            obtain ⟨ad108, e108, hx108_0, hx108_1⟩ := at_T138 HR0_2.o x5_3 p108 q108
            cases e108
            replace hx108_0 := mv_ HB.o hx108_0; replace hx108_1 := mv_ HB.o hx108_1; replace p108 := eq_true p108; replace q108 := eq_true q108
            go_wp2
            repeat (go_quiet (fail); try go_wp2)
            go_ret
            exact ⟨rt_, be1_ HB.o GE101.o⟩
          ·rw [if_neg c43] at H
           exact absurd H (by simp)
         ·rw [if_neg c42] at H; have c42b0 := df_ c42; clear c42; obtain rfl := Option.some.inj H; obtain ⟨hcz50_0, hcz50_1, hcz50_2, hfz50_0, hfz50_1, hfz50_2⟩ := d3_ BK101
          go_wp2
          repeat (go_quiet (fail); try go_wp2)
          go_ret
          exact ⟨rt_, be1_ HB.o GE101.o⟩
end Go.Proofs.Ytijmhelacmjggaa.P
namespace Go.Proofs.Ytijmhelacmjggaa.P
open Go.RowKit Go.Proofs.YtijmhelacmjggaaW.PrintWords Go.Proofs.YtijmhelacmjggaaW.PrintLast Go.Proofs.YtijmhelacmjggaaW.PrintMore Go.Proofs.YtijmhelacmjggaaEv
set_option linter.unusedVariables false
set_option linter.unusedSimpArgs false
def InR (s : NB) : Prop := 1 ≤ s.1 ∧ ∀ e ∈ s.2, (0 ≤ e.f0 ∧ e.f0 < s.1) ∧ (0 ≤ e.f1 ∧ e.f1 < s.1) ∧ classB e.f2 = true
def In2 (n a b : Int) : Prop := (0 ≤ a ∧ a < n) ∧ (0 ≤ b ∧ b < n)
theorem InR.grow {s : NB} (h : InR s) {n : Int} (hn : s.1 ≤ n) : InR (n, s.2) := ⟨by have := h.1; show 1 ≤ n; omega, fun e he => by obtain ⟨h1, h2, h3⟩ := h.2 e he; exact ⟨⟨h1.1, by show _ < n; omega⟩, ⟨h2.1, by show _ < n; omega⟩, h3⟩⟩
theorem InR.edge {s : NB} (h : InR s) {a b : Int} (hab : In2 s.1 a b) {c : List S103} (hc : classB c = true) : InR (edgeN s a b c) := ⟨h.1, fun e he => by
  rcases List.mem_append.1 he with he | he
  · exact h.2 e he
  · obtain rfl := List.mem_singleton.1 he
    exact ⟨hab.1, hab.2, hc⟩⟩
theorem class_nil : classB ([] : List S103) = true := rfl
def PIn (s : NB) (r : NR) : Prop := InR r.2.2 ∧ s.1 ≤ r.2.2.1 ∧ In2 r.2.2.1 r.1 r.2.1
def InP (P : NB → NR) : Prop := ∀ s : NB, InR s → PIn s (P s)
theorem loop_in {op a z : Int} {s : NB} (h : InR s) (hz : In2 s.1 a z) : PIn s (loopN op a z s) := by
  have h2 := h.grow (show s.1 ≤ s.1 + 2 by omega)
  have h0 := h.1
  obtain ⟨⟨a0, a1⟩, z0, z1⟩ := hz
  have e1 : InR (edgeN (s.1 + 2, s.2) s.1 a []) := h2.edge ⟨⟨by omega, by show _ < s.1 + 2; omega⟩, a0, by show _ < s.1 + 2; omega⟩ class_nil
  have e2 : InR (if op = 6 then edgeN (s.1 + 2, s.2) s.1 a [] else edgeN (edgeN (s.1 + 2, s.2) s.1 a []) s.1 (s.1 + 1) []) := by
    split
    · exact e1
    · exact e1.edge ⟨⟨by omega, by show _ < s.1 + 2; omega⟩, by omega, by show _ < s.1 + 2; omega⟩ class_nil
  have n2 : (if op = 6 then edgeN (s.1 + 2, s.2) s.1 a [] else edgeN (edgeN (s.1 + 2, s.2) s.1 a []) s.1 (s.1 + 1) []).1 = s.1 + 2 := by split <;> rfl
  unfold loopN
  generalize (if op = 6 then edgeN (s.1 + 2, s.2) s.1 a [] else edgeN (edgeN (s.1 + 2, s.2) s.1 a []) s.1 (s.1 + 1) []) = E at *
  have e3 : InR (if op = 7 then E else edgeN E z a []) := by
    split
    · exact e2
    · exact e2.edge ⟨⟨by omega, by omega⟩, by omega, by omega⟩ class_nil
  have n3 : (if op = 7 then E else edgeN E z a []).1 = s.1 + 2 := by split <;> exact n2
  generalize (if op = 7 then E else edgeN E z a []) = F at *
  exact ⟨e3.edge ⟨⟨by omega, by omega⟩, by omega, by omega⟩ class_nil, by show _ ≤ F.1; omega, ⟨by show 0 ≤ s.1; omega, by show s.1 < F.1; omega⟩, by show 0 ≤ s.1 + 1; omega, by show s.1 + 1 < F.1; omega⟩
def JIn (r : NR) : Prop := InR r.2.2 ∧ ((r.1 < 0 ∧ r.2.1 < 0) ∨ In2 r.2.2.1 r.1 r.2.1)
theorem join_in {r q : NR} (h : JIn r) (hq : PIn r.2.2 q) : PIn r.2.2 (joinN r.1 r.2.1 q) := by
  unfold joinN
  obtain ⟨h1, h2⟩ := h
  obtain ⟨q1, q2, q3⟩ := hq
  split
  · exact ⟨q1, q2, q3⟩
  · rcases h2 with h2 | ⟨h2, h3⟩
    · omega
    · exact ⟨q1.edge ⟨⟨h3.1, by omega⟩, q3.1⟩ class_nil, q2, ⟨h2.1, by show _ < q.2.2.1; omega⟩, q3.2⟩
theorem timesL_in {P : NB → NR} (hP : InP P) (mn op : Int) : ∀ (m : Nat) (i : Int) (r : NR), JIn r → JIn (timesL P mn op m i r) ∧ r.2.2.1 ≤ (timesL P mn op m i r).2.2.1
  | 0, _, r, h => ⟨h, Int.le_refl _⟩
  | m + 1, i, r, h => by
    cases hf : fullN r.2.2
    · simp only [timesL, hf, Bool.false_eq_true, if_false]
      have hq := hP r.2.2 h.1
      have hq2 : PIn r.2.2 (if i ≥ mn then loopN op (P r.2.2).1 (P r.2.2).2.1 (P r.2.2).2.2 else P r.2.2) := by
        split
        · obtain ⟨l1, l2, l3⟩ := loop_in (op := op) hq.1 hq.2.2
          exact ⟨l1, by have := hq.2.1; omega, l3⟩
        · exact hq
      have hj := join_in h hq2
      obtain ⟨t1, t2⟩ := timesL_in hP mn op m (i + 1) _ ⟨hj.1, .inr hj.2.2⟩
      exact ⟨t1, by have := hj.2.1; omega⟩
    · simp only [timesL, hf, if_true]
      exact ⟨h, Int.le_refl _⟩
theorem timesS_in {P : NB → NR} (hP : InP P) (mn mx : Int) : InP (timesS P mn mx) := by
  intro s hs
  obtain ⟨⟨h1, h2⟩, h3⟩ := timesL_in hP mn (loopOp mx) (manyS mn mx).toNat 0 (-1, -1, s) ⟨hs, .inl ⟨by show (-1 : Int) < 0; omega, by show (-1 : Int) < 0; omega⟩⟩
  unfold timesS
  generalize timesL P mn (loopOp mx) (manyS mn mx).toNat 0 (-1, -1, s) = r at *
  have hn := h1.1
  refine ⟨h1, h3, ?_⟩
  unfold In2
  dsimp only
  rcases h2 with h2 | ⟨h2, h4⟩ <;> omega
theorem partS_in {l : List S156} (hcl : ∀ i : Int, (rd_T156 l i).f0 = 1 ∨ (rd_T156 l i).f0 = 2 → classB (rd_T156 l i).f1 = true) : ∀ (k : Nat) (i : Int), InP (partN timesS l k i)
  | 0, i, s, hs => ⟨hs, Int.le_refl _, ⟨Int.le_refl _, by have := hs.1; show 0 < s.1; omega⟩, Int.le_refl _, by have := hs.1; show 0 < s.1; omega⟩
  | k + 1, i, s, hs => by
    have ih := partS_in hcl k
    have hn := hs.1
    cases hf : fullN s
    rotate_left
    · rw [full_part _ _ _ _ hf]
      exact ⟨hs, Int.le_refl _, ⟨Int.le_refl _, by show 0 < s.1; omega⟩, Int.le_refl _, by show 0 < s.1; omega⟩
    have q := ih (rd (rd_T156 l i).f2 0) s hs
    have u := ih (rd (rd_T156 l i).f2 1) _ q.1
    simp only [partN, hf, Bool.false_eq_true, if_false]
    split
    · exact ⟨(hs.grow (show s.1 ≤ s.1 + 2 by omega)).edge ⟨⟨by omega, by show _ < s.1 + 2; omega⟩, by omega, by show _ < s.1 + 2; omega⟩ (hcl i (by assumption)), by show s.1 ≤ s.1 + 2; omega, ⟨by show 0 ≤ s.1; omega, by show s.1 < s.1 + 2; omega⟩, by show 0 ≤ s.1 + 1; omega, by show s.1 + 1 < s.1 + 2; omega⟩
    split
    · obtain ⟨q1, q2, q3, q4⟩ := q
      obtain ⟨u1, u2, u3, u4⟩ := u
      exact ⟨u1.edge ⟨⟨q4.1, by omega⟩, u3⟩ class_nil, by show s.1 ≤ _; simp only [catN, edgeN]; omega, ⟨q3.1, by simp only [catN, edgeN]; omega⟩, u4⟩
    split
    · generalize partN timesS l k (rd (rd_T156 l i).f2 0) s = Q at *
      generalize partN timesS l k (rd (rd_T156 l i).f2 1) Q.2.2 = U at *
      obtain ⟨q1, q2, q3, q4⟩ := q
      obtain ⟨u1, u2, u3, u4⟩ := u
      have b := u1.grow (show U.2.2.1 ≤ U.2.2.1 + 2 by omega)
      have hu := u1.1
      refine ⟨(((b.edge ?_ class_nil).edge ?_ class_nil).edge ?_ class_nil).edge ?_ class_nil, ?_, ⟨?_, ?_⟩, ?_, ?_⟩ <;> simp only [In2, altN, edgeN] <;> omega
    split
    · exact timesS_in (ih _) _ _ s hs
    · obtain ⟨l1, l2, l3⟩ := loop_in (op := (rd_T156 l i).f0) q.1 q.2.2
      exact ⟨l1, by have := q.2.1; omega, l3⟩
theorem nodes_class {l : List S156} (h : ∀ j, j < l.length → nodeAt l j = true) (i : Int) (ho : (rd_T156 l i).f0 = 1 ∨ (rd_T156 l i).f0 = 2) : classB (rd_T156 l i).f1 = true := by
  by_cases hi : i.toNat < l.length
  · have hn := h i.toNat hi
    have e : rd_T156 l ((i.toNat : Nat) : Int) = rd_T156 l i := rfl
    unfold nodeAt at hn
    rw [e] at hn
    generalize rd_T156 l i = x at *
    unfold nodeB at hn
    simp only [Bool.and_eq_true] at hn
    have h2 := hn.1.2
    rcases ho with ho | ho
    · rw [if_neg (by omega)] at h2
      have h3 := of_decide_eq_true h2
      rw [List.length_eq_zero_iff.1 h3]
      rfl
    · rw [if_pos ho] at h2
      exact (Bool.and_eq_true_iff.1 h2).1
  · have e : rd_T156 l i = z156 := by
      unfold rd_T156
      rw [List.getD_eq_getElem?_getD, List.getElem?_eq_none (by omega)]
      rfl
    rw [e] at ho
    rcases ho with ho | ho <;> exact absurd ho (by decide)
def InE (q : NE) : Prop := InR q.1 ∧ ∀ (j : Nat) (e : S138), q.2[j]? = some e → e.f1 = (j : Int) ∧ 0 ≤ e.f0 ∧ e.f0 < q.1.1
theorem upS_in (l : List S29) (hx : ∀ x ∈ l, rxN x) : ∀ k, k ≤ l.length → InE (upN timesS l k)
  | 0, _ => ⟨⟨by show (1 : Int) ≤ 1; omega, fun e he => by cases he⟩, fun j e he => by simp [upN] at he⟩
  | k + 1, h => by
    obtain ⟨h1, h2⟩ := upS_in l hx k (by omega)
    have hm : rd_T29 l (k : Int) ∈ l := by
      unfold rd_T29
      rw [List.getD_eq_getElem?_getD, List.getElem?_eq_getElem (show (k : Int).toNat < l.length by omega)]
      exact List.getElem_mem _
    have hp := partS_in (nodes_class (hx _ hm).2.2) (rd_T29 l (k : Int)).f0.length (((rd_T29 l (k : Int)).f0.length : Int) - 1) _ h1
    have he := upN_ends timesS l k
    show InE (addN timesS _ _ _)
    unfold addN
    generalize hX : xN timesS (rd_T29 l (k : Int)) (upN timesS l k).1 = X at *
    have hp : PIn (upN timesS l k).1 X := by rw [← hX]; exact hp
    generalize upN timesS l k = q at *
    obtain ⟨p1, p2, p3, p4⟩ := hp
    refine ⟨p1.edge ⟨⟨Int.le_refl _, by have := p1.1; omega⟩, p3⟩ class_nil, fun j e hj => ?_⟩
    show _ ∧ _ ∧ e.f0 < X.2.2.1
    rw [List.getElem?_append] at hj
    split at hj
    · obtain ⟨a1, a2, a3⟩ := h2 j e hj
      exact ⟨a1, a2, by omega⟩
    · rename_i hlt
      have : j - q.2.length = 0 := by
        by_cases h0 : j - q.2.length = 0
        · exact h0
        · rw [List.getElem?_eq_none (by simp; omega)] at hj
          cases hj
      rw [this] at hj
      obtain rfl := Option.some.inj hj
      exact ⟨by show (k : Int) = j; omega, p4.1, p4.2⟩
theorem full_add (tm : TM) (x : S29) (i : Int) {q : NE} (h : fullN q.1 = true) : fullN (addN tm x i q).1 = true := by
  unfold addN xN
  rw [full_part _ _ _ _ h]
  exact full_edge h _ _ _
theorem up_ag (l : List S29) (hx : ∀ x ∈ l, rxN x) : ∀ k, k ≤ l.length → upN timesI l k = upN timesS l k ∨ (fullN (upN timesI l k).1 = true ∧ fullN (upN timesS l k).1 = true)
  | 0, _ => .inl rfl
  | k + 1, h => by
    have hm : rd_T29 l (k : Int) ∈ l := by
      unfold rd_T29
      rw [List.getD_eq_getElem?_getD, List.getElem?_eq_getElem (show (k : Int).toNat < l.length by omega)]
      exact List.getElem_mem _
    have hb := (upNS_bn l hx k (by omega)).1
    obtain ⟨x1, x2, x3⟩ := hx _ hm
    show addN timesI _ _ _ = addN timesS _ _ _ ∨ (fullN (addN timesI _ _ _).1 = true ∧ fullN (addN timesS _ _ _).1 = true)
    rcases up_ag l hx k (by omega) with h1 | ⟨h1, h2⟩
    · rw [h1]
      generalize upN timesS l k = q at *
      generalize rd_T29 l (k : Int) = x at *
      have ha := part_ag x.f0 x3 x.f0.length (x.f0.length - 1) q.1 (by omega) hb
      rw [show ((x.f0.length - 1 : Nat) : Int) = (x.f0.length : Int) - 1 by omega] at ha
      unfold addN xN
      rcases ha with ha | ⟨a1, a2⟩
      · rw [ha]
        exact .inl rfl
      · exact .inr ⟨full_edge a1 _ _ _, full_edge a2 _ _ _⟩
    · exact .inr ⟨full_add _ _ _ h1, full_add _ _ _ h2⟩
end Go.Proofs.Ytijmhelacmjggaa.P
namespace Go.Proofs.Ytijmhelacmjggaa.P
open Go.RowKit Go.Shelf Go.Proofs.YtijmhelacmjggaaW.PrintWords Go.Proofs.YtijmhelacmjggaaW.PrintLast Go.Proofs.YtijmhelacmjggaaW.PrintMore Go.Proofs.YtijmhelacmjggaaEv
set_option linter.unusedVariables false
set_option linter.unusedSimpArgs false
theorem fullI_hand {w0 : World} (ok : Nat → Prop) (g : Nat) (n : Int) (es : List S187) (en : List S138) (w : World) (hI : BdS 144 w0 w ok g n es en) :
    Calls Try.prog 108 #[.pointer (some ⟨g, 0, none⟩)] w fun e w' => e = .returned (.bool (fullB n es)) ∧ w = w' := by
  obtain ⟨A, c, v1, hl, h0, h1, h2, hf⟩ := Bd_cells hI
  clear hI
  unfold fullB
  by_cases c1 : n > 3000
  · have e1 := dt_ c1
    rw [e1, Bool.true_or]
    clear c1
    go_enter Try.func108, Try.ntmps108
    go_wp2
    go_ret
    exact ⟨rfl, rfl⟩
  · have e1 := df_ c1
    rw [e1, Bool.false_or]
    clear c1
    go_enter Try.func108, Try.ntmps108
    go_wp2
    go_ret
    exact ⟨by simp, rfl⟩
theorem stateI_hand {w0 : World} (ok : Nat → Prop) (g : Nat) (n : Int) (es : List S187) (en : List S138) (w : World) (hI : BdS 144 w0 w ok g n es en) (hB : Below w0.heap.size w0 w) (hn : 0 ≤ n ∧ n ≤ 1000000) :
    Calls Try.prog 165 #[.pointer (some ⟨g, 0, none⟩)] w fun e w' => e = .returned (.int .i64 n) ∧ BdS 144 w0 w' ok g (n + 1) es en ∧ Below w0.heap.size w0 w' ∧ KeepB w w' ok g := by
  obtain ⟨A, c, v1, hl, h0, h1, h2, hf⟩ := Bd_cells hI
  have HI := q_ (Bd_size hI (by decide) (n + 1))
  have HB := q_ (below_set (j := 0) (v := .int .i64 (n + 1)) hB (Bd_own hI))
  clear hI hB
  obtain ⟨hn0, hn1⟩ := hn
  go_enter Try.func165, Try.ntmps165
  go_wp2
  go_ret
  exact ⟨by simp, HI.o, HB.o, KeepB.set 0 _⟩
theorem fullS_hand {w0 : World} (ok : Nat → Prop) (g : Nat) (n : Int) (es : List S187) (en : List S138) (w : World) (hI : BdS 133 w0 w ok g n es en) :
    Calls Try.prog 137 #[.pointer (some ⟨g, 0, none⟩)] w fun e w' => e = .returned (.bool (fullB n es)) ∧ w = w' := by
  obtain ⟨A, c, v1, hl, h0, h1, h2, hf⟩ := Bd_cells hI
  clear hI
  unfold fullB
  by_cases c1 : n > 3000
  · have e1 := dt_ c1
    rw [e1, Bool.true_or]
    clear c1
    go_enter Try.func137, Try.ntmps137
    go_wp2
    go_ret
    exact ⟨rfl, rfl⟩
  · have e1 := df_ c1
    rw [e1, Bool.false_or]
    clear c1
    go_enter Try.func137, Try.ntmps137
    go_wp2
    go_ret
    exact ⟨by simp, rfl⟩
theorem stateS_hand {w0 : World} (ok : Nat → Prop) (g : Nat) (n : Int) (es : List S187) (en : List S138) (w : World) (hI : BdS 133 w0 w ok g n es en) (hB : Below w0.heap.size w0 w) (hn : 0 ≤ n ∧ n ≤ 1000000) :
    Calls Try.prog 138 #[.pointer (some ⟨g, 0, none⟩)] w fun e w' => e = .returned (.int .i64 n) ∧ BdS 133 w0 w' ok g (n + 1) es en ∧ Below w0.heap.size w0 w' ∧ KeepB w w' ok g := by
  obtain ⟨A, c, v1, hl, h0, h1, h2, hf⟩ := Bd_cells hI
  have HI := q_ (Bd_size hI (by decide) (n + 1))
  have HB := q_ (below_set (j := 0) (v := .int .i64 (n + 1)) hB (Bd_own hI))
  clear hI hB
  obtain ⟨hn0, hn1⟩ := hn
  go_enter Try.func138, Try.ntmps138
  go_wp2
  go_ret
  exact ⟨by simp, HI.o, HB.o, KeepB.set 0 _⟩
end Go.Proofs.Ytijmhelacmjggaa.P
namespace Go.Proofs.Ytijmhelacmjggaa.P
open Go.RowKit Go.Proofs.YtijmhelacmjggaaW.PrintWords Go.Proofs.YtijmhelacmjggaaW.PrintLast Go.Proofs.YtijmhelacmjggaaW.PrintMore Go.Proofs.YtijmhelacmjggaaEv
set_option linter.unusedVariables false
set_option linter.unusedSimpArgs false
theorem Clone_Span (A : Option Addr) (c : Nat) (l : List S103) (w : World) (hr : Kd.C k103 w A l.length l) (hl : l.length ≤ 1048576) :
    Calls Try.prog 146 #[.slice A l.length c] w fun e w' => ∃ v, e = .returned v ∧ Kd.R k103 103 w' w.heap.size (fun _ => True) v l ∧ Below w.heap.size w w' := by
  have HR := q_ hr
  have HB := q_ (Below.refl w.heap.size w)
  have hu := Try.underlying34
  rcases A with _ | ad
  · have h0 : l = [] := by
      rcases l with _ | ⟨x, xs⟩
      · rfl
      · obtain ⟨ad, h, _⟩ := hr.2.2 (by simp)
        cases h
    subst h0
    clear hr
    go_enter Try.func146, Try.ntmps146
    go_wp2_with fail
    rw [Go.Lib.run_eql_slice_nil _ _ _ _ _ _ _ _ hu]
    go_wp2_with fail
    go_ret
    exact ⟨_, rfl, Kd.R_nil _ _ _ _ _, HB.o⟩
  · clear hr
    go_enter Try.func146, Try.ntmps146
    go_wp2_with fail
    rw [Go.Lib.run_eql_slice_nil _ _ _ _ _ _ _ _ hu]
    go_wp2_with (first
      | ((with_reducible refine gate_dst (N := 5) rfl ?_); refine Kd.R_lit k103 _ 103 ?hg (N := 5) ?hd (xs := ([] : List S103)) (inner := []) (ok := fun _ => True) (okp := fun _ => True) ?hr ?hp (fun _ hk => hk) trivial (Below.refl _ _) (Nat.le_refl _) (by simp) ?_; (case hd => rfl); (case hg => rfl); (case hr => first | (go_simp; done) | (go_simp; rfl)); (case hp => exact (Reps.none _ _)); intro v1 w1 ho hb _ _; have HO := q_ (Kd.R_lower ho HB.o.size); replace HB := q_ (below_step HB.o hb); clear ho hb)
      | ((with_reducible refine gate_builtin (b := .append) (xs := #[.tmp 5, .tmp 6]) rfl ?_); at_builtin; refine Kd.R_append_rows k103 (w0 := w) w.heap.size rfl (.tmp 5) (.tmp 6) 34 103 (.agg #[(.int .i64 0), (.int .i64 0)]) 16 rfl Try.underlying34 info103 rfl (by decide) (by omega) v1 [] l _ _ _ (fun _ => True) (fun _ => False) rfl rfl ?aO ?aR (fun _ _ h => h) (fun _ h => h.elim) ?aF ?aB ?aS ?aL ?_; (case aO => exact HO.o); (case aR => exact Kd.C_below HR.o HB.o); (case aF => exact fun _ _ => trivial); (case aB => exact HB.o); (case aS => exact HB.o.size); (case aL => simp; omega); intro v2 w2 ho hb _ _; have HV := q_ ho; replace HB := q_ hb; clear ho hb))
    go_ret
    exact ⟨_, rfl, HV.o, HB.o⟩
end Go.Proofs.Ytijmhelacmjggaa.P
namespace Go.Proofs.Ytijmhelacmjggaa.P
open Go.RowKit Go.Shelf Go.Proofs.YtijmhelacmjggaaW.PrintWords Go.Proofs.YtijmhelacmjggaaW.PrintLast Go.Proofs.YtijmhelacmjggaaW.PrintMore Go.Proofs.YtijmhelacmjggaaEv
set_option linter.unusedVariables false
set_option linter.unusedSimpArgs false
theorem edgeI_hand {w0 : World} (ok : Nat → Prop) (g : Nat) (n a b : Int) (es : List S187) (en : List S138) (A : Option Addr) (c : Nat) (s : List S103) (w : World) (hI : BdS 144 w0 w ok g n es en) (hB : Below w0.heap.size w0 w) (hF : ∀ k, w.heap.size ≤ k → ok k) (hs : Kd.C k103 w A s.length s) (hc : s.length ≤ c) (hsl : s.length ≤ 1048576) (hl : es.length ≤ 1000000) :
    Calls Try.prog 107 #[.pointer (some ⟨g, 0, none⟩), .int .i64 a, .int .i64 b, .slice A s.length c] w fun e w' => e = .returned (.tuple #[]) ∧ BdS 144 w0 w' ok g n (es ++ [⟨a, b, s⟩]) en ∧ Below w0.heap.size w0 w' ∧ KeepB w w' ok g := by
  obtain ⟨v0, v1, hG, hg, hR0, hR1⟩ := hI
  obtain ⟨A0, c0, rfl⟩ := Kd.S_slice hR0
  have GE := q_ hg
  have BK := q_ (blk_drew hG)
  have HO0 := q_ (Kd.S_drew (Kd.S_mono (Kd.S_bound hR0) (ok' := fun k => ok k ∧ ¬ w.heap.size ≤ k) fun k hk => ⟨hk.1, Nat.not_le.2 hk.2.2.1⟩))
  have HO1 := q_ (Kd.R_drew hR1)
  have HB := q_ (below_drew1 hB)
  have HF := q_ hF
  have HS := q_ (Kd.C_drew hs)
  have HL0 := q_ (Kd.S_lt hR0)
  have HK : J0 (Below w.heap.size w w.drew) := ⟨below_drew1 (Below.refl _ _)⟩
  have hu1 := Try.underlying34
  have hu2 := Try.underlying75
  clear hG hg hR0 hR1 hB hF hs
  go_enter Try.func107, Try.ntmps107
  go_wp2_with fail
  refine start_ (n := 17) (S := fun w' => w'.cell? ⟨g, 1, none⟩ = some (.slice A0 es.length c0)) (ds := [16]) (bb 17 0) (by kernel_rfl) rfl rfl ((blk_cell BK.o 1).trans rfl) (fun hS => ?_)
  generalize w.drew = W1 at BK HO0 HO1 HB HS HK hS ⊢
  refine pk_ 0 8 1 ?_; refine pk_ 1 9 3 ?_; refine pk_ 2 10 7 ?_; refine pk_ 3 11 15 ?_; refine pk_ 4 12 31 ?_; refine pk_ 6 14 95 ?_; refine pk_ 7 15 223 ?_; refine pk_ 8 16 479 ?_; refine tk_ 5 13 511 hS ?_
  refine one_ (i := 9) (N := some 17) (bb 17 1023) rfl rfl (by kernel_rfl) (by decide) (fun K hK => ?_)
  refine gs_ Try.func146 #[.slice A s.length c] ?_
  with_reducible refine (Clone_Span A c s _ HS.o hsl).mono ?_
  rintro e W2 ⟨v, rfl, hV, hb⟩
  refine ⟨_, rfl, ?_⟩
  obtain ⟨AV, cV, rfl⟩ := Kd.R_slice hV
  have HV : J0 (Kd.R k103 103 W2 w0.heap.size (fun k => w.heap.size ≤ k) (.slice AV s.length cV) s) := ⟨Kd.R_lower (Kd.R_mono (Kd.R_bound hV) fun k hk => Nat.le_trans HK.o.size hk.2.1) HB.o.size⟩
  replace HO0 := q_ (Kd.S_below HO0.o hb); replace HO1 := q_ (Kd.R_below HO1.o hb); replace BK := q_ (blk_below BK.o hb); replace HB := q_ (below_step HB.o hb); replace HK := q_ (below_step HK.o hb); clear hb hV HS
  refine hK.out _ _ ((blk_cell BK.o 1).trans rfl) (fun hS => ?_)
  clear hK K
  refine no_ (some 17) ?_
  refine pk_ 10 18 2047 ?_
  refine one_ (i := 11) (N := some 19) (bb 17 4095) rfl rfl (by kernel_rfl) (by decide) (fun K hK => ?_)
  refine value_ (w1 := ?_) (v := ?_) (by rfl) rfl ?_ ?_
  rotate_left 2
  · go_simp
    constructor
    · rfl
    · rfl
  refine hK.out _ _ ((World.cell?_alloc_lt _ _ _ (World.block_lt_of_cell? _ _ hS)).trans hS) (fun hS => ?_)
  clear hK K
  refine no_ (some 19) ?_
  refine one_ (i := 12) (N := some 20) (bb 17 8191) rfl rfl (by kernel_rfl) (by decide) (fun K hK => ?_)
  refine Kd.S_append_step k187 (w0 := w0) w0.heap.size (by rfl) (.tmp 13) (.tmp 19) 75 187 (.agg #[(.int .i64 0), (.int .i64 0), (.slice none 0 0)]) 40 rfl Try.underlying75 infoEdge_ rfl (by decide) (by omega) (.slice A0 es.length c0) es (⟨a, b, s⟩ : S187) [.int .i64 a, .int .i64 b, .slice AV s.length cV] ok (fun k => w.heap.size ≤ k) rfl rfl ?aP ?aQ ?aF HO0.o HB.o (below_size HB.o) ?aL ?_
  (case aP => exact k187_mkM _ _ _ (⟨a, b, s⟩ : S187) HV.o)
  (case aQ => exact fun k hk => ⟨HF.o k hk, fun e => Nat.not_lt.2 hk (HL0.o k e.symm)⟩)
  (case aF => exact fun k hk => HF.o k (Nat.le_trans HK.o.size hk))
  (case aL => omega)
  intro v2 w2 ho hb hgr hat
  have hne := Kd.S_ne HO0.o BK.o (by decide)
  have HOb := q_ (Kd.R_over' HO1.o (Kd.S_typed HO0.o) (by decide) hgr)
  have BK2 := q_ (blk_grown BK.o hgr hne)
  have KP2 : J0 (KeepB w w2 ok g) := ⟨Nat.le_trans HK.o.size hgr.size, fun k hk hkg hko => (hgr.block k (Nat.lt_of_lt_of_le hk HK.o.size) (fun e => hko ((Kd.S_R HO0.o).1 k e.symm).1)).trans (HK.o.block k hk)⟩
  obtain ⟨A2, c2, rfl⟩ := Kd.S_slice ho
  have hln : (es ++ [(⟨a, b, s⟩ : S187)]).length = es.length + 1 := by simp
  rw [hln] at ho ⊢
  have hS2 := (blk_cell BK2.o 1)
  have hf2 := blk_frozen BK2.o 1
  refine hK.out _ _ ?hS3 (fun hS => ?_)
  (case hS3 => exact (blk_cell BK2.o 1).trans rfl)
  clear hK K
  refine no_ (some 20) ?_
  refine pk_ 13 21 16383 ?_; refine pk_ 14 22 32767 ?_; refine pk_ 15 23 65535 ?_
  refine last_ (i := 16) (N := none) (bb 17 131071) rfl rfl (by kernel_rfl) (by decide) (fun K hK => ?_)
  refine skip_ (w1 := ?_) (by rfl) rfl ?_ ?_
  rotate_left
  · go_simp
    rfl
  refine hK.out _ _ ?_
  clear hK K
  refine done_ (by kernel_rfl) ?_
  go_wp2_with fail
  go_end0
  exact ⟨rfl, ⟨_, _, (blk_set BK2.o 1 _).trans rfl, GE.o, Kd.S_set ho BK2.o (by decide) 1 _, Kd.R_set HOb.o BK2.o (by decide) 1 _⟩, below_set hb GE.o, KeepB.trans KP2.o (KeepB.set 1 _)⟩
theorem edgeS_hand {w0 : World} (ok : Nat → Prop) (g : Nat) (n a b : Int) (es : List S187) (en : List S138) (A : Option Addr) (c : Nat) (s : List S103) (w : World) (hI : BdS 133 w0 w ok g n es en) (hB : Below w0.heap.size w0 w) (hF : ∀ k, w.heap.size ≤ k → ok k) (hs : Kd.C k103 w A s.length s) (hc : s.length ≤ c) (hsl : s.length ≤ 1048576) (hl : es.length ≤ 1000000) :
    Calls Try.prog 101 #[.pointer (some ⟨g, 0, none⟩), .int .i64 a, .int .i64 b, .slice A s.length c] w fun e w' => e = .returned (.tuple #[]) ∧ BdS 133 w0 w' ok g n (es ++ [⟨a, b, s⟩]) en ∧ Below w0.heap.size w0 w' ∧ KeepB w w' ok g := by
  obtain ⟨v0, v1, hG, hg, hR0, hR1⟩ := hI
  obtain ⟨A0, c0, rfl⟩ := Kd.S_slice hR0
  have GE := q_ hg
  have BK := q_ (blk_drew hG)
  have HO0 := q_ (Kd.S_drew (Kd.S_mono (Kd.S_bound hR0) (ok' := fun k => ok k ∧ ¬ w.heap.size ≤ k) fun k hk => ⟨hk.1, Nat.not_le.2 hk.2.2.1⟩))
  have HO1 := q_ (Kd.R_drew hR1)
  have HB := q_ (below_drew1 hB)
  have HF := q_ hF
  have HS := q_ (Kd.C_drew hs)
  have HL0 := q_ (Kd.S_lt hR0)
  have HK : J0 (Below w.heap.size w w.drew) := ⟨below_drew1 (Below.refl _ _)⟩
  have hu1 := Try.underlying34
  have hu2 := Try.underlying75
  clear hG hg hR0 hR1 hB hF hs
  go_enter Try.func101, Try.ntmps101
  go_wp2_with fail
  refine start_ (n := 18) (S := fun w' => w'.cell? ⟨g, 1, none⟩ = some (.slice A0 es.length c0)) (ds := [17]) (bb 18 0) (by kernel_rfl) rfl rfl ((blk_cell BK.o 1).trans rfl) (fun hS => ?_)
  generalize w.drew = W1 at BK HO0 HO1 HB HS HK hS ⊢
  refine pk_ 0 8 1 ?_; refine pk_ 1 9 3 ?_; refine pk_ 2 10 7 ?_; refine pk_ 3 11 15 ?_; refine pk_ 4 12 31 ?_; refine pk_ 6 14 95 ?_; refine pk_ 7 15 223 ?_; refine pk_ 9 17 735 ?_; refine tk_ 5 13 767 hS ?_
  refine one_ (i := 8) (N := some 16) (bb 18 1023) rfl rfl (by kernel_rfl) (by decide) (fun K hK => ?_)
  refine Kd.R_lit_step k103 W1.heap.size 103 (by rfl) (N := 16) rfl (xs := ([] : List S103)) (inner := []) (ok := fun _ => True) (okp := fun _ => True) ?hr ?hp (fun _ hk => hk) trivial (Below.refl _ _) (Nat.le_refl _) (by simp) ?_
  (case hr => first | (go_simp; done) | (go_simp; rfl))
  (case hp => exact (Reps.none _ _))
  intro v W2 ho hb _ _
  have HE := q_ ho; have HX := q_ hb; clear ho hb
  refine hK.out _ _ ((blk_cell (blk_below BK.o HX.o) 1).trans rfl) (fun hS => ?_)
  clear hK K
  refine no_ (some 16) ?_
  refine one_ (i := 10) (N := some 18) (bb 18 2047) rfl rfl (by kernel_rfl) (by decide) (fun K hK => ?_)
  refine Kd.R_append_rows_step k103 (w0 := W1) W1.heap.size (by rfl) (.tmp 16) (.tmp 17) 34 103 (.agg #[(.int .i64 0), (.int .i64 0)]) 16 rfl Try.underlying34 info103 rfl (by decide) (by omega) v [] s _ _ _ (fun _ => True) (fun _ => False) rfl rfl ?aO ?aR (fun _ _ h => h) (fun _ h => h.elim) ?aF ?aB ?aS ?aL ?_
  (case aO => exact HE.o)
  (case aR => exact Kd.C_below HS.o HX.o)
  (case aF => exact fun _ _ => trivial)
  (case aB => exact HX.o)
  (case aS => exact HX.o.size)
  (case aL => simp; omega)
  intro v3 W3 hV hb _ _
  rw [List.nil_append] at hV
  obtain ⟨AV, cV, rfl⟩ := Kd.R_slice hV
  have HV : J0 (Kd.R k103 103 W3 w0.heap.size (fun k => w.heap.size ≤ k) (.slice AV s.length cV) s) := ⟨Kd.R_lower (Kd.R_mono (Kd.R_bound hV) fun k hk => Nat.le_trans HK.o.size hk.2.1) HB.o.size⟩
  replace HO0 := q_ (Kd.S_below HO0.o hb); replace HO1 := q_ (Kd.R_below HO1.o hb); replace BK := q_ (blk_below BK.o hb); replace HB := q_ (below_step HB.o hb); replace HK := q_ (below_step HK.o hb); clear hb hV HS HX HE
  refine hK.out _ _ ((blk_cell BK.o 1).trans rfl) (fun hS => ?_)
  clear hK K
  refine no_ (some 18) ?_
  refine pk_ 11 19 4095 ?_
  refine one_ (i := 12) (N := some 20) (bb 18 8191) rfl rfl (by kernel_rfl) (by decide) (fun K hK => ?_)
  refine value_ (w1 := ?_) (v := ?_) (by rfl) rfl ?_ ?_
  rotate_left 2
  · go_simp
    constructor
    · rfl
    · rfl
  refine hK.out _ _ ((World.cell?_alloc_lt _ _ _ (World.block_lt_of_cell? _ _ hS)).trans hS) (fun hS => ?_)
  clear hK K
  refine no_ (some 20) ?_
  refine one_ (i := 13) (N := some 21) (bb 18 16383) rfl rfl (by kernel_rfl) (by decide) (fun K hK => ?_)
  refine Kd.S_append_step k187 (w0 := w0) w0.heap.size (by rfl) (.tmp 13) (.tmp 20) 75 187 (.agg #[(.int .i64 0), (.int .i64 0), (.slice none 0 0)]) 40 rfl Try.underlying75 infoEdge_ rfl (by decide) (by omega) (.slice A0 es.length c0) es (⟨a, b, s⟩ : S187) [.int .i64 a, .int .i64 b, .slice AV s.length cV] ok (fun k => w.heap.size ≤ k) rfl rfl ?aP ?aQ ?aF HO0.o HB.o (below_size HB.o) ?aL ?_
  (case aP => exact k187_mkM _ _ _ (⟨a, b, s⟩ : S187) HV.o)
  (case aQ => exact fun k hk => ⟨HF.o k hk, fun e => Nat.not_lt.2 hk (HL0.o k e.symm)⟩)
  (case aF => exact fun k hk => HF.o k (Nat.le_trans HK.o.size hk))
  (case aL => omega)
  intro v2 w2 ho hb hgr hat
  have hne := Kd.S_ne HO0.o BK.o (by decide)
  have HOb := q_ (Kd.R_over' HO1.o (Kd.S_typed HO0.o) (by decide) hgr)
  have BK2 := q_ (blk_grown BK.o hgr hne)
  have KP2 : J0 (KeepB w w2 ok g) := ⟨Nat.le_trans HK.o.size hgr.size, fun k hk hkg hko => (hgr.block k (Nat.lt_of_lt_of_le hk HK.o.size) (fun e => hko ((Kd.S_R HO0.o).1 k e.symm).1)).trans (HK.o.block k hk)⟩
  obtain ⟨A2, c2, rfl⟩ := Kd.S_slice ho
  have hln : (es ++ [(⟨a, b, s⟩ : S187)]).length = es.length + 1 := by simp
  rw [hln] at ho ⊢
  have hS2 := (blk_cell BK2.o 1)
  have hf2 := blk_frozen BK2.o 1
  refine hK.out _ _ ?hS3 (fun hS => ?_)
  (case hS3 => exact (blk_cell BK2.o 1).trans rfl)
  clear hK K
  refine no_ (some 21) ?_
  refine pk_ 14 22 32767 ?_; refine pk_ 15 23 65535 ?_; refine pk_ 16 24 131071 ?_
  refine last_ (i := 17) (N := none) (bb 18 262143) rfl rfl (by kernel_rfl) (by decide) (fun K hK => ?_)
  refine skip_ (w1 := ?_) (by rfl) rfl ?_ ?_
  rotate_left
  · go_simp
    rfl
  refine hK.out _ _ ?_
  clear hK K
  refine done_ (by kernel_rfl) ?_
  go_wp2_with fail
  go_end0
  exact ⟨rfl, ⟨_, _, (blk_set BK2.o 1 _).trans rfl, GE.o, Kd.S_set ho BK2.o (by decide) 1 _, Kd.R_set HOb.o BK2.o (by decide) 1 _⟩, below_set hb GE.o, KeepB.trans KP2.o (KeepB.set 1 _)⟩
structure FrB (T : Nat) (w0 w5 W : World) (ok : Nat → Prop) (g : Nat) (n : Int) (es : List S187) (en : List S138) : Prop where
  st : BdS T w0 W ok g n es en
  lo : Below w0.heap.size w0 W
  kp : KeepB w5 W ok g
def okF (ok : Nat → Prop) (w w5 : World) (k : Nat) : Prop := ok k ∧ (k < w.heap.size ∨ w5.heap.size ≤ k)
section
variable {T : Nat} {w0 w w5 W W2 : World} {ok : Nat → Prop} {g : Nat} {n n2 : Int} {es es2 : List S187} {en en2 : List S138}
theorem FrB.start (hI : BdS T w0 w ok g n es en) (hB : Below w0.heap.size w0 w) (hb : Below w.heap.size w w5) : FrB T w0 w5 w5 (okF ok w w5) g n es en := ⟨Bd_below hI hb, hB.trans (hb.mono hB.size), KeepB.refl⟩
theorem FrB.here (hI : BdS T w0 w ok g n es en) (hB : Below w0.heap.size w0 w) : FrB T w0 w w ok g n es en := ⟨hI, hB, KeepB.refl⟩
theorem FrB.drew (h : FrB T w0 w5 W ok g n es en) : FrB T w0 w5 W.drew ok g n es en := ⟨Bd_drew h.st, below_drew1 h.lo, h.kp⟩
theorem FrB.call (h : FrB T w0 w5 W ok g n es en) (hI : BdS T w0 W2 ok g n2 es2 en2) (hB : Below w0.heap.size w0 W2) (hK : KeepB W W2 ok g) : FrB T w0 w5 W2 ok g n2 es2 en2 := ⟨hI, hB, h.kp.trans hK⟩
theorem FrB.fr (h : FrB T w0 w5 W ok g n es en) (hf : ∀ k, w5.heap.size ≤ k → ok k) : ∀ k, W.heap.size ≤ k → ok k := fun k hk => hf k (Nat.le_trans h.kp.1 hk)
theorem okF.free (hf : ∀ k, w.heap.size ≤ k → ok k) (hb : Below w.heap.size w w5) : ∀ k, w5.heap.size ≤ k → okF ok w w5 k := fun k hk => ⟨hf k (Nat.le_trans hb.size hk), .inr hk⟩
theorem okF.own {b : Nat} (h1 : w.heap.size ≤ b) (h2 : b < w5.heap.size) : ¬ okF ok w w5 b := fun h => by have := h.2; omega
theorem FrB.blk (h : FrB T w0 w5 W (okF ok w w5) g n es en) {b : Nat} {o : Obj} (hb : w5.heap[b]? = some o) (h1 : w.heap.size ≤ b) (hg : g < w.heap.size) : W.heap[b]? = some o := h.kp.blk hb (by omega) (okF.own h1 (blk_lt hb))
theorem FrB.fin (h : FrB T w0 w5 W (okF ok w w5) g n es en) (hb : Below w.heap.size w w5) : BdS T w0 W ok g n es en ∧ Below w0.heap.size w0 W ∧ KeepB w W ok g := ⟨Bd_mono h.st (fun _ hk => hk.1), h.lo, (KeepB.below hb).trans (h.kp.weaken fun _ hk => hk.1)⟩
theorem FrB.fin0 (h : FrB T w0 w W ok g n es en) : BdS T w0 W ok g n es en ∧ Below w0.heap.size w0 W ∧ KeepB w W ok g := ⟨h.st, h.lo, h.kp⟩
end
theorem pairI_hand {w0 : World} (ok : Nat → Prop) (g : Nat) (n : Int) (es : List S187) (en : List S138) (w : World) (hI : BdS 144 w0 w ok g n es en) (hB : Below w0.heap.size w0 w) (hn : 0 ≤ n ∧ n ≤ 900000) :
    Calls Try.prog 143 #[.pointer (some ⟨g, 0, none⟩)] w fun e w' => e = .returned (.tuple #[.int .i64 n, .int .i64 (n + 1)]) ∧ BdS 144 w0 w' ok g (n + 1 + 1) es en ∧ Below w0.heap.size w0 w' ∧ KeepB w w' ok g := by
  have FR := q_ (FrB.here hI hB)
  have T1 : J0 True := ⟨trivial⟩
  have T2 : J0 True := ⟨trivial⟩
  clear hI hB
  go_enter Try.func143, Try.ntmps143
  go_wp2_with (first
    | (go_at_call 165; clear T1; (with_reducible refine (stateI_hand ok g _ _ en _ FR.o.st FR.o.lo (by omega)).mono ?_); rintro e w7 ⟨rfl, hI, hB, hK⟩; replace FR := q_ (FR.o.call hI hB hK); clear hI hB hK)
    | (go_at_call 165; clear T2; (with_reducible refine (stateI_hand ok g _ _ en _ FR.o.st FR.o.lo (by omega)).mono ?_); rintro e w7 ⟨rfl, hI, hB, hK⟩; replace FR := q_ (FR.o.call hI hB hK); clear hI hB hK))
  go_ret2
  exact ⟨rfl, FR.o.fin0⟩
theorem loopS_hand {w0 : World} (ok : Nat → Prop) (g : Nat) (n op a z : Int) (es : List S187) (en : List S138) (w : World) (hI : BdS 133 w0 w ok g n es en) (hB : Below w0.heap.size w0 w) (hF : ∀ k, w.heap.size ≤ k → ok k) (hn : 0 ≤ n ∧ n ≤ 900000) (hl : es.length ≤ 900000) :
    Calls Try.prog 140 #[.pointer (some ⟨g, 0, none⟩), .int .i64 op, .int .i64 a, .int .i64 z] w fun e w' => e = .returned (.tuple #[.int .i64 (loopN op a z (n, es)).1, .int .i64 (loopN op a z (n, es)).2.1]) ∧ BdS 133 w0 w' ok g (loopN op a z (n, es)).2.2.1 (loopN op a z (n, es)).2.2.2 en ∧ Below w0.heap.size w0 w' ∧ KeepB w w' ok g := by
  have FR := q_ (FrB.here hI hB)
  have FR0 := q_ hF
  have T1 : J0 True := ⟨trivial⟩
  have T2 : J0 True := ⟨trivial⟩
  clear hI hB hF
  by_cases c6 : op = 6
  · have e6 : (op != 6) = false := bne_eq_false_iff_eq.mpr c6
    have e7 : (op != 7) = true := bne_iff_ne.mpr (by omega)
    obtain ⟨L, hL⟩ : ∃ L, L = loopN op a z (n, es) := ⟨_, rfl⟩
    rw [← hL]
    unfold loopN at hL
    rw [if_neg (show ¬ op = 7 by omega), if_pos c6] at hL
    have HL := q_ hL; clear hL c6
    go_enter Try.func140, Try.ntmps140
    go_wp2_with (first
      | (go_at_call 138; clear T1; (with_reducible refine (stateS_hand ok g _ _ en _ FR.o.st FR.o.lo (by omega)).mono ?_); rintro e w7 ⟨rfl, hI, hB, hK⟩; replace FR := q_ (FR.o.call hI hB hK); clear hI hB hK)
      | (go_at_call 138; clear T2; (with_reducible refine (stateS_hand ok g _ _ en _ FR.o.st FR.o.lo (by omega)).mono ?_); rintro e w7 ⟨rfl, hI, hB, hK⟩; replace FR := q_ (FR.o.call hI hB hK); clear hI hB hK)
      | (go_at_call 101; refine (edgeS_hand ok g _ _ _ _ en none 0 [] _ FR.o.st FR.o.lo (FR.o.fr FR0.o) (Kd.C_nil _ _) (Nat.le_refl _) (by simp) (by first | omega | (simp; omega))).mono ?_; rintro e w7 ⟨rfl, hI, hB, hK⟩; replace FR := q_ (FR.o.call hI hB hK); clear hI hB hK))
    go_ret2
    rw [HL.o]
    have e2 : n + 1 + 1 = n + 2 := by omega
    rw [e2] at FR
    exact ⟨rfl, FR.o.fin0⟩
  by_cases c7 : op = 7
  · have e6 : (op != 6) = true := bne_iff_ne.mpr c6
    have e7 : (op != 7) = false := bne_eq_false_iff_eq.mpr c7
    obtain ⟨L, hL⟩ : ∃ L, L = loopN op a z (n, es) := ⟨_, rfl⟩
    rw [← hL]
    unfold loopN at hL
    rw [if_pos c7, if_neg c6] at hL
    have HL := q_ hL; clear hL c6 c7
    go_enter Try.func140, Try.ntmps140
    go_wp2_with (first
      | (go_at_call 138; clear T1; (with_reducible refine (stateS_hand ok g _ _ en _ FR.o.st FR.o.lo (by omega)).mono ?_); rintro e w7 ⟨rfl, hI, hB, hK⟩; replace FR := q_ (FR.o.call hI hB hK); clear hI hB hK)
      | (go_at_call 138; clear T2; (with_reducible refine (stateS_hand ok g _ _ en _ FR.o.st FR.o.lo (by omega)).mono ?_); rintro e w7 ⟨rfl, hI, hB, hK⟩; replace FR := q_ (FR.o.call hI hB hK); clear hI hB hK)
      | (go_at_call 101; refine (edgeS_hand ok g _ _ _ _ en none 0 [] _ FR.o.st FR.o.lo (FR.o.fr FR0.o) (Kd.C_nil _ _) (Nat.le_refl _) (by simp) (by first | omega | (simp; omega))).mono ?_; rintro e w7 ⟨rfl, hI, hB, hK⟩; replace FR := q_ (FR.o.call hI hB hK); clear hI hB hK))
    go_ret2
    rw [HL.o]
    have e2 : n + 1 + 1 = n + 2 := by omega
    rw [e2] at FR
    exact ⟨rfl, FR.o.fin0⟩
  · have e6 : (op != 6) = true := bne_iff_ne.mpr c6
    have e7 : (op != 7) = true := bne_iff_ne.mpr c7
    obtain ⟨L, hL⟩ : ∃ L, L = loopN op a z (n, es) := ⟨_, rfl⟩
    rw [← hL]
    unfold loopN at hL
    rw [if_neg c7, if_neg c6] at hL
    have HL := q_ hL; clear hL c6 c7
    go_enter Try.func140, Try.ntmps140
    go_wp2_with (first
      | (go_at_call 138; clear T1; (with_reducible refine (stateS_hand ok g _ _ en _ FR.o.st FR.o.lo (by omega)).mono ?_); rintro e w7 ⟨rfl, hI, hB, hK⟩; replace FR := q_ (FR.o.call hI hB hK); clear hI hB hK)
      | (go_at_call 138; clear T2; (with_reducible refine (stateS_hand ok g _ _ en _ FR.o.st FR.o.lo (by omega)).mono ?_); rintro e w7 ⟨rfl, hI, hB, hK⟩; replace FR := q_ (FR.o.call hI hB hK); clear hI hB hK)
      | (go_at_call 101; refine (edgeS_hand ok g _ _ _ _ en none 0 [] _ FR.o.st FR.o.lo (FR.o.fr FR0.o) (Kd.C_nil _ _) (Nat.le_refl _) (by simp) (by first | omega | (simp; omega))).mono ?_; rintro e w7 ⟨rfl, hI, hB, hK⟩; replace FR := q_ (FR.o.call hI hB hK); clear hI hB hK))
    go_ret2
    rw [HL.o]
    have e2 : n + 1 + 1 = n + 2 := by omega
    rw [e2] at FR
    exact ⟨rfl, FR.o.fin0⟩
def PartC (F T : Nat) (w0 : World) (A : Option Addr) (c : Nat) (l : List S156) (i : Int) (P : NB → NR) : Prop :=
  ∀ (ok : Nat → Prop) (g : Nat) (n : Int) (es : List S187) (en : List S138) (w : World), BdS T w0 w ok g n es en → Below w0.heap.size w0 w → (∀ k, w.heap.size ≤ k → ok k) → Bn 60000 (n, es) →
    Calls Try.prog F #[.pointer (some ⟨g, 0, none⟩), .agg #[.slice A l.length c], .int .i64 i] w fun e w' => e = .returned (.tuple #[.int .i64 (P (n, es)).1, .int .i64 (P (n, es)).2.1]) ∧ BdS T w0 w' ok g (P (n, es)).2.2.1 (P (n, es)).2.2.2 en ∧ Below w0.heap.size w0 w' ∧ KeepB w w' ok g
theorem PartC.at {F T : Nat} {w0 : World} {A : Option Addr} {c : Nat} {l : List S156} {i : Int} {P : NB → NR} (h : PartC F T w0 A c l i P) {n a z n2 : Int} {es es2 : List S187} (hq : (a, z, n2, es2) = P (n, es)) (hn : Bn 60000 (n, es)) {ok : Nat → Prop} {g : Nat} {en : List S138} {w : World} (h1 : BdS T w0 w ok g n es en) (h2 : Below w0.heap.size w0 w) (h3 : ∀ k, w.heap.size ≤ k → ok k) :
    Calls Try.prog F #[.pointer (some ⟨g, 0, none⟩), .agg #[.slice A l.length c], .int .i64 i] w fun e w' => e = .returned (.tuple #[.int .i64 a, .int .i64 z]) ∧ BdS T w0 w' ok g n2 es2 en ∧ Below w0.heap.size w0 w' ∧ KeepB w w' ok g := by
  have h4 := h ok g n es en w h1 h2 h3 hn
  rw [← hq] at h4
  exact h4
theorem repeatedI_hand {w0 : World} {A : Option Addr} {c : Nat} {l : List S156} {i : Int} {P : NB → NR} {C : Nat} (hP : PartC 106 144 w0 A c l i P) (hb : BnP C P) (hC : C ≤ 20000) (ok : Nat → Prop) (g : Nat) (n op : Int) (es : List S187) (en : List S138) (w : World) (hI : BdS 144 w0 w ok g n es en) (hB : Below w0.heap.size w0 w) (hF : ∀ k, w.heap.size ≤ k → ok k) (hn : Bn 40000 (n, es)) :
    Calls Try.prog 145 #[.pointer (some ⟨g, 0, none⟩), .agg #[.slice A l.length c], .int .i64 op, .int .i64 i] w fun e w' => e = .returned (.tuple #[.int .i64 (loopN op (P (n, es)).1 (P (n, es)).2.1 (P (n, es)).2.2).1, .int .i64 (loopN op (P (n, es)).1 (P (n, es)).2.1 (P (n, es)).2.2).2.1]) ∧ BdS 144 w0 w' ok g (loopN op (P (n, es)).1 (P (n, es)).2.1 (P (n, es)).2.2).2.2.1 (loopN op (P (n, es)).1 (P (n, es)).2.1 (P (n, es)).2.2).2.2.2 en ∧ Below w0.heap.size w0 w' ∧ KeepB w w' ok g := by
  have hbn := hb 40000 (n, es) hn
  obtain ⟨⟨a, z, n2, es2⟩, hq⟩ : ∃ q, q = P (n, es) := ⟨_, rfl⟩
  rw [← hq] at hbn ⊢
  obtain ⟨hb0, hb1, hb2⟩ := hbn
  dsimp only at hb0 hb1 hb2
  have hb3 : n2 ≤ 900000 := by omega
  have hb4 : es2.length ≤ 900000 := by omega
  have HP := q_ hP; have HQ := q_ hq; have HN := q_ (hn.le (show 40000 ≤ 60000 by omega)); have HI := q_ hI; have HB0 := q_ hB; have HF := q_ hF
  have T0 : J0 True := ⟨trivial⟩
  clear hP hb hC hn hq hI hB hF hb1 hb2
  by_cases c6 : op = 6
  · have e6 : (op != 6) = false := bne_eq_false_iff_eq.mpr c6
    have e7 : (op != 7) = true := bne_iff_ne.mpr (by omega)
    obtain ⟨L, hL⟩ : ∃ L, L = loopN op a z (n2, es2) := ⟨_, rfl⟩
    show Calls _ _ _ _ fun e w' => e = .returned (.tuple #[.int .i64 (loopN op a z (n2, es2)).1, .int .i64 (loopN op a z (n2, es2)).2.1]) ∧ BdS 144 w0 w' ok g (loopN op a z (n2, es2)).2.2.1 (loopN op a z (n2, es2)).2.2.2 en ∧ _
    rw [← hL]
    unfold loopN at hL
    rw [if_neg (show ¬ op = 7 by omega), if_pos c6] at hL
    have HL := q_ hL; clear hL c6
    go_enter Try.func145, Try.ntmps145
    go_wp2_with (first
      | ((with_reducible refine gate_dst (N := 5) rfl ?_); clear T0; refine bx_ 5 #[.slice A l.length c] 29 ?_; intro g1 hg w1 hbox hb; have BK1 := q_ hbox; have HW := q_ hb; have FR := q_ (FrB.start HI.o HB0.o hb); have FR0 := q_ (okF.free HF.o hb); clear hb hbox hg; obtain ⟨hcz, hfz⟩ := d1_ BK1)
      | (go_at_call 106; (with_reducible refine (HP.out.at HQ.o HN.o FR.o.st FR.o.lo (FR.o.fr FR0.o)).mono ?_); rintro e w7 ⟨rfl, hI, hB, hK⟩; replace FR := q_ (FR.o.call hI hB hK); clear hI hB hK)
      | (go_at_call 143; (with_reducible refine (pairI_hand _ g _ _ en _ FR.o.st FR.o.lo (by omega)).mono ?_); rintro e w7 ⟨rfl, hI, hB, hK⟩; replace FR := q_ (FR.o.call hI hB hK); clear hI hB hK)
      | (go_at_call 107; refine (edgeI_hand _ g _ _ _ _ en none 0 [] _ FR.o.st FR.o.lo (FR.o.fr FR0.o) (Kd.C_nil _ _) (Nat.le_refl _) (by simp) (by first | omega | (simp; omega))).mono ?_; rintro e w7 ⟨rfl, hI, hB, hK⟩; replace FR := q_ (FR.o.call hI hB hK); clear hI hB hK))
    go_ret2
    rw [HL.o]
    have e2 : n2 + 1 + 1 = n2 + 2 := by omega
    rw [e2] at FR
    exact ⟨rfl, FR.o.fin HW.o⟩
  by_cases c7 : op = 7
  · have e6 : (op != 6) = true := bne_iff_ne.mpr c6
    have e7 : (op != 7) = false := bne_eq_false_iff_eq.mpr c7
    obtain ⟨L, hL⟩ : ∃ L, L = loopN op a z (n2, es2) := ⟨_, rfl⟩
    show Calls _ _ _ _ fun e w' => e = .returned (.tuple #[.int .i64 (loopN op a z (n2, es2)).1, .int .i64 (loopN op a z (n2, es2)).2.1]) ∧ BdS 144 w0 w' ok g (loopN op a z (n2, es2)).2.2.1 (loopN op a z (n2, es2)).2.2.2 en ∧ _
    rw [← hL]
    unfold loopN at hL
    rw [if_pos c7, if_neg c6] at hL
    have HL := q_ hL; clear hL c6 c7
    go_enter Try.func145, Try.ntmps145
    go_wp2_with (first
      | ((with_reducible refine gate_dst (N := 5) rfl ?_); clear T0; refine bx_ 5 #[.slice A l.length c] 29 ?_; intro g1 hg w1 hbox hb; have BK1 := q_ hbox; have HW := q_ hb; have FR := q_ (FrB.start HI.o HB0.o hb); have FR0 := q_ (okF.free HF.o hb); clear hb hbox hg; obtain ⟨hcz, hfz⟩ := d1_ BK1)
      | (go_at_call 106; (with_reducible refine (HP.out.at HQ.o HN.o FR.o.st FR.o.lo (FR.o.fr FR0.o)).mono ?_); rintro e w7 ⟨rfl, hI, hB, hK⟩; replace FR := q_ (FR.o.call hI hB hK); clear hI hB hK)
      | (go_at_call 143; (with_reducible refine (pairI_hand _ g _ _ en _ FR.o.st FR.o.lo (by omega)).mono ?_); rintro e w7 ⟨rfl, hI, hB, hK⟩; replace FR := q_ (FR.o.call hI hB hK); clear hI hB hK)
      | (go_at_call 107; refine (edgeI_hand _ g _ _ _ _ en none 0 [] _ FR.o.st FR.o.lo (FR.o.fr FR0.o) (Kd.C_nil _ _) (Nat.le_refl _) (by simp) (by first | omega | (simp; omega))).mono ?_; rintro e w7 ⟨rfl, hI, hB, hK⟩; replace FR := q_ (FR.o.call hI hB hK); clear hI hB hK))
    go_ret2
    rw [HL.o]
    have e2 : n2 + 1 + 1 = n2 + 2 := by omega
    rw [e2] at FR
    exact ⟨rfl, FR.o.fin HW.o⟩
  · have e6 : (op != 6) = true := bne_iff_ne.mpr c6
    have e7 : (op != 7) = true := bne_iff_ne.mpr c7
    obtain ⟨L, hL⟩ : ∃ L, L = loopN op a z (n2, es2) := ⟨_, rfl⟩
    show Calls _ _ _ _ fun e w' => e = .returned (.tuple #[.int .i64 (loopN op a z (n2, es2)).1, .int .i64 (loopN op a z (n2, es2)).2.1]) ∧ BdS 144 w0 w' ok g (loopN op a z (n2, es2)).2.2.1 (loopN op a z (n2, es2)).2.2.2 en ∧ _
    rw [← hL]
    unfold loopN at hL
    rw [if_neg c7, if_neg c6] at hL
    have HL := q_ hL; clear hL c6 c7
    go_enter Try.func145, Try.ntmps145
    go_wp2_with (first
      | ((with_reducible refine gate_dst (N := 5) rfl ?_); clear T0; refine bx_ 5 #[.slice A l.length c] 29 ?_; intro g1 hg w1 hbox hb; have BK1 := q_ hbox; have HW := q_ hb; have FR := q_ (FrB.start HI.o HB0.o hb); have FR0 := q_ (okF.free HF.o hb); clear hb hbox hg; obtain ⟨hcz, hfz⟩ := d1_ BK1)
      | (go_at_call 106; (with_reducible refine (HP.out.at HQ.o HN.o FR.o.st FR.o.lo (FR.o.fr FR0.o)).mono ?_); rintro e w7 ⟨rfl, hI, hB, hK⟩; replace FR := q_ (FR.o.call hI hB hK); clear hI hB hK)
      | (go_at_call 143; (with_reducible refine (pairI_hand _ g _ _ en _ FR.o.st FR.o.lo (by omega)).mono ?_); rintro e w7 ⟨rfl, hI, hB, hK⟩; replace FR := q_ (FR.o.call hI hB hK); clear hI hB hK)
      | (go_at_call 107; refine (edgeI_hand _ g _ _ _ _ en none 0 [] _ FR.o.st FR.o.lo (FR.o.fr FR0.o) (Kd.C_nil _ _) (Nat.le_refl _) (by simp) (by first | omega | (simp; omega))).mono ?_; rintro e w7 ⟨rfl, hI, hB, hK⟩; replace FR := q_ (FR.o.call hI hB hK); clear hI hB hK))
    go_ret2
    rw [HL.o]
    have e2 : n2 + 1 + 1 = n2 + 2 := by omega
    rw [e2] at FR
    exact ⟨rfl, FR.o.fin HW.o⟩
end Go.Proofs.Ytijmhelacmjggaa.P
namespace Go.Proofs.Ytijmhelacmjggaa.P
open Go.RowKit Go.Shelf Go.Proofs.YtijmhelacmjggaaW.PrintWords Go.Proofs.YtijmhelacmjggaaW.PrintLast Go.Proofs.YtijmhelacmjggaaW.PrintMore Go.Proofs.YtijmhelacmjggaaEv
set_option linter.unusedVariables false
set_option linter.unusedSimpArgs false
attribute [local go_sem] max2_int min2_int max_two min_two
theorem tup_ {a b a2 b2 : Int} (h : a = a2) (h2 : b = b2) : Ending.returned (.tuple #[.int .i64 a, .int .i64 b]) = .returned (.tuple #[.int .i64 a2, .int .i64 b2]) := by rw [h, h2]
theorem timesL_done (P : NB → NR) (mn op i : Int) (r : NR) : timesL P mn op 0 i r = r := rfl
theorem timesL_full {P : NB → NR} {mn op : Int} {m : Nat} {i f t n : Int} {es : List S187} (h : fullB n es = true) : timesL P mn op m i (f, t, (n, es)) = (f, t, (n, es)) := by
  cases m with
  | zero => rfl
  | succ m => simp only [timesL, fullN, h, if_true]
theorem timesL_next {P : NB → NR} {mn op : Int} {m : Nat} {i f t n : Int} {es : List S187} (h : fullB n es = false) : timesL P mn op (m + 1) i (f, t, (n, es)) = timesL P mn op m (i + 1) (joinN f t (if i ≥ mn then loopN op (P (n, es)).1 (P (n, es)).2.1 (P (n, es)).2.2 else P (n, es))) := by
  simp only [timesL, fullN, h, Bool.false_eq_true, if_false]
theorem timesS_hand {w0 : World} {A : Option Addr} {c : Nat} {l : List S156} {i : Int} {P : NB → NR} {C : Nat} (hP : PartC 100 133 w0 A c l i P) (hb : BnP C P) (hC : C ≤ 20000) (ok : Nat → Prop) (g : Nat) (n : Int) (es : List S187) (en : List S138) (x : S156) (A1 : Option Addr) (c1 : Nat) (ad2 : Addr) (c2 : Nat) (w : World) (hI : BdS 133 w0 w ok g n es en) (hB : Below w0.heap.size w0 w) (hF : ∀ k, w.heap.size ≤ k → ok k) (hn : Bn 0 (n, es)) (hk0 : w0.cell? ad2 = some (.int .i64 i)) (hx2 : 0 < x.f2.length) (hx3 : 0 ≤ x.f3 ∧ x.f3 ≤ 30) (hx4 : -1 ≤ x.f4 ∧ x.f4 ≤ 30) :
    Calls Try.prog 139 #[.pointer (some ⟨g, 0, none⟩), .agg #[.slice A l.length c], .agg #[.int .i64 x.f0, .slice A1 x.f1.length c1, .slice (some ad2) x.f2.length c2, .int .i64 x.f3, .int .i64 x.f4]] w fun e w' => e = .returned (.tuple #[.int .i64 (timesS P x.f3 x.f4 (n, es)).1, .int .i64 (timesS P x.f3 x.f4 (n, es)).2.1]) ∧ BdS 133 w0 w' ok g (timesS P x.f3 x.f4 (n, es)).2.2.1 (timesS P x.f3 x.f4 (n, es)).2.2.2 en ∧ Below w0.heap.size w0 w' ∧ KeepB w w' ok g := by
  obtain ⟨R, hR⟩ : ∃ R, R = timesL P x.f3 (loopOp x.f4) (manyS x.f3 x.f4).toNat 0 (-1, -1, (n, es)) := ⟨_, rfl⟩
  unfold timesS
  rw [← hR]
  obtain ⟨M, hM⟩ : ∃ M, M = manyS x.f3 x.f4 := ⟨_, rfl⟩
  obtain ⟨O, hO⟩ : ∃ O, O = loopOp x.f4 := ⟨_, rfl⟩
  rw [← hM, ← hO] at hR
  have HR := q_ hR.symm
  have hM0 : 0 ≤ M ∧ M ≤ 31 := by
    rw [hM]
    unfold manyS
    split <;> omega
  have HP := q_ hP; have HBP := q_ hb; have HC := q_ hC; have HI := q_ hI; have HB0 := q_ hB; have HF := q_ hF; have HK0 := q_ hk0
  have HN := q_ (hn.le (show 0 ≤ C + 8 by omega))
  have HGW := q_ (Bd_lt hI)
  have T0 : J0 True := ⟨trivial⟩
  have T1 : J0 True := ⟨trivial⟩
  have z0 : (0 ≤ (0 : Int)) = True := eq_true (by omega)
  have q2 : (0 < x.f2.length) = True := eq_true hx2
  have q : (0 < (x.f2.length : Int)) = True := eq_true (by omega)
  clear hP hb hC hn hR hI hB hF hk0 hx2
  obtain ⟨hx30, hx31⟩ := hx3
  obtain ⟨hx40, hx41⟩ := hx4
  by_cases cm : x.f4 < 0
  · have em : decide (x.f4 < 0) = true := decide_eq_true cm
    have eM : M = x.f3 + 1 := by rw [hM]; unfold manyS; rw [if_pos cm]
    have eO : O = 5 := by rw [hO]; unfold loopOp; rw [if_pos cm]
    clear hM hO
    subst eM eO
    clear cm
    go_enter Try.func139, Try.ntmps139
    go_wp2_with (first
      | ((with_reducible refine gate_dst (N := 4) rfl ?_); clear T0; refine bx_ 4 #[.slice A l.length c] 29 ?_; intro g1 hg w1 hbox hb; have BK1 := q_ hbox; have HW := q_ hb; have G1 := q_ (Nat.le_of_eq hg.symm); clear hb hbox hg)
      | ((with_reducible refine gate_dst (N := 5) rfl ?_); clear T1; refine bx_ 5 #[.int .i64 x.f0, .slice A1 x.f1.length c1, .slice (some ad2) x.f2.length c2, .int .i64 x.f3, .int .i64 x.f4] 156 ?_; intro g2 hg w2 hbox hb; have BK2 := q_ hbox; have G2 := ge_ hg HW; replace BK1 := lb_ BK1 hb; replace HW := sb_ HW hb; have FR := q_ (FrB.start HI.o HB0.o HW.o); have FR0 := q_ (okF.free HF.o HW.o); clear hb hbox hg; obtain ⟨hy0, hy1, hy2, hy3, hy4, hf0, hf1, hf2, hf3, hf4⟩ := d5_ BK2))
    clear hy0 hy1 hy2 hy3 hy4 hf0 hf1 hf2 hf3 hf4
    go_loopg [8, 9, 11] (32) (fun gg v8 v9 v11 wr => ∃ (j f t n1 : Int) (es1 : List S187), v8 = .int .i64 f ∧ v9 = .int .i64 t ∧ v11 = .int .i64 j ∧ 0 ≤ j ∧ j ≤ (x.f3 + 1) ∧ ((x.f3 + 1) - j).toNat < gg ∧ J0 (timesL P x.f3 5 ((x.f3 + 1) - j).toNat j (f, t, (n1, es1)) = R) ∧ J0 (Bn (C + 8) (n1, es1)) ∧ J0 (FrB 133 w0 w2 wr (okF ok w w2) g n1 es1 en))
    case atStart => exact ⟨0, -1, -1, n, es, rfl, rfl, rfl, by omega, by omega, by omega, ⟨by rw [Int.sub_zero]; exact HR.o⟩, HN, FR⟩
    case round =>
      clear FR HN HR
      obtain ⟨j, f, t, n1, es1, rfl, rfl, rfl, hj0, hj1, hgg, HR, HN, FR⟩ := hrel
      obtain ⟨hy0, hy1, hy2, hy3, hy4, hf0, hf1, hf2, hf3, hf4⟩ := d5_ (q_ (FR.o.blk BK2.o G2.o HGW.o))
      by_cases hlt : j < (x.f3 + 1)
      · have d1 : decide (j < (x.f3 + 1)) = true := decide_eq_true hlt
        rcases hf : fullB n1 es1 with _ | _
        · have ef := hf
          have hs := Bn.small HN.o.1 (show fullN (n1, es1) = false from hf)
          have hbn := (HBP.o 0 (n1, es1) hs).le (show max 0 C ≤ C by omega)
          obtain ⟨⟨a, z, n2, es2⟩, hq⟩ : ∃ q, q = P (n1, es1) := ⟨_, rfl⟩
          have hnx := (timesL_next (P := P) (mn := x.f3) (op := 5) (m := ((x.f3 + 1) - (j + 1)).toNat) (i := j) (f := f) (t := t) hf).symm.trans (show timesL P x.f3 5 (((x.f3 + 1) - (j + 1)).toNat + 1) j (f, t, (n1, es1)) = R by rw [show ((x.f3 + 1) - (j + 1)).toNat + 1 = ((x.f3 + 1) - j).toNat by omega]; exact HR.o)
          rw [← hq] at hbn hnx
          have HNX := q_ hnx; have HQ := q_ hq; have HBN := q_ hbn
          have hs2 := HBN.o.1; have hs3 := HBN.o.2.1; have hs4 := HBN.o.2.2; have hcc := HC.o
          dsimp only at hs2 hs3 hs4
          have HS1 := q_ (hs.le (show 0 ≤ 60000 by omega))
          clear hf hs hbn hq hnx HR HN
          go_wp2_with (go_at_call 137; (with_reducible refine (fullS_hand _ g _ _ en _ FR.o.st).mono ?_); rintro e w7 ⟨rfl, rfl⟩; rw [ef])
          clear ef hy0 hy1 hy2 hy3 hy4 hf0 hf1 hf2 hf3 hf4 d1
          replace FR := q_ FR.o.drew
          refine start_ (n := 12) (S := fun w' => w'.cell? ⟨g1, 0, none⟩ = some (.slice A l.length c) ∧ w'.cell? ⟨g2, 2, none⟩ = some (.slice (some ad2) x.f2.length c2) ∧ w'.cell? ad2 = some (.int .i64 i)) (ds := []) (bb 12 0) (by kernel_rfl) rfl rfl ⟨(blk_cell (FR.o.blk BK1.o G1.o HGW.o) 0).trans rfl, (blk_cell (FR.o.blk BK2.o G2.o HGW.o) 2).trans rfl, mv_ FR.o.lo HK0.o⟩ (fun hS => ?_)
          generalize World.drew _ = wd at FR hS ⊢
          refine pk_ 0 34 1 ?_; refine pk_ 2 36 5 ?_; refine tk_ 1 35 7 hS ?_; refine tk_ 3 37 15 hS ?_; refine pk_ 4 38 31 ?_; refine tk_ 5 39 63 hS ?_
          refine one_ (i := 6) (N := some 40) (bb 12 127) rfl rfl (by kernel_rfl) (by decide) (fun K hK => ?_)
          refine gs_ Try.func100 #[.pointer (some ⟨g, 0, none⟩), .agg #[.slice A l.length c], .int .i64 i] ?_
          (with_reducible refine (HP.out.at HQ.o HS1.o FR.o.st FR.o.lo (FR.o.fr FR0.o)).mono ?_)
          rintro e w7 ⟨rfl, hI, hB, hK2⟩
          refine ⟨_, rfl, ?_⟩
          replace FR := q_ (FR.o.call hI hB hK2); clear hI hB hK2
          refine hK.out _ _ ⟨(blk_cell (FR.o.blk BK1.o G1.o HGW.o) 0).trans rfl, (blk_cell (FR.o.blk BK2.o G2.o HGW.o) 2).trans rfl, mv_ FR.o.lo HK0.o⟩ (fun hS => ?_)
          clear hK K; refine no_ (some 40) ?_
          refine pk_ 7 33 255 ?_; refine pk_ 8 41 511 ?_; refine pk_ 9 42 1023 ?_; refine pk_ 10 12 2047 ?_; refine pk_ 11 13 4095 ?_
          refine done_ (by kernel_rfl) ?_
          clear hS
          obtain ⟨hy0, hy1, hy2, hy3, hy4, hf0, hf1, hf2, hf3, hf4⟩ := d5_ (q_ (FR.o.blk BK2.o G2.o HGW.o))
          by_cases hge : j ≥ x.f3
          · by_cases hf0_ : f < 0
            · have d2 : (j ≥ x.f3) = True := eq_true (by omega)
              have d3 : decide (j ≥ x.f3) = true := by simp [d2]
              have d4 : decide (f < 0) = true := decide_eq_true hf0_
              have hb3 := HBN.o.loop 5 a z; have hb4 := hb3.1; have hb5 := hb3.2.1; have hb6 := hb3.2.2; clear hb3
              go_wp2_with (first
          | (go_at_call 140; (with_reducible refine (loopS_hand _ g _ _ _ _ _ en _ FR.o.st FR.o.lo (FR.o.fr FR0.o) (by omega) (by omega)).mono ?_); rintro e w7 ⟨rfl, hI, hB, hK⟩; replace FR := q_ (FR.o.call hI hB hK); clear hI hB hK)
          | (go_at_call 101; refine (edgeS_hand _ g _ _ _ _ en none 0 [] _ FR.o.st FR.o.lo (FR.o.fr FR0.o) (Kd.C_nil _ _) (Nat.le_refl _) (by simp) (by first | omega | (simp; omega))).mono ?_; rintro e w7 ⟨rfl, hI, hB, hK⟩; replace FR := q_ (FR.o.call hI hB hK); clear hI hB hK))
              go_roundg (((x.f3 + 1) - j).toNat)
              case measure => omega
              case rel =>
                have hn3 := HNX.o
                have hb3 := HBN.o.loop 5 a z
                rw [if_pos (by omega)] at hn3
                unfold joinN at hn3
                rw [if_pos (by omega)] at hn3
                exact ⟨j + 1, _, _, _, _, rfl, rfl, by go_num, by omega, by omega, by omega, ⟨hn3⟩, ⟨(hb3).le (by omega)⟩, FR⟩
            · have d2 : (j ≥ x.f3) = True := eq_true (by omega)
              have d3 : decide (j ≥ x.f3) = true := by simp [d2]
              have d4 : decide (f < 0) = false := decide_eq_false hf0_
              have hb3 := HBN.o.loop 5 a z; have hb4 := hb3.1; have hb5 := hb3.2.1; have hb6 := hb3.2.2; clear hb3
              go_wp2_with (first
          | (go_at_call 140; (with_reducible refine (loopS_hand _ g _ _ _ _ _ en _ FR.o.st FR.o.lo (FR.o.fr FR0.o) (by omega) (by omega)).mono ?_); rintro e w7 ⟨rfl, hI, hB, hK⟩; replace FR := q_ (FR.o.call hI hB hK); clear hI hB hK)
          | (go_at_call 101; refine (edgeS_hand _ g _ _ _ _ en none 0 [] _ FR.o.st FR.o.lo (FR.o.fr FR0.o) (Kd.C_nil _ _) (Nat.le_refl _) (by simp) (by first | omega | (simp; omega))).mono ?_; rintro e w7 ⟨rfl, hI, hB, hK⟩; replace FR := q_ (FR.o.call hI hB hK); clear hI hB hK))
              go_roundg (((x.f3 + 1) - j).toNat)
              case measure => omega
              case rel =>
                have hn3 := HNX.o
                have hb3 := HBN.o.loop 5 a z
                rw [if_pos (by omega)] at hn3
                unfold joinN at hn3
                rw [if_neg (by omega)] at hn3
                exact ⟨j + 1, _, _, _, _, rfl, rfl, by go_num, by omega, by omega, by omega, ⟨hn3⟩, ⟨(hb3.edge _ _ _).le (by omega)⟩, FR⟩
          · by_cases hf0_ : f < 0
            · have d2 : (j ≥ x.f3) = False := eq_false (by omega)
              have d3 : decide (j ≥ x.f3) = false := by simp [d2]
              have d4 : decide (f < 0) = true := decide_eq_true hf0_
              go_wp2_with (first
          | (go_at_call 140; (with_reducible refine (loopS_hand _ g _ _ _ _ _ en _ FR.o.st FR.o.lo (FR.o.fr FR0.o) (by omega) (by omega)).mono ?_); rintro e w7 ⟨rfl, hI, hB, hK⟩; replace FR := q_ (FR.o.call hI hB hK); clear hI hB hK)
          | (go_at_call 101; refine (edgeS_hand _ g _ _ _ _ en none 0 [] _ FR.o.st FR.o.lo (FR.o.fr FR0.o) (Kd.C_nil _ _) (Nat.le_refl _) (by simp) (by first | omega | (simp; omega))).mono ?_; rintro e w7 ⟨rfl, hI, hB, hK⟩; replace FR := q_ (FR.o.call hI hB hK); clear hI hB hK))
              go_roundg (((x.f3 + 1) - j).toNat)
              case measure => omega
              case rel =>
                have hn3 := HNX.o
                have hb3 := HBN.o
                rw [if_neg (by omega)] at hn3
                unfold joinN at hn3
                rw [if_pos (by omega)] at hn3
                exact ⟨j + 1, _, _, _, _, rfl, rfl, by go_num, by omega, by omega, by omega, ⟨hn3⟩, ⟨(hb3).le (by omega)⟩, FR⟩
            · have d2 : (j ≥ x.f3) = False := eq_false (by omega)
              have d3 : decide (j ≥ x.f3) = false := by simp [d2]
              have d4 : decide (f < 0) = false := decide_eq_false hf0_
              go_wp2_with (first
          | (go_at_call 140; (with_reducible refine (loopS_hand _ g _ _ _ _ _ en _ FR.o.st FR.o.lo (FR.o.fr FR0.o) (by omega) (by omega)).mono ?_); rintro e w7 ⟨rfl, hI, hB, hK⟩; replace FR := q_ (FR.o.call hI hB hK); clear hI hB hK)
          | (go_at_call 101; refine (edgeS_hand _ g _ _ _ _ en none 0 [] _ FR.o.st FR.o.lo (FR.o.fr FR0.o) (Kd.C_nil _ _) (Nat.le_refl _) (by simp) (by first | omega | (simp; omega))).mono ?_; rintro e w7 ⟨rfl, hI, hB, hK⟩; replace FR := q_ (FR.o.call hI hB hK); clear hI hB hK))
              go_roundg (((x.f3 + 1) - j).toNat)
              case measure => omega
              case rel =>
                have hn3 := HNX.o
                have hb3 := HBN.o
                rw [if_neg (by omega)] at hn3
                unfold joinN at hn3
                rw [if_neg (by omega)] at hn3
                exact ⟨j + 1, _, _, _, _, rfl, rfl, by go_num, by omega, by omega, by omega, ⟨hn3⟩, ⟨(hb3.edge _ _ _).le (by omega)⟩, FR⟩
        · have ef := hf
          have hr := (timesL_full (P := P) (mn := x.f3) (op := 5) (m := ((x.f3 + 1) - j).toNat) (i := j) (f := f) (t := t) hf).symm.trans HR.o
          subst hr
          clear hf HR
          go_wp2_with (go_at_call 137; (with_reducible refine (fullS_hand _ g _ _ en _ FR.o.st).mono ?_); rintro e w7 ⟨rfl, rfl⟩; rw [ef])
          all_goals (go_ret2; exact ⟨tup_ (by omega) (by omega), FR.o.fin HW.o⟩)
      · have d1 : decide (j < (x.f3 + 1)) = false := decide_eq_false hlt
        have hr := HR.o
        rw [show ((x.f3 + 1) - j).toNat = 0 by omega, timesL_done] at hr
        subst hr
        clear HR
        go_wp2
        all_goals (go_ret2; exact ⟨tup_ (by omega) (by omega), FR.o.fin HW.o⟩)
  · have em : decide (x.f4 < 0) = false := decide_eq_false cm
    have eM : M = x.f4 := by rw [hM]; unfold manyS; rw [if_neg cm]
    have eO : O = 7 := by rw [hO]; unfold loopOp; rw [if_neg cm]
    clear hM hO
    subst eM eO
    clear cm
    go_enter Try.func139, Try.ntmps139
    go_wp2_with (first
      | ((with_reducible refine gate_dst (N := 4) rfl ?_); clear T0; refine bx_ 4 #[.slice A l.length c] 29 ?_; intro g1 hg w1 hbox hb; have BK1 := q_ hbox; have HW := q_ hb; have G1 := q_ (Nat.le_of_eq hg.symm); clear hb hbox hg)
      | ((with_reducible refine gate_dst (N := 5) rfl ?_); clear T1; refine bx_ 5 #[.int .i64 x.f0, .slice A1 x.f1.length c1, .slice (some ad2) x.f2.length c2, .int .i64 x.f3, .int .i64 x.f4] 156 ?_; intro g2 hg w2 hbox hb; have BK2 := q_ hbox; have G2 := ge_ hg HW; replace BK1 := lb_ BK1 hb; replace HW := sb_ HW hb; have FR := q_ (FrB.start HI.o HB0.o HW.o); have FR0 := q_ (okF.free HF.o HW.o); clear hb hbox hg; obtain ⟨hy0, hy1, hy2, hy3, hy4, hf0, hf1, hf2, hf3, hf4⟩ := d5_ BK2))
    clear hy0 hy1 hy2 hy3 hy4 hf0 hf1 hf2 hf3 hf4
    go_loopg [8, 9, 11] (32) (fun gg v8 v9 v11 wr => ∃ (j f t n1 : Int) (es1 : List S187), v8 = .int .i64 f ∧ v9 = .int .i64 t ∧ v11 = .int .i64 j ∧ 0 ≤ j ∧ j ≤ x.f4 ∧ (x.f4 - j).toNat < gg ∧ J0 (timesL P x.f3 7 (x.f4 - j).toNat j (f, t, (n1, es1)) = R) ∧ J0 (Bn (C + 8) (n1, es1)) ∧ J0 (FrB 133 w0 w2 wr (okF ok w w2) g n1 es1 en))
    case atStart => exact ⟨0, -1, -1, n, es, rfl, rfl, rfl, by omega, by omega, by omega, ⟨by rw [Int.sub_zero]; exact HR.o⟩, HN, FR⟩
    case round =>
      clear FR HN HR
      obtain ⟨j, f, t, n1, es1, rfl, rfl, rfl, hj0, hj1, hgg, HR, HN, FR⟩ := hrel
      obtain ⟨hy0, hy1, hy2, hy3, hy4, hf0, hf1, hf2, hf3, hf4⟩ := d5_ (q_ (FR.o.blk BK2.o G2.o HGW.o))
      by_cases hlt : j < x.f4
      · have d1 : decide (j < x.f4) = true := decide_eq_true hlt
        rcases hf : fullB n1 es1 with _ | _
        · have ef := hf
          have hs := Bn.small HN.o.1 (show fullN (n1, es1) = false from hf)
          have hbn := (HBP.o 0 (n1, es1) hs).le (show max 0 C ≤ C by omega)
          obtain ⟨⟨a, z, n2, es2⟩, hq⟩ : ∃ q, q = P (n1, es1) := ⟨_, rfl⟩
          have hnx := (timesL_next (P := P) (mn := x.f3) (op := 7) (m := (x.f4 - (j + 1)).toNat) (i := j) (f := f) (t := t) hf).symm.trans (show timesL P x.f3 7 ((x.f4 - (j + 1)).toNat + 1) j (f, t, (n1, es1)) = R by rw [show (x.f4 - (j + 1)).toNat + 1 = (x.f4 - j).toNat by omega]; exact HR.o)
          rw [← hq] at hbn hnx
          have HNX := q_ hnx; have HQ := q_ hq; have HBN := q_ hbn
          have hs2 := HBN.o.1; have hs3 := HBN.o.2.1; have hs4 := HBN.o.2.2; have hcc := HC.o
          dsimp only at hs2 hs3 hs4
          have HS1 := q_ (hs.le (show 0 ≤ 60000 by omega))
          clear hf hs hbn hq hnx HR HN
          go_wp2_with (go_at_call 137; (with_reducible refine (fullS_hand _ g _ _ en _ FR.o.st).mono ?_); rintro e w7 ⟨rfl, rfl⟩; rw [ef])
          clear ef hy0 hy1 hy2 hy3 hy4 hf0 hf1 hf2 hf3 hf4 d1
          replace FR := q_ FR.o.drew
          refine start_ (n := 12) (S := fun w' => w'.cell? ⟨g1, 0, none⟩ = some (.slice A l.length c) ∧ w'.cell? ⟨g2, 2, none⟩ = some (.slice (some ad2) x.f2.length c2) ∧ w'.cell? ad2 = some (.int .i64 i)) (ds := []) (bb 12 0) (by kernel_rfl) rfl rfl ⟨(blk_cell (FR.o.blk BK1.o G1.o HGW.o) 0).trans rfl, (blk_cell (FR.o.blk BK2.o G2.o HGW.o) 2).trans rfl, mv_ FR.o.lo HK0.o⟩ (fun hS => ?_)
          generalize World.drew _ = wd at FR hS ⊢
          refine pk_ 0 34 1 ?_; refine pk_ 2 36 5 ?_; refine tk_ 1 35 7 hS ?_; refine tk_ 3 37 15 hS ?_; refine pk_ 4 38 31 ?_; refine tk_ 5 39 63 hS ?_
          refine one_ (i := 6) (N := some 40) (bb 12 127) rfl rfl (by kernel_rfl) (by decide) (fun K hK => ?_)
          refine gs_ Try.func100 #[.pointer (some ⟨g, 0, none⟩), .agg #[.slice A l.length c], .int .i64 i] ?_
          (with_reducible refine (HP.out.at HQ.o HS1.o FR.o.st FR.o.lo (FR.o.fr FR0.o)).mono ?_)
          rintro e w7 ⟨rfl, hI, hB, hK2⟩
          refine ⟨_, rfl, ?_⟩
          replace FR := q_ (FR.o.call hI hB hK2); clear hI hB hK2
          refine hK.out _ _ ⟨(blk_cell (FR.o.blk BK1.o G1.o HGW.o) 0).trans rfl, (blk_cell (FR.o.blk BK2.o G2.o HGW.o) 2).trans rfl, mv_ FR.o.lo HK0.o⟩ (fun hS => ?_)
          clear hK K; refine no_ (some 40) ?_
          refine pk_ 7 33 255 ?_; refine pk_ 8 41 511 ?_; refine pk_ 9 42 1023 ?_; refine pk_ 10 12 2047 ?_; refine pk_ 11 13 4095 ?_
          refine done_ (by kernel_rfl) ?_
          clear hS
          obtain ⟨hy0, hy1, hy2, hy3, hy4, hf0, hf1, hf2, hf3, hf4⟩ := d5_ (q_ (FR.o.blk BK2.o G2.o HGW.o))
          by_cases hge : j ≥ x.f3
          · by_cases hf0_ : f < 0
            · have d2 : (j ≥ x.f3) = True := eq_true (by omega)
              have d3 : decide (j ≥ x.f3) = true := by simp [d2]
              have d4 : decide (f < 0) = true := decide_eq_true hf0_
              have hb3 := HBN.o.loop 7 a z; have hb4 := hb3.1; have hb5 := hb3.2.1; have hb6 := hb3.2.2; clear hb3
              go_wp2_with (first
          | (go_at_call 140; (with_reducible refine (loopS_hand _ g _ _ _ _ _ en _ FR.o.st FR.o.lo (FR.o.fr FR0.o) (by omega) (by omega)).mono ?_); rintro e w7 ⟨rfl, hI, hB, hK⟩; replace FR := q_ (FR.o.call hI hB hK); clear hI hB hK)
          | (go_at_call 101; refine (edgeS_hand _ g _ _ _ _ en none 0 [] _ FR.o.st FR.o.lo (FR.o.fr FR0.o) (Kd.C_nil _ _) (Nat.le_refl _) (by simp) (by first | omega | (simp; omega))).mono ?_; rintro e w7 ⟨rfl, hI, hB, hK⟩; replace FR := q_ (FR.o.call hI hB hK); clear hI hB hK))
              go_roundg ((x.f4 - j).toNat)
              case measure => omega
              case rel =>
                have hn3 := HNX.o
                have hb3 := HBN.o.loop 7 a z
                rw [if_pos (by omega)] at hn3
                unfold joinN at hn3
                rw [if_pos (by omega)] at hn3
                exact ⟨j + 1, _, _, _, _, rfl, rfl, by go_num, by omega, by omega, by omega, ⟨hn3⟩, ⟨(hb3).le (by omega)⟩, FR⟩
            · have d2 : (j ≥ x.f3) = True := eq_true (by omega)
              have d3 : decide (j ≥ x.f3) = true := by simp [d2]
              have d4 : decide (f < 0) = false := decide_eq_false hf0_
              have hb3 := HBN.o.loop 7 a z; have hb4 := hb3.1; have hb5 := hb3.2.1; have hb6 := hb3.2.2; clear hb3
              go_wp2_with (first
          | (go_at_call 140; (with_reducible refine (loopS_hand _ g _ _ _ _ _ en _ FR.o.st FR.o.lo (FR.o.fr FR0.o) (by omega) (by omega)).mono ?_); rintro e w7 ⟨rfl, hI, hB, hK⟩; replace FR := q_ (FR.o.call hI hB hK); clear hI hB hK)
          | (go_at_call 101; refine (edgeS_hand _ g _ _ _ _ en none 0 [] _ FR.o.st FR.o.lo (FR.o.fr FR0.o) (Kd.C_nil _ _) (Nat.le_refl _) (by simp) (by first | omega | (simp; omega))).mono ?_; rintro e w7 ⟨rfl, hI, hB, hK⟩; replace FR := q_ (FR.o.call hI hB hK); clear hI hB hK))
              go_roundg ((x.f4 - j).toNat)
              case measure => omega
              case rel =>
                have hn3 := HNX.o
                have hb3 := HBN.o.loop 7 a z
                rw [if_pos (by omega)] at hn3
                unfold joinN at hn3
                rw [if_neg (by omega)] at hn3
                exact ⟨j + 1, _, _, _, _, rfl, rfl, by go_num, by omega, by omega, by omega, ⟨hn3⟩, ⟨(hb3.edge _ _ _).le (by omega)⟩, FR⟩
          · by_cases hf0_ : f < 0
            · have d2 : (j ≥ x.f3) = False := eq_false (by omega)
              have d3 : decide (j ≥ x.f3) = false := by simp [d2]
              have d4 : decide (f < 0) = true := decide_eq_true hf0_
              go_wp2_with (first
          | (go_at_call 140; (with_reducible refine (loopS_hand _ g _ _ _ _ _ en _ FR.o.st FR.o.lo (FR.o.fr FR0.o) (by omega) (by omega)).mono ?_); rintro e w7 ⟨rfl, hI, hB, hK⟩; replace FR := q_ (FR.o.call hI hB hK); clear hI hB hK)
          | (go_at_call 101; refine (edgeS_hand _ g _ _ _ _ en none 0 [] _ FR.o.st FR.o.lo (FR.o.fr FR0.o) (Kd.C_nil _ _) (Nat.le_refl _) (by simp) (by first | omega | (simp; omega))).mono ?_; rintro e w7 ⟨rfl, hI, hB, hK⟩; replace FR := q_ (FR.o.call hI hB hK); clear hI hB hK))
              go_roundg ((x.f4 - j).toNat)
              case measure => omega
              case rel =>
                have hn3 := HNX.o
                have hb3 := HBN.o
                rw [if_neg (by omega)] at hn3
                unfold joinN at hn3
                rw [if_pos (by omega)] at hn3
                exact ⟨j + 1, _, _, _, _, rfl, rfl, by go_num, by omega, by omega, by omega, ⟨hn3⟩, ⟨(hb3).le (by omega)⟩, FR⟩
            · have d2 : (j ≥ x.f3) = False := eq_false (by omega)
              have d3 : decide (j ≥ x.f3) = false := by simp [d2]
              have d4 : decide (f < 0) = false := decide_eq_false hf0_
              go_wp2_with (first
          | (go_at_call 140; (with_reducible refine (loopS_hand _ g _ _ _ _ _ en _ FR.o.st FR.o.lo (FR.o.fr FR0.o) (by omega) (by omega)).mono ?_); rintro e w7 ⟨rfl, hI, hB, hK⟩; replace FR := q_ (FR.o.call hI hB hK); clear hI hB hK)
          | (go_at_call 101; refine (edgeS_hand _ g _ _ _ _ en none 0 [] _ FR.o.st FR.o.lo (FR.o.fr FR0.o) (Kd.C_nil _ _) (Nat.le_refl _) (by simp) (by first | omega | (simp; omega))).mono ?_; rintro e w7 ⟨rfl, hI, hB, hK⟩; replace FR := q_ (FR.o.call hI hB hK); clear hI hB hK))
              go_roundg ((x.f4 - j).toNat)
              case measure => omega
              case rel =>
                have hn3 := HNX.o
                have hb3 := HBN.o
                rw [if_neg (by omega)] at hn3
                unfold joinN at hn3
                rw [if_neg (by omega)] at hn3
                exact ⟨j + 1, _, _, _, _, rfl, rfl, by go_num, by omega, by omega, by omega, ⟨hn3⟩, ⟨(hb3.edge _ _ _).le (by omega)⟩, FR⟩
        · have ef := hf
          have hr := (timesL_full (P := P) (mn := x.f3) (op := 7) (m := (x.f4 - j).toNat) (i := j) (f := f) (t := t) hf).symm.trans HR.o
          subst hr
          clear hf HR
          go_wp2_with (go_at_call 137; (with_reducible refine (fullS_hand _ g _ _ en _ FR.o.st).mono ?_); rintro e w7 ⟨rfl, rfl⟩; rw [ef])
          all_goals (go_ret2; exact ⟨tup_ (by omega) (by omega), FR.o.fin HW.o⟩)
      · have d1 : decide (j < x.f4) = false := decide_eq_false hlt
        have hr := HR.o
        rw [show (x.f4 - j).toNat = 0 by omega, timesL_done] at hr
        subst hr
        clear HR
        go_wp2
        all_goals (go_ret2; exact ⟨tup_ (by omega) (by omega), FR.o.fin HW.o⟩)
end Go.Proofs.Ytijmhelacmjggaa.P
namespace Go.Proofs.Ytijmhelacmjggaa.P
open Go.RowKit Go.Shelf Go.Proofs.YtijmhelacmjggaaW.PrintWords Go.Proofs.YtijmhelacmjggaaW.PrintLast Go.Proofs.YtijmhelacmjggaaW.PrintMore Go.Proofs.YtijmhelacmjggaaEv
set_option linter.unusedVariables false
set_option linter.unusedSimpArgs false
theorem partS_hand {w0 : World} {A : Option Addr} {c : Nat} {l : List S156} (hr : Kd.C k156 w0 A l.length l) (hc : l.length ≤ c) (hok : ∀ j, j < l.length → nodeAt l j = true) : ∀ (k : Nat) (i : Int), 0 ≤ i → i < (l.length : Int) → i.toNat < k → k ≤ 1000 → PartC 100 133 w0 A c l i (partN timesS l k i) := by
  intro k
  induction k with
  | zero => intro i _ _ h; omega
  | succ k ih =>
  intro i p0 q0 hik hk1 ok g n es en w hI hB hF hn
  have hnode := hok i.toNat (by omega)
  rw [← Int.toNat_of_nonneg p0] at hik
  have hops := node_ops hnode
  have hkid := node_kid hnode
  rw [Int.toNat_of_nonneg p0] at hops hkid hik
  have hcls : (rd_T156 l i).f1.length ≤ 1048576 := by
    have := node_set_few hnode
    rw [Int.toNat_of_nonneg p0] at this
    omega
  have htms := fun h8 : (rd_T156 l i).f0 = 8 => (Int.toNat_of_nonneg p0 ▸ (node_counts hnode)) h8
  have hPC : ∀ t : Nat, t < (rd_T156 l i).f2.length → PartC 100 133 w0 A c l (rd (rd_T156 l i).f2 (t : Int)) (partN timesS l k (rd (rd_T156 l i).f2 (t : Int))) := fun t ht => by
    obtain ⟨h1, h2⟩ := hkid t ht
    exact ih _ (by omega) (by omega) (by omega) (by omega)
  have hP0 := hPC 0; have hP1 := hPC 1
  simp only [Int.ofNat_zero, Int.natCast_one, Int.cast_ofNat_Int] at hP0 hP1
  clear hPC hkid ih hnode
  have hbp0 := partS_bn l k (rd (rd_T156 l i).f2 0); have hbp1 := partS_bn l k (rd (rd_T156 l i).f2 1)
  have HGW := q_ (Bd_lt hI)
  have T0 : J0 True := ⟨trivial⟩; have T1 : J0 True := ⟨trivial⟩; have T2 : J0 True := ⟨trivial⟩; have T3 : J0 True := ⟨trivial⟩
  rcases hf : fullB n es with _ | _
  rotate_left
  · rw [full_part timesS l (k + 1) i (show fullN (n, es) = true from hf)]
    have HI := q_ hI; have HB0 := q_ hB; have HF := q_ hF; have ef := hf
    clear hI hB hF hn hf hops htms hP0 hP1 hbp0 hbp1 hcls p0 q0 hik hr hc hok
    go_enter Try.func100, Try.ntmps100
    go_wp2_with (first
      | ((with_reducible refine gate_dst (N := 4) rfl ?_); clear T0; refine bx_ 4 #[.slice A l.length c] 29 ?_; intro g1 hg w1 hbox hb; have HW := q_ hb; have FR := q_ (FrB.start HI.o HB0.o hb); have FR0 := q_ (okF.free HF.o hb); clear hb hbox hg)
      | (go_at_call 137; (with_reducible refine (fullS_hand _ g _ _ en _ FR.o.st).mono ?_); rintro e w7 ⟨rfl, rfl⟩; rw [ef]))
    go_ret2
    exact ⟨rfl, FR.o.fin HW.o⟩
  have hs := Bn.small hn.1 (show fullN (n, es) = false from hf)
  have hs1 := hs.1; have hs2 := hs.2.1; have hs3 := hs.2.2
  dsimp only at hs1 hs2 hs3
  obtain ⟨ad, A1, c1, A2, c2, e, hx0, hx1, hx2, hx3, hx4, hl1, hi1, hl2, hi2⟩ := at_T156 hr i p0 q0
  subst e
  rw [partN_succ timesS l k i (show fullN (n, es) = false from hf)]
  generalize hPP0 : partN timesS l k (rd (rd_T156 l i).f2 0) = P0 at *; generalize hPP1 : partN timesS l k (rd (rd_T156 l i).f2 1) = P1 at *
  clear hPP0 hPP1
  generalize rd_T156 l i = x at *
  generalize hR : stepN timesS x P0 P1 (n, es) = R
  have HRR := q_ hR; clear hR
  have HR := q_ hr; have HC := q_ hc; have HI1 := q_ hi1; have HL1 := q_ hl1; have HI2 := q_ hi2; have HX1 := q_ hcls; have HOPS := q_ hops; have HTMS := q_ htms; have HP0 := q_ hP0; have HP1 := q_ hP1; have HBP0 := q_ hbp0; have HBP1 := q_ hbp1; have HS := q_ hs; have HI := q_ hI; have HB0 := q_ hB; have HF := q_ hF; have ef := hf
  clear hr hc hok hi1 hl1 hl2 hi2 hcls hops htms hP0 hP1 hbp0 hbp1 hs hI hB hF hf hn hik
  replace p0 := eq_true p0; replace q0 := eq_true q0
  go_enter Try.func100, Try.ntmps100
  go_upto_region 5 with (first
    | ((with_reducible refine gate_dst (N := 4) rfl ?_); clear T0; refine bx_ 4 #[.slice (some ad) l.length c] 29 ?_; intro g1 hg w1 hbox hb; have BK1 := q_ hbox; have HW := q_ hb; have FR := q_ (FrB.start HI.o HB0.o hb); have G1 := q_ (Nat.le_of_eq hg.symm); have HLO := q_ (FR.o.lo); replace hx0 := mv_ HLO.o hx0; replace hx1 := mv_ HLO.o hx1; replace hx2 := mv_ HLO.o hx2; replace hx3 := mv_ HLO.o hx3; replace hx4 := mv_ HLO.o hx4; clear hb hbox hg HLO; obtain ⟨hcz, hfz⟩ := d1_ BK1)
    | (go_at_call 137; (with_reducible refine (fullS_hand _ g _ _ en _ FR.o.st).mono ?_); rintro e w7 ⟨rfl, rfl⟩; rw [ef])
    | ((with_reducible refine gate_dst (N := 8) rfl ?_); clear T1; refine bx_ 8 #[.int .i64 0, .slice none 0 0, .slice none 0 0, .int .i64 0, .int .i64 0] 156 ?_; intro g3 hg w3 hbox hb; have BK3 := q_ hbox; have G3 := ge_ hg HW; have NB := nl_ hg BK1; replace BK1 := lb_ BK1 hb; replace HW := sb_ HW hb; clear hb hbox hg; obtain ⟨hy0, hy1, hy2, hy3, hy4, hf0, hf1, hf2, hf3, hf4⟩ := d5_ BK3))
  generalize hW_ : (((((w3.setCell ⟨g3, 0, none⟩ (.int .i64 x.f0)).setCell ⟨g3, 1, none⟩ (.slice A1 x.f1.length c1)).setCell ⟨g3, 2, none⟩ (.slice A2 x.f2.length c2)).setCell ⟨g3, 3, none⟩ (.int .i64 x.f3)).setCell ⟨g3, 4, none⟩ (.int .i64 x.f4)) = w5
  replace BK1 := bf5_ hW_ BK1 NB; replace BK3 := bp5_ hW_ BK3; replace HW := bw5_ hW_ (be2_ HW.o G1.o G3.o)
  clear hW_ hx0 hx1 hx2 hx3 hx4 hcz hfz hy0 hy1 hy2 hy3 hy4 hf0 hf1 hf2 hf3 hf4 NB p0 q0 ef FR
  have FR := q_ (FrB.start HI.o HB0.o HW.o); have FR0 := q_ (okF.free HF.o HW.o)
  clear HI HB0 HF
  rcases HOPS.o with h | ⟨h, hl⟩ | ⟨h, hl⟩
  · have hR := HRR.o
    clear HRR
    unfold stepN at hR
    rw [if_pos h] at hR
    unfold setN at hR
    have HRR := q_ hR; clear hR
    clear HOPS HTMS HP0 HP1 HBP0 HBP1 HR
    obtain ⟨hy0, hy1, hy2, hy3, hy4, hf0, hf1, hf2, hf3, hf4⟩ := d5_ (q_ (FR.o.blk BK3.o G3.o HGW.o)); obtain ⟨hcz, hfz⟩ := d1_ (q_ (FR.o.blk BK1.o G1.o HGW.o))
    have hor : ((x.f0 == 1) = true) ∨ ((x.f0 == 1) = false ∧ (x.f0 == 2) = true) := by
      rcases h with h | h
      · exact .inl (beq_iff_eq.mpr h)
      · exact .inr ⟨beq_eq_false_iff_ne.mpr (by omega), beq_iff_eq.mpr h⟩
    clear h
    rcases hor with e1 | ⟨n1, e2⟩
    all_goals
      go_wp2_with (first
      | (go_at_call 138; clear T2; (with_reducible refine (stateS_hand _ g _ _ en _ FR.o.st FR.o.lo (by omega)).mono ?_); rintro e w7 ⟨rfl, hI, hB, hK2⟩; replace FR := q_ (FR.o.call hI hB hK2); clear hI hB hK2; clear hy0 hy1 hy2 hy3 hy4 hf0 hf1 hf2 hf3 hf4 hcz hfz; obtain ⟨hy0, hy1, hy2, hy3, hy4, hf0, hf1, hf2, hf3, hf4⟩ := d5_ (q_ (FR.o.blk BK3.o G3.o HGW.o)); obtain ⟨hcz, hfz⟩ := d1_ (q_ (FR.o.blk BK1.o G1.o HGW.o)))
      | (go_at_call 138; clear T3; (with_reducible refine (stateS_hand _ g _ _ en _ FR.o.st FR.o.lo (by omega)).mono ?_); rintro e w7 ⟨rfl, hI, hB, hK2⟩; replace FR := q_ (FR.o.call hI hB hK2); clear hI hB hK2; clear hy0 hy1 hy2 hy3 hy4 hf0 hf1 hf2 hf3 hf4 hcz hfz; obtain ⟨hy0, hy1, hy2, hy3, hy4, hf0, hf1, hf2, hf3, hf4⟩ := d5_ (q_ (FR.o.blk BK3.o G3.o HGW.o)); obtain ⟨hcz, hfz⟩ := d1_ (q_ (FR.o.blk BK1.o G1.o HGW.o)))
      | (go_at_call 101; refine (edgeS_hand _ g _ _ _ _ en A1 c1 x.f1 _ FR.o.st FR.o.lo (FR.o.fr FR0.o) (Kd.C_below HI1.o FR.o.lo) HL1.o HX1.o (by first | omega | (simp; omega))).mono ?_; rintro e w7 ⟨rfl, hI, hB, hK2⟩; replace FR := q_ (FR.o.call hI hB hK2); clear hI hB hK2))
      go_ret2
      have h2 : n + 1 + 1 = n + 2 := by omega
      rw [h2] at FR
      rw [← HRR.o]
      exact ⟨rfl, FR.o.fin HW.o⟩
  · have hR := HRR.o
    clear HRR
    unfold stepN at hR
    rw [if_neg (by omega)] at hR
    rcases h with h | h
    · rw [if_pos h] at hR
      unfold catN at hR
      have hlen := hl
      obtain ⟨ad2, e, hk0⟩ := Kd.at_int HI2.o 0 (by omega) (by omega)
      subst e
      rw [show (0 : Int).toNat = 0 from rfl, Addr.add_zero'] at hk0
      have HK0 := q_ hk0; clear hk0
      have q2 : (0 < x.f2.length) = True := eq_true (by omega)
      have q := (eq_true (by omega : 0 < (x.f2.length : Int)) : (0 < (x.f2.length : Int)) = True)
      have z0 : (0 ≤ (0 : Int)) = True := eq_true (by omega)
      obtain ⟨ad3, e, hk1⟩ := Kd.at_int HI2.o 1 (by omega) (by omega)
      obtain rfl : ad2 = ad3 := by injection e
      clear e
      simp only [show (1 : Int).toNat = 1 from rfl, Go.Addr.add, Nat.reduceMul, Nat.reduceEqDiff, ↓reduceIte] at hk1
      have HK1 := q_ hk1; clear hk1
      have q3 : (1 < x.f2.length) = True := eq_true (by omega)
      have qq := (eq_true (by omega : 1 < (x.f2.length : Int)) : (1 < (x.f2.length : Int)) = True)
      have z1 : (0 ≤ (1 : Int)) = True := eq_true (by omega)
      have hbn := (HBP0.o 0 (n, es) HS.o).le (show max 0 (16 * k) ≤ 60000 by omega)
      obtain ⟨⟨a, z, n2, es2⟩, hq⟩ : ∃ q, q = P0 (n, es) := ⟨_, rfl⟩
      rw [← hq] at hbn hR
      dsimp only at hbn hR
      have hb4 := hbn.1; have hb5 := hbn.2.1; have hb6 := hbn.2.2
      dsimp only at hb4 hb5 hb6
      have HQ0 := q_ hq; have HN0 := q_ (HS.o.le (show 0 ≤ 60000 by omega)); have HN1 := q_ hbn; have HPC0 := q_ (HP0.o (by omega))
      clear hbn hq
      have hbn := (HBP1.o (16 * k) (n2, es2) (by have h := (HBP0.o 0 (n, es) HS.o).le (show max 0 (16 * k) ≤ 16 * k by omega); rw [← HQ0.o] at h; exact h)).le (show max (16 * k) (16 * k) ≤ 60000 by omega)
      obtain ⟨⟨b, y, n3, es3⟩, hq⟩ : ∃ q, q = P1 (n2, es2) := ⟨_, rfl⟩
      rw [← hq] at hbn hR
      dsimp only at hbn hR
      have hb7 := hbn.1; have hb8 := hbn.2.1; have hb9 := hbn.2.2
      dsimp only at hb7 hb8 hb9
      have HRR := q_ hR; clear hR
      have HQ1 := q_ hq; have HPC1 := q_ (HP1.o (by omega))
      clear hbn hq
      have e3 : (x.f0 == 3) = true := beq_iff_eq.mpr h
      have ne1 : (x.f0 == 1) = false := beq_eq_false_iff_ne.mpr (by omega)
      have ne2 : (x.f0 == 2) = false := beq_eq_false_iff_ne.mpr (by omega)
      have ne8 : (x.f0 == 8) = false := beq_eq_false_iff_ne.mpr (by omega)
      clear h HOPS HTMS HP0 HP1 HBP0 HBP1 HR HI2
      obtain ⟨hy0, hy1, hy2, hy3, hy4, hf0, hf1, hf2, hf3, hf4⟩ := d5_ (q_ (FR.o.blk BK3.o G3.o HGW.o)); obtain ⟨hcz, hfz⟩ := d1_ (q_ (FR.o.blk BK1.o G1.o HGW.o))
      go_wp2
      clear hy0 hy1 hy2 hy3 hy4 hf0 hf1 hf2 hf3 hf4 hcz hfz
      replace FR := q_ FR.o.drew
      refine start_ (n := 12) (S := fun w' => w'.cell? ⟨g1, 0, none⟩ = some (.slice (some ad) l.length c) ∧ w'.cell? ⟨g3, 2, none⟩ = some (.slice (some ad2) x.f2.length c2) ∧ w'.cell? ad2 = some (.int .i64 (rd x.f2 0))) (ds := []) (bb 12 0) (by kernel_rfl) rfl rfl ⟨(blk_cell (FR.o.blk BK1.o G1.o HGW.o) 0).trans rfl, (blk_cell (FR.o.blk BK3.o G3.o HGW.o) 2).trans rfl, mv_ FR.o.lo HK0.o⟩ (fun hS => ?_)
      generalize World.drew _ = wd at FR hS ⊢
      refine pk_ 0 52 1 ?_; refine pk_ 2 54 5 ?_; refine tk_ 1 53 7 hS ?_; refine tk_ 3 55 15 hS ?_; refine pk_ 4 56 31 ?_; refine tk_ 5 57 63 hS ?_
      refine one_ (i := 6) (N := some 58) (bb 12 127) rfl rfl (by kernel_rfl) (by decide) (fun K hK => ?_)
      refine gs_ Try.func100 #[.pointer (some ⟨g, 0, none⟩), .agg #[.slice (some ad) l.length c], .int .i64 (rd x.f2 0)] ?_
      (with_reducible refine (HPC0.o.at HQ0.o HN0.o FR.o.st FR.o.lo (FR.o.fr FR0.o)).mono ?_)
      rintro e w7 ⟨rfl, hI, hB, hK2⟩
      refine ⟨_, rfl, ?_⟩
      replace FR := q_ (FR.o.call hI hB hK2); clear hI hB hK2
      refine hK.out _ _ ⟨(blk_cell (FR.o.blk BK1.o G1.o HGW.o) 0).trans rfl, (blk_cell (FR.o.blk BK3.o G3.o HGW.o) 2).trans rfl, mv_ FR.o.lo HK0.o⟩ (fun hS => ?_)
      clear hK K; refine no_ (some 58) ?_
      refine pk_ 7 51 255 ?_; refine pk_ 8 59 511 ?_; refine pk_ 9 60 1023 ?_; refine pk_ 10 11 2047 ?_; refine pk_ 11 12 4095 ?_
      refine done_ (by kernel_rfl) ?_
      clear hS
      obtain ⟨hy0, hy1, hy2, hy3, hy4, hf0, hf1, hf2, hf3, hf4⟩ := d5_ (q_ (FR.o.blk BK3.o G3.o HGW.o)); obtain ⟨hcz, hfz⟩ := d1_ (q_ (FR.o.blk BK1.o G1.o HGW.o))
      go_wp2
      clear hy0 hy1 hy2 hy3 hy4 hf0 hf1 hf2 hf3 hf4 hcz hfz
      replace FR := q_ FR.o.drew
      refine start_ (n := 12) (S := fun w' => w'.cell? ⟨g1, 0, none⟩ = some (.slice (some ad) l.length c) ∧ w'.cell? ⟨g3, 2, none⟩ = some (.slice (some ad2) x.f2.length c2) ∧ w'.cell? ⟨ad2.block, ad2.off + 1, none⟩ = some (.int .i64 (rd x.f2 1))) (ds := []) (bb 12 0) (by kernel_rfl) rfl rfl ⟨(blk_cell (FR.o.blk BK1.o G1.o HGW.o) 0).trans rfl, (blk_cell (FR.o.blk BK3.o G3.o HGW.o) 2).trans rfl, mv_ FR.o.lo HK1.o⟩ (fun hS => ?_)
      generalize World.drew _ = wd at FR hS ⊢
      refine pk_ 0 66 1 ?_; refine pk_ 2 68 5 ?_; refine tk_ 1 67 7 hS ?_; refine tk_ 3 69 15 hS ?_; refine pk_ 4 70 31 ?_; refine tk_ 5 71 63 hS ?_
      refine one_ (i := 6) (N := some 72) (bb 12 127) rfl rfl (by kernel_rfl) (by decide) (fun K hK => ?_)
      refine gs_ Try.func100 #[.pointer (some ⟨g, 0, none⟩), .agg #[.slice (some ad) l.length c], .int .i64 (rd x.f2 1)] ?_
      (with_reducible refine (HPC1.o.at HQ1.o HN1.o FR.o.st FR.o.lo (FR.o.fr FR0.o)).mono ?_)
      rintro e w7 ⟨rfl, hI, hB, hK2⟩
      refine ⟨_, rfl, ?_⟩
      replace FR := q_ (FR.o.call hI hB hK2); clear hI hB hK2
      refine hK.out _ _ ⟨(blk_cell (FR.o.blk BK1.o G1.o HGW.o) 0).trans rfl, (blk_cell (FR.o.blk BK3.o G3.o HGW.o) 2).trans rfl, mv_ FR.o.lo HK1.o⟩ (fun hS => ?_)
      clear hK K; refine no_ (some 72) ?_
      refine pk_ 7 65 255 ?_; refine pk_ 8 73 511 ?_; refine pk_ 9 74 1023 ?_; refine pk_ 10 13 2047 ?_; refine pk_ 11 14 4095 ?_
      refine done_ (by kernel_rfl) ?_
      clear hS
      go_wp2_with (first
      | (go_at_call 101; refine (edgeS_hand _ g _ _ _ _ en none 0 [] _ FR.o.st FR.o.lo (FR.o.fr FR0.o) (Kd.C_nil _ _) (Nat.le_refl _) (by simp) (by first | omega | (simp; omega))).mono ?_; rintro e w7 ⟨rfl, hI, hB, hK2⟩; replace FR := q_ (FR.o.call hI hB hK2); clear hI hB hK2))
      go_ret2
      rw [← HRR.o]
      exact ⟨rfl, FR.o.fin HW.o⟩
    · rw [if_neg (by omega), if_pos h] at hR
      unfold altN at hR
      have hlen := hl
      obtain ⟨ad2, e, hk0⟩ := Kd.at_int HI2.o 0 (by omega) (by omega)
      subst e
      rw [show (0 : Int).toNat = 0 from rfl, Addr.add_zero'] at hk0
      have HK0 := q_ hk0; clear hk0
      have q2 : (0 < x.f2.length) = True := eq_true (by omega)
      have q := (eq_true (by omega : 0 < (x.f2.length : Int)) : (0 < (x.f2.length : Int)) = True)
      have z0 : (0 ≤ (0 : Int)) = True := eq_true (by omega)
      obtain ⟨ad3, e, hk1⟩ := Kd.at_int HI2.o 1 (by omega) (by omega)
      obtain rfl : ad2 = ad3 := by injection e
      clear e
      simp only [show (1 : Int).toNat = 1 from rfl, Go.Addr.add, Nat.reduceMul, Nat.reduceEqDiff, ↓reduceIte] at hk1
      have HK1 := q_ hk1; clear hk1
      have q3 : (1 < x.f2.length) = True := eq_true (by omega)
      have qq := (eq_true (by omega : 1 < (x.f2.length : Int)) : (1 < (x.f2.length : Int)) = True)
      have z1 : (0 ≤ (1 : Int)) = True := eq_true (by omega)
      have hbn := (HBP0.o 0 (n, es) HS.o).le (show max 0 (16 * k) ≤ 60000 by omega)
      obtain ⟨⟨a, z, n2, es2⟩, hq⟩ : ∃ q, q = P0 (n, es) := ⟨_, rfl⟩
      rw [← hq] at hbn hR
      dsimp only at hbn hR
      have hb4 := hbn.1; have hb5 := hbn.2.1; have hb6 := hbn.2.2
      dsimp only at hb4 hb5 hb6
      have HQ0 := q_ hq; have HN0 := q_ (HS.o.le (show 0 ≤ 60000 by omega)); have HN1 := q_ hbn; have HPC0 := q_ (HP0.o (by omega))
      clear hbn hq
      have hbn := (HBP1.o (16 * k) (n2, es2) (by have h := (HBP0.o 0 (n, es) HS.o).le (show max 0 (16 * k) ≤ 16 * k by omega); rw [← HQ0.o] at h; exact h)).le (show max (16 * k) (16 * k) ≤ 60000 by omega)
      obtain ⟨⟨b, y, n3, es3⟩, hq⟩ : ∃ q, q = P1 (n2, es2) := ⟨_, rfl⟩
      rw [← hq] at hbn hR
      dsimp only at hbn hR
      have hb7 := hbn.1; have hb8 := hbn.2.1; have hb9 := hbn.2.2
      dsimp only at hb7 hb8 hb9
      have HRR := q_ hR; clear hR
      have HQ1 := q_ hq; have HPC1 := q_ (HP1.o (by omega))
      clear hbn hq
      have e4 : (x.f0 == 4) = true := beq_iff_eq.mpr h
      have ne1 : (x.f0 == 1) = false := beq_eq_false_iff_ne.mpr (by omega)
      have ne2 : (x.f0 == 2) = false := beq_eq_false_iff_ne.mpr (by omega)
      have ne8 : (x.f0 == 8) = false := beq_eq_false_iff_ne.mpr (by omega)
      have ne3 : (x.f0 == 3) = false := beq_eq_false_iff_ne.mpr (by omega)
      clear h HOPS HTMS HP0 HP1 HBP0 HBP1 HR HI2
      obtain ⟨hy0, hy1, hy2, hy3, hy4, hf0, hf1, hf2, hf3, hf4⟩ := d5_ (q_ (FR.o.blk BK3.o G3.o HGW.o)); obtain ⟨hcz, hfz⟩ := d1_ (q_ (FR.o.blk BK1.o G1.o HGW.o))
      go_wp2
      clear hy0 hy1 hy2 hy3 hy4 hf0 hf1 hf2 hf3 hf4 hcz hfz
      replace FR := q_ FR.o.drew
      refine start_ (n := 12) (S := fun w' => w'.cell? ⟨g1, 0, none⟩ = some (.slice (some ad) l.length c) ∧ w'.cell? ⟨g3, 2, none⟩ = some (.slice (some ad2) x.f2.length c2) ∧ w'.cell? ad2 = some (.int .i64 (rd x.f2 0))) (ds := []) (bb 12 0) (by kernel_rfl) rfl rfl ⟨(blk_cell (FR.o.blk BK1.o G1.o HGW.o) 0).trans rfl, (blk_cell (FR.o.blk BK3.o G3.o HGW.o) 2).trans rfl, mv_ FR.o.lo HK0.o⟩ (fun hS => ?_)
      generalize World.drew _ = wd at FR hS ⊢
      refine pk_ 0 52 1 ?_; refine pk_ 2 54 5 ?_; refine tk_ 1 53 7 hS ?_; refine tk_ 3 55 15 hS ?_; refine pk_ 4 56 31 ?_; refine tk_ 5 57 63 hS ?_
      refine one_ (i := 6) (N := some 58) (bb 12 127) rfl rfl (by kernel_rfl) (by decide) (fun K hK => ?_)
      refine gs_ Try.func100 #[.pointer (some ⟨g, 0, none⟩), .agg #[.slice (some ad) l.length c], .int .i64 (rd x.f2 0)] ?_
      (with_reducible refine (HPC0.o.at HQ0.o HN0.o FR.o.st FR.o.lo (FR.o.fr FR0.o)).mono ?_)
      rintro e w7 ⟨rfl, hI, hB, hK2⟩
      refine ⟨_, rfl, ?_⟩
      replace FR := q_ (FR.o.call hI hB hK2); clear hI hB hK2
      refine hK.out _ _ ⟨(blk_cell (FR.o.blk BK1.o G1.o HGW.o) 0).trans rfl, (blk_cell (FR.o.blk BK3.o G3.o HGW.o) 2).trans rfl, mv_ FR.o.lo HK0.o⟩ (fun hS => ?_)
      clear hK K; refine no_ (some 58) ?_
      refine pk_ 7 51 255 ?_; refine pk_ 8 59 511 ?_; refine pk_ 9 60 1023 ?_; refine pk_ 10 11 2047 ?_; refine pk_ 11 12 4095 ?_
      refine done_ (by kernel_rfl) ?_
      clear hS
      obtain ⟨hy0, hy1, hy2, hy3, hy4, hf0, hf1, hf2, hf3, hf4⟩ := d5_ (q_ (FR.o.blk BK3.o G3.o HGW.o)); obtain ⟨hcz, hfz⟩ := d1_ (q_ (FR.o.blk BK1.o G1.o HGW.o))
      go_wp2
      clear hy0 hy1 hy2 hy3 hy4 hf0 hf1 hf2 hf3 hf4 hcz hfz
      replace FR := q_ FR.o.drew
      refine start_ (n := 12) (S := fun w' => w'.cell? ⟨g1, 0, none⟩ = some (.slice (some ad) l.length c) ∧ w'.cell? ⟨g3, 2, none⟩ = some (.slice (some ad2) x.f2.length c2) ∧ w'.cell? ⟨ad2.block, ad2.off + 1, none⟩ = some (.int .i64 (rd x.f2 1))) (ds := []) (bb 12 0) (by kernel_rfl) rfl rfl ⟨(blk_cell (FR.o.blk BK1.o G1.o HGW.o) 0).trans rfl, (blk_cell (FR.o.blk BK3.o G3.o HGW.o) 2).trans rfl, mv_ FR.o.lo HK1.o⟩ (fun hS => ?_)
      generalize World.drew _ = wd at FR hS ⊢
      refine pk_ 0 84 1 ?_; refine pk_ 2 86 5 ?_; refine tk_ 1 85 7 hS ?_; refine tk_ 3 87 15 hS ?_; refine pk_ 4 88 31 ?_; refine tk_ 5 89 63 hS ?_
      refine one_ (i := 6) (N := some 90) (bb 12 127) rfl rfl (by kernel_rfl) (by decide) (fun K hK => ?_)
      refine gs_ Try.func100 #[.pointer (some ⟨g, 0, none⟩), .agg #[.slice (some ad) l.length c], .int .i64 (rd x.f2 1)] ?_
      (with_reducible refine (HPC1.o.at HQ1.o HN1.o FR.o.st FR.o.lo (FR.o.fr FR0.o)).mono ?_)
      rintro e w7 ⟨rfl, hI, hB, hK2⟩
      refine ⟨_, rfl, ?_⟩
      replace FR := q_ (FR.o.call hI hB hK2); clear hI hB hK2
      refine hK.out _ _ ⟨(blk_cell (FR.o.blk BK1.o G1.o HGW.o) 0).trans rfl, (blk_cell (FR.o.blk BK3.o G3.o HGW.o) 2).trans rfl, mv_ FR.o.lo HK1.o⟩ (fun hS => ?_)
      clear hK K; refine no_ (some 90) ?_
      refine pk_ 7 83 255 ?_; refine pk_ 8 91 511 ?_; refine pk_ 9 92 1023 ?_; refine pk_ 10 15 2047 ?_; refine pk_ 11 16 4095 ?_
      refine done_ (by kernel_rfl) ?_
      clear hS
      go_wp2_with (first
      | (go_at_call 138; clear T2; (with_reducible refine (stateS_hand _ g _ _ en _ FR.o.st FR.o.lo (by omega)).mono ?_); rintro e w7 ⟨rfl, hI, hB, hK2⟩; replace FR := q_ (FR.o.call hI hB hK2); clear hI hB hK2)
      | (go_at_call 138; clear T3; (with_reducible refine (stateS_hand _ g _ _ en _ FR.o.st FR.o.lo (by omega)).mono ?_); rintro e w7 ⟨rfl, hI, hB, hK2⟩; replace FR := q_ (FR.o.call hI hB hK2); clear hI hB hK2)
      | (go_at_call 101; refine (edgeS_hand _ g _ _ _ _ en none 0 [] _ FR.o.st FR.o.lo (FR.o.fr FR0.o) (Kd.C_nil _ _) (Nat.le_refl _) (by simp) (by first | omega | (simp; omega))).mono ?_; rintro e w7 ⟨rfl, hI, hB, hK2⟩; replace FR := q_ (FR.o.call hI hB hK2); clear hI hB hK2))
      go_ret2
      have h2 : n3 + 1 + 1 = n3 + 2 := by omega
      rw [h2] at FR
      rw [← HRR.o]
      exact ⟨rfl, FR.o.fin HW.o⟩
  · have hR := HRR.o
    clear HRR
    unfold stepN at hR
    rw [if_neg (by omega), if_neg (by omega), if_neg (by omega)] at hR
    by_cases h8 : x.f0 = 8
    · rw [if_pos h8] at hR
      have HRR := q_ hR; clear hR
      have hlen := hl
      obtain ⟨ad2, e, hk0⟩ := Kd.at_int HI2.o 0 (by omega) (by omega)
      subst e
      rw [show (0 : Int).toNat = 0 from rfl, Addr.add_zero'] at hk0
      have HK0 := q_ hk0; clear hk0
      have q2 : (0 < x.f2.length) = True := eq_true (by omega)
      have q := (eq_true (by omega : 0 < (x.f2.length : Int)) : (0 < (x.f2.length : Int)) = True)
      have z0 : (0 ≤ (0 : Int)) = True := eq_true (by omega)
      have ht := HTMS.o h8
      have hxl : 0 < x.f2.length := by omega
      have hx34 : -1 ≤ x.f4 ∧ x.f4 ≤ 30 := by omega
      have hx33 : 0 ≤ x.f3 ∧ x.f3 ≤ 30 := ⟨ht.1, ht.2.1⟩
      clear ht
      have HXL := q_ hxl; have HX33 := q_ hx33; have HX34 := q_ hx34; clear hxl hx33 hx34
      have HPC0 := q_ (HP0.o (by omega))
      have h := h8
      have e8 : (x.f0 == 8) = true := beq_iff_eq.mpr h
      have ne1 : (x.f0 == 1) = false := beq_eq_false_iff_ne.mpr (by omega)
      have ne2 : (x.f0 == 2) = false := beq_eq_false_iff_ne.mpr (by omega)
      clear h h8 hlen hl HOPS HTMS HP0 HP1 HBP1 HR HI2
      obtain ⟨hy0, hy1, hy2, hy3, hy4, hf0, hf1, hf2, hf3, hf4⟩ := d5_ (q_ (FR.o.blk BK3.o G3.o HGW.o)); obtain ⟨hcz, hfz⟩ := d1_ (q_ (FR.o.blk BK1.o G1.o HGW.o))
      go_wp2_with (first
      | (go_at_call 139; (with_reducible refine (timesS_hand HPC0.o HBP0.o (by omega) _ g n es en x A1 c1 ad2 c2 _ FR.o.st FR.o.lo (FR.o.fr FR0.o) HS.o HK0.o HXL.o HX33.o HX34.o).mono ?_); rintro e w7 ⟨rfl, hI, hB, hK2⟩; replace FR := q_ (FR.o.call hI hB hK2); clear hI hB hK2))
      go_ret2
      rw [← HRR.o]
      exact ⟨rfl, FR.o.fin HW.o⟩
    · rw [if_neg h8] at hR
      have hlen := hl
      obtain ⟨ad2, e, hk0⟩ := Kd.at_int HI2.o 0 (by omega) (by omega)
      subst e
      rw [show (0 : Int).toNat = 0 from rfl, Addr.add_zero'] at hk0
      have HK0 := q_ hk0; clear hk0
      have q2 : (0 < x.f2.length) = True := eq_true (by omega)
      have q := (eq_true (by omega : 0 < (x.f2.length : Int)) : (0 < (x.f2.length : Int)) = True)
      have z0 : (0 ≤ (0 : Int)) = True := eq_true (by omega)
      have hbn := (HBP0.o 0 (n, es) HS.o).le (show max 0 (16 * k) ≤ 60000 by omega)
      obtain ⟨⟨a, z, n2, es2⟩, hq⟩ : ∃ q, q = P0 (n, es) := ⟨_, rfl⟩
      rw [← hq] at hbn hR
      dsimp only at hbn hR
      have hb4 := hbn.1; have hb5 := hbn.2.1; have hb6 := hbn.2.2
      dsimp only at hb4 hb5 hb6
      have HQ0 := q_ hq; have HN0 := q_ (HS.o.le (show 0 ≤ 60000 by omega)); have HN1 := q_ hbn; have HPC0 := q_ (HP0.o (by omega))
      clear hbn hq
      have HRR := q_ hR; clear hR
      have ne1 : (x.f0 == 1) = false := beq_eq_false_iff_ne.mpr (by omega)
      have ne2 : (x.f0 == 2) = false := beq_eq_false_iff_ne.mpr (by omega)
      have ne8 : (x.f0 == 8) = false := beq_eq_false_iff_ne.mpr (by omega)
      have ne3 : (x.f0 == 3) = false := beq_eq_false_iff_ne.mpr (by omega)
      have ne4 : (x.f0 == 4) = false := beq_eq_false_iff_ne.mpr (by omega)
      clear h h8 HOPS HTMS HP0 HP1 HBP0 HBP1 HR HI2
      obtain ⟨hy0, hy1, hy2, hy3, hy4, hf0, hf1, hf2, hf3, hf4⟩ := d5_ (q_ (FR.o.blk BK3.o G3.o HGW.o)); obtain ⟨hcz, hfz⟩ := d1_ (q_ (FR.o.blk BK1.o G1.o HGW.o))
      go_wp2
      clear hy0 hy1 hy2 hy3 hy4 hf0 hf1 hf2 hf3 hf4 hcz hfz
      replace FR := q_ FR.o.drew
      refine start_ (n := 12) (S := fun w' => w'.cell? ⟨g1, 0, none⟩ = some (.slice (some ad) l.length c) ∧ w'.cell? ⟨g3, 2, none⟩ = some (.slice (some ad2) x.f2.length c2) ∧ w'.cell? ad2 = some (.int .i64 (rd x.f2 0))) (ds := []) (bb 12 0) (by kernel_rfl) rfl rfl ⟨(blk_cell (FR.o.blk BK1.o G1.o HGW.o) 0).trans rfl, (blk_cell (FR.o.blk BK3.o G3.o HGW.o) 2).trans rfl, mv_ FR.o.lo HK0.o⟩ (fun hS => ?_)
      generalize World.drew _ = wd at FR hS ⊢
      refine pk_ 0 52 1 ?_; refine pk_ 2 54 5 ?_; refine tk_ 1 53 7 hS ?_; refine tk_ 3 55 15 hS ?_; refine pk_ 4 56 31 ?_; refine tk_ 5 57 63 hS ?_
      refine one_ (i := 6) (N := some 58) (bb 12 127) rfl rfl (by kernel_rfl) (by decide) (fun K hK => ?_)
      refine gs_ Try.func100 #[.pointer (some ⟨g, 0, none⟩), .agg #[.slice (some ad) l.length c], .int .i64 (rd x.f2 0)] ?_
      (with_reducible refine (HPC0.o.at HQ0.o HN0.o FR.o.st FR.o.lo (FR.o.fr FR0.o)).mono ?_)
      rintro e w7 ⟨rfl, hI, hB, hK2⟩
      refine ⟨_, rfl, ?_⟩
      replace FR := q_ (FR.o.call hI hB hK2); clear hI hB hK2
      refine hK.out _ _ ⟨(blk_cell (FR.o.blk BK1.o G1.o HGW.o) 0).trans rfl, (blk_cell (FR.o.blk BK3.o G3.o HGW.o) 2).trans rfl, mv_ FR.o.lo HK0.o⟩ (fun hS => ?_)
      clear hK K; refine no_ (some 58) ?_
      refine pk_ 7 51 255 ?_; refine pk_ 8 59 511 ?_; refine pk_ 9 60 1023 ?_; refine pk_ 10 11 2047 ?_; refine pk_ 11 12 4095 ?_
      refine done_ (by kernel_rfl) ?_
      clear hS
      obtain ⟨hy0, hy1, hy2, hy3, hy4, hf0, hf1, hf2, hf3, hf4⟩ := d5_ (q_ (FR.o.blk BK3.o G3.o HGW.o)); obtain ⟨hcz, hfz⟩ := d1_ (q_ (FR.o.blk BK1.o G1.o HGW.o))
      go_wp2_with (first
      | (go_at_call 140; (with_reducible refine (loopS_hand _ g _ _ _ _ _ en _ FR.o.st FR.o.lo (FR.o.fr FR0.o) (by omega) (by omega)).mono ?_); rintro e w7 ⟨rfl, hI, hB, hK2⟩; replace FR := q_ (FR.o.call hI hB hK2); clear hI hB hK2))
      go_ret2
      rw [← HRR.o]
      exact ⟨rfl, FR.o.fin HW.o⟩
section
variable {w W : World} {gr t : Nat} {x0 x1 x2 a b c : Value}
theorem fin3_ (BR : W.heap[gr]? = some (.cells #[x0, x1, x2] t (0, 0))) : (((W.setCell ⟨gr, 0, none⟩ a).setCell ⟨gr, 1, none⟩ b).setCell ⟨gr, 2, none⟩ c).heap[gr]? = some (.cells #[a, b, c] t (0, 0)) := blk_put (cs := #[a, b, x2]) (blk_put (cs := #[a, x1, x2]) (blk_put (cs := #[x0, x1, x2]) BR 0 _ rfl) 1 _ rfl) 2 _ rfl
theorem grown_keep {α : Type} {d : Kd α} {T base g : Nat} {v : Value} {xs : List α} {ok : Nat → Prop} {w2 : World} (h : Kd.R d T W base ok v xs) (hg : W.grownBy w2 v.ownBlock) : KeepB W w2 ok g := ⟨hg.size, fun k hk _ hko => hg.block k hk (fun e => hko (h.1 k e.symm))⟩
theorem fin3R_ {α : Type} {d : Kd α} {T base : Nat} {v : Value} {xs : List α} {ok : Nat → Prop} (h : Kd.R d T W base ok v xs) (hf : ∀ k, ok k → k ≠ gr) : Kd.R d T (((W.setCell ⟨gr, 0, none⟩ a).setCell ⟨gr, 1, none⟩ b).setCell ⟨gr, 2, none⟩ c) base (fun _ => True) v xs := Kd.R_mono (Kd.R_far (p := ⟨gr, 2, none⟩) (Kd.R_far (p := ⟨gr, 1, none⟩) (Kd.R_far (p := ⟨gr, 0, none⟩) h hf a) hf b) hf c) (fun _ _ => trivial)
theorem fin3S_ {α : Type} {d : Kd α} {T base : Nat} {v : Value} {xs : List α} {ok : Nat → Prop} (h : Kd.S d T W base ok v xs) (hf : ∀ k, ok k → k ≠ gr) : Kd.S d T (((W.setCell ⟨gr, 0, none⟩ a).setCell ⟨gr, 1, none⟩ b).setCell ⟨gr, 2, none⟩ c) base (fun _ => True) v xs := Kd.S_mono (Kd.S_far (p := ⟨gr, 2, none⟩) (Kd.S_far (p := ⟨gr, 1, none⟩) (Kd.S_far (p := ⟨gr, 0, none⟩) h hf a) hf b) hf c) (fun _ _ => trivial)
theorem finO_ {g2 t2 : Nat} {y0 y1 y2 : Value} (BR : W.heap[g2]? = some (.cells #[y0, y1, y2] t2 (0, 0))) (hn : g2 ≠ gr) : (((W.setCell ⟨gr, 0, none⟩ a).setCell ⟨gr, 1, none⟩ b).setCell ⟨gr, 2, none⟩ c).heap[g2]? = some (.cells #[y0, y1, y2] t2 (0, 0)) := blk_far (blk_far (blk_far BR hn _) hn _) hn _
theorem finB_ (h : Below w.heap.size w W) (hg : w.heap.size ≤ gr) : Below w.heap.size w (((W.setCell ⟨gr, 0, none⟩ a).setCell ⟨gr, 1, none⟩ b).setCell ⟨gr, 2, none⟩ c) := below_set (below_set (below_set h hg) hg) hg
end
theorem BuildNfaS_hand (A : Option Addr) (c : Nat) (l : List S29) (w : World) (hr : Kd.C k29 w A l.length l) (hc : l.length ≤ c) (k : Nat) (hl : ∀ x ∈ l, spec_RxOk.f k x.f0 = some (rxB x.f0)) (N : NE) (b : Bool) (h0 : okRxs l = false → N = ((0, []), []) ∧ b = false) (h1 : okRxs l = true → ∃ b2, spec_NfaOk.f k (upN timesS l l.length).1.1 (upN timesS l l.length).1.2 (upN timesS l l.length).2 = some b2 ∧ (b2 = false → N = ((0, []), []) ∧ b = false) ∧ (b2 = true → N = upN timesS l l.length ∧ b = true)) :
    Calls Try.prog 50 #[.slice A l.length c] w fun e w' => ∃ v0 v1, e = .returned (.tuple #[.agg #[.int .i64 N.1.1, v0, v1], .bool b]) ∧ Kd.S k187 187 w' w.heap.size (fun _ => True) v0 N.1.2 ∧ Kd.R k138 138 w' w.heap.size (fun _ => True) v1 N.2 ∧ Below w.heap.size w w' := by
  have HR := q_ hr; have HC := q_ hc; have HL := q_ hl; have HB := q_ (Below.refl w.heap.size w); have T0 : J0 True := ⟨trivial⟩; have T1 : J0 True := ⟨trivial⟩; have T2 : J0 True := ⟨trivial⟩
  have H0 := q_ h0; have H1 := q_ h1
  have hn := hr.2.1
  clear hr hc hl h0 h1
  go_enter Try.func50, Try.ntmps50
  go_upto_region 2 with (first
    | ((with_reducible refine gate_dst (N := 2) rfl ?_); clear T0; refine bx_ 2 #[.int .i64 0, .slice none 0 0, .slice none 0 0] 78 ?_; intro gr hg wr hbox hb; have Br := q_ hbox; have Gr := ge_ hg HB; replace HB := sb_ HB hb; clear hb hbox hg; obtain ⟨hr0, hr1, hr2, fr0, fr1, fr2⟩ := d3_ Br)
    | ((with_reducible refine gate_dst (N := 4) rfl ?_); clear T1; refine bx_ 4 #[.int .i64 0, .slice none 0 0, .slice none 0 0] 78 ?_; intro gn hg wn hbox hb; have Bn := q_ hbox; have Gn := ge_ hg HB; have NB := nl_ hg Br; replace Br := lb_ Br hb; replace HB := sb_ HB hb; clear hb hbox hg; obtain ⟨hn0, hn1, hn2, fn0, fn1, fn2⟩ := d3_ Bn))
  have Br2 := q_ (finO_ (gr := gn) (a := .int .i64 0) (b := .slice none 0 0) (c := .slice none 0 0) Br.o NB.o); have Bn2 := q_ (fin3_ (a := .int .i64 0) (b := .slice none 0 0) (c := .slice none 0 0) Bn.o)
  replace HB := q_ (finB_ (a := .int .i64 0) (b := .slice none 0 0) (c := .slice none 0 0) HB.o Gn.o)
  clear Br Bn hr0 hr1 hr2 fr0 fr1 fr2 hn0 hn1 hn2 fn0 fn1 fn2
  generalize ((wn.setCell ⟨gn, 0, none⟩ (.int .i64 0)).setCell ⟨gn, 1, none⟩ (.slice none 0 0)).setCell ⟨gn, 2, none⟩ (.slice none 0 0) = w2 at *
  have Br := Br2; have Bn := Bn2; clear Br2 Bn2
  obtain ⟨hr0, hr1, hr2, fr0, fr1, fr2⟩ := d3_ Br; obtain ⟨hn0, hn1, hn2, fn0, fn1, fn2⟩ := d3_ Bn
  by_cases c1 : (l.length : Int) < 1
  · obtain ⟨rfl, rfl⟩ := H0.o (by unfold okRxs; rw [decide_eq_false (by omega), Bool.false_and])
    have d1 : decide ((l.length : Int) < 1) = true := dt_ c1
    clear H0 H1 c1
    go_wp2
    refine bodyPost_ret (results_ct rfl _ _ gr 78 #[.int .i64 0, .slice none 0 0, .slice none 0 0] (0, 0) _ rfl (fin3_ Br.o) Try.underlying78 rfl (by kernel_rfl)) rfl ?_
    exact ⟨_, _, rfl, Kd.S_nil _ _ _ _ _, Kd.R_nil _ _ _ _ _, finB_ HB.o Gr.o⟩
  by_cases c2 : (l.length : Int) > 40
  · obtain ⟨rfl, rfl⟩ := H0.o (by unfold okRxs; rw [decide_eq_false (by omega), Bool.false_and])
    have d1 : decide ((l.length : Int) < 1) = false := df_ c1
    have d2 : decide ((l.length : Int) > 40) = true := dt_ c2
    clear H0 H1 c1 c2
    go_wp2
    refine bodyPost_ret (results_ct rfl _ _ gr 78 #[.int .i64 0, .slice none 0 0, .slice none 0 0] (0, 0) _ rfl (fin3_ Br.o) Try.underlying78 rfl (by kernel_rfl)) rfl ?_
    exact ⟨_, _, rfl, Kd.S_nil _ _ _ _ _, Kd.R_nil _ _ _ _ _, finB_ HB.o Gr.o⟩
  have d1 : decide ((l.length : Int) < 1) = false := df_ c1
  have d2 : decide ((l.length : Int) > 40) = false := df_ c2
  have hlen : 1 ≤ (l.length : Int) ∧ (l.length : Int) ≤ 40 := by omega
  have hok : J0 (okRxs l = l.all fun x => rxB x.f0) := ⟨by unfold okRxs; rw [decide_eq_true hlen, Bool.true_and]⟩
  clear c1 c2
  go_wp2
  clear d1 d2 hr0 hr1 hr2 fr0 fr1 fr2 hn0 hn1 hn2 fn0 fn1 fn2
  go_loopg [5] l.length (fun gg v5 wr => ∃ kk : Nat, v5 = .int .i64 kk ∧ kk ≤ l.length ∧ l.length - kk ≤ gg ∧ J0 (okRxs l = (l.drop kk).all fun x => rxB x.f0) ∧ J0 (wr.heap[gr]? = some (.cells #[.int .i64 0, .slice none 0 0, .slice none 0 0] 78)) ∧ J0 (wr.heap[gn]? = some (.cells #[.int .i64 0, .slice none 0 0, .slice none 0 0] 78)) ∧ J0 (Below w.heap.size w wr))
  case atStart => exact ⟨0, rfl, Nat.zero_le _, by omega, hok, Br, Bn, HB⟩
  case round =>
    clear hok Br Bn HB
    obtain ⟨kk, rfl, hkk, hgg, HA, Br, Bn, HB⟩ := hrel
    by_cases hlt : kk < l.length
    · have hltz : (kk : Int) < (l.length : Int) := by omega
      have hk0 : (0 : Int) ≤ (kk : Int) := by omega
      obtain ⟨ad, A1, c1, e1, hx0, hl1, hi1⟩ := at_T29 HR.o (kk : Int) (by omega) hltz
      cases e1
      rw [Int.toNat_natCast] at hx0
      replace hx0 := mv_ HB.o hx0
      have hm : rd_T29 l (kk : Int) ∈ l := by
        unfold rd_T29
        rw [List.getD_eq_getElem?_getD, List.getElem?_eq_getElem (show (kk : Int).toNat < l.length by omega)]
        exact List.getElem_mem _
      have hxo := HL.o _ hm
      have hst : okRxs l = (rxB (rd_T29 l (kk : Int)).f0 && (l.drop (kk + 1)).all fun x => rxB x.f0) := by
        rw [HA.o, drop_cons l z29 kk hlt]
        have hr : l.getD kk z29 = rd_T29 l (kk : Int) := by simp [rd_T29]
        rw [hr]
        rfl
      clear hm HA
      generalize rd_T29 l (kk : Int) = x at *
      have HI1 := q_ hi1; have HL1 := q_ hl1
      clear hi1 hl1
      cases hq : rxB x.f0
      · rw [hq] at hxo hst
        rw [Bool.false_and] at hst
        obtain ⟨rfl, rfl⟩ := H0.o hst
        have HXO := q_ hxo
        clear H0 H1 hst hxo hq
        go_wp2_with (go_at_call 59; (with_reducible refine (spec_RxOk.calls k _ _ x.f0 _ _ (Kd.C_below HI1.o HB.o) HL1.o HXO.o).mono ?_); rintro e w3 ⟨rfl, hb⟩; replace Br := lb_ Br hb; replace Bn := lb_ Bn hb; replace HB := sb_ HB hb; clear hb; obtain ⟨hr0, hr1, hr2, fr0, fr1, fr2⟩ := d3_ Br; obtain ⟨hn0, hn1, hn2, fn0, fn1, fn2⟩ := d3_ Bn)
        refine bodyPost_ret (results_ct rfl _ _ gr 78 #[.int .i64 0, .slice none 0 0, .slice none 0 0] (0, 0) _ rfl (fin3_ Br.o) Try.underlying78 rfl (by kernel_rfl)) rfl ?_
        exact ⟨_, _, rfl, Kd.S_nil _ _ _ _ _, Kd.R_nil _ _ _ _ _, finB_ HB.o Gr.o⟩
      · rw [hq] at hxo hst
        rw [Bool.true_and] at hst
        have HXO := q_ hxo; have HST := q_ hst
        clear hst hxo hq
        go_wp2_with (go_at_call 59; (with_reducible refine (spec_RxOk.calls k _ _ x.f0 _ _ (Kd.C_below HI1.o HB.o) HL1.o HXO.o).mono ?_); rintro e w3 ⟨rfl, hb⟩; replace Br := lb_ Br hb; replace Bn := lb_ Bn hb; replace HB := sb_ HB hb; clear hb; obtain ⟨hr0, hr1, hr2, fr0, fr1, fr2⟩ := d3_ Br; obtain ⟨hn0, hn1, hn2, fn0, fn1, fn2⟩ := d3_ Bn)
        go_roundg (l.length - (kk + 1))
        case measure => omega
        case rel => exact ⟨kk + 1, by go_num, by omega, by omega, HST, Br, Bn, HB⟩
    · have e : kk = l.length := by omega
      subst e
      have hok : okRxs l = true := by rw [HA.o]; simp
      obtain ⟨b2, hb2, hF, hT⟩ := H1.o hok
      have hal : ∀ x ∈ l, rxB x.f0 = true := by
        unfold okRxs at hok
        exact List.all_eq_true.1 (Bool.and_eq_true_iff.1 hok).2
      have HX : J0 (∀ x ∈ l, rxN x) := ⟨fun x hx => by obtain ⟨h1, h2, h3⟩ := rxB_parts (hal x hx); exact ⟨h1, by omega, h3⟩⟩
      have HBB := q_ hb2; have HF := q_ hF; have HT := q_ hT
      have HWR := q_ HB.o.size
      clear hb2 hF hT hok hal HA H0 H1 HL hgg hkk
      go_wp2_with ((with_reducible refine gate_dst (N := 35) rfl ?_); clear T2; refine bx_ 35 #[.int .i64 1, .slice none 0 0, .slice none 0 0] 133 ?_; intro g hg wA hbox hb; have BG := q_ hbox; have NR := nl_ hg Br; have NN := nl_ hg Bn; have GG := ge_ hg HB; replace Br := lb_ Br hb; replace Bn := lb_ Bn hb; replace HB := sb_ HB hb; clear hb hbox hg)
      have FR : J0 (FrB 133 w wA wA (fun k => wA.heap.size ≤ k) g (upN timesS l 0).1.1 (upN timesS l 0).1.2 (upN timesS l 0).2) := ⟨FrB.here ⟨_, _, BG.o, GG.o, Kd.S_nil _ _ _ _ _, Kd.R_nil _ _ _ _ _⟩ HB.o⟩
      clear BG HB
      go_loopg [7] l.length (fun gg v7 wr => ∃ kk : Nat, v7 = .int .i64 kk ∧ kk ≤ l.length ∧ l.length - kk ≤ gg ∧ J0 (FrB 133 w wA wr (fun k => wA.heap.size ≤ k) g (upN timesS l kk).1.1 (upN timesS l kk).1.2 (upN timesS l kk).2))
      case atStart => exact ⟨0, rfl, Nat.zero_le _, by omega, FR⟩
      case round =>
        clear FR HWR
        obtain ⟨kk, rfl, hkk, hgg, FA⟩ := hrel
        by_cases hlt : kk < l.length
        · have hltz : (kk : Int) < (l.length : Int) := by omega
          have hk0 : (0 : Int) ≤ (kk : Int) := by omega
          obtain ⟨ad, A1, c1, e1, hx0, hl1, hi1⟩ := at_T29 HR.o (kk : Int) (by omega) hltz
          cases e1
          rw [Int.toNat_natCast] at hx0
          have HX0 := q_ hx0
          clear hx0
          have hm : rd_T29 l (kk : Int) ∈ l := by
            unfold rd_T29
            rw [List.getD_eq_getElem?_getD, List.getElem?_eq_getElem (show (kk : Int).toNat < l.length by omega)]
            exact List.getElem_mem _
          have hxn := HX.o _ hm
          have hbn := upNS_bn l HX.o kk hkk
          have hbn2 := upNS_bn l HX.o (kk + 1) (by omega)
          have hen := upN_ends timesS l kk
          have hup : upN timesS l (kk + 1) = addN timesS (rd_T29 l (kk : Int)) (kk : Int) (upN timesS l kk) := rfl
          generalize rd_T29 l (kk : Int) = x at *
          generalize hU1 : upN timesS l (kk + 1) = U1 at *
          have HU1 := q_ hU1; clear hU1
          obtain ⟨⟨⟨n, es⟩, en⟩, hU⟩ : ∃ q, q = upN timesS l kk := ⟨_, rfl⟩
          rw [← hU] at FA hbn hen hup
          clear hU
          dsimp only at FA hbn hen
          obtain ⟨⟨a, z, n2, es2⟩, hq⟩ : ∃ q, q = xN timesS x (n, es) := ⟨_, rfl⟩
          unfold addN at hup
          dsimp only at hup
          rw [← hq] at hup
          dsimp only [edgeN] at hup
          subst hup
          have HQ := q_ (show (a, z, n2, es2) = partN timesS x.f0 x.f0.length ((x.f0.length : Int) - 1) (n, es) from hq)
          have hs0 := hbn2.2.2
          dsimp only at hs0
          rw [List.length_append, List.length_singleton] at hs0
          have HN1 := q_ (hbn.le (show 16000 + kk ≤ 60000 by omega))
          have hx1 := hxn.1; have hx2 := hxn.2.1
          have HP := q_ (partS_hand (c := c1) (Kd.C_below hi1 (Below.refl _ _)) hl1 hxn.2.2 x.f0.length ((x.f0.length : Int) - 1) (by omega) (by omega) (by omega) (by omega))
          have HEN := q_ hen
          clear hi1 hl1 hxn hbn hbn2 hm hq hen HX HBB HF HT
          have HGW := q_ (Bd_lt FA.o.st)
          have HFR : J0 (∀ k, wr.heap.size ≤ k → wA.heap.size ≤ k) := ⟨fun k hk => Nat.le_trans FA.o.kp.1 hk⟩
          go_upto_region 13 with fail
          have q0 := eq_true hk0; have q1 := eq_true hltz; have q2 := eq_true hlt
          have FR := q_ (FrB.drew (FrB.here FA.o.st FA.o.lo))
          refine start_ (n := 18) (S := fun w' => w'.cell? (ad.add kk) = some (.slice A1 x.f0.length c1)) (ds := []) (bb 18 0) (by kernel_rfl) rfl rfl (mv_ FR.o.lo HX0.o) (fun hS => ?_)
          generalize World.drew _ = wd at FR hS ⊢
          refine pk_ 0 43 1 ?_; refine pk_ 1 44 3 ?_; refine pk_ 2 45 7 ?_; refine pk_ 3 46 15 ?_; refine tk_ 4 47 31 hS ?_; refine pk_ 5 48 63 ?_; refine pk_ 6 49 127 ?_; refine pk_ 7 50 255 ?_; refine pk_ 8 51 511 ?_; refine tk_ 9 52 1023 hS ?_; refine pk_ 10 53 2047 ?_; refine pk_ 11 54 4095 ?_
          refine one_ (i := 12) (N := some 55) (bb 18 8191) rfl rfl (by kernel_rfl) (by decide) (fun K hK => ?_)
          refine gs_ Try.func100 #[.pointer (some ⟨g, 0, none⟩), .agg #[.slice A1 x.f0.length c1], .int .i64 (wrap64 ((x.f0.length : Int) - 1))] ?_
          rw [wrap_id (x := (x.f0.length : Int) - 1) (by omega) (by omega)]
          (with_reducible refine (HP.out.at HQ.o HN1.o FR.o.st FR.o.lo (FR.o.fr HFR.o)).mono ?_)
          rintro e w8 ⟨rfl, hI, hB, hK2⟩
          refine ⟨_, rfl, ?_⟩
          replace FR := q_ (FR.o.call hI hB hK2); clear hI hB hK2
          refine hK.out _ _ (mv_ FR.o.lo HX0.o) (fun hS => ?_)
          clear hK K; refine no_ (some 55) ?_
          refine pk_ 13 42 16383 ?_; refine pk_ 14 56 32767 ?_; refine pk_ 15 57 65535 ?_; refine pk_ 16 8 131071 ?_; refine pk_ 17 9 262143 ?_
          refine done_ (by kernel_rfl) ?_
          clear hS q0 q1 q2
          go_wp2_with (first
            | (go_at_call 101; refine (edgeS_hand _ g _ _ _ _ en none 0 [] _ FR.o.st FR.o.lo (FR.o.fr HFR.o) (Kd.C_nil _ _) (Nat.le_refl _) (by simp) (by omega)).mono ?_; rintro e w9 ⟨rfl, hI, hB, hK2⟩; replace FR := q_ (FR.o.call hI hB hK2); clear hI hB hK2; obtain ⟨v0, v1, hG, hg, hR0, hR1⟩ := FR.o.st; obtain ⟨A9, c9, rfl⟩ := Kd.R_slice hR1; have BK := q_ hG; have GE := q_ hg; have HO0 := q_ hR0; have HO1 := q_ hR1; have HLO := q_ FR.o.lo; obtain ⟨hb0, hb1, hb2, hbf0, hbf1, hbf2⟩ := d3_ BK; clear hG hg hR0 hR1)
            | ((with_reducible refine gate_builtin (b := .append) (xs := #[.tmp 66, .tmp 70]) rfl ?_); at_builtin; refine Kd.R_append k138 (w0 := w) w.heap.size rfl (.tmp 66) (.tmp 70) 76 138 (.agg #[(.int .i64 0), (.int .i64 0)]) 16 rfl Try.underlying76 infoEnd_ rfl (by decide) (by omega) (.slice A9 en.length c9) en (⟨z, (kk : Int)⟩ : S138) [.int .i64 z, .int .i64 (kk : Int)] (fun k => wA.heap.size ≤ k) (fun _ => False) rfl rfl ?aP (fun _ hk => hk.elim) ?aF ?aO ?aB ?aS ?aL ?_; (case aP => exact k138_mkM _ _ _ (⟨z, (kk : Int)⟩ : S138)); (case aF => exact FR.o.fr HFR.o); (case aO => exact HO1.o); (case aB => exact HLO.o); (case aS => exact HLO.o.size); (case aL => have := HEN.o; omega); intro v2 w2 ho hb hgr hat; obtain ⟨A2, c2, e2⟩ := Kd.R_slice ho; subst e2; have hln : (en ++ [(⟨z, (kk : Int)⟩ : S138)]).length = en.length + 1 := (by simp); rw [hln] at ho ⊢; have hne := Kd.R_ne HO1.o BK.o (by decide); have HOb := q_ (Kd.S_over' HO0.o (Kd.R_typed HO1.o) (by decide) hgr); have BK2 := q_ (blk_grown BK.o hgr hne); have KP2 := q_ (grown_keep (g := g) HO1.o hgr); have HO2 := q_ ho; have HB2 := q_ hb; clear hb0 hb1 hb2 hbf0 hbf1 hbf2; obtain ⟨hb0, hb1, hb2, hbf0, hbf1, hbf2⟩ := d3_ BK2; clear ho hb hgr hat hne hln))
          go_roundg (l.length - (kk + 1))
          case measure => omega
          case rel =>
            refine ⟨kk + 1, by go_num, by omega, by omega, ?_⟩
            rw [HU1.o]
            have F2 := FR.o.call (W2 := w2.setCell ⟨g, 2, none⟩ (.slice A2 (en.length + 1) c2)) ⟨_, _, (blk_set BK2.o 2 _).trans rfl, GE.o, Kd.S_set HOb.o BK2.o (by decide) 2 _, Kd.R_set HO2.o BK2.o (by decide) 2 _⟩ (below_set HB2.o GE.o) (KeepB.trans KP2.o (KeepB.set 2 _))
            obtain ⟨f1, f2, f3⟩ := F2.fin0
            exact ⟨FA.o.call f1 f2 f3⟩
        · have e : kk = l.length := by omega
          subst e
          have keep : ∀ j, wA.heap[j]? = some (.cells #[.int .i64 0, .slice none 0 0, .slice none 0 0] 78) → j ≠ g → wr.heap[j]? = some (.cells #[.int .i64 0, .slice none 0 0, .slice none 0 0] 78) := fun j hj hne => FA.o.kp.blk hj hne (fun h => Nat.not_lt.2 h (blk_lt hj))
          have hfar : J0 (∀ k, wA.heap.size ≤ k → k ≠ gr) := ⟨fun k hk e => by have := blk_lt Br.o; omega⟩
          replace Br := q_ (keep gr Br.o NR.o); replace Bn := q_ (keep gn Bn.o NN.o)
          clear keep HR HX
          generalize upN timesS l l.length = U at *
          obtain ⟨⟨n, es⟩, en⟩ := U
          dsimp only at FA HBB
          have FR := FA; clear FA
          obtain ⟨v0, v1, hG, hg, hR0, hR1⟩ := FR.o.st; obtain ⟨A9, c9, rfl⟩ := Kd.R_slice hR1; have BK := q_ hG; have GE := q_ hg; have HO0 := q_ hR0; have HO1 := q_ hR1; have HLO := q_ FR.o.lo; obtain ⟨hb0, hb1, hb2, hbf0, hbf1, hbf2⟩ := d3_ BK; clear hG hg hR0 hR1
          obtain ⟨A8, c8, e8⟩ := Kd.S_slice HO0.o
          subst e8
          have q1 := (Kd.S_reads' HO0.o).2; have q2 := (Kd.R_reads' HO1.o).2
          cases b2
          · obtain ⟨rfl, rfl⟩ := HF.o rfl
            clear HF HT
            go_wp2_with (go_at_call 102; (with_reducible refine (spec_NfaOk.calls k _ _ _ es _ _ en _ _ q1.2 q1.1 q2.2 q2.1 HBB.o).mono ?_); rintro e w3 ⟨rfl, hb⟩; replace Br := lb_ Br hb; replace Bn := lb_ Bn hb; replace BK := lb_ BK hb; replace HO0 := q_ (Kd.S_below HO0.o hb); replace HO1 := q_ (Kd.R_below HO1.o hb); replace HLO := sb_ HLO hb; clear hb hb0 hb1 hb2 hbf0 hbf1 hbf2 q1 q2 FR; obtain ⟨hr0, hr1, hr2, fr0, fr1, fr2⟩ := d3_ Br; obtain ⟨hn0, hn1, hn2, fn0, fn1, fn2⟩ := d3_ Bn; obtain ⟨hb0, hb1, hb2, hbf0, hbf1, hbf2⟩ := d3_ BK)
            refine bodyPost_ret (results_ct rfl _ _ gr 78 #[.int .i64 0, .slice none 0 0, .slice none 0 0] (0, 0) _ rfl (fin3_ Br.o) Try.underlying78 rfl (by kernel_rfl)) rfl ?_
            exact ⟨_, _, rfl, Kd.S_nil _ _ _ _ _, Kd.R_nil _ _ _ _ _, finB_ HLO.o Gr.o⟩
          · obtain ⟨rfl, rfl⟩ := HT.o rfl
            clear HF HT
            go_wp2_with (go_at_call 102; (with_reducible refine (spec_NfaOk.calls k _ _ _ es _ _ en _ _ q1.2 q1.1 q2.2 q2.1 HBB.o).mono ?_); rintro e w3 ⟨rfl, hb⟩; replace Br := lb_ Br hb; replace Bn := lb_ Bn hb; replace BK := lb_ BK hb; replace HO0 := q_ (Kd.S_below HO0.o hb); replace HO1 := q_ (Kd.R_below HO1.o hb); replace HLO := sb_ HLO hb; clear hb hb0 hb1 hb2 hbf0 hbf1 hbf2 q1 q2 FR; obtain ⟨hr0, hr1, hr2, fr0, fr1, fr2⟩ := d3_ Br; obtain ⟨hn0, hn1, hn2, fn0, fn1, fn2⟩ := d3_ Bn; obtain ⟨hb0, hb1, hb2, hbf0, hbf1, hbf2⟩ := d3_ BK)
            refine bodyPost_ret (results_ct rfl _ _ gr 78 #[.int .i64 n, .slice A8 es.length c8, .slice A9 en.length c9] (0, 0) _ rfl (fin3_ Br.o) Try.underlying78 rfl (by kernel_rfl)) rfl ?_
            exact ⟨_, _, rfl, fin3S_ HO0.o hfar.o, fin3R_ HO1.o hfar.o, finB_ HLO.o Gr.o⟩
end Go.Proofs.Ytijmhelacmjggaa.P
namespace Go.Proofs.Ytijmhelacmjggaa.P
open Go.RowKit Go.Proofs.YtijmhelacmjggaaW.PrintWords Go.Proofs.YtijmhelacmjggaaW.PrintLast Go.Proofs.YtijmhelacmjggaaW.PrintMore
attribute [local go_sem] max2_int min2_int max_two min_two max_three min_three max_four min_four
set_option linter.unusedVariables false
set_option linter.unusedSimpArgs false
/-! ### spec_BuildNfa: function 50 -/
def spec_BuildNfa.f (k : Nat) (l0 : List (S29)) : Option (NE × Bool) := if ∀ x ∈ l0, spec_RxOk.f k x.f0 = some (rxB x.f0) then (if okRxs l0 = true then (spec_NfaOk.f k (upN timesS l0 l0.length).1.1 (upN timesS l0 l0.length).1.2 (upN timesS l0 l0.length).2).bind (fun b => some (if b = true then (upN timesS l0 l0.length, true) else (((0, []), []), false))) else some (((0, []), []), false)) else none
theorem spec_BuildNfa.calls (k : Nat) (A0 : Option Addr) (c0 : Nat) (l0 : List (S29)) (n : Int) (es : List (S187)) (en : List (S138)) (b : Bool) (w : World) (hr0 : Kd.C k29 w A0 l0.length l0) (hc0 : l0.length ≤ c0) (h : spec_BuildNfa.f k l0 = some (((n, es), en), b)) :
    Calls Try.prog 50 #[.slice A0 l0.length c0] w fun e w' => ∃ v0_ v1_ : Value, e = .returned (.tuple #[.agg #[.int .i64 n, v0_, v1_], .bool b]) ∧ Kd.S k187 187 w' w.heap.size (fun _ => True) v0_ es ∧ Kd.R k138 138 w' w.heap.size (fun _ => True) v1_ en ∧ Below w.heap.size w w' := by
  unfold spec_BuildNfa.f at h
  split at h
  · rename_i hl
    refine BuildNfaS_hand A0 c0 l0 w hr0 hc0 k hl ((n, es), en) b (fun h0 => ?_) (fun h1 => ?_)
    · rw [h0, if_neg (by decide)] at h
      have h := Option.some.inj h
      exact ⟨(congrArg (·.1) h).symm, (congrArg (·.2) h).symm⟩
    · rw [h1, if_pos rfl] at h
      obtain ⟨b2, E, H⟩ := ob_ h; have H := Option.some.inj H
      refine ⟨b2, E.o, fun hb => ?_, fun hb => ?_⟩
      · subst hb
        rw [if_neg (by decide)] at H
        exact ⟨(congrArg (·.1) H).symm, (congrArg (·.2) H).symm⟩
      · subst hb
        rw [if_pos rfl] at H
        exact ⟨(congrArg (·.1) H).symm, (congrArg (·.2) H).symm⟩
  · simp at h
end Go.Proofs.Ytijmhelacmjggaa.P
namespace Go.Proofs.Ytijmhelacmjggaa.P
open Go.RowKit Go.Shelf Go.Proofs.YtijmhelacmjggaaW.PrintWords Go.Proofs.YtijmhelacmjggaaW.PrintLast Go.Proofs.YtijmhelacmjggaaW.PrintMore Go.Proofs.YtijmhelacmjggaaEv
set_option linter.unusedVariables false
set_option linter.unusedSimpArgs false
theorem goesV_ {P : Program} {Q : Exit → Act → World → Prop} {ops : Array Oper} {oi : Oper} {N : Option Tmp} {a : Act} {w : World} {K : Act → World → Prop} {f : FuncId} {fn : Func} {as_ : Array Operand} {ts : Array TypeId} {t : Tmp} (hf : P.funcs[f]? = some fn) (hname : (fn.name == "runtime.NumGoroutine") = false) (hb : fn.body.isSome = true) (args lb : Array Value)
    (hw : Region.wanted oi (yielded ops a.tmps) = true) (hN : oi.dst = N) (hop : oi.op = .call { callee := .value (.tmp t), args := as_, argTypes := ts }) (hv : a.eval (.tmp t) = .func (.func f) #[] lb) (hargs : as_.map a.eval = args)
    (h : Calls P f (args ++ lb) w fun e w' => ∃ v, e = .returned v ∧ K (a.put N v) w') : if Region.wanted oi (yielded ops a.tmps) = true then Oper.wp P oi a w K Q else K (a.put N undef) w := by
  refine call_ f (args ++ lb) hw hN ?_ h
  have he := enters_ hf hname hb (args ++ lb) w
  unfold execOp
  simp [hop, resolve, Deferred.ofValue, invoke, hv, hargs, he]
theorem Bd_far {T : Nat} {w0 w : World} {ok : Nat → Prop} {g : Nat} {n : Int} {es : List S187} {en : List S138} (h : BdS T w0 w ok g n es en) {b : Nat} (hb : b ≠ g) (ho : ¬ ok b) (j : Nat) (u : Value) : BdS T w0 (w.setCell ⟨b, j, none⟩ u) ok g n es en := by
  obtain ⟨v0, v1, h1, h2, h3, h4⟩ := h
  have hk : ∀ k, ok k → k ≠ (⟨b, j, none⟩ : Addr).block := fun k hk e => ho (by have e2 : k = b := e; rw [← e2]; exact hk)
  exact ⟨v0, v1, blk_far h1 (p := ⟨b, j, none⟩) (Ne.symm hb) u, h2, Kd.S_far (p := ⟨b, j, none⟩) h3 hk u, Kd.R_far (p := ⟨b, j, none⟩) h4 hk u⟩
structure FrJ (w0 w w5 W : World) (ok : Nat → Prop) (g : Nat) (n : Int) (es : List S187) (en : List S138) (g8 g9 : Nat) (f t : Int) : Prop where
  st : BdS 144 w0 W (okF ok w w5) g n es en
  lo : Below w0.heap.size w0 W
  kp : KeepB w5 W (fun k => okF ok w w5 k ∨ k = g8 ∨ k = g9) g
  b8 : W.heap[g8]? = some (.cells #[.int .i64 f] 2 (0, 0))
  b9 : W.heap[g9]? = some (.cells #[.int .i64 t] 2 (0, 0))
structure FrK (w w5 : World) (g g8 g9 : Nat) : Prop where
  gw : g < w.heap.size
  h8 : w.heap.size ≤ g8
  h9 : w.heap.size ≤ g9
  l8 : g8 < w5.heap.size
  l9 : g9 < w5.heap.size
  ne : g8 ≠ g9
section
variable {w0 w w5 W W2 : World} {ok : Nat → Prop} {g g8 g9 : Nat} {n n2 f t : Int} {es es2 : List S187} {en : List S138}
theorem FrJ.drew (h : FrJ w0 w w5 W ok g n es en g8 g9 f t) : FrJ w0 w w5 W.drew ok g n es en g8 g9 f t := ⟨Bd_drew h.st, below_drew1 h.lo, h.kp, blk_drew h.b8, blk_drew h.b9⟩
theorem FrJ.call (h : FrJ w0 w w5 W ok g n es en g8 g9 f t) (k : FrK w w5 g g8 g9) (hI : BdS 144 w0 W2 (okF ok w w5) g n2 es2 en) (hB : Below w0.heap.size w0 W2) (hK : KeepB W W2 (okF ok w w5) g) : FrJ w0 w w5 W2 ok g n2 es2 en g8 g9 f t :=
  ⟨hI, hB, h.kp.trans (hK.weaken fun _ hk => .inl hk), hK.blk h.b8 (by have := k.gw; have := k.h8; omega) (okF.own k.h8 k.l8), hK.blk h.b9 (by have := k.gw; have := k.h9; omega) (okF.own k.h9 k.l9)⟩
theorem FrJ.fr (h : FrJ w0 w w5 W ok g n es en g8 g9 f t) (hf : ∀ k, w5.heap.size ≤ k → okF ok w w5 k) : ∀ k, W.heap.size ≤ k → okF ok w w5 k := fun k hk => hf k (Nat.le_trans h.kp.1 hk)
theorem FrJ.blk (h : FrJ w0 w w5 W ok g n es en g8 g9 f t) (k : FrK w w5 g g8 g9) {b : Nat} {o : Obj} (hb : w5.heap[b]? = some o) (h1 : w.heap.size ≤ b) (n8 : b ≠ g8) (n9 : b ≠ g9) : W.heap[b]? = some o :=
  h.kp.blk hb (by have := k.gw; omega) (fun h2 => by
    rcases h2 with h2 | h2 | h2
    · exact okF.own h1 (blk_lt hb) h2
    · exact n8 h2
    · exact n9 h2)
theorem FrJ.fin (h : FrJ w0 w w5 W ok g n es en g8 g9 f t) (k : FrK w w5 g g8 g9) (hb : Below w.heap.size w w5) : BdS 144 w0 W ok g n es en ∧ Below w0.heap.size w0 W ∧ KeepB w W ok g :=
  ⟨Bd_mono h.st (fun _ hk => hk.1), h.lo, ⟨Nat.le_trans hb.size h.kp.1, fun j hj hg ho => (h.kp.2 j (Nat.lt_of_lt_of_le hj hb.size) hg (fun h2 => by
    rcases h2 with h2 | h2 | h2
    · exact ho h2.1
    · have := k.h8; omega
    · have := k.h9; omega)).trans (hb.block j hj)⟩⟩
theorem FrJ.set8 (h : FrJ w0 w w5 W ok g n es en g8 g9 f t) (k : FrK w w5 g g8 g9) (hw : w0.heap.size ≤ w.heap.size) (a : Int) : FrJ w0 w w5 (W.setCell ⟨g8, 0, none⟩ (.int .i64 a)) ok g n es en g8 g9 a t :=
  ⟨Bd_far h.st (by have := k.gw; have := k.h8; omega) (okF.own k.h8 k.l8) 0 _, below_set h.lo (Nat.le_trans hw k.h8), h.kp.trans ⟨by simp, fun j hj _ ho => Below.heap_setCell W _ _ j (fun e => ho (.inr (.inl e)))⟩, (blk_set h.b8 0 _).trans rfl, blk_far h.b9 (p := ⟨g8, 0, none⟩) (Ne.symm k.ne) _⟩
theorem FrJ.set9 (h : FrJ w0 w w5 W ok g n es en g8 g9 f t) (k : FrK w w5 g g8 g9) (hw : w0.heap.size ≤ w.heap.size) (a : Int) : FrJ w0 w w5 (W.setCell ⟨g9, 0, none⟩ (.int .i64 a)) ok g n es en g8 g9 f a :=
  ⟨Bd_far h.st (by have := k.gw; have := k.h9; omega) (okF.own k.h9 k.l9) 0 _, below_set h.lo (Nat.le_trans hw k.h9), h.kp.trans ⟨by simp, fun j hj _ ho => Below.heap_setCell W _ _ j (fun e => ho (.inr (.inr e)))⟩, blk_far h.b8 (p := ⟨g9, 0, none⟩) k.ne _, (blk_set h.b9 0 _).trans rfl⟩
end
theorem joinI_hand {w0 w w5 W : World} {ok : Nat → Prop} {g g8 g9 g3 : Nat} {n f t a z : Int} {es : List S187} {en : List S138} (hJ : FrJ w0 w w5 W ok g n es en g8 g9 f t) (hk : FrK w w5 g g8 g9) (hw : w0.heap.size ≤ w.heap.size) (hf : ∀ k, w5.heap.size ≤ k → okF ok w w5 k) (h3 : W.heap[g3]? = some (.cells #[.pointer (some ⟨g, 0, none⟩)] 142 (0, 0))) (hl : es.length ≤ 900000) :
    Calls Try.prog 166 #[.int .i64 a, .int .i64 z, .pointer (some ⟨g8, 0, none⟩), .pointer (some ⟨g3, 0, none⟩), .pointer (some ⟨g9, 0, none⟩)] W fun e W2 => e = .returned (.tuple #[]) ∧ FrJ w0 w w5 W2 ok g (joinN f t (a, z, (n, es))).2.2.1 (joinN f t (a, z, (n, es))).2.2.2 en g8 g9 (joinN f t (a, z, (n, es))).1 (joinN f t (a, z, (n, es))).2.1 ∧ KeepB W W2 (fun k => okF ok w w5 k ∨ k = g8 ∨ k = g9) g := by
  have H3 := q_ h3
  have FR := q_ hJ; have FK := q_ hk; have HW := q_ hw; have FR0 := q_ hf
  obtain ⟨hc3, hz3⟩ := d1_ H3
  obtain ⟨hc8, hz8⟩ := d1_ (q_ FR.o.b8)
  obtain ⟨hc9, hz9⟩ := d1_ (q_ FR.o.b9)
  clear hJ hk hw hf h3
  by_cases c : f < 0
  · have ef : decide (f < 0) = true := decide_eq_true c
    have hj : joinN f t (a, z, (n, es)) = (a, z, (n, es)) := by unfold joinN; rw [if_pos c]
    rw [hj]
    clear hj c
    go_enter Try.func166, Try.ntmps166
    have hne : g9 ≠ g8 := Ne.symm FK.o.ne
    have hne2 : g8 ≠ g9 := FK.o.ne
    go_wp2
    go_end0
    exact ⟨rfl, (FR.o.set8 FK.o HW.o a).set9 FK.o HW.o z, (KeepB.trans (W := W.setCell ⟨g8, 0, none⟩ (.int .i64 a)) ⟨by simp, fun j hj _ ho => Below.heap_setCell W _ _ j (fun e => ho (.inr (.inl e)))⟩ ⟨by simp, fun j hj _ ho => Below.heap_setCell _ _ _ j (fun e => ho (.inr (.inr e)))⟩)⟩
  · have ef : decide (f < 0) = false := decide_eq_false c
    have hj : joinN f t (a, z, (n, es)) = (f, z, (n, es ++ [⟨t, a, []⟩])) := by unfold joinN; rw [if_neg c]; rfl
    rw [hj]
    clear hj c
    go_enter Try.func166, Try.ntmps166
    go_wp2_with (go_at_call 107; refine (edgeI_hand _ g _ _ _ _ en none 0 [] _ FR.o.st FR.o.lo (FR.o.fr FR0.o) (Kd.C_nil _ _) (Nat.le_refl _) (by simp) (by first | omega | (simp; omega))).mono ?_; rintro e w7 ⟨rfl, hI, hB, hK2⟩; have FR2 := q_ (FR.o.call FK.o hI hB hK2); have HK := q_ hK2; clear hI hB hK2 hc3 hz3 hc8 hz8 hc9 hz9; obtain ⟨hc9, hz9⟩ := d1_ (q_ FR2.o.b9))
    go_end0
    exact ⟨rfl, FR2.o.set9 FK.o HW.o z, (HK.o.weaken fun _ h => .inl h).trans ⟨by simp, fun j hj _ ho => Below.heap_setCell _ _ _ j (fun e => ho (.inr (.inr e)))⟩⟩
theorem timesI_hand {w0 : World} {A : Option Addr} {c : Nat} {l : List S156} {i : Int} {P : NB → NR} {C : Nat} (hP : PartC 106 144 w0 A c l i P) (hb : BnP C P) (hC : C ≤ 20000) (ok : Nat → Prop) (g : Nat) (n : Int) (es : List S187) (en : List S138) (x : S156) (A1 : Option Addr) (c1 : Nat) (ad2 : Addr) (c2 : Nat) (w : World) (hI : BdS 144 w0 w ok g n es en) (hB : Below w0.heap.size w0 w) (hF : ∀ k, w.heap.size ≤ k → ok k) (hn : Bn 0 (n, es)) (hk0 : w0.cell? ad2 = some (.int .i64 i)) (hx2 : 0 < x.f2.length) (hx3 : 0 ≤ x.f3 ∧ x.f3 ≤ 30) (hx4 : -1 ≤ x.f4 ∧ x.f4 ≤ 30) :
    Calls Try.prog 144 #[.pointer (some ⟨g, 0, none⟩), .agg #[.slice A l.length c], .agg #[.int .i64 x.f0, .slice A1 x.f1.length c1, .slice (some ad2) x.f2.length c2, .int .i64 x.f3, .int .i64 x.f4]] w fun e w' => e = .returned (.tuple #[.int .i64 (timesI P x.f3 x.f4 (n, es)).1, .int .i64 (timesI P x.f3 x.f4 (n, es)).2.1]) ∧ BdS 144 w0 w' ok g (timesI P x.f3 x.f4 (n, es)).2.2.1 (timesI P x.f3 x.f4 (n, es)).2.2.2 en ∧ Below w0.heap.size w0 w' ∧ KeepB w w' ok g := by
  obtain ⟨R, hR⟩ : ∃ R, R = timesI P x.f3 x.f4 (n, es) := ⟨_, rfl⟩
  rw [← hR]
  obtain ⟨R1, hR1⟩ : ∃ R1, R1 = minI P x.f3.toNat (-1, -1, (n, es)) := ⟨_, rfl⟩
  unfold timesI at hR
  rw [← hR1] at hR
  have HR := q_ hR; have HR1 := q_ hR1.symm
  have HP := q_ hP; have HBP := q_ hb; have HC := q_ hC; have HI := q_ hI; have HB0 := q_ hB; have HF := q_ hF; have HK0 := q_ hk0
  have HN := q_ (hn.le (show 0 ≤ C + 1 by omega))
  have HGW := q_ (Bd_lt hI); have HW0 := q_ hB.size
  have T3 : J0 True := ⟨trivial⟩; have T4 : J0 True := ⟨trivial⟩; have T5 : J0 True := ⟨trivial⟩; have T8 : J0 True := ⟨trivial⟩; have T9 : J0 True := ⟨trivial⟩
  have z0 : (0 ≤ (0 : Int)) = True := eq_true (by omega)
  have q2 : (0 < x.f2.length) = True := eq_true hx2
  have q : (0 < (x.f2.length : Int)) = True := eq_true (by omega)
  clear hP hb hC hn hR hR1 hI hB hF hk0 hx2
  obtain ⟨hx30, hx31⟩ := hx3
  obtain ⟨hx40, hx41⟩ := hx4
  go_enter Try.func144, Try.ntmps144
  go_upto_region 2 with (first
    | ((with_reducible refine gate_dst (N := 3) rfl ?_); clear T3; refine bx_ 3 #[.pointer (some ⟨g, 0, none⟩)] 142 ?_; intro g3 hg w1 hbox hb; have BK3 := q_ hbox; have HW := q_ hb; have G3 := q_ (Nat.le_of_eq hg.symm); clear hb hbox hg)
    | ((with_reducible refine gate_dst (N := 4) rfl ?_); clear T4; refine bx_ 4 #[.slice A l.length c] 29 ?_; intro g4 hg w1 hbox hb; have BK4 := q_ hbox; have G4 := ge_ hg HW; replace BK3 := lb_ BK3 hb; replace HW := sb_ HW hb; clear hb hbox hg)
    | ((with_reducible refine gate_dst (N := 5) rfl ?_); clear T5; refine bx_ 5 #[.int .i64 x.f0, .slice A1 x.f1.length c1, .slice (some ad2) x.f2.length c2, .int .i64 x.f3, .int .i64 x.f4] 156 ?_; intro g5 hg w1 hbox hb; have BK5 := q_ hbox; have G5 := ge_ hg HW; replace BK3 := lb_ BK3 hb; replace BK4 := lb_ BK4 hb; replace HW := sb_ HW hb; clear hb hbox hg)
    | ((with_reducible refine gate_dst (N := 8) rfl ?_); clear T8; refine bx_ 8 #[.int .i64 0] 2 ?_; intro g8 hg w1 hbox hb; have BK8 := q_ hbox; have G8 := ge_ hg HW; have N38 := nl_ hg BK3; have N48 := nl_ hg BK4; have N58 := nl_ hg BK5; replace BK3 := lb_ BK3 hb; replace BK4 := lb_ BK4 hb; replace BK5 := lb_ BK5 hb; replace HW := sb_ HW hb; clear hb hbox hg)
    | ((with_reducible refine gate_dst (N := 9) rfl ?_); clear T9; refine bx_ 9 #[.int .i64 0] 2 ?_; intro g9 hg w9 hbox hb; have BK9 := q_ hbox; have G9 := ge_ hg HW; have N39 := nl_ hg BK3; have N49 := nl_ hg BK4; have N59 := nl_ hg BK5; have N89 := nl_ hg BK8; replace BK3 := lb_ BK3 hb; replace BK4 := lb_ BK4 hb; replace BK5 := lb_ BK5 hb; replace BK8 := lb_ BK8 hb; replace HW := sb_ HW hb; have FR := q_ (FrJ.mk (ok := ok) (Bd_below HI.o HW.o) (HB0.o.trans (HW.o.mono HB0.o.size)) KeepB.refl BK8.o BK9.o); have FK := q_ (FrK.mk HGW.o G8.o G9.o (blk_lt BK8.o) (blk_lt BK9.o) N89.o); have FR0 := q_ (okF.free HF.o HW.o); obtain ⟨hc8, hz8⟩ := d1_ BK8; obtain ⟨hc9, hz9⟩ := d1_ BK9; have ne89 := N89.o; have ne98 := Ne.symm N89.o; clear hb hbox hg))
  replace FR := q_ ((FR.o.set8 FK.o HW0.o (-1)).set9 FK.o HW0.o (-1))
  clear hc8 hz8 hc9 hz9 ne89 ne98
  generalize World.setCell _ ⟨g9, 0, none⟩ _ = w10 at FR ⊢
  obtain ⟨hy0, hy1, hy2, hy3, hy4, hf0, hf1, hf2, hf3, hf4⟩ := d5_ (q_ (FR.o.blk FK.o BK5.o G5.o N58.o N59.o)); obtain ⟨hc3, hz3⟩ := d1_ (q_ (FR.o.blk FK.o BK3.o G3.o N38.o N39.o))
  go_wp2
  clear hy0 hy1 hy2 hy3 hy4 hf0 hf1 hf2 hf3 hf4 hc3 hz3
  go_loopg [15] (31) (fun gg v15 wr => ∃ (j f t n1 : Int) (es1 : List S187), v15 = .int .i64 j ∧ 0 ≤ j ∧ j ≤ x.f3 ∧ (x.f3 - j).toNat < gg ∧ J0 (minI P (x.f3 - j).toNat (f, t, (n1, es1)) = R1) ∧ J0 (Bn (C + 1) (n1, es1)) ∧ J0 (FrJ w0 w w9 wr ok g n1 es1 en g8 g9 f t))
  case atStart => exact ⟨0, -1, -1, n, es, rfl, by omega, by omega, by omega, ⟨by rw [Int.sub_zero]; exact HR1.o⟩, HN, FR⟩
  case round =>
    clear FR HN HR1
    obtain ⟨j, f, t, n1, es1, rfl, hj0, hj1, hgg, HR1, HN, FR⟩ := hrel
    obtain ⟨hy0, hy1, hy2, hy3, hy4, hf0, hf1, hf2, hf3, hf4⟩ := d5_ (q_ (FR.o.blk FK.o BK5.o G5.o N58.o N59.o)); obtain ⟨hc3, hz3⟩ := d1_ (q_ (FR.o.blk FK.o BK3.o G3.o N38.o N39.o))
    by_cases hlt : j < x.f3
    · have d1 : decide (j < x.f3) = true := decide_eq_true hlt
      rcases hf : fullB n1 es1 with _ | _
      · have ef := hf
        have hs := Bn.small HN.o.1 (show fullN (n1, es1) = false from hf)
        have hbn := (HBP.o 0 (n1, es1) hs).le (show max 0 C ≤ C by omega)
        obtain ⟨⟨a, z, n2, es2⟩, hq⟩ : ∃ q, q = P (n1, es1) := ⟨_, rfl⟩
        have hnx : minI P (x.f3 - (j + 1)).toNat (joinN f t (P (n1, es1))) = R1 := by
          have h := HR1.o
          rw [show (x.f3 - j).toNat = (x.f3 - (j + 1)).toNat + 1 by omega] at h
          simp only [minI, show fullN (n1, es1) = false from hf, Bool.false_eq_true, if_false] at h
          exact h
        rw [← hq] at hbn hnx
        have HNX := q_ hnx; have HQ := q_ hq; have HBN := q_ hbn
        have hs2 := HBN.o.1; have hs3 := HBN.o.2.1; have hs4 := HBN.o.2.2; have hcc := HC.o
        dsimp only at hs2 hs3 hs4
        have HS1 := q_ (hs.le (show 0 ≤ 60000 by omega))
        clear hf hs hbn hq hnx HR1 HN
        go_wp2_with (go_at_call 108; (with_reducible refine (fullI_hand _ g _ _ en _ FR.o.st).mono ?_); rintro e w7 ⟨rfl, rfl⟩; rw [ef])
        clear hy0 hy1 hy2 hy3 hy4 hf0 hf1 hf2 hf3 hf4 hc3 hz3
        clear ef d1
        replace FR := q_ FR.o.drew
        refine start_ (n := 11) (S := fun w' => w'.cell? ⟨g3, 0, none⟩ = some (.pointer (some ⟨g, 0, none⟩)) ∧ w'.cell? ⟨g4, 0, none⟩ = some (.slice A l.length c) ∧ w'.cell? ⟨g5, 2, none⟩ = some (.slice (some ad2) x.f2.length c2) ∧ w'.cell? ad2 = some (.int .i64 i)) (ds := []) (bb 11 0) (by kernel_rfl) rfl rfl ⟨(blk_cell (FR.o.blk FK.o BK3.o G3.o N38.o N39.o) 0).trans rfl, (blk_cell (FR.o.blk FK.o BK4.o G4.o N48.o N49.o) 0).trans rfl, (blk_cell (FR.o.blk FK.o BK5.o G5.o N58.o N59.o) 2).trans rfl, mv_ FR.o.lo HK0.o⟩ (fun hS => ?_)
        generalize World.drew _ = wd at FR hS ⊢
        refine pk_ 0 19 1 ?_; refine tk_ 1 20 3 hS ?_; refine tk_ 2 21 7 hS ?_; refine pk_ 3 22 15 ?_; refine tk_ 4 23 31 hS ?_; refine pk_ 5 24 63 ?_; refine tk_ 6 25 127 hS ?_
        refine one_ (i := 7) (N := some 26) (bb 11 255) rfl rfl (by kernel_rfl) (by decide) (fun K hK => ?_)
        refine gs_ Try.func106 #[.pointer (some ⟨g, 0, none⟩), .agg #[.slice A l.length c], .int .i64 i] ?_
        (with_reducible refine (HP.out.at HQ.o HS1.o FR.o.st FR.o.lo (FR.o.fr FR0.o)).mono ?_)
        rintro e w7 ⟨rfl, hI, hB, hK2⟩
        refine ⟨_, rfl, ?_⟩
        replace FR := q_ (FR.o.call FK.o hI hB hK2); clear hI hB hK2
        refine hK.out _ _ ⟨(blk_cell (FR.o.blk FK.o BK3.o G3.o N38.o N39.o) 0).trans rfl, (blk_cell (FR.o.blk FK.o BK4.o G4.o N48.o N49.o) 0).trans rfl, (blk_cell (FR.o.blk FK.o BK5.o G5.o N58.o N59.o) 2).trans rfl, mv_ FR.o.lo HK0.o⟩ (fun hS => ?_)
        clear hK K; refine no_ (some 26) ?_
        refine pk_ 8 27 511 ?_; refine pk_ 9 28 1023 ?_
        refine one_ (i := 10) (N := some 29) (bb 11 2047) rfl rfl (by kernel_rfl) (by decide) (fun K hK => ?_)
        refine goesV_ Try.func166 (by kernel_rfl) rfl #[.int .i64 a, .int .i64 z] #[.pointer (some ⟨g8, 0, none⟩), .pointer (some ⟨g3, 0, none⟩), .pointer (some ⟨g9, 0, none⟩)] (by rfl) rfl rfl (by rfl) (by (try simp only [List.map_toArray, List.map_cons, List.map_nil]); first | done | rfl) ?_
        show Calls _ _ #[.int .i64 a, .int .i64 z, .pointer (some ⟨g8, 0, none⟩), .pointer (some ⟨g3, 0, none⟩), .pointer (some ⟨g9, 0, none⟩)] _ _
        (with_reducible refine (joinI_hand FR.o FK.o HW0.o FR0.o (FR.o.blk FK.o BK3.o G3.o N38.o N39.o) (by omega)).mono ?_)
        rintro e w8 ⟨rfl, hJ, _⟩
        refine ⟨_, rfl, ?_⟩
        replace FR := q_ hJ; clear hJ
        refine hK.out _ _ ⟨(blk_cell (FR.o.blk FK.o BK3.o G3.o N38.o N39.o) 0).trans rfl, (blk_cell (FR.o.blk FK.o BK4.o G4.o N48.o N49.o) 0).trans rfl, (blk_cell (FR.o.blk FK.o BK5.o G5.o N58.o N59.o) 2).trans rfl, mv_ FR.o.lo HK0.o⟩ (fun hS => ?_)
        clear hK K; refine no_ (some 29) ?_
        refine done_ (by kernel_rfl) ?_
        clear hS
        go_wp2
        have hn3 := HNX.o
        have hb3 := HBN.o
        go_roundg ((x.f3 - j).toNat)
        case measure => omega
        case rel => exact ⟨j + 1, _, _, _, _, by go_num, by omega, by omega, by omega, ⟨hn3⟩, ⟨(Bn.join (r := (a, z, (n2, es2))) hb3 f t).le (by omega)⟩, FR⟩
      · have ef := hf
        have hr1 : R1 = (true, (0, 0, (n1, es1))) := by
          have h := HR1.o
          rw [show (x.f3 - j).toNat = (x.f3 - (j + 1)).toNat + 1 by omega] at h
          simp only [minI, show fullN (n1, es1) = true from hf, if_true] at h
          exact h.symm
        have hr2 := HR.o
        rw [hr1, if_pos rfl] at hr2
        have HR2 := q_ hr2
        clear hf HR1 HR hr1 hr2
        go_wp2_with (go_at_call 108; (with_reducible refine (fullI_hand _ g _ _ en _ FR.o.st).mono ?_); rintro e w7 ⟨rfl, rfl⟩; rw [ef])
        go_ret2
        rw [HR2.o]
        exact ⟨rfl, FR.o.fin FK.o HW.o⟩
    · have d1 : decide (j < x.f3) = false := decide_eq_false hlt
      have hr1 : R1 = (false, (f, t, (n1, es1))) := by
        have h := HR1.o
        rw [show (x.f3 - j).toNat = 0 by omega] at h
        exact h.symm
      have hr2 := HR.o
      rw [hr1, if_neg nft_] at hr2
      clear hr1 HR1 HR
      unfold restI at hr2
      dsimp only at hr2
      have hb1 := HN.o
      clear HN
      by_cases cm : x.f4 < 0
      · have em : decide (x.f4 < 0) = true := decide_eq_true cm
        rw [if_pos cm] at hr2
        have hbl := ((HBP.o (C + 1) (n1, es1) hb1).le (show max (C + 1) C ≤ C + 1 by omega)).loop 5 (P (n1, es1)).1 (P (n1, es1)).2.1
        have hl1 := hbl.2.2; have hcc := HC.o
        have HBL := q_ hbl; clear hbl
        have HN4 := q_ (hb1.le (show C + 1 ≤ 40000 by omega))
        have HR2 := q_ hr2; clear hr2 hb1
        go_wp2
        clear hy0 hy1 hy2 hy3 hy4 hf0 hf1 hf2 hf3 hf4 hc3 hz3
        clear em d1
        replace FR := q_ FR.o.drew
        refine start_ (n := 11) (S := fun w' => w'.cell? ⟨g3, 0, none⟩ = some (.pointer (some ⟨g, 0, none⟩)) ∧ w'.cell? ⟨g4, 0, none⟩ = some (.slice A l.length c) ∧ w'.cell? ⟨g5, 2, none⟩ = some (.slice (some ad2) x.f2.length c2) ∧ w'.cell? ad2 = some (.int .i64 i)) (ds := []) (bb 11 0) (by kernel_rfl) rfl rfl ⟨(blk_cell (FR.o.blk FK.o BK3.o G3.o N38.o N39.o) 0).trans rfl, (blk_cell (FR.o.blk FK.o BK4.o G4.o N48.o N49.o) 0).trans rfl, (blk_cell (FR.o.blk FK.o BK5.o G5.o N58.o N59.o) 2).trans rfl, mv_ FR.o.lo HK0.o⟩ (fun hS => ?_)
        generalize World.drew _ = wd at FR hS ⊢
        refine pk_ 0 34 1 ?_; refine tk_ 1 35 3 hS ?_; refine tk_ 2 36 7 hS ?_; refine pk_ 3 37 15 ?_; refine tk_ 4 38 31 hS ?_; refine pk_ 5 39 63 ?_; refine tk_ 6 40 127 hS ?_
        refine one_ (i := 7) (N := some 41) (bb 11 255) rfl rfl (by kernel_rfl) (by decide) (fun K hK => ?_)
        refine gs_ Try.func145 #[.pointer (some ⟨g, 0, none⟩), .agg #[.slice A l.length c], .int .i64 5, .int .i64 i] ?_
        (with_reducible refine (repeatedI_hand HP.out HBP.o HC.o _ g n1 5 es1 en _ FR.o.st FR.o.lo (FR.o.fr FR0.o) HN4.o).mono ?_)
        rintro e w7 ⟨rfl, hI, hB, hK2⟩
        refine ⟨_, rfl, ?_⟩
        replace FR := q_ (FR.o.call FK.o hI hB hK2); clear hI hB hK2
        refine hK.out _ _ ⟨(blk_cell (FR.o.blk FK.o BK3.o G3.o N38.o N39.o) 0).trans rfl, (blk_cell (FR.o.blk FK.o BK4.o G4.o N48.o N49.o) 0).trans rfl, (blk_cell (FR.o.blk FK.o BK5.o G5.o N58.o N59.o) 2).trans rfl, mv_ FR.o.lo HK0.o⟩ (fun hS => ?_)
        clear hK K; refine no_ (some 41) ?_
        refine pk_ 8 42 511 ?_; refine pk_ 9 43 1023 ?_
        refine one_ (i := 10) (N := some 44) (bb 11 2047) rfl rfl (by kernel_rfl) (by decide) (fun K hK => ?_)
        refine goesV_ Try.func166 (by kernel_rfl) rfl #[.int .i64 (loopN 5 (P (n1, es1)).1 (P (n1, es1)).2.1 (P (n1, es1)).2.2).1, .int .i64 (loopN 5 (P (n1, es1)).1 (P (n1, es1)).2.1 (P (n1, es1)).2.2).2.1] #[.pointer (some ⟨g8, 0, none⟩), .pointer (some ⟨g3, 0, none⟩), .pointer (some ⟨g9, 0, none⟩)] (by rfl) rfl rfl (by rfl) (by (try simp only [List.map_toArray, List.map_cons, List.map_nil]); first | done | rfl) ?_
        show Calls _ _ #[.int .i64 (loopN 5 (P (n1, es1)).1 (P (n1, es1)).2.1 (P (n1, es1)).2.2).1, .int .i64 (loopN 5 (P (n1, es1)).1 (P (n1, es1)).2.1 (P (n1, es1)).2.2).2.1, .pointer (some ⟨g8, 0, none⟩), .pointer (some ⟨g3, 0, none⟩), .pointer (some ⟨g9, 0, none⟩)] _ _
        (with_reducible refine (joinI_hand FR.o FK.o HW0.o FR0.o (FR.o.blk FK.o BK3.o G3.o N38.o N39.o) (by omega)).mono ?_)
        rintro e w8 ⟨rfl, hJ, _⟩
        refine ⟨_, rfl, ?_⟩
        replace FR := q_ hJ; clear hJ
        refine hK.out _ _ ⟨(blk_cell (FR.o.blk FK.o BK3.o G3.o N38.o N39.o) 0).trans rfl, (blk_cell (FR.o.blk FK.o BK4.o G4.o N48.o N49.o) 0).trans rfl, (blk_cell (FR.o.blk FK.o BK5.o G5.o N58.o N59.o) 2).trans rfl, mv_ FR.o.lo HK0.o⟩ (fun hS => ?_)
        clear hK K; refine no_ (some 44) ?_
        refine done_ (by kernel_rfl) ?_
        clear hS
        obtain ⟨hy0, hy1, hy2, hy3, hy4, hf0, hf1, hf2, hf3, hf4⟩ := d5_ (q_ (FR.o.blk FK.o BK5.o G5.o N58.o N59.o)); obtain ⟨hc3, hz3⟩ := d1_ (q_ (FR.o.blk FK.o BK3.o G3.o N38.o N39.o))
        go_wp2
        clear hy0 hy1 hy2 hy3 hy4 hf0 hf1 hf2 hf3 hf4 hc3 hz3
        have hr2 := HR2.o
        have hbN := (Bn.join (r := loopN 5 (P (n1, es1)).1 (P (n1, es1)).2.1 (P (n1, es1)).2.2) HBL.o f t).le (show C + 1 + 6 + 1 ≤ C + 8 by omega)
        clear HR2 HBL
        go_loopg [11] (32) (fun gg v11 wr => ∃ (j f t n1 : Int) (es1 : List S187), v11 = .int .i64 j ∧ x.f3 ≤ j ∧ (x.f4 - j).toNat < gg ∧ J0 (maxI P (x.f4 - j).toNat (f, t, (n1, es1)) = R) ∧ J0 (Bn (C + 8) (n1, es1)) ∧ J0 (FrJ w0 w w9 wr ok g n1 es1 en g8 g9 f t))
        case atStart => exact ⟨x.f3, _, _, _, _, rfl, by omega, by omega, ⟨hr2.symm⟩, ⟨hbN⟩, FR⟩
        case round =>
          clear FR hr2 hbN
          obtain ⟨j, f, t, n1, es1, rfl, hj0, hgg, HR1, HN, FR⟩ := hrel
          obtain ⟨hy0, hy1, hy2, hy3, hy4, hf0, hf1, hf2, hf3, hf4⟩ := d5_ (q_ (FR.o.blk FK.o BK5.o G5.o N58.o N59.o)); obtain ⟨hc3, hz3⟩ := d1_ (q_ (FR.o.blk FK.o BK3.o G3.o N38.o N39.o))
          by_cases hlt2 : j < x.f4
          · exact absurd hlt2 (by omega)
          · have d1 : decide (j < x.f4) = false := decide_eq_false hlt2
            have HR2 : J0 (R = (f, t, (n1, es1))) := ⟨by
              have h := HR1.o
              rw [show (x.f4 - j).toNat = 0 by omega] at h
              exact h.symm⟩
            clear HR1
            go_wp2
            clear hy0 hy1 hy2 hy3 hy4 hf0 hf1 hf2 hf3 hf4 hc3 hz3
            replace FR := q_ FR.o.drew
            refine start_ (n := 4) (S := fun w' => w'.cell? ⟨g8, 0, none⟩ = some (.int .i64 f) ∧ w'.cell? ⟨g9, 0, none⟩ = some (.int .i64 t)) (ds := []) (bb 4 0) (by kernel_rfl) rfl rfl ⟨(blk_cell FR.o.b8 0).trans rfl, (blk_cell FR.o.b9 0).trans rfl⟩ (fun hS => ?_)
            generalize World.drew _ = wd at FR hS ⊢
            refine tk_ 0 69 1 hS ?_; refine tk_ 1 70 3 hS ?_; refine pk_ 2 6 7 ?_; refine pk_ 3 7 15 ?_
            refine done_ (by kernel_rfl) ?_
            clear hS
            go_wp2
            go_ret2
            rw [HR2.o]
            exact ⟨rfl, FR.o.fin FK.o HW.o⟩
      · have em : decide (x.f4 < 0) = false := decide_eq_false cm
        rw [if_neg cm] at hr2
        have HR2 := q_ hr2; have HB1 := q_ (hb1.le (show C + 1 ≤ C + 8 by omega)); clear hr2 hb1
        go_wp2
        clear hy0 hy1 hy2 hy3 hy4 hf0 hf1 hf2 hf3 hf4 hc3 hz3
        clear d1
        have hr2 := HR2.o; have hbN := HB1.o
        clear HR2 HB1
        go_loopg [11] (32) (fun gg v11 wr => ∃ (j f t n1 : Int) (es1 : List S187), v11 = .int .i64 j ∧ x.f3 ≤ j ∧ (x.f4 - j).toNat < gg ∧ J0 (maxI P (x.f4 - j).toNat (f, t, (n1, es1)) = R) ∧ J0 (Bn (C + 8) (n1, es1)) ∧ J0 (FrJ w0 w w9 wr ok g n1 es1 en g8 g9 f t))
        case atStart => exact ⟨x.f3, _, _, _, _, rfl, by omega, by omega, ⟨hr2.symm⟩, ⟨hbN⟩, FR⟩
        case round =>
          clear FR hr2 hbN
          obtain ⟨j, f, t, n1, es1, rfl, hj0, hgg, HR1, HN, FR⟩ := hrel
          obtain ⟨hy0, hy1, hy2, hy3, hy4, hf0, hf1, hf2, hf3, hf4⟩ := d5_ (q_ (FR.o.blk FK.o BK5.o G5.o N58.o N59.o)); obtain ⟨hc3, hz3⟩ := d1_ (q_ (FR.o.blk FK.o BK3.o G3.o N38.o N39.o))
          by_cases hlt2 : j < x.f4
          · have d1 : decide (j < x.f4) = true := decide_eq_true hlt2
            rcases hf : fullB n1 es1 with _ | _
            · have ef := hf
              have hs := Bn.small HN.o.1 (show fullN (n1, es1) = false from hf)
              have hnx : maxI P (x.f4 - (j + 1)).toNat (joinN f t (loopN 7 (P (n1, es1)).1 (P (n1, es1)).2.1 (P (n1, es1)).2.2)) = R := by
                have h := HR1.o
                rw [show (x.f4 - j).toNat = (x.f4 - (j + 1)).toNat + 1 by omega] at h
                simp only [maxI, show fullN (n1, es1) = false from hf, Bool.false_eq_true, if_false] at h
                exact h
              have hbl := ((HBP.o (0) (n1, es1) hs).le (show max (0) C ≤ C by omega)).loop 7 (P (n1, es1)).1 (P (n1, es1)).2.1
              have hl1 := hbl.2.2; have hcc := HC.o
              have HBL := q_ hbl; clear hbl
              have HNX := q_ hnx; have HN4 := q_ (hs.le (show 0 ≤ 40000 by omega))
              clear hf hs hnx HR1 HN
              go_wp2_with (go_at_call 108; (with_reducible refine (fullI_hand _ g _ _ en _ FR.o.st).mono ?_); rintro e w7 ⟨rfl, rfl⟩; rw [ef])
              clear hy0 hy1 hy2 hy3 hy4 hf0 hf1 hf2 hf3 hf4 hc3 hz3
              clear ef d1
              replace FR := q_ FR.o.drew
              refine start_ (n := 11) (S := fun w' => w'.cell? ⟨g3, 0, none⟩ = some (.pointer (some ⟨g, 0, none⟩)) ∧ w'.cell? ⟨g4, 0, none⟩ = some (.slice A l.length c) ∧ w'.cell? ⟨g5, 2, none⟩ = some (.slice (some ad2) x.f2.length c2) ∧ w'.cell? ad2 = some (.int .i64 i)) (ds := []) (bb 11 0) (by kernel_rfl) rfl rfl ⟨(blk_cell (FR.o.blk FK.o BK3.o G3.o N38.o N39.o) 0).trans rfl, (blk_cell (FR.o.blk FK.o BK4.o G4.o N48.o N49.o) 0).trans rfl, (blk_cell (FR.o.blk FK.o BK5.o G5.o N58.o N59.o) 2).trans rfl, mv_ FR.o.lo HK0.o⟩ (fun hS => ?_)
              generalize World.drew _ = wd at FR hS ⊢
              refine pk_ 0 58 1 ?_; refine tk_ 1 59 3 hS ?_; refine tk_ 2 60 7 hS ?_; refine pk_ 3 61 15 ?_; refine tk_ 4 62 31 hS ?_; refine pk_ 5 63 63 ?_; refine tk_ 6 64 127 hS ?_
              refine one_ (i := 7) (N := some 65) (bb 11 255) rfl rfl (by kernel_rfl) (by decide) (fun K hK => ?_)
              refine gs_ Try.func145 #[.pointer (some ⟨g, 0, none⟩), .agg #[.slice A l.length c], .int .i64 7, .int .i64 i] ?_
              (with_reducible refine (repeatedI_hand HP.out HBP.o HC.o _ g n1 7 es1 en _ FR.o.st FR.o.lo (FR.o.fr FR0.o) HN4.o).mono ?_)
              rintro e w7 ⟨rfl, hI, hB, hK2⟩
              refine ⟨_, rfl, ?_⟩
              replace FR := q_ (FR.o.call FK.o hI hB hK2); clear hI hB hK2
              refine hK.out _ _ ⟨(blk_cell (FR.o.blk FK.o BK3.o G3.o N38.o N39.o) 0).trans rfl, (blk_cell (FR.o.blk FK.o BK4.o G4.o N48.o N49.o) 0).trans rfl, (blk_cell (FR.o.blk FK.o BK5.o G5.o N58.o N59.o) 2).trans rfl, mv_ FR.o.lo HK0.o⟩ (fun hS => ?_)
              clear hK K; refine no_ (some 65) ?_
              refine pk_ 8 66 511 ?_; refine pk_ 9 67 1023 ?_
              refine one_ (i := 10) (N := some 68) (bb 11 2047) rfl rfl (by kernel_rfl) (by decide) (fun K hK => ?_)
              refine goesV_ Try.func166 (by kernel_rfl) rfl #[.int .i64 (loopN 7 (P (n1, es1)).1 (P (n1, es1)).2.1 (P (n1, es1)).2.2).1, .int .i64 (loopN 7 (P (n1, es1)).1 (P (n1, es1)).2.1 (P (n1, es1)).2.2).2.1] #[.pointer (some ⟨g8, 0, none⟩), .pointer (some ⟨g3, 0, none⟩), .pointer (some ⟨g9, 0, none⟩)] (by rfl) rfl rfl (by rfl) (by (try simp only [List.map_toArray, List.map_cons, List.map_nil]); first | done | rfl) ?_
              show Calls _ _ #[.int .i64 (loopN 7 (P (n1, es1)).1 (P (n1, es1)).2.1 (P (n1, es1)).2.2).1, .int .i64 (loopN 7 (P (n1, es1)).1 (P (n1, es1)).2.1 (P (n1, es1)).2.2).2.1, .pointer (some ⟨g8, 0, none⟩), .pointer (some ⟨g3, 0, none⟩), .pointer (some ⟨g9, 0, none⟩)] _ _
              (with_reducible refine (joinI_hand FR.o FK.o HW0.o FR0.o (FR.o.blk FK.o BK3.o G3.o N38.o N39.o) (by omega)).mono ?_)
              rintro e w8 ⟨rfl, hJ, _⟩
              refine ⟨_, rfl, ?_⟩
              replace FR := q_ hJ; clear hJ
              refine hK.out _ _ ⟨(blk_cell (FR.o.blk FK.o BK3.o G3.o N38.o N39.o) 0).trans rfl, (blk_cell (FR.o.blk FK.o BK4.o G4.o N48.o N49.o) 0).trans rfl, (blk_cell (FR.o.blk FK.o BK5.o G5.o N58.o N59.o) 2).trans rfl, mv_ FR.o.lo HK0.o⟩ (fun hS => ?_)
              clear hK K; refine no_ (some 68) ?_
              refine done_ (by kernel_rfl) ?_
              clear hS
              go_wp2
              have hn3 := HNX.o
              have hb3 := HBL.o
              go_roundg ((x.f4 - j).toNat)
              case measure => omega
              case rel => exact ⟨j + 1, _, _, _, _, by go_num, by omega, by omega, ⟨hn3⟩, ⟨(Bn.join (r := loopN 7 (P (n1, es1)).1 (P (n1, es1)).2.1 (P (n1, es1)).2.2) hb3 f t).le (by omega)⟩, FR⟩
            · have ef := hf
              have HR2 : J0 (R = (f, t, (n1, es1))) := ⟨by
                have h := HR1.o
                cases hm : (x.f4 - j).toNat with
                | zero => omega
                | succ m => rw [hm] at h; simp only [maxI, show fullN (n1, es1) = true from hf, if_true] at h; exact h.symm⟩
              clear hf HR1
              go_wp2_with (go_at_call 108; (with_reducible refine (fullI_hand _ g _ _ en _ FR.o.st).mono ?_); rintro e w7 ⟨rfl, rfl⟩; rw [ef])
              clear hy0 hy1 hy2 hy3 hy4 hf0 hf1 hf2 hf3 hf4 hc3 hz3
              replace FR := q_ FR.o.drew
              refine start_ (n := 4) (S := fun w' => w'.cell? ⟨g8, 0, none⟩ = some (.int .i64 f) ∧ w'.cell? ⟨g9, 0, none⟩ = some (.int .i64 t)) (ds := []) (bb 4 0) (by kernel_rfl) rfl rfl ⟨(blk_cell FR.o.b8 0).trans rfl, (blk_cell FR.o.b9 0).trans rfl⟩ (fun hS => ?_)
              generalize World.drew _ = wd at FR hS ⊢
              refine tk_ 0 69 1 hS ?_; refine tk_ 1 70 3 hS ?_; refine pk_ 2 6 7 ?_; refine pk_ 3 7 15 ?_
              refine done_ (by kernel_rfl) ?_
              clear hS
              go_wp2
              go_ret2
              rw [HR2.o]
              exact ⟨rfl, FR.o.fin FK.o HW.o⟩
          · have d1 : decide (j < x.f4) = false := decide_eq_false hlt2
            have HR2 : J0 (R = (f, t, (n1, es1))) := ⟨by
              have h := HR1.o
              rw [show (x.f4 - j).toNat = 0 by omega] at h
              exact h.symm⟩
            clear HR1
            go_wp2
            clear hy0 hy1 hy2 hy3 hy4 hf0 hf1 hf2 hf3 hf4 hc3 hz3
            replace FR := q_ FR.o.drew
            refine start_ (n := 4) (S := fun w' => w'.cell? ⟨g8, 0, none⟩ = some (.int .i64 f) ∧ w'.cell? ⟨g9, 0, none⟩ = some (.int .i64 t)) (ds := []) (bb 4 0) (by kernel_rfl) rfl rfl ⟨(blk_cell FR.o.b8 0).trans rfl, (blk_cell FR.o.b9 0).trans rfl⟩ (fun hS => ?_)
            generalize World.drew _ = wd at FR hS ⊢
            refine tk_ 0 69 1 hS ?_; refine tk_ 1 70 3 hS ?_; refine pk_ 2 6 7 ?_; refine pk_ 3 7 15 ?_
            refine done_ (by kernel_rfl) ?_
            clear hS
            go_wp2
            go_ret2
            rw [HR2.o]
            exact ⟨rfl, FR.o.fin FK.o HW.o⟩
theorem partI_hand {w0 : World} {A : Option Addr} {c : Nat} {l : List S156} (hr : Kd.C k156 w0 A l.length l) (hc : l.length ≤ c) (hok : ∀ j, j < l.length → nodeAt l j = true) : ∀ (k : Nat) (i : Int), 0 ≤ i → i < (l.length : Int) → i.toNat < k → k ≤ 1000 → PartC 106 144 w0 A c l i (partN timesI l k i) := by
  intro k
  induction k with
  | zero => intro i _ _ h; omega
  | succ k ih =>
  intro i p0 q0 hik hk1 ok g n es en w hI hB hF hn
  have hnode := hok i.toNat (by omega)
  rw [← Int.toNat_of_nonneg p0] at hik
  have hops := node_ops hnode
  have hkid := node_kid hnode
  rw [Int.toNat_of_nonneg p0] at hops hkid hik
  have hcls : (rd_T156 l i).f1.length ≤ 1048576 := by
    have := node_set_few hnode
    rw [Int.toNat_of_nonneg p0] at this
    omega
  have htms := fun h8 : (rd_T156 l i).f0 = 8 => (Int.toNat_of_nonneg p0 ▸ (node_counts hnode)) h8
  have hPC : ∀ t : Nat, t < (rd_T156 l i).f2.length → PartC 106 144 w0 A c l (rd (rd_T156 l i).f2 (t : Int)) (partN timesI l k (rd (rd_T156 l i).f2 (t : Int))) := fun t ht => by
    obtain ⟨h1, h2⟩ := hkid t ht
    exact ih _ (by omega) (by omega) (by omega) (by omega)
  have hP0 := hPC 0; have hP1 := hPC 1
  simp only [Int.ofNat_zero, Int.natCast_one, Int.cast_ofNat_Int] at hP0 hP1
  clear hPC hkid ih hnode
  have hbp0 := partI_bn l k (rd (rd_T156 l i).f2 0); have hbp1 := partI_bn l k (rd (rd_T156 l i).f2 1)
  have HGW := q_ (Bd_lt hI)
  have T0 : J0 True := ⟨trivial⟩; have T1 : J0 True := ⟨trivial⟩; have T2 : J0 True := ⟨trivial⟩; have T3 : J0 True := ⟨trivial⟩
  rcases hf : fullB n es with _ | _
  rotate_left
  · rw [full_part timesI l (k + 1) i (show fullN (n, es) = true from hf)]
    have HI := q_ hI; have HB0 := q_ hB; have HF := q_ hF; have ef := hf
    clear hI hB hF hn hf hops htms hP0 hP1 hbp0 hbp1 hcls p0 q0 hik hr hc hok
    go_enter Try.func106, Try.ntmps106
    go_wp2_with (first
      | ((with_reducible refine gate_dst (N := 4) rfl ?_); clear T0; refine bx_ 4 #[.slice A l.length c] 29 ?_; intro g1 hg w1 hbox hb; have HW := q_ hb; have FR := q_ (FrB.start HI.o HB0.o hb); have FR0 := q_ (okF.free HF.o hb); clear hb hbox hg)
      | (go_at_call 108; (with_reducible refine (fullI_hand _ g _ _ en _ FR.o.st).mono ?_); rintro e w7 ⟨rfl, rfl⟩; rw [ef]))
    go_ret2
    exact ⟨rfl, FR.o.fin HW.o⟩
  have hs := Bn.small hn.1 (show fullN (n, es) = false from hf)
  have hs1 := hs.1; have hs2 := hs.2.1; have hs3 := hs.2.2
  dsimp only at hs1 hs2 hs3
  obtain ⟨ad, A1, c1, A2, c2, e, hx0, hx1, hx2, hx3, hx4, hl1, hi1, hl2, hi2⟩ := at_T156 hr i p0 q0
  subst e
  rw [partN_succ timesI l k i (show fullN (n, es) = false from hf)]
  generalize hPP0 : partN timesI l k (rd (rd_T156 l i).f2 0) = P0 at *; generalize hPP1 : partN timesI l k (rd (rd_T156 l i).f2 1) = P1 at *
  clear hPP0 hPP1
  generalize rd_T156 l i = x at *
  generalize hR : stepN timesI x P0 P1 (n, es) = R
  have HRR := q_ hR; clear hR
  have HR := q_ hr; have HC := q_ hc; have HI1 := q_ hi1; have HL1 := q_ hl1; have HI2 := q_ hi2; have HX1 := q_ hcls; have HOPS := q_ hops; have HTMS := q_ htms; have HP0 := q_ hP0; have HP1 := q_ hP1; have HBP0 := q_ hbp0; have HBP1 := q_ hbp1; have HS := q_ hs; have HI := q_ hI; have HB0 := q_ hB; have HF := q_ hF; have ef := hf
  clear hr hc hok hi1 hl1 hl2 hi2 hcls hops htms hP0 hP1 hbp0 hbp1 hs hI hB hF hf hn hik
  replace p0 := eq_true p0; replace q0 := eq_true q0
  go_enter Try.func106, Try.ntmps106
  go_upto_region 5 with (first
    | ((with_reducible refine gate_dst (N := 4) rfl ?_); clear T0; refine bx_ 4 #[.slice (some ad) l.length c] 29 ?_; intro g1 hg w1 hbox hb; have BK1 := q_ hbox; have HW := q_ hb; have FR := q_ (FrB.start HI.o HB0.o hb); have G1 := q_ (Nat.le_of_eq hg.symm); have HLO := q_ (FR.o.lo); replace hx0 := mv_ HLO.o hx0; replace hx1 := mv_ HLO.o hx1; replace hx2 := mv_ HLO.o hx2; replace hx3 := mv_ HLO.o hx3; replace hx4 := mv_ HLO.o hx4; clear hb hbox hg HLO; obtain ⟨hcz, hfz⟩ := d1_ BK1)
    | (go_at_call 108; (with_reducible refine (fullI_hand _ g _ _ en _ FR.o.st).mono ?_); rintro e w7 ⟨rfl, rfl⟩; rw [ef])
    | ((with_reducible refine gate_dst (N := 8) rfl ?_); clear T1; refine bx_ 8 #[.int .i64 0, .slice none 0 0, .slice none 0 0, .int .i64 0, .int .i64 0] 156 ?_; intro g3 hg w3 hbox hb; have BK3 := q_ hbox; have G3 := ge_ hg HW; have NB := nl_ hg BK1; replace BK1 := lb_ BK1 hb; replace HW := sb_ HW hb; clear hb hbox hg; obtain ⟨hy0, hy1, hy2, hy3, hy4, hf0, hf1, hf2, hf3, hf4⟩ := d5_ BK3))
  generalize hW_ : (((((w3.setCell ⟨g3, 0, none⟩ (.int .i64 x.f0)).setCell ⟨g3, 1, none⟩ (.slice A1 x.f1.length c1)).setCell ⟨g3, 2, none⟩ (.slice A2 x.f2.length c2)).setCell ⟨g3, 3, none⟩ (.int .i64 x.f3)).setCell ⟨g3, 4, none⟩ (.int .i64 x.f4)) = w5
  replace BK1 := bf5_ hW_ BK1 NB; replace BK3 := bp5_ hW_ BK3; replace HW := bw5_ hW_ (be2_ HW.o G1.o G3.o)
  clear hW_ hx0 hx1 hx2 hx3 hx4 hcz hfz hy0 hy1 hy2 hy3 hy4 hf0 hf1 hf2 hf3 hf4 NB p0 q0 ef FR
  have FR := q_ (FrB.start HI.o HB0.o HW.o); have FR0 := q_ (okF.free HF.o HW.o)
  clear HI HB0 HF
  rcases HOPS.o with h | ⟨h, hl⟩ | ⟨h, hl⟩
  · have hR := HRR.o
    clear HRR
    unfold stepN at hR
    rw [if_pos h] at hR
    unfold setN at hR
    have HRR := q_ hR; clear hR
    clear HOPS HTMS HP0 HP1 HBP0 HBP1 HR
    obtain ⟨hy0, hy1, hy2, hy3, hy4, hf0, hf1, hf2, hf3, hf4⟩ := d5_ (q_ (FR.o.blk BK3.o G3.o HGW.o)); obtain ⟨hcz, hfz⟩ := d1_ (q_ (FR.o.blk BK1.o G1.o HGW.o))
    have hor : ((x.f0 == 1) = true) ∨ ((x.f0 == 1) = false ∧ (x.f0 == 2) = true) := by
      rcases h with h | h
      · exact .inl (beq_iff_eq.mpr h)
      · exact .inr ⟨beq_eq_false_iff_ne.mpr (by omega), beq_iff_eq.mpr h⟩
    clear h
    rcases hor with e1 | ⟨n1, e2⟩
    all_goals
      go_wp2_with (first
      | (go_at_call 143; (with_reducible refine (pairI_hand _ g _ _ en _ FR.o.st FR.o.lo (by omega)).mono ?_); rintro e w7 ⟨rfl, hI, hB, hK2⟩; replace FR := q_ (FR.o.call hI hB hK2); clear hI hB hK2; clear hy0 hy1 hy2 hy3 hy4 hf0 hf1 hf2 hf3 hf4 hcz hfz; obtain ⟨hy0, hy1, hy2, hy3, hy4, hf0, hf1, hf2, hf3, hf4⟩ := d5_ (q_ (FR.o.blk BK3.o G3.o HGW.o)); obtain ⟨hcz, hfz⟩ := d1_ (q_ (FR.o.blk BK1.o G1.o HGW.o)))
      | (go_at_call 107; refine (edgeI_hand _ g _ _ _ _ en A1 c1 x.f1 _ FR.o.st FR.o.lo (FR.o.fr FR0.o) (Kd.C_below HI1.o FR.o.lo) HL1.o HX1.o (by first | omega | (simp; omega))).mono ?_; rintro e w7 ⟨rfl, hI, hB, hK2⟩; replace FR := q_ (FR.o.call hI hB hK2); clear hI hB hK2))
      go_ret2
      have h2 : n + 1 + 1 = n + 2 := by omega
      rw [h2] at FR
      rw [← HRR.o]
      exact ⟨rfl, FR.o.fin HW.o⟩
  · have hR := HRR.o
    clear HRR
    unfold stepN at hR
    rw [if_neg (by omega)] at hR
    rcases h with h | h
    · rw [if_pos h] at hR
      unfold catN at hR
      have hlen := hl
      obtain ⟨ad2, e, hk0⟩ := Kd.at_int HI2.o 0 (by omega) (by omega)
      subst e
      rw [show (0 : Int).toNat = 0 from rfl, Addr.add_zero'] at hk0
      have HK0 := q_ hk0; clear hk0
      have q2 : (0 < x.f2.length) = True := eq_true (by omega)
      have q := (eq_true (by omega : 0 < (x.f2.length : Int)) : (0 < (x.f2.length : Int)) = True)
      have z0 : (0 ≤ (0 : Int)) = True := eq_true (by omega)
      obtain ⟨ad3, e, hk1⟩ := Kd.at_int HI2.o 1 (by omega) (by omega)
      obtain rfl : ad2 = ad3 := by injection e
      clear e
      simp only [show (1 : Int).toNat = 1 from rfl, Go.Addr.add, Nat.reduceMul, Nat.reduceEqDiff, ↓reduceIte] at hk1
      have HK1 := q_ hk1; clear hk1
      have q3 : (1 < x.f2.length) = True := eq_true (by omega)
      have qq := (eq_true (by omega : 1 < (x.f2.length : Int)) : (1 < (x.f2.length : Int)) = True)
      have z1 : (0 ≤ (1 : Int)) = True := eq_true (by omega)
      have hbn := (HBP0.o 0 (n, es) HS.o).le (show max 0 (16 * k) ≤ 60000 by omega)
      obtain ⟨⟨a, z, n2, es2⟩, hq⟩ : ∃ q, q = P0 (n, es) := ⟨_, rfl⟩
      rw [← hq] at hbn hR
      dsimp only at hbn hR
      have hb4 := hbn.1; have hb5 := hbn.2.1; have hb6 := hbn.2.2
      dsimp only at hb4 hb5 hb6
      have HQ0 := q_ hq; have HN0 := q_ (HS.o.le (show 0 ≤ 60000 by omega)); have HN1 := q_ hbn; have HPC0 := q_ (HP0.o (by omega))
      clear hbn hq
      have hbn := (HBP1.o (16 * k) (n2, es2) (by have h := (HBP0.o 0 (n, es) HS.o).le (show max 0 (16 * k) ≤ 16 * k by omega); rw [← HQ0.o] at h; exact h)).le (show max (16 * k) (16 * k) ≤ 60000 by omega)
      obtain ⟨⟨b, y, n3, es3⟩, hq⟩ : ∃ q, q = P1 (n2, es2) := ⟨_, rfl⟩
      rw [← hq] at hbn hR
      dsimp only at hbn hR
      have hb7 := hbn.1; have hb8 := hbn.2.1; have hb9 := hbn.2.2
      dsimp only at hb7 hb8 hb9
      have HRR := q_ hR; clear hR
      have HQ1 := q_ hq; have HPC1 := q_ (HP1.o (by omega))
      clear hbn hq
      have e3 : (x.f0 == 3) = true := beq_iff_eq.mpr h
      have ne1 : (x.f0 == 1) = false := beq_eq_false_iff_ne.mpr (by omega)
      have ne2 : (x.f0 == 2) = false := beq_eq_false_iff_ne.mpr (by omega)
      clear h HOPS HTMS HP0 HP1 HBP0 HBP1 HR HI2
      obtain ⟨hy0, hy1, hy2, hy3, hy4, hf0, hf1, hf2, hf3, hf4⟩ := d5_ (q_ (FR.o.blk BK3.o G3.o HGW.o)); obtain ⟨hcz, hfz⟩ := d1_ (q_ (FR.o.blk BK1.o G1.o HGW.o))
      go_wp2
      clear hy0 hy1 hy2 hy3 hy4 hf0 hf1 hf2 hf3 hf4 hcz hfz
      replace FR := q_ FR.o.drew
      refine start_ (n := 12) (S := fun w' => w'.cell? ⟨g1, 0, none⟩ = some (.slice (some ad) l.length c) ∧ w'.cell? ⟨g3, 2, none⟩ = some (.slice (some ad2) x.f2.length c2) ∧ w'.cell? ad2 = some (.int .i64 (rd x.f2 0))) (ds := []) (bb 12 0) (by kernel_rfl) rfl rfl ⟨(blk_cell (FR.o.blk BK1.o G1.o HGW.o) 0).trans rfl, (blk_cell (FR.o.blk BK3.o G3.o HGW.o) 2).trans rfl, mv_ FR.o.lo HK0.o⟩ (fun hS => ?_)
      generalize World.drew _ = wd at FR hS ⊢
      refine pk_ 0 49 1 ?_; refine pk_ 2 51 5 ?_; refine tk_ 1 50 7 hS ?_; refine tk_ 3 52 15 hS ?_; refine pk_ 4 53 31 ?_; refine tk_ 5 54 63 hS ?_
      refine one_ (i := 6) (N := some 55) (bb 12 127) rfl rfl (by kernel_rfl) (by decide) (fun K hK => ?_)
      refine gs_ Try.func106 #[.pointer (some ⟨g, 0, none⟩), .agg #[.slice (some ad) l.length c], .int .i64 (rd x.f2 0)] ?_
      (with_reducible refine (HPC0.o.at HQ0.o HN0.o FR.o.st FR.o.lo (FR.o.fr FR0.o)).mono ?_)
      rintro e w7 ⟨rfl, hI, hB, hK2⟩
      refine ⟨_, rfl, ?_⟩
      replace FR := q_ (FR.o.call hI hB hK2); clear hI hB hK2
      refine hK.out _ _ ⟨(blk_cell (FR.o.blk BK1.o G1.o HGW.o) 0).trans rfl, (blk_cell (FR.o.blk BK3.o G3.o HGW.o) 2).trans rfl, mv_ FR.o.lo HK0.o⟩ (fun hS => ?_)
      clear hK K; refine no_ (some 55) ?_
      refine pk_ 7 48 255 ?_; refine pk_ 8 56 511 ?_; refine pk_ 9 57 1023 ?_; refine pk_ 10 11 2047 ?_; refine pk_ 11 12 4095 ?_
      refine done_ (by kernel_rfl) ?_
      clear hS
      go_wp2
      replace FR := q_ FR.o.drew
      refine start_ (n := 12) (S := fun w' => w'.cell? ⟨g1, 0, none⟩ = some (.slice (some ad) l.length c) ∧ w'.cell? ⟨g3, 2, none⟩ = some (.slice (some ad2) x.f2.length c2) ∧ w'.cell? ⟨ad2.block, ad2.off + 1, none⟩ = some (.int .i64 (rd x.f2 1))) (ds := []) (bb 12 0) (by kernel_rfl) rfl rfl ⟨(blk_cell (FR.o.blk BK1.o G1.o HGW.o) 0).trans rfl, (blk_cell (FR.o.blk BK3.o G3.o HGW.o) 2).trans rfl, mv_ FR.o.lo HK1.o⟩ (fun hS => ?_)
      generalize World.drew _ = wd at FR hS ⊢
      refine pk_ 0 59 1 ?_; refine pk_ 2 61 5 ?_; refine tk_ 1 60 7 hS ?_; refine tk_ 3 62 15 hS ?_; refine pk_ 4 63 31 ?_; refine tk_ 5 64 63 hS ?_
      refine one_ (i := 6) (N := some 65) (bb 12 127) rfl rfl (by kernel_rfl) (by decide) (fun K hK => ?_)
      refine gs_ Try.func106 #[.pointer (some ⟨g, 0, none⟩), .agg #[.slice (some ad) l.length c], .int .i64 (rd x.f2 1)] ?_
      (with_reducible refine (HPC1.o.at HQ1.o HN1.o FR.o.st FR.o.lo (FR.o.fr FR0.o)).mono ?_)
      rintro e w7 ⟨rfl, hI, hB, hK2⟩
      refine ⟨_, rfl, ?_⟩
      replace FR := q_ (FR.o.call hI hB hK2); clear hI hB hK2
      refine hK.out _ _ ⟨(blk_cell (FR.o.blk BK1.o G1.o HGW.o) 0).trans rfl, (blk_cell (FR.o.blk BK3.o G3.o HGW.o) 2).trans rfl, mv_ FR.o.lo HK1.o⟩ (fun hS => ?_)
      clear hK K; refine no_ (some 65) ?_
      refine pk_ 7 58 255 ?_; refine pk_ 8 66 511 ?_; refine pk_ 9 67 1023 ?_; refine pk_ 10 13 2047 ?_; refine pk_ 11 14 4095 ?_
      refine done_ (by kernel_rfl) ?_
      clear hS
      go_wp2_with (first
      | (go_at_call 107; refine (edgeI_hand _ g _ _ _ _ en none 0 [] _ FR.o.st FR.o.lo (FR.o.fr FR0.o) (Kd.C_nil _ _) (Nat.le_refl _) (by simp) (by first | omega | (simp; omega))).mono ?_; rintro e w7 ⟨rfl, hI, hB, hK2⟩; replace FR := q_ (FR.o.call hI hB hK2); clear hI hB hK2))
      go_ret2
      rw [← HRR.o]
      exact ⟨rfl, FR.o.fin HW.o⟩
    · rw [if_neg (by omega), if_pos h] at hR
      unfold altN at hR
      have hlen := hl
      obtain ⟨ad2, e, hk0⟩ := Kd.at_int HI2.o 0 (by omega) (by omega)
      subst e
      rw [show (0 : Int).toNat = 0 from rfl, Addr.add_zero'] at hk0
      have HK0 := q_ hk0; clear hk0
      have q2 : (0 < x.f2.length) = True := eq_true (by omega)
      have q := (eq_true (by omega : 0 < (x.f2.length : Int)) : (0 < (x.f2.length : Int)) = True)
      have z0 : (0 ≤ (0 : Int)) = True := eq_true (by omega)
      obtain ⟨ad3, e, hk1⟩ := Kd.at_int HI2.o 1 (by omega) (by omega)
      obtain rfl : ad2 = ad3 := by injection e
      clear e
      simp only [show (1 : Int).toNat = 1 from rfl, Go.Addr.add, Nat.reduceMul, Nat.reduceEqDiff, ↓reduceIte] at hk1
      have HK1 := q_ hk1; clear hk1
      have q3 : (1 < x.f2.length) = True := eq_true (by omega)
      have qq := (eq_true (by omega : 1 < (x.f2.length : Int)) : (1 < (x.f2.length : Int)) = True)
      have z1 : (0 ≤ (1 : Int)) = True := eq_true (by omega)
      have hbn := (HBP0.o 0 (n, es) HS.o).le (show max 0 (16 * k) ≤ 60000 by omega)
      obtain ⟨⟨a, z, n2, es2⟩, hq⟩ : ∃ q, q = P0 (n, es) := ⟨_, rfl⟩
      rw [← hq] at hbn hR
      dsimp only at hbn hR
      have hb4 := hbn.1; have hb5 := hbn.2.1; have hb6 := hbn.2.2
      dsimp only at hb4 hb5 hb6
      have HQ0 := q_ hq; have HN0 := q_ (HS.o.le (show 0 ≤ 60000 by omega)); have HN1 := q_ hbn; have HPC0 := q_ (HP0.o (by omega))
      clear hbn hq
      have hbn := (HBP1.o (16 * k) (n2, es2) (by have h := (HBP0.o 0 (n, es) HS.o).le (show max 0 (16 * k) ≤ 16 * k by omega); rw [← HQ0.o] at h; exact h)).le (show max (16 * k) (16 * k) ≤ 60000 by omega)
      obtain ⟨⟨b, y, n3, es3⟩, hq⟩ : ∃ q, q = P1 (n2, es2) := ⟨_, rfl⟩
      rw [← hq] at hbn hR
      dsimp only at hbn hR
      have hb7 := hbn.1; have hb8 := hbn.2.1; have hb9 := hbn.2.2
      dsimp only at hb7 hb8 hb9
      have HRR := q_ hR; clear hR
      have HQ1 := q_ hq; have HPC1 := q_ (HP1.o (by omega))
      clear hbn hq
      have e4 : (x.f0 == 4) = true := beq_iff_eq.mpr h
      have ne1 : (x.f0 == 1) = false := beq_eq_false_iff_ne.mpr (by omega)
      have ne2 : (x.f0 == 2) = false := beq_eq_false_iff_ne.mpr (by omega)
      have ne3 : (x.f0 == 3) = false := beq_eq_false_iff_ne.mpr (by omega)
      clear h HOPS HTMS HP0 HP1 HBP0 HBP1 HR HI2
      obtain ⟨hy0, hy1, hy2, hy3, hy4, hf0, hf1, hf2, hf3, hf4⟩ := d5_ (q_ (FR.o.blk BK3.o G3.o HGW.o)); obtain ⟨hcz, hfz⟩ := d1_ (q_ (FR.o.blk BK1.o G1.o HGW.o))
      go_wp2
      clear hy0 hy1 hy2 hy3 hy4 hf0 hf1 hf2 hf3 hf4 hcz hfz
      replace FR := q_ FR.o.drew
      refine start_ (n := 12) (S := fun w' => w'.cell? ⟨g1, 0, none⟩ = some (.slice (some ad) l.length c) ∧ w'.cell? ⟨g3, 2, none⟩ = some (.slice (some ad2) x.f2.length c2) ∧ w'.cell? ad2 = some (.int .i64 (rd x.f2 0))) (ds := []) (bb 12 0) (by kernel_rfl) rfl rfl ⟨(blk_cell (FR.o.blk BK1.o G1.o HGW.o) 0).trans rfl, (blk_cell (FR.o.blk BK3.o G3.o HGW.o) 2).trans rfl, mv_ FR.o.lo HK0.o⟩ (fun hS => ?_)
      generalize World.drew _ = wd at FR hS ⊢
      refine pk_ 0 77 1 ?_; refine pk_ 2 79 5 ?_; refine tk_ 1 78 7 hS ?_; refine tk_ 3 80 15 hS ?_; refine pk_ 4 81 31 ?_; refine tk_ 5 82 63 hS ?_
      refine one_ (i := 6) (N := some 83) (bb 12 127) rfl rfl (by kernel_rfl) (by decide) (fun K hK => ?_)
      refine gs_ Try.func106 #[.pointer (some ⟨g, 0, none⟩), .agg #[.slice (some ad) l.length c], .int .i64 (rd x.f2 0)] ?_
      (with_reducible refine (HPC0.o.at HQ0.o HN0.o FR.o.st FR.o.lo (FR.o.fr FR0.o)).mono ?_)
      rintro e w7 ⟨rfl, hI, hB, hK2⟩
      refine ⟨_, rfl, ?_⟩
      replace FR := q_ (FR.o.call hI hB hK2); clear hI hB hK2
      refine hK.out _ _ ⟨(blk_cell (FR.o.blk BK1.o G1.o HGW.o) 0).trans rfl, (blk_cell (FR.o.blk BK3.o G3.o HGW.o) 2).trans rfl, mv_ FR.o.lo HK0.o⟩ (fun hS => ?_)
      clear hK K; refine no_ (some 83) ?_
      refine pk_ 7 76 255 ?_; refine pk_ 8 84 511 ?_; refine pk_ 9 85 1023 ?_; refine pk_ 10 15 2047 ?_; refine pk_ 11 16 4095 ?_
      refine done_ (by kernel_rfl) ?_
      clear hS
      go_wp2
      replace FR := q_ FR.o.drew
      refine start_ (n := 12) (S := fun w' => w'.cell? ⟨g1, 0, none⟩ = some (.slice (some ad) l.length c) ∧ w'.cell? ⟨g3, 2, none⟩ = some (.slice (some ad2) x.f2.length c2) ∧ w'.cell? ⟨ad2.block, ad2.off + 1, none⟩ = some (.int .i64 (rd x.f2 1))) (ds := []) (bb 12 0) (by kernel_rfl) rfl rfl ⟨(blk_cell (FR.o.blk BK1.o G1.o HGW.o) 0).trans rfl, (blk_cell (FR.o.blk BK3.o G3.o HGW.o) 2).trans rfl, mv_ FR.o.lo HK1.o⟩ (fun hS => ?_)
      generalize World.drew _ = wd at FR hS ⊢
      refine pk_ 0 87 1 ?_; refine pk_ 2 89 5 ?_; refine tk_ 1 88 7 hS ?_; refine tk_ 3 90 15 hS ?_; refine pk_ 4 91 31 ?_; refine tk_ 5 92 63 hS ?_
      refine one_ (i := 6) (N := some 93) (bb 12 127) rfl rfl (by kernel_rfl) (by decide) (fun K hK => ?_)
      refine gs_ Try.func106 #[.pointer (some ⟨g, 0, none⟩), .agg #[.slice (some ad) l.length c], .int .i64 (rd x.f2 1)] ?_
      (with_reducible refine (HPC1.o.at HQ1.o HN1.o FR.o.st FR.o.lo (FR.o.fr FR0.o)).mono ?_)
      rintro e w7 ⟨rfl, hI, hB, hK2⟩
      refine ⟨_, rfl, ?_⟩
      replace FR := q_ (FR.o.call hI hB hK2); clear hI hB hK2
      refine hK.out _ _ ⟨(blk_cell (FR.o.blk BK1.o G1.o HGW.o) 0).trans rfl, (blk_cell (FR.o.blk BK3.o G3.o HGW.o) 2).trans rfl, mv_ FR.o.lo HK1.o⟩ (fun hS => ?_)
      clear hK K; refine no_ (some 93) ?_
      refine pk_ 7 86 255 ?_; refine pk_ 8 94 511 ?_; refine pk_ 9 95 1023 ?_; refine pk_ 10 17 2047 ?_; refine pk_ 11 18 4095 ?_
      refine done_ (by kernel_rfl) ?_
      clear hS
      go_wp2_with (first
      | (go_at_call 143; (with_reducible refine (pairI_hand _ g _ _ en _ FR.o.st FR.o.lo (by omega)).mono ?_); rintro e w7 ⟨rfl, hI, hB, hK2⟩; replace FR := q_ (FR.o.call hI hB hK2); clear hI hB hK2)
      | (go_at_call 107; refine (edgeI_hand _ g _ _ _ _ en none 0 [] _ FR.o.st FR.o.lo (FR.o.fr FR0.o) (Kd.C_nil _ _) (Nat.le_refl _) (by simp) (by first | omega | (simp; omega))).mono ?_; rintro e w7 ⟨rfl, hI, hB, hK2⟩; replace FR := q_ (FR.o.call hI hB hK2); clear hI hB hK2))
      go_ret2
      have h2 : n3 + 1 + 1 = n3 + 2 := by omega
      rw [h2] at FR
      rw [← HRR.o]
      exact ⟨rfl, FR.o.fin HW.o⟩
  · have hR := HRR.o
    clear HRR
    unfold stepN at hR
    rw [if_neg (by omega), if_neg (by omega), if_neg (by omega)] at hR
    by_cases h8 : x.f0 = 8
    · rw [if_pos h8] at hR
      have HRR := q_ hR; clear hR
      have hlen := hl
      obtain ⟨ad2, e, hk0⟩ := Kd.at_int HI2.o 0 (by omega) (by omega)
      subst e
      rw [show (0 : Int).toNat = 0 from rfl, Addr.add_zero'] at hk0
      have HK0 := q_ hk0; clear hk0
      have q2 : (0 < x.f2.length) = True := eq_true (by omega)
      have q := (eq_true (by omega : 0 < (x.f2.length : Int)) : (0 < (x.f2.length : Int)) = True)
      have z0 : (0 ≤ (0 : Int)) = True := eq_true (by omega)
      have ht := HTMS.o h8
      have hxl : 0 < x.f2.length := by omega
      have hx34 : -1 ≤ x.f4 ∧ x.f4 ≤ 30 := by omega
      have hx33 : 0 ≤ x.f3 ∧ x.f3 ≤ 30 := ⟨ht.1, ht.2.1⟩
      clear ht
      have HXL := q_ hxl; have HX33 := q_ hx33; have HX34 := q_ hx34; clear hxl hx33 hx34
      have HPC0 := q_ (HP0.o (by omega))
      have h := h8
      have e8 : (x.f0 == 8) = true := beq_iff_eq.mpr h
      have ne1 : (x.f0 == 1) = false := beq_eq_false_iff_ne.mpr (by omega)
      have ne2 : (x.f0 == 2) = false := beq_eq_false_iff_ne.mpr (by omega)
      have ne3 : (x.f0 == 3) = false := beq_eq_false_iff_ne.mpr (by omega)
      have ne4 : (x.f0 == 4) = false := beq_eq_false_iff_ne.mpr (by omega)
      clear h h8 hlen hl HOPS HTMS HP0 HP1 HBP1 HR HI2
      obtain ⟨hy0, hy1, hy2, hy3, hy4, hf0, hf1, hf2, hf3, hf4⟩ := d5_ (q_ (FR.o.blk BK3.o G3.o HGW.o)); obtain ⟨hcz, hfz⟩ := d1_ (q_ (FR.o.blk BK1.o G1.o HGW.o))
      go_wp2_with (first
      | (go_at_call 144; (with_reducible refine (timesI_hand HPC0.o HBP0.o (by omega) _ g n es en x A1 c1 ad2 c2 _ FR.o.st FR.o.lo (FR.o.fr FR0.o) HS.o HK0.o HXL.o HX33.o HX34.o).mono ?_); rintro e w7 ⟨rfl, hI, hB, hK2⟩; replace FR := q_ (FR.o.call hI hB hK2); clear hI hB hK2))
      go_ret2
      rw [← HRR.o]
      exact ⟨rfl, FR.o.fin HW.o⟩
    · rw [if_neg h8] at hR
      have hlen := hl
      obtain ⟨ad2, e, hk0⟩ := Kd.at_int HI2.o 0 (by omega) (by omega)
      subst e
      rw [show (0 : Int).toNat = 0 from rfl, Addr.add_zero'] at hk0
      have HK0 := q_ hk0; clear hk0
      have q2 : (0 < x.f2.length) = True := eq_true (by omega)
      have q := (eq_true (by omega : 0 < (x.f2.length : Int)) : (0 < (x.f2.length : Int)) = True)
      have z0 : (0 ≤ (0 : Int)) = True := eq_true (by omega)
      have HRR := q_ hR; clear hR
      have HPC0 := q_ (HP0.o (by omega))
      have HN0 := q_ (HS.o.le (show 0 ≤ 40000 by omega))
      have ne1 : (x.f0 == 1) = false := beq_eq_false_iff_ne.mpr (by omega)
      have ne2 : (x.f0 == 2) = false := beq_eq_false_iff_ne.mpr (by omega)
      have ne3 : (x.f0 == 3) = false := beq_eq_false_iff_ne.mpr (by omega)
      have ne4 : (x.f0 == 4) = false := beq_eq_false_iff_ne.mpr (by omega)
      have ne8 : (x.f0 == 8) = false := beq_eq_false_iff_ne.mpr (by omega)
      clear h h8 HOPS HTMS HP0 HP1 HBP1 HR HI2
      obtain ⟨hy0, hy1, hy2, hy3, hy4, hf0, hf1, hf2, hf3, hf4⟩ := d5_ (q_ (FR.o.blk BK3.o G3.o HGW.o)); obtain ⟨hcz, hfz⟩ := d1_ (q_ (FR.o.blk BK1.o G1.o HGW.o))
      go_wp2
      clear hy0 hy1 hy2 hy3 hy4 hf0 hf1 hf2 hf3 hf4 hcz hfz
      replace FR := q_ FR.o.drew
      refine start_ (n := 13) (S := fun w' => w'.cell? ⟨g1, 0, none⟩ = some (.slice (some ad) l.length c) ∧ w'.cell? ⟨g3, 0, none⟩ = some (.int .i64 x.f0) ∧ w'.cell? ⟨g3, 2, none⟩ = some (.slice (some ad2) x.f2.length c2) ∧ w'.cell? ad2 = some (.int .i64 (rd x.f2 0))) (ds := []) (bb 13 0) (by kernel_rfl) rfl rfl ⟨(blk_cell (FR.o.blk BK1.o G1.o HGW.o) 0).trans rfl, (blk_cell (FR.o.blk BK3.o G3.o HGW.o) 0).trans rfl, (blk_cell (FR.o.blk BK3.o G3.o HGW.o) 2).trans rfl, mv_ FR.o.lo HK0.o⟩ (fun hS => ?_)
      generalize World.drew _ = wd at FR hS ⊢
      refine pk_ 0 127 1 ?_; refine pk_ 2 129 5 ?_; refine pk_ 4 131 21 ?_; refine tk_ 1 128 23 hS ?_; refine tk_ 3 130 31 hS ?_; refine tk_ 5 132 63 hS ?_; refine pk_ 6 133 127 ?_; refine tk_ 7 134 255 hS ?_
      refine one_ (i := 8) (N := some 135) (bb 13 511) rfl rfl (by kernel_rfl) (by decide) (fun K hK => ?_)
      refine gs_ Try.func145 #[.pointer (some ⟨g, 0, none⟩), .agg #[.slice (some ad) l.length c], .int .i64 x.f0, .int .i64 (rd x.f2 0)] ?_
      (with_reducible refine (repeatedI_hand HPC0.o HBP0.o (by omega) _ g n x.f0 es en _ FR.o.st FR.o.lo (FR.o.fr FR0.o) HN0.o).mono ?_)
      rintro e w7 ⟨rfl, hI, hB, hK2⟩
      refine ⟨_, rfl, ?_⟩
      replace FR := q_ (FR.o.call hI hB hK2); clear hI hB hK2
      refine hK.out _ _ ⟨(blk_cell (FR.o.blk BK1.o G1.o HGW.o) 0).trans rfl, (blk_cell (FR.o.blk BK3.o G3.o HGW.o) 0).trans rfl, (blk_cell (FR.o.blk BK3.o G3.o HGW.o) 2).trans rfl, mv_ FR.o.lo HK0.o⟩ (fun hS => ?_)
      clear hK K; refine no_ (some 135) ?_
      refine pk_ 9 136 1023 ?_; refine pk_ 10 137 2047 ?_; refine pk_ 11 6 4095 ?_; refine pk_ 12 7 8191 ?_
      refine done_ (by kernel_rfl) ?_
      clear hS
      go_wp2
      go_ret2
      rw [← HRR.o]
      exact ⟨rfl, FR.o.fin HW.o⟩
def AskRx (g : Nat) (lb : Array Value) (w : World) (l0 : List S29) (p : S29 → Bool) : Prop := ∀ (W : World) (x : S29) (A1 : Option Addr) (c1 : Nat), x ∈ l0 → Below w.heap.size w W → Kd.C k156 W A1 x.f0.length x.f0 → x.f0.length ≤ c1 →
  Calls Try.prog g (#[.agg #[.slice A1 x.f0.length c1]] ++ lb) W fun e w' => e = .returned (.bool (p x)) ∧ Below W.heap.size W w'
theorem IndexFunc_Rx (g : Nat) (lb : Array Value) (eg : ∀ args w, (callFunc g args).run Try.prog w = .ok (.enter g args) w) (p : S29 → Bool) (A0 : Option Addr) (c0 : Nat) (l0 : List S29) (w : World) (hr0 : Kd.C k29 w A0 l0.length l0)
    (hp : AskRx g lb w l0 p) :
    Calls Try.prog 142 #[.slice A0 l0.length c0, .func (.func g) #[] lb] w fun e w' => e = .returned (.int .i64 (idxP p l0 0)) ∧ Below w.heap.size w w' := by
  have HP := Lib.hid hp
  clear hp
  have hn := hr0.2.1
  have HR := q_ hr0
  clear hr0
  go_enter Try.func142, Try.ntmps142
  go_wp2
  go_loopg [5, 8] l0.length (fun gg _ s8 wr => ∃ kk : Nat, kk ≤ l0.length ∧ l0.length - kk ≤ gg ∧ s8 = .int .i64 kk ∧ J0 (Below w.heap.size w wr) ∧ J0 (idxP p l0 0 = idxP p (l0.drop kk) kk))
  case atStart => exact ⟨0, Nat.zero_le _, by omega, rfl, ⟨Below.refl _ w⟩, ⟨by simp⟩⟩
  case round =>
    obtain ⟨kk, hkk, hg, rfl, BW, HA⟩ := hrel
    by_cases hlt : kk < l0.length
    · have hltz : (kk : Int) < (l0.length : Int) := by omega
      obtain ⟨ad, A1, c1, rfl, hx0, hl, hi⟩ := at_T29 HR.o (kk : Int) (by omega) hltz
      rw [Int.toNat_natCast] at hx0
      replace hx0 := mv_ BW.o hx0
      have hmem : rd_T29 l0 (kk : Int) ∈ l0 := by
        unfold rd_T29
        rw [List.getD_eq_getElem?_getD, List.getElem?_eq_getElem (by simpa using hlt)]
        exact List.getElem_mem _
      have hcall := HP.out wr (rd_T29 l0 (kk : Int)) A1 c1 hmem BW.o (Kd.C_below hi BW.o) hl
      have hstep : J0 (idxP p l0 0 = if p (rd_T29 l0 (kk : Int)) then (kk : Int) else idxP p (l0.drop (kk + 1)) ((kk + 1 : Nat) : Int)) := ⟨by
        rw [HA.o, drop_cons l0 z29 kk hlt]
        have hr : l0.getD kk z29 = rd_T29 l0 (kk : Int) := by simp [rd_T29]
        rw [hr]
        rfl⟩
      clear hmem hi hl
      generalize rd_T29 l0 (kk : Int) = y at *
      cases hq : p y with
      | true =>
        rw [hq] at hcall
        have hs2 : J0 (idxP p l0 0 = (kk : Int)) := ⟨by rw [hstep.o, hq]; rfl⟩
        clear hstep hq HA
        go_wp2_with (go_at_fn g; refine hcall.mono ?_; rintro e w' ⟨rfl, hb'⟩)
        go_ret
        exact ⟨by (rw [hs2.o]; try rfl), below_then BW.o BW.o.size hb'⟩
      | false =>
        rw [hq] at hcall
        have hs2 : J0 (idxP p l0 0 = idxP p (l0.drop (kk + 1)) ((kk + 1 : Nat) : Int)) := ⟨by rw [hstep.o, hq]; rfl⟩
        clear hstep hq HA
        go_wp2_with (go_at_fn g; refine hcall.mono ?_; rintro e w' ⟨rfl, hb'⟩)
        go_roundg (l0.length - (kk + 1))
        case measure => omega
        case rel => exact ⟨kk + 1, by omega, by omega, by go_num, ⟨below_then BW.o BW.o.size hb'⟩, hs2⟩
    · have hltz : ¬ (kk : Int) < (l0.length : Int) := by omega
      have hk : kk = l0.length := by omega
      have hs2 : J0 (idxP p l0 0 = -1) := ⟨by rw [HA.o, hk]; simp [idxP]⟩
      clear hk HA
      go_wp2
      go_ret
      exact ⟨by (rw [hs2.o]; try rfl), BW.o⟩
theorem ContainsFunc_Rx (g : Nat) (lb : Array Value) (eg : ∀ args w, (callFunc g args).run Try.prog w = .ok (.enter g args) w) (p : S29 → Bool) (A0 : Option Addr) (c0 : Nat) (l0 : List S29) (w : World) (hr0 : Kd.C k29 w A0 l0.length l0)
    (hp : AskRx g lb w l0 p) :
    Calls Try.prog 104 #[.slice A0 l0.length c0, .func (.func g) #[] lb] w fun e w' => e = .returned (.bool (l0.any p)) ∧ Below w.heap.size w w' := by
  have hc := IndexFunc_Rx g lb eg p A0 c0 l0 w hr0 hp
  have ha : l0.any p = decide (0 ≤ idxP p l0 0) := by
    rw [Bool.eq_iff_iff, decide_eq_true_iff, idxP_ge p l0 0 (by omega)]
  rw [ha]
  clear ha hr0 hp
  generalize idxP p l0 0 = i at hc ⊢
  go_enter Try.func104, Try.ntmps104
  go_wp2_with (go_at_call 142; refine hc.mono ?_; rintro e w' ⟨rfl, hb⟩)
  go_ret
  exact ⟨rfl, hb⟩
end Go.Proofs.Ytijmhelacmjggaa.P
namespace Go.Proofs.Ytijmhelacmjggaa.P
open Go.RowKit Go.Proofs.YtijmhelacmjggaaW.PrintWords Go.Proofs.YtijmhelacmjggaaW.PrintLast Go.Proofs.YtijmhelacmjggaaW.PrintMore
attribute [local go_sem] max2_int min2_int max_two min_two max_three min_three max_four min_four
set_option linter.unusedVariables false
set_option linter.unusedSimpArgs false
/-! ### impl_Rx_last: function 64 -/
def impl_Rx_last.f (l0_0 : List (S156)) : Option (Int) := (impl_RNode.f l0_0).bind fun t102 => (some (wrap64 (t102 - 1)))
theorem impl_Rx_last.calls (A0_0 : Option Addr) (c0_0 : Nat) (l0_0 : List (S156)) (r : Int) (w : World) (hr0_0 : Kd.C k156 w A0_0 l0_0.length l0_0) (hc0_0 : l0_0.length ≤ c0_0) (h : impl_Rx_last.f l0_0 = some r) :
  Calls Try.prog 64 #[.agg #[.slice A0_0 l0_0.length c0_0]] w fun e w' => e = .returned (.int .i64 r) ∧ Below w.heap.size w w' := by
 have hu29 := Try.underlying29; have HR0_0 := q_ hr0_0; have HC0_0 := q_ hc0_0; clear hr0_0 hc0_0; have HB := q_ (Below.refl w.heap.size w)
 have H : ((impl_RNode.f l0_0).bind fun t102 => (some (wrap64 (t102 - 1)))) = some r := h
 clear h; obtain ⟨t102, A2, H⟩ := ob_ H; obtain rfl := Option.some.inj H
 go_enter Try.func64, Try.ntmps64
 go_wp2_with (first | ((with_reducible refine gate_dst (N := 1) rfl ?_); refine bx_ 1 #[.slice A0_0 l0_0.length c0_0] 29 ?_; intro gb101 hg w3 hbox hb; have BK101 := q_ (hbox); have GE101 := ge_ hg HB; replace HB := sb_ HB hb; clear hb hbox hg; obtain ⟨hcz4_0, hfz4_0⟩ := d1_ BK101) | ((with_reducible refine gate_callee (f := 118) rfl ?_); refine gl_ (some 5) rfl rfl Try.func118 #[.slice A0_0 l0_0.length c0_0] ?_; (with_reducible refine (impl_RNode.calls _ _ l0_0 t102 _ ?side1 ?side2 A2.o).mono ?_); (case side1 => exact Kd.C_below HR0_0.o (be_ HB.o)); (case side2 => exact HC0_0.o); rintro e w' ⟨rfl, ⟨nd, rfl⟩⟩; refine ⟨_, rfl, ?_⟩))
 go_ret
 exact ⟨rt_, be1_ HB.o GE101.o⟩
/-! ### impl_Rx_103: function 103 -/
def impl_Rx_103.f (l0 : List (S29)) : Option (Int) := some (l0.length : Int)
theorem impl_Rx_103.calls (A0 : Option Addr) (c0 : Nat) (l0 : List (S29)) (r : Int) (w : World) (hr0 : Kd.C k29 w A0 l0.length l0) (hc0 : l0.length ≤ c0) (h : impl_Rx_103.f l0 = some r) :
  Calls Try.prog 103 #[.slice A0 l0.length c0] w fun e w' => e = .returned (.int .i64 r) ∧ Drawn0 w w' := by
 have HR0 := q_ hr0; have HC0 := q_ hc0; clear hr0 hc0
 have H : (some (l0.length : Int)) = some r := h
 clear h; obtain rfl := Option.some.inj H
 go_enter Try.func103, Try.ntmps103
 go_wp2
 go_ret
 exact ⟨by first | rfl | (simp; done) | (simp [*]; done), by repeat (first | exact Drawn0.refl _ | apply Drawn0.step)⟩
end Go.Proofs.Ytijmhelacmjggaa.P
namespace Go.Proofs.Ytijmhelacmjggaa.P
open Go.RowKit Go.Shelf Go.Proofs.YtijmhelacmjggaaW.PrintWords Go.Proofs.YtijmhelacmjggaaW.PrintLast Go.Proofs.YtijmhelacmjggaaW.PrintMore Go.Proofs.YtijmhelacmjggaaEv
set_option linter.unusedVariables false
set_option linter.unusedSimpArgs false
theorem BuildNfa_1_calls (l : List S156) (A : Option Addr) (c : Nat) (W : World) (hl : l.length ≤ 1048576) (hr : Kd.C k156 W A l.length l) (hc : l.length ≤ c) :
    Calls Try.prog 105 (#[.agg #[.slice A l.length c]] ++ #[]) W fun e w' => e = .returned (.bool (!rxB l)) ∧ Below W.heap.size W w' := by
  obtain ⟨k, hk⟩ := ev_get (impl_RxOk_ev l hl)
  generalize rxB l = b at *
  have HK := q_ hk; have HR := q_ hr; have HC := q_ hc; have HB := q_ (Below.refl W.heap.size W); have T0 : J0 True := ⟨trivial⟩
  clear hk hr hc
  show Calls Try.prog _ #[.agg #[.slice A l.length c]] W _
  go_enter Try.func105, Try.ntmps105
  go_wp2_with (first
    | ((with_reducible refine gate_dst (N := 1) rfl ?_); clear T0; refine bx_ 1 #[.slice A l.length c] 29 ?_; intro g hg w1 hbox hb; have BK := q_ hbox; replace HB := sb_ HB hb; clear hb hbox hg; obtain ⟨hcz, hfz⟩ := d1_ BK)
    | (go_at_call 62; (with_reducible refine (impl_RxOk.calls k _ _ l _ _ (Kd.C_below HR.o (be_ HB.o)) HC.o HK.o).mono ?_); rintro e w2 ⟨rfl, hb⟩; replace HB := sb_ HB hb; clear hb))
  go_ret
  exact ⟨rfl, HB.o⟩
theorem rxs_calls (l : List S29) (hl : ∀ x ∈ l, x.f0.length ≤ 1048576) (A : Option Addr) (c : Nat) (W : World) (hr : Kd.C k29 W A l.length l) :
    Calls Try.prog 104 #[.slice A l.length c, .func (.func 105) #[] #[]] W fun e w' => e = .returned (.bool (!l.all fun x => rxB x.f0)) ∧ Below W.heap.size W w' := by
  have eg : ∀ args w, (callFunc 105 args).run Try.prog w = .ok (.enter 105 args) w := enters_of Try.func105 (by kernel_rfl) rfl
  have ha : (!l.all fun x => rxB x.f0) = l.any fun x => !rxB x.f0 := by
    clear hl hr
    induction l with
    | nil => rfl
    | cons a r ih => simp only [List.all_cons, List.any_cons, Bool.not_and, ih]
  rw [ha]
  refine ContainsFunc_Rx _ _ eg (fun x => !rxB x.f0) A c l W hr ?_
  intro W2 x A2 c2 hx hb2 hr2 hc2
  exact BuildNfa_1_calls x.f0 A2 c2 W2 (hl x hx) hr2 hc2
theorem BuildNfaI_none (A : Option Addr) (c : Nat) (l : List S29) (w : World) (hr : Kd.C k29 w A l.length l) (hc : l.length ≤ c) (hl : ∀ x ∈ l, x.f0.length ≤ 1048576) (hno : (decide (1 ≤ (l.length : Int) ∧ (l.length : Int) ≤ 40) && l.all fun x => rxB x.f0) = false) :
    Calls Try.prog 52 #[.slice A l.length c] w fun e w' => e = .returned (.tuple #[.agg #[.int .i64 0, .slice none 0 0, .slice none 0 0], .bool false]) ∧ Below w.heap.size w w' := by
  have HR := q_ hr; have HC := q_ hc; have HL := q_ hl; have HB := q_ (Below.refl w.heap.size w); have T0 : J0 True := ⟨trivial⟩
  have HI := q_ (impl_within_eq (l.length : Int) 1 40)
  have hn := hr.2.1
  clear hr hc hl
  cases hb1 : decide (1 ≤ (l.length : Int) ∧ (l.length : Int) ≤ 40)
  · rw [hb1] at HI
    clear hno hb1
    go_enter Try.func52, Try.ntmps52
    go_wp2_with (first
      | ((with_reducible refine gate_dst (N := 2) rfl ?_); clear T0; refine bx_ 2 #[.int .i64 0, .slice none 0 0, .slice none 0 0] 78 ?_; intro gr hg w1 hbox hb; have BR := q_ hbox; have GR := q_ (Nat.le_of_eq hg.symm); replace HB := sb_ HB hb; clear hb hbox hg; obtain ⟨hr0, hr1, hr2, hf0, hf1, hf2⟩ := d3_ BR)
      | (go_at_call 103; refine (impl_Rx_103.calls A c l _ _ (Kd.C_below HR.o (be_ HB.o)) HC.o rfl).mono ?_; rintro e w' ⟨rfl, ⟨nd, rfl⟩⟩)
      | (go_at_call 79; refine (impl_within.calls _ _ _ false _ HI.o).mono ?_; rintro e w' ⟨rfl, ⟨nd2, rfl⟩⟩))
    refine bodyPost_ret (results_ct rfl _ _ gr 78 #[.int .i64 0, .slice none 0 0, .slice none 0 0] (0, 0) _ rfl (fin3_ (by first | exact BR.o | exact blk_drewN BR.o _)) Try.underlying78 rfl (by kernel_rfl)) rfl ?_
    exact ⟨rfl, finB_ (be_ HB.o) GR.o⟩
  · rw [hb1, Bool.true_and] at hno
    rw [hb1] at HI
    have hal := hno
    clear hno hb1
    go_enter Try.func52, Try.ntmps52
    go_wp2_with (first
      | ((with_reducible refine gate_dst (N := 2) rfl ?_); clear T0; refine bx_ 2 #[.int .i64 0, .slice none 0 0, .slice none 0 0] 78 ?_; intro gr hg w1 hbox hb; have BR := q_ hbox; have GR := q_ (Nat.le_of_eq hg.symm); replace HB := sb_ HB hb; clear hb hbox hg; obtain ⟨hr0, hr1, hr2, hf0, hf1, hf2⟩ := d3_ BR)
      | (go_at_call 103; refine (impl_Rx_103.calls A c l _ _ (Kd.C_below HR.o (be_ HB.o)) HC.o rfl).mono ?_; rintro e w' ⟨rfl, ⟨nd, rfl⟩⟩)
      | (go_at_call 79; refine (impl_within.calls _ _ _ true _ HI.o).mono ?_; rintro e w' ⟨rfl, ⟨nd2, rfl⟩⟩)
      | (go_at_call 104; refine (rxs_calls l HL.o A c _ (Kd.C_below HR.o (be_ HB.o))).mono ?_; rintro e w3 ⟨rfl, hb⟩; replace BR := lb_ BR hb; replace HB := sb_ HB hb; clear hb hr0 hr1 hr2 hf0 hf1 hf2; obtain ⟨hr0, hr1, hr2, hf0, hf1, hf2⟩ := d3_ BR; rw [hal]))
    refine bodyPost_ret (results_ct rfl _ _ gr 78 #[.int .i64 0, .slice none 0 0, .slice none 0 0] (0, 0) _ rfl (fin3_ (by first | exact BR.o | exact blk_drewN BR.o _)) Try.underlying78 rfl (by kernel_rfl)) rfl ?_
    exact ⟨rfl, finB_ (be_ HB.o) GR.o⟩
theorem BuildNfaI_some (A : Option Addr) (c : Nat) (l : List S29) (w : World) (hr : Kd.C k29 w A l.length l) (hc : l.length ≤ c) (hl : ∀ x ∈ l, x.f0.length ≤ 1048576) (hyes : (decide (1 ≤ (l.length : Int) ∧ (l.length : Int) ≤ 40) && l.all fun x => rxB x.f0) = true) (N : NE) (b : Bool) (hN : nfaP (upN timesI l l.length) = (N, b)) :
    Calls Try.prog 52 #[.slice A l.length c] w fun e w' => ∃ v0 v1, e = .returned (.tuple #[.agg #[.int .i64 N.1.1, v0, v1], .bool b]) ∧ Kd.S k187 187 w' w.heap.size (fun _ => True) v0 N.1.2 ∧ Kd.R k138 138 w' w.heap.size (fun _ => True) v1 N.2 ∧ Below w.heap.size w w' := by
  have HR := q_ hr; have HC := q_ hc; have HL := q_ hl; have HB := q_ (Below.refl w.heap.size w); have T0 : J0 True := ⟨trivial⟩; have T1 : J0 True := ⟨trivial⟩
  have HI := q_ (impl_within_eq (l.length : Int) 1 40)
  obtain ⟨hb1, hal⟩ := Bool.and_eq_true_iff.1 hyes
  have hlen := of_decide_eq_true hb1
  rw [hb1] at HI
  have HX : J0 (∀ x ∈ l, rxN x) := ⟨fun x hx => by obtain ⟨h1, h2, h3⟩ := rxB_parts (List.all_eq_true.1 hal x hx); exact ⟨h1, by omega, h3⟩⟩
  have HN := q_ hN
  clear hr hc hl hyes hb1 hN
  go_enter Try.func52, Try.ntmps52
  go_wp2_with (first
    | ((with_reducible refine gate_dst (N := 2) rfl ?_); clear T0; refine bx_ 2 #[.int .i64 0, .slice none 0 0, .slice none 0 0] 78 ?_; intro gr hg w1 hbox hb; have BR := q_ hbox; have GR := q_ (Nat.le_of_eq hg.symm); replace HB := sb_ HB hb; clear hb hbox hg; obtain ⟨hr0, hr1, hr2, hf0, hf1, hf2⟩ := d3_ BR)
    | (go_at_call 103; refine (impl_Rx_103.calls A c l _ _ (Kd.C_below HR.o (be_ HB.o)) HC.o rfl).mono ?_; rintro e w' ⟨rfl, ⟨nd, rfl⟩⟩)
    | (go_at_call 79; refine (impl_within.calls _ _ _ true _ HI.o).mono ?_; rintro e w' ⟨rfl, ⟨nd2, rfl⟩⟩)
    | (go_at_call 104; refine (rxs_calls l HL.o A c _ (Kd.C_below HR.o (be_ HB.o))).mono ?_; rintro e w3 ⟨rfl, hb⟩; replace BR := lb_ BR hb; replace HB := sb_ HB hb; clear hb hr0 hr1 hr2 hf0 hf1 hf2; obtain ⟨hr0, hr1, hr2, hf0, hf1, hf2⟩ := d3_ BR; rw [hal])
    | ((with_reducible refine gate_dst (N := 20) rfl ?_); clear T1; refine bx_ 20 #[.int .i64 1, .slice none 0 0, .slice none 0 0] 144 ?_; intro g hg wA hbox hb; have BG := q_ hbox; have NB := nl_ hg BR; have GG := ge_ hg HB; replace BR := lb_ BR hb; replace HB := sb_ HB hb; clear hb hbox hg))
  have FR : J0 (FrB 144 w wA wA (fun k => wA.heap.size ≤ k) g (upN timesI l 0).1.1 (upN timesI l 0).1.2 (upN timesI l 0).2) := ⟨FrB.here ⟨_, _, BG.o, GG.o, Kd.S_nil _ _ _ _ _, Kd.R_nil _ _ _ _ _⟩ HB.o⟩
  have GA := q_ (blk_lt BG.o)
  clear BG HB hr0 hr1 hr2 hf0 hf1 hf2 hal HI
  go_loopg [23] l.length (fun gg v23 wr => ∃ kk : Nat, v23 = .int .i64 kk ∧ kk ≤ l.length ∧ l.length - kk ≤ gg ∧ J0 (FrB 144 w wA wr (fun k => wA.heap.size ≤ k) g (upN timesI l kk).1.1 (upN timesI l kk).1.2 (upN timesI l kk).2))
  case atStart => exact ⟨0, rfl, Nat.zero_le _, by omega, FR⟩
  case round =>
    clear FR
    obtain ⟨kk, rfl, hkk, hgg, FA⟩ := hrel
    by_cases hlt : kk < l.length
    · have hltz : (kk : Int) < (l.length : Int) := by omega
      have hk0 : (0 : Int) ≤ (kk : Int) := by omega
      obtain ⟨ad, A1, c1, e1, hx0, hl1, hi1⟩ := at_T29 HR.o (kk : Int) (by omega) hltz
      cases e1
      rw [Int.toNat_natCast] at hx0
      replace hx0 := mv_ FA.o.lo hx0
      have hm : rd_T29 l (kk : Int) ∈ l := by
        unfold rd_T29
        rw [List.getD_eq_getElem?_getD, List.getElem?_eq_getElem (show (kk : Int).toNat < l.length by omega)]
        exact List.getElem_mem _
      have hxn := HX.o _ hm
      have hbn := upNI_bn l HX.o kk hkk
      have hbn2 := upNI_bn l HX.o (kk + 1) (by omega)
      have hen := upN_ends timesI l kk
      have hup : upN timesI l (kk + 1) = addN timesI (rd_T29 l (kk : Int)) (kk : Int) (upN timesI l kk) := rfl
      generalize rd_T29 l (kk : Int) = x at *
      generalize hU1 : upN timesI l (kk + 1) = U1 at *
      have HU1 := q_ hU1; clear hU1
      obtain ⟨⟨⟨n, es⟩, en⟩, hU⟩ : ∃ q, q = upN timesI l kk := ⟨_, rfl⟩
      rw [← hU] at FA hbn hen hup
      clear hU
      dsimp only at FA hbn hen
      obtain ⟨⟨a, z, n2, es2⟩, hq⟩ : ∃ q, q = xN timesI x (n, es) := ⟨_, rfl⟩
      unfold addN at hup
      dsimp only at hup
      rw [← hq] at hup
      dsimp only [edgeN] at hup
      subst hup
      have HQ := q_ (show (a, z, n2, es2) = partN timesI x.f0 x.f0.length ((x.f0.length : Int) - 1) (n, es) from hq)
      have hs0 := hbn2.2.2
      dsimp only at hs0
      rw [List.length_append, List.length_singleton] at hs0
      have HN1 := q_ (hbn.le (show 16000 + kk ≤ 60000 by omega))
      have hx1 := hxn.1; have hx2 := hxn.2.1
      have HP := q_ (partI_hand (c := c1) (Kd.C_below hi1 (Below.refl _ _)) hl1 hxn.2.2 x.f0.length ((x.f0.length : Int) - 1) (by omega) (by omega) (by omega) (by omega))
      have EL : J0 (impl_Rx_last.f x.f0 = some ((x.f0.length : Int) - 1)) := ⟨by simp only [impl_Rx_last.f, impl_RNode.f, Option.bind_some]; rw [wrap_id (x := (x.f0.length : Int) - 1) (by omega) (by omega)]⟩
      have HI1 := q_ hi1; have HL1 := q_ hl1; have HEN := q_ hen
      clear hi1 hl1 hxn hbn hbn2 hm hq hen
      have HWR := q_ (Below.refl wr.heap.size wr)
      have HGW := q_ (Bd_lt FA.o.st)
      have HFR : J0 (∀ k, wr.heap.size ≤ k → wA.heap.size ≤ k) := ⟨fun k hk => Nat.le_trans FA.o.kp.1 hk⟩
      go_upto_region 7 with ((with_reducible refine gate_dst (N := 6) rfl ?_); refine bx_ 6 #[.slice none 0 0] 29 ?_; intro gx hg w5 hbox hb; have BX := q_ hbox; have GX := ge_ hg HWR; have HLO := q_ hb; replace hx0 := mv_ HLO.o hx0; replace HWR := sb_ HWR hb; clear hb hbox hg; obtain ⟨hcz, hfz⟩ := d1_ BX)
      have BX2 : J0 ((w5.setCell ⟨gx, 0, none⟩ (.slice A1 x.f0.length c1)).heap[gx]? = some (.cells #[.slice A1 x.f0.length c1] 29)) := ⟨blk_put BX.o 0 _ rfl⟩
      replace HWR := q_ (below_set (v := .slice A1 x.f0.length c1) (j := 0) HWR.o GX.o)
      clear BX hcz hfz hx0 HLO
      generalize w5.setCell ⟨gx, 0, none⟩ (.slice A1 x.f0.length c1) = w6 at *
      have BX := BX2; clear BX2
      replace BX := q_ (blk_drew BX.o); replace HWR := q_ (below_drew1 HWR.o)
      refine start_ (n := 10) (S := fun w' => w'.cell? ⟨gx, 0, none⟩ = some (.slice A1 x.f0.length c1)) (ds := []) (bb 10 0) (by kernel_rfl) rfl rfl ((blk_cell BX.o 0).trans rfl) (fun hS => ?_)
      generalize World.drew _ = wd at BX HWR hS ⊢
      refine pk_ 0 29 1 ?_; refine tk_ 1 30 3 hS ?_; refine tk_ 2 31 7 hS ?_
      refine one_ (i := 3) (N := some 32) (bb 10 15) rfl rfl (by kernel_rfl) (by decide) (fun K hK => ?_)
      refine gs_ Try.func64 #[.agg #[.slice A1 x.f0.length c1]] ?_
      with_reducible refine (impl_Rx_last.calls _ _ x.f0 _ _ (Kd.C_below (Kd.C_below HI1.o FA.o.lo) HWR.o) HL1.o EL.o).mono ?_
      rintro e w7 ⟨rfl, hb⟩
      refine ⟨_, rfl, ?_⟩
      replace BX := lb_ BX hb; replace HWR := sb_ HWR hb; clear hb
      refine hK.out _ _ ((blk_cell BX.o 0).trans rfl) (fun hS => ?_)
      clear hK K; refine no_ (some 32) ?_
      have FR := q_ (FrB.start FA.o.st FA.o.lo HWR.o); have FR0 := q_ (okF.free HFR.o HWR.o)
      refine one_ (i := 4) (N := some 33) (bb 10 31) rfl rfl (by kernel_rfl) (by decide) (fun K hK => ?_)
      refine gs_ Try.func106 #[.pointer (some ⟨g, 0, none⟩), .agg #[.slice A1 x.f0.length c1], .int .i64 ((x.f0.length : Int) - 1)] ?_
      (with_reducible refine (HP.out.at HQ.o HN1.o FR.o.st FR.o.lo (FR.o.fr FR0.o)).mono ?_)
      rintro e w8 ⟨rfl, hI, hB, hK2⟩
      refine ⟨_, rfl, ?_⟩
      replace FR := q_ (FR.o.call hI hB hK2); clear hI hB hK2
      refine hK.out _ _ ((blk_cell (FR.o.blk BX.o GX.o HGW.o) 0).trans rfl) (fun hS => ?_)
      clear hK K; refine no_ (some 33) ?_
      refine pk_ 5 28 63 ?_; refine pk_ 6 34 127 ?_; refine pk_ 7 35 255 ?_; refine pk_ 8 7 511 ?_; refine pk_ 9 8 1023 ?_
      refine done_ (by kernel_rfl) ?_
      clear hS
      go_wp2_with (first
        | (go_at_call 107; refine (edgeI_hand _ g _ _ _ _ en none 0 [] _ FR.o.st FR.o.lo (FR.o.fr FR0.o) (Kd.C_nil _ _) (Nat.le_refl _) (by simp) (by omega)).mono ?_; rintro e w9 ⟨rfl, hI, hB, hK2⟩; replace FR := q_ (FR.o.call hI hB hK2); clear hI hB hK2; obtain ⟨v0, v1, hG, hg, hR0, hR1⟩ := FR.o.st; obtain ⟨A9, c9, rfl⟩ := Kd.R_slice hR1; have BK := q_ hG; have GE := q_ hg; have HO0 := q_ hR0; have HO1 := q_ hR1; have HLO := q_ FR.o.lo; obtain ⟨hb0, hb1, hb2, hbf0, hbf1, hbf2⟩ := d3_ BK; clear hG hg hR0 hR1)
        | ((with_reducible refine gate_builtin (b := .append) (xs := #[.tmp 44, .tmp 48]) rfl ?_); at_builtin; refine Kd.R_append k138 (w0 := w) w.heap.size rfl (.tmp 44) (.tmp 48) 76 138 (.agg #[(.int .i64 0), (.int .i64 0)]) 16 rfl Try.underlying76 infoEnd_ rfl (by decide) (by omega) (.slice A9 en.length c9) en (⟨z, (kk : Int)⟩ : S138) [.int .i64 z, .int .i64 (kk : Int)] (okF (fun k => wA.heap.size ≤ k) wr w7) (fun _ => False) rfl rfl ?aP (fun _ hk => hk.elim) ?aF ?aO ?aB ?aS ?aL ?_; (case aP => exact k138_mkM _ _ _ (⟨z, (kk : Int)⟩ : S138)); (case aF => exact FR.o.fr FR0.o); (case aO => exact HO1.o); (case aB => exact HLO.o); (case aS => exact HLO.o.size); (case aL => have := HEN.o; omega); intro v2 w2 ho hb hgr hat; obtain ⟨A2, c2, e2⟩ := Kd.R_slice ho; subst e2; have hln : (en ++ [(⟨z, (kk : Int)⟩ : S138)]).length = en.length + 1 := (by simp); rw [hln] at ho ⊢; have hne := Kd.R_ne HO1.o BK.o (by decide); have HOb := q_ (Kd.S_over' HO0.o (Kd.R_typed HO1.o) (by decide) hgr); have BK2 := q_ (blk_grown BK.o hgr hne); have KP2 := q_ (grown_keep (g := g) HO1.o hgr); have HO2 := q_ ho; have HB2 := q_ hb; clear hb0 hb1 hb2 hbf0 hbf1 hbf2; obtain ⟨hb0, hb1, hb2, hbf0, hbf1, hbf2⟩ := d3_ BK2; clear ho hb hgr hat hne hln))
      go_roundg (l.length - (kk + 1))
      case measure => omega
      case rel =>
        refine ⟨kk + 1, by go_num, by omega, by omega, ?_⟩
        rw [HU1.o]
        have F2 := FR.o.call (W2 := w2.setCell ⟨g, 2, none⟩ (.slice A2 (en.length + 1) c2)) ⟨_, _, (blk_set BK2.o 2 _).trans rfl, GE.o, Kd.S_set HOb.o BK2.o (by decide) 2 _, Kd.R_set HO2.o BK2.o (by decide) 2 _⟩ (below_set HB2.o GE.o) (KeepB.trans KP2.o (KeepB.set 2 _))
        obtain ⟨f1, f2, f3⟩ := F2.fin HWR.o
        exact ⟨FA.o.call f1 f2 f3⟩
    · have e : kk = l.length := by omega
      subst e
      have hN := HN.o
      have BR2 : J0 (wr.heap[gr]? = some (.cells #[.int .i64 0, .slice none 0 0, .slice none 0 0] 78)) := ⟨FA.o.kp.blk BR.o NB.o (fun h => Nat.not_lt.2 h (blk_lt BR.o))⟩
      have HGR := q_ (blk_lt BR.o)
      clear BR HN HL HX HC
      generalize upN timesI l l.length = U at *
      obtain ⟨⟨n, es⟩, en⟩ := U
      unfold nfaP at hN
      dsimp only at FA
      have FR := FA; clear FA
      obtain ⟨v0, v1, hG, hg, hR0, hR1⟩ := FR.o.st; obtain ⟨A9, c9, rfl⟩ := Kd.R_slice hR1; have BK := q_ hG; have GE := q_ hg; have HO0 := q_ hR0; have HO1 := q_ hR1; have HLO := q_ FR.o.lo; obtain ⟨hb0, hb1, hb2, hbf0, hbf1, hbf2⟩ := d3_ BK; clear hG hg hR0 hR1
      obtain ⟨A8, c8, rfl⟩ := Kd.S_slice HO0.o
      have BR := BR2; clear BR2
      obtain ⟨hr0, hr1, hr2, hf0, hf1, hf2⟩ := d3_ BR
      rcases hf : fullB n es with _ | _
      · rw [if_neg (show ¬ fullN (n, es) = true by unfold fullN; rw [hf]; decide)] at hN
        obtain ⟨rfl, rfl⟩ := Prod.mk.inj hN
        have ef := hf
        clear hN hf
        go_wp2_with (go_at_call 108; (with_reducible refine (fullI_hand _ g _ _ en _ FR.o.st).mono ?_); rintro e w7 ⟨rfl, rfl⟩; rw [ef])
        refine bodyPost_ret (results_ct rfl _ _ gr 78 #[.int .i64 n, .slice A8 es.length c8, .slice A9 en.length c9] (0, 0) _ rfl (fin3_ (by first | exact BR.o | exact blk_drewN BR.o _)) Try.underlying78 rfl (by kernel_rfl)) rfl ?_
        have hfar : ∀ k, wA.heap.size ≤ k → k ≠ gr := fun k hk e => by have := HGR.o; omega
        exact ⟨_, _, rfl, fin3S_ HO0.o hfar, fin3R_ HO1.o hfar, finB_ HLO.o GR.o⟩
      · rw [if_pos (show fullN (n, es) = true from hf)] at hN
        obtain ⟨rfl, rfl⟩ := Prod.mk.inj hN
        have ef := hf
        clear hN hf
        go_wp2_with (go_at_call 108; (with_reducible refine (fullI_hand _ g _ _ en _ FR.o.st).mono ?_); rintro e w7 ⟨rfl, rfl⟩; rw [ef])
        refine bodyPost_ret (results_ct rfl _ _ gr 78 #[.int .i64 0, .slice none 0 0, .slice none 0 0] (0, 0) _ rfl (fin3_ (by first | exact BR.o | exact blk_drewN BR.o _)) Try.underlying78 rfl (by kernel_rfl)) rfl ?_
        exact ⟨_, _, rfl, Kd.S_nil _ _ _ _ _, Kd.R_nil _ _ _ _ _, finB_ HLO.o GR.o⟩
end Go.Proofs.Ytijmhelacmjggaa.P
namespace Go.Proofs.Ytijmhelacmjggaa.P
open Go.RowKit Go.Proofs.YtijmhelacmjggaaW.PrintWords Go.Proofs.YtijmhelacmjggaaW.PrintLast Go.Proofs.YtijmhelacmjggaaW.PrintMore
attribute [local go_sem] max2_int min2_int max_two min_two max_three min_three max_four min_four
set_option linter.unusedVariables false
set_option linter.unusedSimpArgs false
/-! ### impl_BuildNfa: function 52 -/
def impl_BuildNfa.f (l0 : List (S29)) : Option (NE × Bool) := if ∀ x ∈ l0, x.f0.length ≤ 1048576 then some (nfaA l0) else none
theorem impl_BuildNfa.calls (A0 : Option Addr) (c0 : Nat) (l0 : List (S29)) (n : Int) (es : List (S187)) (en : List (S138)) (b : Bool) (w : World) (hr0 : Kd.C k29 w A0 l0.length l0) (hc0 : l0.length ≤ c0) (h : impl_BuildNfa.f l0 = some (((n, es), en), b)) :
    Calls Try.prog 52 #[.slice A0 l0.length c0] w fun e w' => ∃ v0_ v1_ : Value, e = .returned (.tuple #[.agg #[.int .i64 n, v0_, v1_], .bool b]) ∧ Kd.S k187 187 w' w.heap.size (fun _ => True) v0_ es ∧ Kd.R k138 138 w' w.heap.size (fun _ => True) v1_ en ∧ Below w.heap.size w w' := by
  unfold impl_BuildNfa.f at h
  split at h
  · rename_i hl
    have h := Option.some.inj h
    unfold nfaA at h
    cases hb : okRxs l0
    · rw [hb, if_neg (by decide)] at h
      injection h with h1 h2
      injection h1 with h1 h3
      injection h1 with h1 h4
      subst h1 h2 h3 h4
      refine (BuildNfaI_none A0 c0 l0 w hr0 hc0 hl hb).mono ?_
      rintro e w' ⟨rfl, hB⟩
      exact ⟨_, _, rfl, Kd.S_nil _ _ _ _ _, Kd.R_nil _ _ _ _ _, hB⟩
    · rw [hb, if_pos rfl] at h
      exact BuildNfaI_some A0 c0 l0 w hr0 hc0 hl hb _ _ h
  · simp at h
end Go.Proofs.Ytijmhelacmjggaa.P
namespace Go.Proofs.Ytijmhelacmjggaa.P
open Go.RowKit Go.Proofs.YtijmhelacmjggaaW.PrintWords Go.Proofs.YtijmhelacmjggaaW.PrintLast Go.Proofs.YtijmhelacmjggaaW.PrintMore Go.Proofs.YtijmhelacmjggaaEv
set_option linter.unusedVariables false
set_option linter.unusedSimpArgs false
theorem spec_NfaOk_ev (n : Int) (es : List S187) (en : List S138) (hI : InE ((n, es), en)) (hn : n ≤ 1000000) (hel : es.length ≤ 1000000) (hen : en.length ≤ 40) : Ev (fun k => spec_NfaOk.f k n es en) (!fullB n es) := by
  obtain ⟨⟨h1, h2⟩, h3⟩ := hI
  dsimp only at h1 h2 h3
  have hw : wrap64 (n - 1) = n - 1 := wrap_id (by omega) (by omega)
  have hj : Ev (fun k => spec_NfaOk.j0 k true n es en) false := by
    rw [ev_succ]
    simp only [spec_NfaOk.j0, if_true]
    exact ev_some.2 rfl
  have hl1 : Ev (fun k => spec_NfaOk.l1 k 0 n es en) true := by
    refine ev_loop en.length (fun k i => spec_NfaOk.l1 k (i : Nat) n es en) (fun _ => true) ?_ ?_ 0 (by omega)
    · rw [ev_succ]
      simp [spec_NfaOk.l1, ev_some]
    · intro i hi ih
      rw [ev_succ]
      obtain ⟨a1, a2, a3⟩ := h3 i en[i] (List.getElem?_eq_getElem hi)
      have hr : rd_T138 en (i : Int) = en[i] := by simp [rd_T138, hi]
      simp only [spec_NfaOk.l1, spec_l1In_eq, Option.bind_some, ev_ite, hr, hw]
      rw [if_pos (by omega), if_pos (by omega), if_pos a1, decide_eq_true (by omega), if_pos rfl, wrap_succ hi (by omega)]
      exact ih
  have hl0 : Ev (fun k => spec_NfaOk.l0 k 0 n es en) true := by
    refine ev_loop es.length (fun k i => spec_NfaOk.l0 k (i : Nat) n es en) (fun _ => true) ?_ ?_ 0 (by omega)
    · rw [ev_succ]
      simp only [spec_NfaOk.l0, ev_ite]
      rw [if_neg (by omega)]
      exact hl1
    · intro i hi ih
      rw [ev_succ]
      obtain ⟨a1, a2, a3⟩ := h2 es[i] (List.getElem_mem _)
      have hr : rd_T187 es (i : Int) = es[i] := by simp [rd_T187, hi]
      simp only [spec_NfaOk.l0, spec_l1In_eq, Option.bind_some, ev_ite, hr, hw]
      rw [if_pos (by omega), if_pos (by omega), decide_eq_true (by omega), if_pos rfl, decide_eq_true (by omega), if_pos rfl, ev_bind (spec_ClassOk_ev es[i].f2), a3]
      simp only [ev_ite, if_true]
      rw [wrap_succ hi (by omega)]
      exact ih
  have hj0 : Ev (fun k => spec_NfaOk.j0 k false n es en) true := by
    rw [ev_succ]
    simp only [spec_NfaOk.j0, Bool.false_eq_true, if_false]
    exact hl0
  unfold spec_NfaOk.f fullB
  simp only [spec_l1In_eq, Option.bind_some, ev_ite]
  by_cases c1 : n ≤ 3000
  · rw [decide_eq_true (show 1 ≤ n ∧ n ≤ 3000 by omega), if_pos rfl, decide_eq_false (show ¬ n > 3000 by omega)]
    by_cases c2 : (es.length : Int) > 12000
    · rw [if_pos c2, decide_eq_true c2]
      exact hj
    · rw [if_neg c2, decide_eq_false c2, decide_eq_false (show ¬ (en.length : Int) > 40 by omega)]
      exact hj0
  · rw [decide_eq_false (show ¬ (1 ≤ n ∧ n ≤ 3000) by omega), if_neg (by decide), decide_eq_true (show n > 3000 by omega)]
    exact hj
theorem rxs_parts {l : List S29} (h : okRxs l = true) : l.length ≤ 40 ∧ ∀ x ∈ l, rxN x := by
  obtain ⟨h1, h2⟩ := Bool.and_eq_true_iff.1 h
  have := of_decide_eq_true h1
  exact ⟨by omega, fun x hx => by obtain ⟨a, b, c⟩ := rxB_parts (List.all_eq_true.1 h2 x hx); exact ⟨a, by omega, c⟩⟩
theorem impl_BuildNfa_ev (l : List S29) (hl : ∀ x ∈ l, x.f0.length ≤ 1048576) : Ev (fun _ => impl_BuildNfa.f l) (nfaA l) := by
  unfold impl_BuildNfa.f
  rw [if_pos hl]
  exact ev_some.2 rfl
theorem spec_BuildNfa_ev (l : List S29) (hl : ∀ x ∈ l, x.f0.length ≤ 1048576) (hk : ∀ x ∈ l, ∀ y ∈ x.f0, y.f2.length ≤ 9223372036854775807) : Ev (fun k => spec_BuildNfa.f k l) (nfaA l) := by
  have hrx : ∀ m : List S29, (∀ x ∈ m, x ∈ l) → ∃ K, ∀ k, K ≤ k → ∀ x ∈ m, spec_RxOk.f k x.f0 = some (rxB x.f0) := by
    intro m
    induction m with
    | nil => exact fun _ => ⟨0, fun _ _ x hx => by cases hx⟩
    | cons a m ih =>
      intro h
      obtain ⟨K1, h1⟩ := ih (fun x hx => h x (List.mem_cons_of_mem _ hx))
      obtain ⟨K2, h2⟩ := spec_RxOk_ev a.f0 (hl a (h a (List.mem_cons_self ..))) (hk a (h a (List.mem_cons_self ..)))
      refine ⟨max K1 K2, fun k hkk x hx => ?_⟩
      rcases List.mem_cons.1 hx with rfl | hx
      · exact h2 k (by omega)
      · exact h1 k (by omega) x hx
  obtain ⟨K, hK⟩ := hrx l (fun _ h => h)
  unfold nfaA
  cases hb : okRxs l
  · rw [if_neg (by decide)]
    refine ⟨K, fun k hkk => ?_⟩
    show spec_BuildNfa.f k l = _
    unfold spec_BuildNfa.f
    rw [if_pos (hK k hkk), hb, if_neg (by decide)]
  · rw [if_pos rfl]
    obtain ⟨p1, p2⟩ := rxs_parts hb
    have hi := upS_in l p2 l.length (Nat.le_refl _)
    have hbn := upNS_bn l p2 l.length (Nat.le_refl _)
    have hen := upN_ends timesS l l.length
    have ha := up_ag l p2 l.length (Nat.le_refl _)
    have hbn2 := hbn.2.1; have hbn3 := hbn.2.2
    obtain ⟨K2, h2⟩ := spec_NfaOk_ev (upN timesS l l.length).1.1 (upN timesS l l.length).1.2 (upN timesS l l.length).2 hi (by omega) (by omega) (by omega)
    refine ⟨max K K2, fun k hkk => ?_⟩
    show spec_BuildNfa.f k l = _
    unfold spec_BuildNfa.f
    have h3 : spec_NfaOk.f k (upN timesS l l.length).1.1 (upN timesS l l.length).1.2 (upN timesS l l.length).2 = some _ := h2 k (by omega)
    rw [if_pos (hK k (by omega)), hb, if_pos rfl, h3]
    show some _ = some _
    congr 1
    have ef : fullN (upN timesS l l.length).1 = fullB (upN timesS l l.length).1.1 (upN timesS l l.length).1.2 := rfl
    rw [← ef]
    unfold nfaP
    rcases ha with ha | ⟨a1, a2⟩
    · rw [ha]
      cases fullN (upN timesS l l.length).1 <;> rfl
    · rw [a1, a2]
      rfl
theorem nfa_both (l : List S29) (hl : ∀ x ∈ l, x.f0.length ≤ 1048576) (hk : ∀ x ∈ l, ∀ y ∈ x.f0, y.f2.length ≤ 9223372036854775807) : ∃ (n : Int) (es : List S187) (en : List S138) (b : Bool), es.length ≤ 12000 ∧ en.length ≤ 40 ∧ (∀ e ∈ es, e.f2.length ≤ 128) ∧ Ev (fun _ => impl_BuildNfa.f l) (((n, es), en), b) ∧ Ev (fun k => spec_BuildNfa.f k l) (((n, es), en), b) := by
  have e1 := impl_BuildNfa_ev l hl
  have e2 := spec_BuildNfa_ev l hl hk
  unfold nfaA at e1 e2
  cases hb : okRxs l
  · rw [hb, if_neg (by decide)] at e1 e2
    exact ⟨0, [], [], false, by decide, by decide, fun e he => by (cases he), e1, e2⟩
  · rw [hb, if_pos rfl] at e1 e2
    obtain ⟨p1, p2⟩ := rxs_parts hb
    have ha := up_ag l p2 l.length (Nat.le_refl _)
    unfold nfaP at e1 e2
    cases hf : fullN (upN timesI l l.length).1
    · rw [hf, if_neg (by decide)] at e1 e2
      rcases ha with ha | ⟨a1, _⟩
      · have hi := upS_in l p2 l.length (Nat.le_refl _)
        have hen := upN_ends timesS l l.length
        rw [← ha] at hi hen
        generalize upN timesI l l.length = q at *
        obtain ⟨⟨n, es⟩, en⟩ := q
        have hs := (Bn.small (s := (n, es)) (by have := hi.1.1; show 0 ≤ n; dsimp only at this; omega) hf)
        have hnf : ¬ (n > 3000 ∨ (es.length : Int) > 12000) := fun h => by rw [(full_iff (n, es)).2 h] at hf; cases hf
        exact ⟨n, es, en, true, by omega, by dsimp only at hen; omega, fun e he => classB_few (hi.1.2 e he).2.2, e1, e2⟩
      · rw [hf] at a1
        cases a1
    · rw [hf, if_pos rfl] at e1 e2
      exact ⟨0, [], [], false, by decide, by decide, fun e he => by (cases he), e1, e2⟩
end Go.Proofs.Ytijmhelacmjggaa.P
