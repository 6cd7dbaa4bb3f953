/- The law FnExactKinds holds for every call: part 5 of 6 of the proof (walks of functions, and what they answer). Conditions: none beyond what the given row says. -/
import Derived.Test.YtijmhelacmjggaaMFnExactKinds0
import Derived.Test.YtijmhelacmjggaaMFnExactKinds2
import Derived.Test.YtijmhelacmjggaaMFnExactKinds3
import Derived.Test.YtijmhelacmjggaaMFnExactKinds1
namespace Go.Proofs.Ytijmhelacmjggaa.P
open Go.RowKit Go.Proofs.YtijmhelacmjggaaW.PrintWords Go.Proofs.YtijmhelacmjggaaW.PrintLast Go.Proofs.YtijmhelacmjggaaW.PrintMore
attribute [local go_sem] max2_int min2_int max_two min_two max_three min_three max_four min_four
set_option linter.unusedVariables false
set_option linter.unusedSimpArgs false
/-! ### spec_l5Rule: function 77 -/
def spec_l5Rule.j0 : Nat → Bool → List (S108) → ByteArray → List (S156) → Bool → Int → ByteArray → Option (Bool)
 | 0, _, _, _, _, _, _, _ => none
 | k + 1, x25, x102000, x103000, x103001, x103002, x103003, x103004 => if x25 = true then (some false) else (if x103003 = 1 then ((spec_ModeAt.f k x102000 x103004).bind fun t107 => (some (decide (t107 ≥ 0)))) else (if x103003 = 2 then ((spec_ModeAt.f k x102000 x103004).bind fun t108 => (some (decide (t108 ≥ 0)))) else (some (x103004.toList == ([] : List UInt8)))))
def spec_l5Rule.f (k : Nat) (l0_0 : List (S108)) (a1_0 : ByteArray) (l1_1 : List (S156)) (a1_2 : Bool) (a1_3 : Int) (a1_4 : ByteArray) : Option (Bool) := (spec_l1Name.f k a1_0).bind fun t103 => (if t103 = true then ((spec_RxOk.f k l1_1).bind fun t104 => (if t104 = true then ((spec_Nullable.f l1_1).bind fun t105 => (if t105 = true then (spec_l5Rule.j0 k true l0_0 a1_0 l1_1 a1_2 a1_3 a1_4) else ((spec_l1In.f a1_3 0 3).bind fun t106 => (spec_l5Rule.j0 k (!t106) l0_0 a1_0 l1_1 a1_2 a1_3 a1_4)))) else (spec_l5Rule.j0 k true l0_0 a1_0 l1_1 a1_2 a1_3 a1_4))) else (spec_l5Rule.j0 k true l0_0 a1_0 l1_1 a1_2 a1_3 a1_4))
set_option maxHeartbeats 8000000 in
set_option maxRecDepth 100000 in
theorem spec_l5Rule.calls (k : Nat) (A0_0 : Option Addr) (c0_0 : Nat) (l0_0 : List (S108)) (a1_0 : ByteArray) (A1_1 : Option Addr) (c1_1 : Nat) (l1_1 : List (S156)) (a1_2 : Bool) (a1_3 : Int) (a1_4 : ByteArray) (r : Bool) (w : World) (hr0_0 : Kd.C k108 w A0_0 l0_0.length l0_0) (hc0_0 : l0_0.length ≤ c0_0) (hr1_1 : Kd.C k156 w A1_1 l1_1.length l1_1) (hc1_1 : l1_1.length ≤ c1_1) (h : spec_l5Rule.f k l0_0 a1_0 l1_1 a1_2 a1_3 a1_4 = some r) :
  Calls Try.prog 77 #[.agg #[.slice A0_0 l0_0.length c0_0], .agg #[.string a1_0, .slice A1_1 l1_1.length c1_1, .bool a1_2, .int .i64 a1_3, .string a1_4]] w fun e w' => e = .returned (.bool r) ∧ Below w.heap.size w w' := by
 have hu46 := Try.underlying46; have hu113 := Try.underlying113; have hu29 := Try.underlying29; have HR0_0 := Aside0.mk hr0_0; have HC0_0 := Aside0.mk hc0_0; clear hr0_0 hc0_0; have HR1_1 := Aside0.mk hr1_1; have HC1_1 := Aside0.mk hc1_1; clear hr1_1 hc1_1; have HB := Aside0.mk (Below.refl w.heap.size w)
 have H : ((spec_l1Name.f k a1_0).bind fun t103 => (if t103 = true then ((spec_RxOk.f k l1_1).bind fun t104 => (if t104 = true then ((spec_Nullable.f l1_1).bind fun t105 => (if t105 = true then (spec_l5Rule.j0 k true l0_0 a1_0 l1_1 a1_2 a1_3 a1_4) else ((spec_l1In.f a1_3 0 3).bind fun t106 => (spec_l5Rule.j0 k (!t106) l0_0 a1_0 l1_1 a1_2 a1_3 a1_4)))) else (spec_l5Rule.j0 k true l0_0 a1_0 l1_1 a1_2 a1_3 a1_4))) else (spec_l5Rule.j0 k true l0_0 a1_0 l1_1 a1_2 a1_3 a1_4))) = some r := h
 clear h; have HC3 := Aside0.mk H; clear H
 go_enter Try.func77, Try.ntmps77
 go_upto_region 1 with (first | ((with_reducible refine gate_dst (N := 2) rfl ?_); refine bx_ 2 #[.slice A0_0 l0_0.length c0_0] 46 ?_; intro gb101 hg w4 hbox hb; have BK101 := Aside0.mk (hbox); have GW101 := ge_ hg HB; have GE101 := GW101; replace HB := sb_ HB hb; clear hb hbox hg) | ((with_reducible refine gate_dst (N := 3) rfl ?_); refine bx_ 3 #[.string a1_0, .slice A1_1 l1_1.length c1_1, .bool a1_2, .int .i64 a1_3, .string a1_4] 113 ?_; intro gb102 hg w5 hbox hb; have BK102 := Aside0.mk (hbox); have GW102 := ge1_ hg HB GE101; have GE102 := GW102; have NB101_102 := nl_ hg BK101; have NB102_101 := ng_ hg BK101; replace BK101 := lb_ BK101 hb; replace HB := sb1_ HB GE101 hb; clear hb hbox hg))
 (try simp only [Act.put, List.setIfInBounds_toArray, List.set_cons_zero, List.set_cons_succ])
 go_cut [25] (fun v25 wc => ∃ (kq : Nat) (x25_2 : Bool), v25 = .bool x25_2 ∧ Aside0 (spec_l5Rule.j0 kq x25_2 l0_0 a1_0 l1_1 a1_2 a1_3 a1_4 = some r) ∧ Aside0 (kq ≤ k) ∧ Aside0 (wc.heap[gb101]? = some (.cells #[(.slice A0_0 l0_0.length c0_0)] 46 (0, 0))) ∧ Aside0 (wc.heap[gb102]? = some (.cells #[.string a1_0, (.slice A1_1 l1_1.length c1_1), .bool a1_2, .int .i64 a1_3, .string a1_4] 113 (0, 0))) ∧ Aside0 (Below w.heap.size w wc))
 case first =>
  have H := HC3.out; clear HC3; obtain ⟨t103, A6, H⟩ := ob_ H
  by_cases c7 : t103 = true
  ·subst c7; rw [if_pos rfl] at H; obtain ⟨t104, A8, H⟩ := ob_ H
   by_cases c9 : t104 = true
   ·subst c9; rw [if_pos rfl] at H; obtain ⟨t105, A10, H⟩ := ob_ H
    by_cases c11 : t105 = true
    ·subst c11; rw [if_pos rfl] at H
     have H' := Aside0.mk H
     clear H; have hnb12 := NB102_101.out; have hnc12 := NB101_102.out; obtain ⟨hcz13_0, hcz13_1, hcz13_2, hcz13_3, hcz13_4, hfz13_0, hfz13_1, hfz13_2, hfz13_3, hfz13_4⟩ := d5_ BK102
     go_wp2_with (first | ((with_reducible refine gate_callee (f := 75) rfl ?_); refine gl_ (some 7) rfl rfl Try.func75 #[.string a1_0] ?_; (with_reducible refine (spec_l1Name.calls k a1_0 true _ A6.out).mono ?_); rintro e w' ⟨rfl, ⟨nd, rfl⟩⟩; refine ⟨_, rfl, ?_⟩) | (go_at_call 59; (with_reducible refine (spec_RxOk.calls k _ _ l1_1 true _ ?side1 ?side2 A8.out).mono ?_); (case side1 => repeat (first | exact (Kd.C_below HR1_1.out (be2_ HB.out GE101.out GE102.out)) | (with_reducible refine Kd.C_alloc ?_ _) | (with_reducible refine Kd.C_drewN ?_ _) | (with_reducible refine Kd.C_drew ?_))); (case side2 => exact HC1_1.out); rintro e w14 ⟨rfl, hb⟩; replace BK101 := lb_ BK101 hb; replace BK102 := lb_ BK102 hb; replace HB := sb2_ HB GE101 GE102 hb; (try clear hb); obtain ⟨hcz15_0, hcz15_1, hcz15_2, hcz15_3, hcz15_4, hfz15_0, hfz15_1, hfz15_2, hfz15_3, hfz15_4⟩ := d5_ BK102) | (go_at_call 17; (with_reducible refine (spec_Nullable.calls _ _ l1_1 true _ ?side1 ?side2 A10.out).mono ?_); (case side1 => exact Kd.C_below HR1_1.out (be_ HB.out)); (case side2 => exact HC1_1.out); rintro e w16 ⟨rfl, hb⟩; replace BK101 := lb_ BK101 hb; replace BK102 := lb_ BK102 hb; replace HB := sb2_ HB GE101 GE102 hb; (try clear hb)))
     go_meet
     case rel => exact ⟨_, (true), rs_, H', ⟨by first | omega | exact Nat.le_refl _⟩, ⟨bk_ BK101.out⟩, ⟨bk_ BK102.out⟩, ⟨be2_ HB.out GE101.out GE102.out⟩⟩
    ·replace c11 := Bool.eq_false_iff.mpr c11; subst c11; rw [if_neg nft_] at H; obtain ⟨t106, A17, H⟩ := ob_ H
     have H' := Aside0.mk H
     clear H; have hnb18 := NB102_101.out; have hnc18 := NB101_102.out; obtain ⟨hcz19_0, hcz19_1, hcz19_2, hcz19_3, hcz19_4, hfz19_0, hfz19_1, hfz19_2, hfz19_3, hfz19_4⟩ := d5_ BK102
     go_wp2_with (first | ((with_reducible refine gate_callee (f := 75) rfl ?_); refine gl_ (some 7) rfl rfl Try.func75 #[.string a1_0] ?_; (with_reducible refine (spec_l1Name.calls k a1_0 true _ A6.out).mono ?_); rintro e w' ⟨rfl, ⟨nd, rfl⟩⟩; refine ⟨_, rfl, ?_⟩) | (go_at_call 59; (with_reducible refine (spec_RxOk.calls k _ _ l1_1 true _ ?side1 ?side2 A8.out).mono ?_); (case side1 => repeat (first | exact (Kd.C_below HR1_1.out (be2_ HB.out GE101.out GE102.out)) | (with_reducible refine Kd.C_alloc ?_ _) | (with_reducible refine Kd.C_drewN ?_ _) | (with_reducible refine Kd.C_drew ?_))); (case side2 => exact HC1_1.out); rintro e w20 ⟨rfl, hb⟩; replace BK101 := lb_ BK101 hb; replace BK102 := lb_ BK102 hb; replace HB := sb2_ HB GE101 GE102 hb; (try clear hb); obtain ⟨hcz21_0, hcz21_1, hcz21_2, hcz21_3, hcz21_4, hfz21_0, hfz21_1, hfz21_2, hfz21_3, hfz21_4⟩ := d5_ BK102) | (go_at_call 17; (with_reducible refine (spec_Nullable.calls _ _ l1_1 false _ ?side1 ?side2 A10.out).mono ?_); (case side1 => exact Kd.C_below HR1_1.out (be_ HB.out)); (case side2 => exact HC1_1.out); rintro e w22 ⟨rfl, hb⟩; replace BK101 := lb_ BK101 hb; replace BK102 := lb_ BK102 hb; replace HB := sb2_ HB GE101 GE102 hb; (try clear hb); obtain ⟨hcz23_0, hcz23_1, hcz23_2, hcz23_3, hcz23_4, hfz23_0, hfz23_1, hfz23_2, hfz23_3, hfz23_4⟩ := d5_ BK102) | (go_at_call 89; (with_reducible refine (spec_l1In.calls a1_3 0 3 t106 _ A17.out).mono ?_); rintro e w' ⟨rfl, ⟨nd, rfl⟩⟩))
     go_meet
     case rel => exact ⟨_, (!t106), rs_, H', ⟨by first | omega | exact Nat.le_refl _⟩, ⟨bk_ BK101.out⟩, ⟨bk_ BK102.out⟩, ⟨be2_ HB.out GE101.out GE102.out⟩⟩
   ·replace c9 := Bool.eq_false_iff.mpr c9; subst c9; rw [if_neg nft_] at H
    have H' := Aside0.mk H
    clear H; have hnb24 := NB102_101.out; have hnc24 := NB101_102.out; obtain ⟨hcz25_0, hcz25_1, hcz25_2, hcz25_3, hcz25_4, hfz25_0, hfz25_1, hfz25_2, hfz25_3, hfz25_4⟩ := d5_ BK102
    go_wp2_with (first | ((with_reducible refine gate_callee (f := 75) rfl ?_); refine gl_ (some 7) rfl rfl Try.func75 #[.string a1_0] ?_; (with_reducible refine (spec_l1Name.calls k a1_0 true _ A6.out).mono ?_); rintro e w' ⟨rfl, ⟨nd, rfl⟩⟩; refine ⟨_, rfl, ?_⟩) | (go_at_call 59; (with_reducible refine (spec_RxOk.calls k _ _ l1_1 false _ ?side1 ?side2 A8.out).mono ?_); (case side1 => repeat (first | exact (Kd.C_below HR1_1.out (be2_ HB.out GE101.out GE102.out)) | (with_reducible refine Kd.C_alloc ?_ _) | (with_reducible refine Kd.C_drewN ?_ _) | (with_reducible refine Kd.C_drew ?_))); (case side2 => exact HC1_1.out); rintro e w26 ⟨rfl, hb⟩; replace BK101 := lb_ BK101 hb; replace BK102 := lb_ BK102 hb; replace HB := sb2_ HB GE101 GE102 hb; (try clear hb)))
    go_meet
    case rel => exact ⟨_, (true), rs_, H', ⟨by first | omega | exact Nat.le_refl _⟩, ⟨bk_ BK101.out⟩, ⟨bk_ BK102.out⟩, ⟨be2_ HB.out GE101.out GE102.out⟩⟩
  ·replace c7 := Bool.eq_false_iff.mpr c7; subst c7; rw [if_neg nft_] at H
   have H' := Aside0.mk H
   clear H; have hnb27 := NB102_101.out; have hnc27 := NB101_102.out; obtain ⟨hcz28_0, hcz28_1, hcz28_2, hcz28_3, hcz28_4, hfz28_0, hfz28_1, hfz28_2, hfz28_3, hfz28_4⟩ := d5_ BK102
   go_wp2_with (first | ((with_reducible refine gate_callee (f := 75) rfl ?_); refine gl_ (some 7) rfl rfl Try.func75 #[.string a1_0] ?_; (with_reducible refine (spec_l1Name.calls k a1_0 false _ A6.out).mono ?_); rintro e w' ⟨rfl, ⟨nd, rfl⟩⟩; refine ⟨_, rfl, ?_⟩))
   go_meet
   case rel => exact ⟨_, (true), rs_, H', ⟨by first | omega | exact Nat.le_refl _⟩, ⟨bk_ BK101.out⟩, ⟨bk_ BK102.out⟩, ⟨be2_ HB.out GE101.out GE102.out⟩⟩
 case rest =>
  clear HC3; (try clear c7); (try clear c9); (try clear c11); (try clear hcz13_0); (try clear hcz13_1); (try clear hcz13_2); (try clear hcz13_3); (try clear hcz13_4); (try clear hcz15_0); (try clear hcz15_1); (try clear hcz15_2); (try clear hcz15_3); (try clear hcz15_4); (try clear hcz19_0); (try clear hcz19_1); (try clear hcz19_2); (try clear hcz19_3); (try clear hcz19_4); (try clear hcz21_0); (try clear hcz21_1); (try clear hcz21_2); (try clear hcz21_3); (try clear hcz21_4); (try clear hcz23_0); (try clear hcz23_1); (try clear hcz23_2); (try clear hcz23_3); (try clear hcz23_4); (try clear hcz25_0); (try clear hcz25_1); (try clear hcz25_2); (try clear hcz25_3); (try clear hcz25_4); (try clear hcz28_0); (try clear hcz28_1); (try clear hcz28_2); (try clear hcz28_3); (try clear hcz28_4); (try clear hfz13_0); (try clear hfz13_1); (try clear hfz13_2); (try clear hfz13_3); (try clear hfz13_4); (try clear hfz15_0); (try clear hfz15_1); (try clear hfz15_2); (try clear hfz15_3); (try clear hfz15_4); (try clear hfz19_0); (try clear hfz19_1); (try clear hfz19_2); (try clear hfz19_3); (try clear hfz19_4); (try clear hfz21_0); (try clear hfz21_1); (try clear hfz21_2); (try clear hfz21_3); (try clear hfz21_4); (try clear hfz23_0); (try clear hfz23_1); (try clear hfz23_2); (try clear hfz23_3); (try clear hfz23_4); (try clear hfz25_0); (try clear hfz25_1); (try clear hfz25_2); (try clear hfz25_3); (try clear hfz25_4); (try clear hfz28_0); (try clear hfz28_1); (try clear hfz28_2); (try clear hfz28_3); (try clear hfz28_4); obtain ⟨kq, x25_2, rfl, HA, HJ2, BK101, BK102, HB⟩ := hcut
  cases kq with
  | zero => exact absurd HA.out (by simp [spec_l5Rule.j0])
  | succ kj2 =>
   have H := HA.out; clear HA
   simp only [spec_l5Rule.j0] at H
   by_cases c29 : x25_2 = true
   ·subst c29; rw [if_pos rfl] at H; obtain rfl := Option.some.inj H
    go_wp2
    go_ret
    exact ⟨rt_, be2_ HB.out GE101.out GE102.out⟩
   ·replace c29 := Bool.eq_false_iff.mpr c29; subst c29; rw [if_neg nft_] at H
    by_cases c30 : a1_3 = 1
    ·rw [if_pos c30] at H
     have c30b0 : (a1_3 == 1) = true := beq_iff_eq.mpr c30
     have c30b1 : (a1_3 != 1) = false := bne_eq_false_iff_eq.mpr c30
     clear c30; obtain ⟨t107, A31, H⟩ := ob_ H; obtain rfl := Option.some.inj H; have hnb32 := NB102_101.out; have hnc32 := NB101_102.out; obtain ⟨hcz33_0, hcz33_1, hcz33_2, hcz33_3, hcz33_4, hfz33_0, hfz33_1, hfz33_2, hfz33_3, hfz33_4⟩ := d5_ BK102; obtain ⟨hcz34_0, hfz34_0⟩ := d1_ BK101
     go_wp2_with (first | ((with_reducible refine gate_callee (f := 76) rfl ?_); refine gl_ (some 37) rfl rfl Try.func76 #[.agg #[.slice A0_0 l0_0.length c0_0], .string a1_4] ?_; (with_reducible refine (spec_ModeAt.calls kj2 _ _ l0_0 a1_4 t107 _ ?side1 ?side2 A31.out).mono ?_); (case side1 => exact Kd.C_below HR0_0.out (be_ HB.out)); (case side2 => exact HC0_0.out); rintro e w35 ⟨rfl, hb⟩; refine ⟨_, rfl, ?_⟩; replace BK101 := lb_ BK101 hb; replace BK102 := lb_ BK102 hb; replace HB := sb2_ HB GE101 GE102 hb; (try clear hb)))
     go_ret
     exact ⟨rt_, be2_ HB.out GE101.out GE102.out⟩
    ·rw [if_neg c30] at H
     have c30b0 : (a1_3 == 1) = false := beq_eq_false_iff_ne.mpr c30
     have c30b1 : (a1_3 != 1) = true := bne_iff_ne.mpr c30
     by_cases c36 : a1_3 = 2
     ·rw [if_pos c36] at H
      have c36b0 : (a1_3 == 2) = true := beq_iff_eq.mpr c36
      have c36b1 : (a1_3 != 2) = false := bne_eq_false_iff_eq.mpr c36
      clear c36; obtain ⟨t108, A37, H⟩ := ob_ H; obtain rfl := Option.some.inj H; have hnb38 := NB102_101.out; have hnc38 := NB101_102.out; obtain ⟨hcz39_0, hcz39_1, hcz39_2, hcz39_3, hcz39_4, hfz39_0, hfz39_1, hfz39_2, hfz39_3, hfz39_4⟩ := d5_ BK102; obtain ⟨hcz40_0, hfz40_0⟩ := d1_ BK101
      go_wp2_with (first | ((with_reducible refine gate_callee (f := 76) rfl ?_); refine gl_ (some 37) rfl rfl Try.func76 #[.agg #[.slice A0_0 l0_0.length c0_0], .string a1_4] ?_; (with_reducible refine (spec_ModeAt.calls kj2 _ _ l0_0 a1_4 t108 _ ?side1 ?side2 A37.out).mono ?_); (case side1 => exact Kd.C_below HR0_0.out (be_ HB.out)); (case side2 => exact HC0_0.out); rintro e w41 ⟨rfl, hb⟩; refine ⟨_, rfl, ?_⟩; replace BK101 := lb_ BK101 hb; replace BK102 := lb_ BK102 hb; replace HB := sb2_ HB GE101 GE102 hb; (try clear hb)))
      go_ret
      exact ⟨rt_, be2_ HB.out GE101.out GE102.out⟩
     ·rw [if_neg c36] at H
      have c36b0 : (a1_3 == 2) = false := beq_eq_false_iff_ne.mpr c36
      have c36b1 : (a1_3 != 2) = true := bne_iff_ne.mpr c36
      obtain rfl := Option.some.inj H; have hnb42 := NB102_101.out; have hnc42 := NB101_102.out; obtain ⟨hcz43_0, hcz43_1, hcz43_2, hcz43_3, hcz43_4, hfz43_0, hfz43_1, hfz43_2, hfz43_3, hfz43_4⟩ := d5_ BK102
      go_wp2
      go_ret
      exact ⟨rt_, be2_ HB.out GE101.out GE102.out⟩
/-! ### spec_GrammarOk: function 26 -/
mutual
def spec_GrammarOk.j0 : Nat → Bool → List (S108) → Option (Bool)
 | 0, _, _ => none
 | k + 1, x15, x102000 => if x15 = true then (some false) else (spec_GrammarOk.l0 k 0 x102000)
def spec_GrammarOk.l0 : Nat → Int → List (S108) → Option (Bool)
 | 0, _, _ => none
 | k + 1, x3, x102000 => if x3 < (x102000.length : Int) then (if 0 ≤ x3 then ((spec_l1Name.f k ((rd_T108 x102000 x3).f0)).bind fun t104 => (if t104 = true then ((spec_ModeAt.f k x102000 ((rd_T108 x102000 x3).f0)).bind fun t105 => (if t105 = x3 then (if (((rd_T108 x102000 x3).f1).length : Int) < 1 then (spec_GrammarOk.j2 k x3 true x102000 ((rd_T108 x102000 x3).f0) ((rd_T108 x102000 x3).f1)) else (spec_GrammarOk.j2 k x3 (decide ((((rd_T108 x102000 x3).f1).length : Int) > 40)) x102000 ((rd_T108 x102000 x3).f0) ((rd_T108 x102000 x3).f1))) else (spec_GrammarOk.j2 k x3 true x102000 ((rd_T108 x102000 x3).f0) ((rd_T108 x102000 x3).f1)))) else (spec_GrammarOk.j2 k x3 true x102000 ((rd_T108 x102000 x3).f0) ((rd_T108 x102000 x3).f1)))) else (none)) else (some true)
def spec_GrammarOk.j2 : Nat → Int → Bool → List (S108) → ByteArray → List (S113) → Option (Bool)
 | 0, _, _, _, _, _ => none
 | k + 1, x3, x51, x102000, x104000, x104001 => if x51 = true then (some false) else (spec_GrammarOk.l1 k x3 0 x102000 x104000 x104001)
def spec_GrammarOk.l1 : Nat → Int → Int → List (S108) → ByteArray → List (S113) → Option (Bool)
 | 0, _, _, _, _, _ => none
 | k + 1, x3, x5, x102000, x104000, x104001 => if x5 < (x104001.length : Int) then (if 0 ≤ x5 then ((spec_l5Rule.f k x102000 ((rd_T113 x104001 x5).f0) ((rd_T113 x104001 x5).f1.f0) ((rd_T113 x104001 x5).f2) ((rd_T113 x104001 x5).f3) ((rd_T113 x104001 x5).f4)).bind fun t107 => (if t107 = true then (spec_GrammarOk.l1 k x3 (wrap64 (x5 + 1)) x102000 x104000 x104001) else (some false))) else (none)) else (spec_GrammarOk.l0 k (wrap64 (x3 + 1)) x102000)
end
def spec_GrammarOk.f (k : Nat) (l0_0 : List (S108)) : Option (Bool) := if (l0_0.length : Int) < 1 then (spec_GrammarOk.j0 k true l0_0) else (spec_GrammarOk.j0 k (decide ((l0_0.length : Int) > 12)) l0_0)
def spec_GrammarOk.T12 : Bool × List (List Nat × List Nat) := (true, [([], []), ([], []), ([1], [1]), ([], []), ([2, 3], [2, 3]), ([4], [4]), ([0, 5], [0, 5]), ([6], [6])])
def spec_GrammarOk.B12 : List Nat := [0, 0, 2, 0, 14, 30, 63, 127]
theorem spec_GrammarOk.tab12 : rtab .any (opsOf Try.f26 12) = spec_GrammarOk.T12 := by kernel_rfl
theorem spec_GrammarOk.bits12 : waitsOk spec_GrammarOk.T12.2 spec_GrammarOk.B12 = true := by kernel_rfl
set_option maxHeartbeats 8000000 in
set_option maxRecDepth 100000 in
theorem spec_GrammarOk.calls (k : Nat) (A0_0 : Option Addr) (c0_0 : Nat) (l0_0 : List (S108)) (r : Bool) (w : World) (hr0_0 : Kd.C k108 w A0_0 l0_0.length l0_0) (hc0_0 : l0_0.length ≤ c0_0) (h : spec_GrammarOk.f k l0_0 = some r) :
  Calls Try.prog 26 #[.agg #[.slice A0_0 l0_0.length c0_0]] w fun e w' => e = .returned (.bool r) ∧ Below w.heap.size w w' := by
 have hu46 := Try.underlying46; have hu108 := Try.underlying108; have hu113 := Try.underlying113; have HR0_0 := Aside0.mk hr0_0; have HC0_0 := Aside0.mk hc0_0; clear hr0_0 hc0_0; have HB := Aside0.mk (Below.refl w.heap.size w)
 have H : (if (l0_0.length : Int) < 1 then (spec_GrammarOk.j0 k true l0_0) else (spec_GrammarOk.j0 k (decide ((l0_0.length : Int) > 12)) l0_0)) = some r := h
 clear h; have HC2 := Aside0.mk H; clear H
 go_enter Try.func26, Try.ntmps26
 go_upto_region 1 with (first | ((with_reducible refine gate_dst (N := 1) rfl ?_); (try (refine gate_guard (by rfl) ?_; dsimp only)); refine bx_ 1 #[.slice A0_0 l0_0.length c0_0] 46 ?_; intro gb101 hg w3 hbox hb; have BK101 := Aside0.mk (hbox); have GW101 := ge_ hg HB; have GE101 := GW101; replace HB := sb_ HB hb; clear hb hbox hg))
 (try simp only [Act.put, List.setIfInBounds_toArray, List.set_cons_zero, List.set_cons_succ])
 go_cut [15] (fun v15 wc => ∃ (kq : Nat) (x15_1 : Bool), v15 = .bool x15_1 ∧ Aside0 (spec_GrammarOk.j0 kq x15_1 l0_0 = some r) ∧ Aside0 (kq ≤ k) ∧ Aside0 (wc.heap[gb101]? = some (.cells #[(.slice A0_0 l0_0.length c0_0)] 46 (0, 0))) ∧ Aside0 (Below w.heap.size w wc))
 case first =>
  have H := HC2.out; clear HC2
  by_cases c4 : (l0_0.length : Int) < 1
  ·rw [if_pos c4] at H; have c4b0 := decide_eq_true c4
   have c4b1 : decide (l0_0.length < 1) = true := decide_eq_true (by omega)
   clear c4
   (first | rw [c4b0] | (simp only [i64_w, i32_w]; rw [c4b0]) | skip)
   have H' := Aside0.mk H
   clear H; obtain ⟨hcz5_0, hfz5_0⟩ := d1_ BK101
   go_wp2
   go_meet
   case rel => exact ⟨_, (true), rs_, H', ⟨by first | omega | exact Nat.le_refl _⟩, ⟨bk_ BK101.out⟩, ⟨be1_ HB.out GE101.out⟩⟩
  ·rw [if_neg c4] at H; have c4b0 := decide_eq_false c4
   have c4b1 : decide (l0_0.length < 1) = false := decide_eq_false (by omega)
   clear c4
   (first | rw [c4b0] | (simp only [i64_w, i32_w]; rw [c4b0]) | skip)
   have H' := Aside0.mk H
   clear H; obtain ⟨hcz6_0, hfz6_0⟩ := d1_ BK101
   go_wp2
   go_meet
   case rel => exact ⟨_, (decide ((l0_0.length : Int) > 12)), rs_, H', ⟨by first | omega | exact Nat.le_refl _⟩, ⟨bk_ BK101.out⟩, ⟨be1_ HB.out GE101.out⟩⟩
 case rest =>
  clear HC2; (try clear c4); (try clear c4b0); (try clear c4b1); (try clear hcz5_0); (try clear hcz6_0); (try clear hfz5_0); (try clear hfz6_0); obtain ⟨kq, x15_1, rfl, HA, HJ1, BK101, HB⟩ := hcut
  cases kq with
  | zero => exact absurd HA.out (by simp [spec_GrammarOk.j0])
  | succ kj1 =>
   have H := HA.out; clear HA
   simp only [spec_GrammarOk.j0] at H
   by_cases c7 : x15_1 = true
   ·subst c7; rw [if_pos rfl] at H; obtain rfl := Option.some.inj H
    go_wp2
    go_ret
    exact ⟨rt_, be1_ HB.out GE101.out⟩
   ·replace c7 := Bool.eq_false_iff.mpr c7; subst c7; rw [if_neg nft_] at H
    have H' := Aside0.mk H
    clear H
    go_wp2
    go_loopg [3] kj1 (fun kq v3 w' => ∃ (x3_2 : Int), v3 = .int .i64 x3_2 ∧ Aside0 (spec_GrammarOk.l0 kq x3_2 l0_0 = some r) ∧ Aside0 (kq ≤ kj1) ∧ Aside0 (w'.heap[gb101]? = some (.cells #[(.slice A0_0 l0_0.length c0_0)] 46 (0, 0))) ∧ Aside0 (Below w.heap.size w w'))
    case atStart => exact ⟨(0), rs_, H', ⟨Nat.le_refl _⟩, ⟨bk_ BK101.out⟩, ⟨be1_ HB.out GE101.out⟩⟩
    case round =>
     clear H'; (try clear c4); (try clear c4b0); (try clear c4b1); (try clear c7); (try clear hcz5_0); (try clear hcz6_0); (try clear hfz5_0); (try clear hfz6_0); obtain ⟨x3_2, rfl, HA, HK2, BK101, HB⟩ := hrel
     cases gk with
     | zero => exact absurd HA.out (by simp [spec_GrammarOk.l0])
     | succ k2 =>
      have H := HA.out; clear HA
      simp only [spec_GrammarOk.l0] at H
      by_cases c8 : x3_2 < (l0_0.length : Int)
      ·rw [if_pos c8] at H; have c8b0 := decide_eq_true c8; clear c8
       by_cases c9 : 0 ≤ x3_2
       ·rw [if_pos c9] at H; have c9b0 := decide_eq_true c9; clear c9; have HC10 := Aside0.mk H; clear H; obtain ⟨hcz11_0, hfz11_0⟩ := d1_ BK101
        have p102 : 0 ≤ (x3_2 : Int) := of_decide_eq_true as_
        have q102 : x3_2 < (l0_0.length : Int) := of_decide_eq_true as_
        obtain ⟨ad102, A102_1, c102_1, e102, hx102_0, hx102_1, hl102_1, hi102_1⟩ := at_T108 HR0_0.out x3_2 p102 q102
        cases e102
        replace hx102_0 := mv_ HB.out hx102_0; replace hx102_1 := mv_ HB.out hx102_1; have HR102_1 := Aside0.mk hi102_1; have HC102_1 := Aside0.mk hl102_1; clear hi102_1 hl102_1; replace p102 := eq_true p102; replace q102 := eq_true q102
        go_upto_region 7 with (first | ((with_reducible refine gate_dst (N := 4) rfl ?_); (try (refine gate_guard (by rfl) ?_; dsimp only)); refine bx_ 4 #[.string (⟨#[]⟩ : ByteArray), .slice none 0 0] 108 ?_; intro gb103 hg w12 hbox hb; have BK103 := Aside0.mk (hbox); have GW103 := ge1_ hg HB GE101; have GE103 := GW103; have NB101_103 := nl_ hg BK101; have NB103_101 := ng_ hg BK101; replace BK101 := lb_ BK101 hb; replace HB := sb1_ HB GE101 hb; clear hb hbox hg; have hnb13 := NB103_101.out; have hnc13 := NB101_103.out; obtain ⟨hcz14_0, hcz14_1, hfz14_0, hfz14_1⟩ := d2_ BK103))
        (try simp only [Act.put, List.setIfInBounds_toArray, List.set_cons_zero, List.set_cons_succ])
        go_cut [51] (fun v51 wc => ∃ (kq : Nat) (x51_9 : Bool), v51 = .bool x51_9 ∧ Aside0 (spec_GrammarOk.j2 kq x3_2 x51_9 l0_0 ((rd_T108 l0_0 x3_2).f0) ((rd_T108 l0_0 x3_2).f1) = some r) ∧ Aside0 (kq ≤ k2) ∧ Aside0 (wc.heap[gb101]? = some (.cells #[(.slice (some ad102) l0_0.length c0_0)] 46 (0, 0))) ∧ Aside0 (wc.heap[gb103]? = some (.cells #[.string ((rd_T108 l0_0 x3_2).f0), (.slice A102_1 ((rd_T108 l0_0 x3_2).f1).length c102_1)] 108 (0, 0))) ∧ Aside0 (Below w.heap.size w wc))
        case first =>
         have H := HC10.out; clear HC10; obtain ⟨t104, A15, H⟩ := ob_ H
         by_cases c16 : t104 = true
         ·subst c16; rw [if_pos rfl] at H; obtain ⟨t105, A17, H⟩ := ob_ H
          by_cases c18 : t105 = x3_2
          ·rw [if_pos c18] at H
           have c18b0 : (t105 == x3_2) = true := beq_iff_eq.mpr c18
           have c18b1 : (t105 != x3_2) = false := bne_eq_false_iff_eq.mpr c18
           clear c18
           (first | rw [c18b0] | (simp only [i64_w, i32_w]; rw [c18b0]) | skip)
           by_cases c19 : (((rd_T108 l0_0 x3_2).f1).length : Int) < 1
           ·rw [if_pos c19] at H; have c19b0 := decide_eq_true c19
            have c19b1 : decide (((rd_T108 l0_0 x3_2).f1).length < 1) = true := decide_eq_true (by omega)
            clear c19
            have H' := Aside0.mk H
            clear H; have hnb20 := NB103_101.out; have hnc20 := NB101_103.out; obtain ⟨hcz21_0, hcz21_1, hfz21_0, hfz21_1⟩ := d2_ BK103
            go_wp2_with (first | ((with_reducible refine gate_callee (f := 75) rfl ?_); refine gl_ (some 30) rfl rfl Try.func75 #[.string ((rd_T108 l0_0 x3_2).f0)] ?_; (with_reducible refine (spec_l1Name.calls k2 ((rd_T108 l0_0 x3_2).f0) true _ A15.out).mono ?_); rintro e w' ⟨rfl, ⟨nd, rfl⟩⟩; refine ⟨_, rfl, ?_⟩; obtain ⟨hcz22_0, hfz22_0⟩ := d1_ BK101) | (go_at_call 76; (with_reducible refine (spec_ModeAt.calls k2 _ _ l0_0 ((rd_T108 l0_0 x3_2).f0) t105 _ ?side1 ?side2 A17.out).mono ?_); (case side1 => exact Kd.C_below HR0_0.out (be2_ HB.out GE101.out GE103.out)); (case side2 => exact HC0_0.out); rintro e w23 ⟨rfl, hb⟩; replace BK101 := Aside0.mk (blk_below (g := gb101) (o := .cells #[.slice (some ad102) l0_0.length c0_0] 46 (0, 0)) (by (with_reducible repeat (first | refine blk_drewN ?_ _ | refine blk_drew ?_ | refine blk_alloc ?_ _)); refine blk_far ?_ NB101_103.out _; (with_reducible repeat (first | refine blk_drewN ?_ _ | refine blk_drew ?_ | refine blk_alloc ?_ _)); refine blk_far ?_ NB101_103.out _; (with_reducible repeat (first | refine blk_drewN ?_ _ | refine blk_drew ?_ | refine blk_alloc ?_ _)); exact BK101.out) hb); replace BK103 := Aside0.mk (blk_below (g := gb103) (o := .cells #[.string ((rd_T108 l0_0 x3_2).f0), .slice A102_1 ((rd_T108 l0_0 x3_2).f1).length c102_1] 108 (0, 0)) (by (with_reducible repeat (first | refine blk_drewN ?_ _ | refine blk_drew ?_ | refine blk_alloc ?_ _)); refine blk_put (cs := #[.string ((rd_T108 l0_0 x3_2).f0), .slice none 0 0]) ?_ 1 _ rfl; (with_reducible repeat (first | refine blk_drewN ?_ _ | refine blk_drew ?_ | refine blk_alloc ?_ _)); refine blk_put (cs := #[.string (⟨#[]⟩ : ByteArray), .slice none 0 0]) ?_ 0 _ rfl; (with_reducible repeat (first | refine blk_drewN ?_ _ | refine blk_drew ?_ | refine blk_alloc ?_ _)); exact BK103.out) hb); replace HB := sb2_ HB GE101 GE103 hb; (try clear hb); obtain ⟨hcz24_0, hcz24_1, hfz24_0, hfz24_1⟩ := d2_ BK103))
            go_meet
            case rel => exact ⟨_, (true), rs_, H', ⟨by have := HJ1.out; have := HK2.out; first | omega | exact Nat.le_refl _⟩, ⟨bk_ BK101.out⟩, ⟨bk_ BK103.out⟩, ⟨be2_ HB.out GE101.out GE103.out⟩⟩
           ·rw [if_neg c19] at H; have c19b0 := decide_eq_false c19
            have c19b1 : decide (((rd_T108 l0_0 x3_2).f1).length < 1) = false := decide_eq_false (by omega)
            clear c19
            have H' := Aside0.mk H
            clear H; have hnb25 := NB103_101.out; have hnc25 := NB101_103.out; obtain ⟨hcz26_0, hcz26_1, hfz26_0, hfz26_1⟩ := d2_ BK103
            go_wp2_with (first | ((with_reducible refine gate_callee (f := 75) rfl ?_); refine gl_ (some 30) rfl rfl Try.func75 #[.string ((rd_T108 l0_0 x3_2).f0)] ?_; (with_reducible refine (spec_l1Name.calls k2 ((rd_T108 l0_0 x3_2).f0) true _ A15.out).mono ?_); rintro e w' ⟨rfl, ⟨nd, rfl⟩⟩; refine ⟨_, rfl, ?_⟩; obtain ⟨hcz27_0, hfz27_0⟩ := d1_ BK101) | (go_at_call 76; (with_reducible refine (spec_ModeAt.calls k2 _ _ l0_0 ((rd_T108 l0_0 x3_2).f0) t105 _ ?side1 ?side2 A17.out).mono ?_); (case side1 => exact Kd.C_below HR0_0.out (be2_ HB.out GE101.out GE103.out)); (case side2 => exact HC0_0.out); rintro e w28 ⟨rfl, hb⟩; replace BK101 := Aside0.mk (blk_below (g := gb101) (o := .cells #[.slice (some ad102) l0_0.length c0_0] 46 (0, 0)) (by (with_reducible repeat (first | refine blk_drewN ?_ _ | refine blk_drew ?_ | refine blk_alloc ?_ _)); refine blk_far ?_ NB101_103.out _; (with_reducible repeat (first | refine blk_drewN ?_ _ | refine blk_drew ?_ | refine blk_alloc ?_ _)); refine blk_far ?_ NB101_103.out _; (with_reducible repeat (first | refine blk_drewN ?_ _ | refine blk_drew ?_ | refine blk_alloc ?_ _)); exact BK101.out) hb); replace BK103 := Aside0.mk (blk_below (g := gb103) (o := .cells #[.string ((rd_T108 l0_0 x3_2).f0), .slice A102_1 ((rd_T108 l0_0 x3_2).f1).length c102_1] 108 (0, 0)) (by (with_reducible repeat (first | refine blk_drewN ?_ _ | refine blk_drew ?_ | refine blk_alloc ?_ _)); refine blk_put (cs := #[.string ((rd_T108 l0_0 x3_2).f0), .slice none 0 0]) ?_ 1 _ rfl; (with_reducible repeat (first | refine blk_drewN ?_ _ | refine blk_drew ?_ | refine blk_alloc ?_ _)); refine blk_put (cs := #[.string (⟨#[]⟩ : ByteArray), .slice none 0 0]) ?_ 0 _ rfl; (with_reducible repeat (first | refine blk_drewN ?_ _ | refine blk_drew ?_ | refine blk_alloc ?_ _)); exact BK103.out) hb); replace HB := sb2_ HB GE101 GE103 hb; (try clear hb); obtain ⟨hcz29_0, hcz29_1, hfz29_0, hfz29_1⟩ := d2_ BK103))
            go_meet
            case rel => exact ⟨_, (decide ((((rd_T108 l0_0 x3_2).f1).length : Int) > 40)), rs_, H', ⟨by have := HJ1.out; have := HK2.out; first | omega | exact Nat.le_refl _⟩, ⟨bk_ BK101.out⟩, ⟨bk_ BK103.out⟩, ⟨be2_ HB.out GE101.out GE103.out⟩⟩
          ·rw [if_neg c18] at H
           have c18b0 : (t105 == x3_2) = false := beq_eq_false_iff_ne.mpr c18
           have c18b1 : (t105 != x3_2) = true := bne_iff_ne.mpr c18
           (first | rw [c18b0] | (simp only [i64_w, i32_w]; rw [c18b0]) | skip)
           have H' := Aside0.mk H
           clear H; have hnb30 := NB103_101.out; have hnc30 := NB101_103.out; obtain ⟨hcz31_0, hcz31_1, hfz31_0, hfz31_1⟩ := d2_ BK103
           go_wp2_with (first | ((with_reducible refine gate_callee (f := 75) rfl ?_); refine gl_ (some 30) rfl rfl Try.func75 #[.string ((rd_T108 l0_0 x3_2).f0)] ?_; (with_reducible refine (spec_l1Name.calls k2 ((rd_T108 l0_0 x3_2).f0) true _ A15.out).mono ?_); rintro e w' ⟨rfl, ⟨nd, rfl⟩⟩; refine ⟨_, rfl, ?_⟩; obtain ⟨hcz32_0, hfz32_0⟩ := d1_ BK101) | (go_at_call 76; (with_reducible refine (spec_ModeAt.calls k2 _ _ l0_0 ((rd_T108 l0_0 x3_2).f0) t105 _ ?side1 ?side2 A17.out).mono ?_); (case side1 => exact Kd.C_below HR0_0.out (be2_ HB.out GE101.out GE103.out)); (case side2 => exact HC0_0.out); rintro e w33 ⟨rfl, hb⟩; replace BK101 := Aside0.mk (blk_below (g := gb101) (o := .cells #[.slice (some ad102) l0_0.length c0_0] 46 (0, 0)) (by (with_reducible repeat (first | refine blk_drewN ?_ _ | refine blk_drew ?_ | refine blk_alloc ?_ _)); refine blk_far ?_ NB101_103.out _; (with_reducible repeat (first | refine blk_drewN ?_ _ | refine blk_drew ?_ | refine blk_alloc ?_ _)); refine blk_far ?_ NB101_103.out _; (with_reducible repeat (first | refine blk_drewN ?_ _ | refine blk_drew ?_ | refine blk_alloc ?_ _)); exact BK101.out) hb); replace BK103 := Aside0.mk (blk_below (g := gb103) (o := .cells #[.string ((rd_T108 l0_0 x3_2).f0), .slice A102_1 ((rd_T108 l0_0 x3_2).f1).length c102_1] 108 (0, 0)) (by (with_reducible repeat (first | refine blk_drewN ?_ _ | refine blk_drew ?_ | refine blk_alloc ?_ _)); refine blk_put (cs := #[.string ((rd_T108 l0_0 x3_2).f0), .slice none 0 0]) ?_ 1 _ rfl; (with_reducible repeat (first | refine blk_drewN ?_ _ | refine blk_drew ?_ | refine blk_alloc ?_ _)); refine blk_put (cs := #[.string (⟨#[]⟩ : ByteArray), .slice none 0 0]) ?_ 0 _ rfl; (with_reducible repeat (first | refine blk_drewN ?_ _ | refine blk_drew ?_ | refine blk_alloc ?_ _)); exact BK103.out) hb); replace HB := sb2_ HB GE101 GE103 hb; (try clear hb)))
           go_meet
           case rel => exact ⟨_, (true), rs_, H', ⟨by have := HJ1.out; have := HK2.out; first | omega | exact Nat.le_refl _⟩, ⟨bk_ BK101.out⟩, ⟨bk_ BK103.out⟩, ⟨be2_ HB.out GE101.out GE103.out⟩⟩
         ·replace c16 := Bool.eq_false_iff.mpr c16; subst c16; rw [if_neg nft_] at H
          have H' := Aside0.mk H
          clear H; have hnb34 := NB103_101.out; have hnc34 := NB101_103.out; obtain ⟨hcz35_0, hcz35_1, hfz35_0, hfz35_1⟩ := d2_ BK103
          go_wp2_with (first | ((with_reducible refine gate_callee (f := 75) rfl ?_); refine gl_ (some 30) rfl rfl Try.func75 #[.string ((rd_T108 l0_0 x3_2).f0)] ?_; (with_reducible refine (spec_l1Name.calls k2 ((rd_T108 l0_0 x3_2).f0) false _ A15.out).mono ?_); rintro e w' ⟨rfl, ⟨nd, rfl⟩⟩; refine ⟨_, rfl, ?_⟩))
          go_meet
          case rel => exact ⟨_, (true), rs_, H', ⟨by have := HJ1.out; have := HK2.out; first | omega | exact Nat.le_refl _⟩, ⟨by (with_reducible repeat (first | refine blk_drewN ?_ _ | refine blk_drew ?_ | refine blk_alloc ?_ _)); refine blk_far ?_ NB101_103.out _; (with_reducible repeat (first | refine blk_drewN ?_ _ | refine blk_drew ?_ | refine blk_alloc ?_ _)); refine blk_far ?_ NB101_103.out _; (with_reducible repeat (first | refine blk_drewN ?_ _ | refine blk_drew ?_ | refine blk_alloc ?_ _)); exact BK101.out⟩, ⟨by (with_reducible repeat (first | refine blk_drewN ?_ _ | refine blk_drew ?_ | refine blk_alloc ?_ _)); refine blk_put (cs := #[.string ((rd_T108 l0_0 x3_2).f0), .slice none 0 0]) ?_ 1 _ rfl; (with_reducible repeat (first | refine blk_drewN ?_ _ | refine blk_drew ?_ | refine blk_alloc ?_ _)); refine blk_put (cs := #[.string (⟨#[]⟩ : ByteArray), .slice none 0 0]) ?_ 0 _ rfl; (with_reducible repeat (first | refine blk_drewN ?_ _ | refine blk_drew ?_ | refine blk_alloc ?_ _)); exact BK103.out⟩, ⟨be2_ HB.out GE101.out GE103.out⟩⟩
        case rest =>
         clear HC10; (try clear c4); (try clear c4b0); (try clear c4b1); (try clear c7); (try clear c8); (try clear c8b0); (try clear c9); (try clear c9b0); (try clear c16); (try clear c18); (try clear c18b0); (try clear c18b1); (try clear c19); (try clear c19b0); (try clear c19b1); (try clear hcz11_0); (try clear hcz14_0); (try clear hcz14_1); (try clear hcz21_0); (try clear hcz21_1); (try clear hcz22_0); (try clear hcz24_0); (try clear hcz24_1); (try clear hcz26_0); (try clear hcz26_1); (try clear hcz27_0); (try clear hcz29_0); (try clear hcz29_1); (try clear hcz31_0); (try clear hcz31_1); (try clear hcz32_0); (try clear hcz35_0); (try clear hcz35_1); (try clear hcz5_0); (try clear hcz6_0); (try clear hfz11_0); (try clear hfz14_0); (try clear hfz14_1); (try clear hfz21_0); (try clear hfz21_1); (try clear hfz22_0); (try clear hfz24_0); (try clear hfz24_1); (try clear hfz26_0); (try clear hfz26_1); (try clear hfz27_0); (try clear hfz29_0); (try clear hfz29_1); (try clear hfz31_0); (try clear hfz31_1); (try clear hfz32_0); (try clear hfz35_0); (try clear hfz35_1); (try clear hfz5_0); (try clear hfz6_0); (try clear hx102_0); (try clear hx102_1); (try clear p102); (try clear q102); obtain ⟨kq, x51_9, rfl, HA, HJ9, BK101, BK103, HB⟩ := hcut
         cases kq with
         | zero => exact absurd HA.out (by simp [spec_GrammarOk.j2])
         | succ kj9 =>
          have H := HA.out; clear HA
          simp only [spec_GrammarOk.j2] at H
          by_cases c36 : x51_9 = true
          ·subst c36; rw [if_pos rfl] at H; obtain rfl := Option.some.inj H
           go_wp2
           go_ret
           exact ⟨rt_, be2_ HB.out GE101.out GE103.out⟩
          ·replace c36 := Bool.eq_false_iff.mpr c36; subst c36; rw [if_neg nft_] at H
           have H' := Aside0.mk H
           clear H
           go_wp2
           go_loopg [5] kj9 (fun kq v5 w' => ∃ (x5_4 : Int), v5 = .int .i64 x5_4 ∧ Aside0 (spec_GrammarOk.l1 kq x3_2 x5_4 l0_0 ((rd_T108 l0_0 x3_2).f0) ((rd_T108 l0_0 x3_2).f1) = some r) ∧ Aside0 (kq ≤ kj9) ∧ Aside0 (w'.heap[gb101]? = some (.cells #[(.slice (some ad102) l0_0.length c0_0)] 46 (0, 0))) ∧ Aside0 (w'.heap[gb103]? = some (.cells #[.string ((rd_T108 l0_0 x3_2).f0), (.slice A102_1 ((rd_T108 l0_0 x3_2).f1).length c102_1)] 108 (0, 0))) ∧ Aside0 (Below w.heap.size w w'))
           case atStart => exact ⟨(0), rs_, H', ⟨Nat.le_refl _⟩, ⟨bk_ BK101.out⟩, ⟨bk_ BK103.out⟩, ⟨be2_ HB.out GE101.out GE103.out⟩⟩
           case round =>
            clear H'; (try clear c4); (try clear c4b0); (try clear c4b1); (try clear c7); (try clear c8); (try clear c8b0); (try clear c9); (try clear c9b0); (try clear c16); (try clear c18); (try clear c18b0); (try clear c18b1); (try clear c19); (try clear c19b0); (try clear c19b1); (try clear c36); (try clear hcz11_0); (try clear hcz14_0); (try clear hcz14_1); (try clear hcz21_0); (try clear hcz21_1); (try clear hcz22_0); (try clear hcz24_0); (try clear hcz24_1); (try clear hcz26_0); (try clear hcz26_1); (try clear hcz27_0); (try clear hcz29_0); (try clear hcz29_1); (try clear hcz31_0); (try clear hcz31_1); (try clear hcz32_0); (try clear hcz35_0); (try clear hcz35_1); (try clear hcz5_0); (try clear hcz6_0); (try clear hfz11_0); (try clear hfz14_0); (try clear hfz14_1); (try clear hfz21_0); (try clear hfz21_1); (try clear hfz22_0); (try clear hfz24_0); (try clear hfz24_1); (try clear hfz26_0); (try clear hfz26_1); (try clear hfz27_0); (try clear hfz29_0); (try clear hfz29_1); (try clear hfz31_0); (try clear hfz31_1); (try clear hfz32_0); (try clear hfz35_0); (try clear hfz35_1); (try clear hfz5_0); (try clear hfz6_0); (try clear hx102_0); (try clear hx102_1); (try clear p102); (try clear q102); obtain ⟨x5_4, rfl, HA, HK4, BK101, BK103, HB⟩ := hrel
            cases gk with
            | zero => exact absurd HA.out (by simp [spec_GrammarOk.l1])
            | succ k4 =>
             have H := HA.out; clear HA
             simp only [spec_GrammarOk.l1] at H
             by_cases c37 : x5_4 < (((rd_T108 l0_0 x3_2).f1).length : Int)
             ·rw [if_pos c37] at H; have c37b0 := decide_eq_true c37; clear c37
              by_cases c38 : 0 ≤ x5_4
              ·rw [if_pos c38] at H; have c38b0 := decide_eq_true c38; clear c38; obtain ⟨t107, A39, H⟩ := ob_ H
               by_cases c40 : t107 = true
               ·subst c40; rw [if_pos rfl] at H
                have H' := Aside0.mk H
                clear H; have hnb41 := NB103_101.out; have hnc41 := NB101_103.out; obtain ⟨hcz42_0, hcz42_1, hfz42_0, hfz42_1⟩ := d2_ BK103
                try go_wp2
                replace BK101 := Aside0.mk (blk_drew BK101.out); replace BK103 := Aside0.mk (blk_drew BK103.out); replace HB := Aside0.mk (below_drew1 HB.out)
                have p106 : 0 ≤ (x5_4 : Int) := of_decide_eq_true as_
                have q106 : x5_4 < (((rd_T108 l0_0 x3_2).f1).length : Int) := of_decide_eq_true as_
                obtain ⟨ad106, A106_1, c106_1, e106, hx106_0, hx106_1, hx106_2, hx106_3, hx106_4, hl106_1, hi106_1⟩ := at_T113 HR102_1.out x5_4 p106 q106; have hw106_4 := hx106_4; have hw106_3 := hx106_3; have hw106_2 := hx106_2; have hw106_1 := hx106_1; have hw106_0 := hx106_0
                cases e106
                replace hx106_0 := mv_ HB.out hx106_0; replace hx106_1 := mv_ HB.out hx106_1; replace hx106_2 := mv_ HB.out hx106_2; replace hx106_3 := mv_ HB.out hx106_3; replace hx106_4 := mv_ HB.out hx106_4; have HR106_1 := Aside0.mk hi106_1; have HC106_1 := Aside0.mk hl106_1; clear hi106_1 hl106_1; replace p106 := eq_true p106; replace q106 := eq_true q106
                refine start_ (n := 8) (S := fun w' => w'.cell? ⟨gb101, 0, none⟩ = some (.slice (some ad102) l0_0.length c0_0) ∧ w'.cell? ⟨gb103, 0, none⟩ = some (.string ((rd_T108 l0_0 x3_2).f0)) ∧ w'.cell? ⟨gb103, 1, none⟩ = some (.slice (some ad106) ((rd_T108 l0_0 x3_2).f1).length c102_1) ∧ w'.cell? (ad106.add ((x5_4).toNat * 5)) = some (.string ((rd_T113 ((rd_T108 l0_0 x3_2).f1) x5_4).f0)) ∧ w'.cell? ⟨(ad106.add ((x5_4).toNat * 5)).block, (ad106.add ((x5_4).toNat * 5)).off + 1, none⟩ = some (.slice A106_1 ((rd_T113 ((rd_T108 l0_0 x3_2).f1) x5_4).f1.f0).length c106_1) ∧ w'.cell? ⟨(ad106.add ((x5_4).toNat * 5)).block, (ad106.add ((x5_4).toNat * 5)).off + 2, none⟩ = some (.bool ((rd_T113 ((rd_T108 l0_0 x3_2).f1) x5_4).f2)) ∧ w'.cell? ⟨(ad106.add ((x5_4).toNat * 5)).block, (ad106.add ((x5_4).toNat * 5)).off + 3, none⟩ = some (.int .i64 ((rd_T113 ((rd_T108 l0_0 x3_2).f1) x5_4).f3)) ∧ w'.cell? ⟨(ad106.add ((x5_4).toNat * 5)).block, (ad106.add ((x5_4).toNat * 5)).off + 4, none⟩ = some (.string ((rd_T113 ((rd_T108 l0_0 x3_2).f1) x5_4).f4))) (ds := []) (bb 8 0) (by kernel_rfl) rfl rfl ⟨(blk_cell BK101.out 0).trans rfl, (blk_cell BK103.out 0).trans rfl, (blk_cell BK103.out 1).trans rfl, (mv_ HB.out hw106_0), (mv_ HB.out hw106_1), (mv_ HB.out hw106_2), (mv_ HB.out hw106_3), (mv_ HB.out hw106_4)⟩ (fun hHeld => ?_); refine with_tabW spec_GrammarOk.tab12 spec_GrammarOk.bits12 (fun HT_ HW_ => ?_)
                generalize wr.drew = w43 at BK101 BK103 HB HR106_1 hx106_0 hx106_1 hx106_2 hx106_3 hx106_4 hHeld ⊢
                refine pv_ 1 60 2 HT_.out ?_; refine pv_ 3 62 10 HT_.out ?_; refine tv_ 0 59 11 HT_.out HW_.out hHeld ?_; refine tv_ 2 61 15 HT_.out HW_.out hHeld ?_; refine pv_ 4 63 31 HT_.out ?_; refine tv_ 5 64 63 HT_.out HW_.out hHeld ?_
                refine one_ (i := 6) (N := some 65) (bb 8 127) rfl rfl (one_of HT_.out (by kernel_rfl)) (by decide) (fun K hK => ?_)
                refine gs_ Try.func77 #[.agg #[.slice (some ad102) l0_0.length c0_0], .agg #[.string ((rd_T113 ((rd_T108 l0_0 x3_2).f1) x5_4).f0), .slice A106_1 ((rd_T113 ((rd_T108 l0_0 x3_2).f1) x5_4).f1.f0).length c106_1, .bool ((rd_T113 ((rd_T108 l0_0 x3_2).f1) x5_4).f2), .int .i64 ((rd_T113 ((rd_T108 l0_0 x3_2).f1) x5_4).f3), .string ((rd_T113 ((rd_T108 l0_0 x3_2).f1) x5_4).f4)]] ?_
                with_reducible refine (spec_l5Rule.calls k4 _ _ l0_0 ((rd_T113 ((rd_T108 l0_0 x3_2).f1) x5_4).f0) _ _ ((rd_T113 ((rd_T108 l0_0 x3_2).f1) x5_4).f1.f0) ((rd_T113 ((rd_T108 l0_0 x3_2).f1) x5_4).f2) ((rd_T113 ((rd_T108 l0_0 x3_2).f1) x5_4).f3) ((rd_T113 ((rd_T108 l0_0 x3_2).f1) x5_4).f4) true _ ?side1 ?side2 ?side3 ?side4 A39.out).mono ?_
                (case side1 => exact Kd.C_below HR0_0.out (be_ HB.out))
                (case side2 => exact HC0_0.out)
                (case side3 => exact Kd.C_below HR106_1.out (be_ HB.out))
                (case side4 => exact HC106_1.out)
                rintro e w44 ⟨rfl, hb⟩
                refine ⟨_, rfl, ?_⟩; replace BK101 := lb_ BK101 hb; replace BK103 := lb_ BK103 hb; replace HB := sb2_ HB GE101 GE103 hb
                (try clear hb)
                (try clear hb2)
                (try clear hk)
                (try clear hi)
                refine hK.out _ _ ⟨(blk_cell BK101.out 0).trans rfl, (blk_cell BK103.out 0).trans rfl, (blk_cell BK103.out 1).trans rfl, (mv_ HB.out hw106_0), (mv_ HB.out hw106_1), (mv_ HB.out hw106_2), (mv_ HB.out hw106_3), (mv_ HB.out hw106_4)⟩ (fun hHeld => ?_)
                clear hK K; refine no_ (some 65) ?_; refine pv_ 7 66 255 HT_.out ?_
                refine done_ (done_of HT_.out (by kernel_rfl)) ?_
                try go_wp2
                go_roundg k4
                case measure => have := HJ1.out; have := HK2.out; have := HJ9.out; have := HK4.out; omega
                case rel => exact ⟨(wrap64 (x5_4 + 1)), rs_, H', ⟨by have := HJ1.out; have := HK2.out; have := HJ9.out; have := HK4.out; omega⟩, ⟨bk_ BK101.out⟩, ⟨bk_ BK103.out⟩, ⟨be2_ HB.out GE101.out GE103.out⟩⟩
               ·replace c40 := Bool.eq_false_iff.mpr c40; subst c40; rw [if_neg nft_] at H; obtain rfl := Option.some.inj H; have hnb45 := NB103_101.out; have hnc45 := NB101_103.out; obtain ⟨hcz46_0, hcz46_1, hfz46_0, hfz46_1⟩ := d2_ BK103
                try go_wp2
                replace BK101 := Aside0.mk (blk_drew BK101.out); replace BK103 := Aside0.mk (blk_drew BK103.out); replace HB := Aside0.mk (below_drew1 HB.out)
                have p106 : 0 ≤ (x5_4 : Int) := of_decide_eq_true as_
                have q106 : x5_4 < (((rd_T108 l0_0 x3_2).f1).length : Int) := of_decide_eq_true as_
                obtain ⟨ad106, A106_1, c106_1, e106, hx106_0, hx106_1, hx106_2, hx106_3, hx106_4, hl106_1, hi106_1⟩ := at_T113 HR102_1.out x5_4 p106 q106; have hw106_4 := hx106_4; have hw106_3 := hx106_3; have hw106_2 := hx106_2; have hw106_1 := hx106_1; have hw106_0 := hx106_0
                cases e106
                replace hx106_0 := mv_ HB.out hx106_0; replace hx106_1 := mv_ HB.out hx106_1; replace hx106_2 := mv_ HB.out hx106_2; replace hx106_3 := mv_ HB.out hx106_3; replace hx106_4 := mv_ HB.out hx106_4; have HR106_1 := Aside0.mk hi106_1; have HC106_1 := Aside0.mk hl106_1; clear hi106_1 hl106_1; replace p106 := eq_true p106; replace q106 := eq_true q106
                refine start_ (n := 8) (S := fun w' => w'.cell? ⟨gb101, 0, none⟩ = some (.slice (some ad102) l0_0.length c0_0) ∧ w'.cell? ⟨gb103, 0, none⟩ = some (.string ((rd_T108 l0_0 x3_2).f0)) ∧ w'.cell? ⟨gb103, 1, none⟩ = some (.slice (some ad106) ((rd_T108 l0_0 x3_2).f1).length c102_1) ∧ w'.cell? (ad106.add ((x5_4).toNat * 5)) = some (.string ((rd_T113 ((rd_T108 l0_0 x3_2).f1) x5_4).f0)) ∧ w'.cell? ⟨(ad106.add ((x5_4).toNat * 5)).block, (ad106.add ((x5_4).toNat * 5)).off + 1, none⟩ = some (.slice A106_1 ((rd_T113 ((rd_T108 l0_0 x3_2).f1) x5_4).f1.f0).length c106_1) ∧ w'.cell? ⟨(ad106.add ((x5_4).toNat * 5)).block, (ad106.add ((x5_4).toNat * 5)).off + 2, none⟩ = some (.bool ((rd_T113 ((rd_T108 l0_0 x3_2).f1) x5_4).f2)) ∧ w'.cell? ⟨(ad106.add ((x5_4).toNat * 5)).block, (ad106.add ((x5_4).toNat * 5)).off + 3, none⟩ = some (.int .i64 ((rd_T113 ((rd_T108 l0_0 x3_2).f1) x5_4).f3)) ∧ w'.cell? ⟨(ad106.add ((x5_4).toNat * 5)).block, (ad106.add ((x5_4).toNat * 5)).off + 4, none⟩ = some (.string ((rd_T113 ((rd_T108 l0_0 x3_2).f1) x5_4).f4))) (ds := []) (bb 8 0) (by kernel_rfl) rfl rfl ⟨(blk_cell BK101.out 0).trans rfl, (blk_cell BK103.out 0).trans rfl, (blk_cell BK103.out 1).trans rfl, (mv_ HB.out hw106_0), (mv_ HB.out hw106_1), (mv_ HB.out hw106_2), (mv_ HB.out hw106_3), (mv_ HB.out hw106_4)⟩ (fun hHeld => ?_); refine with_tabW spec_GrammarOk.tab12 spec_GrammarOk.bits12 (fun HT_ HW_ => ?_)
                generalize wr.drew = w47 at BK101 BK103 HB HR106_1 hx106_0 hx106_1 hx106_2 hx106_3 hx106_4 hHeld ⊢
                refine pv_ 1 60 2 HT_.out ?_; refine pv_ 3 62 10 HT_.out ?_; refine tv_ 0 59 11 HT_.out HW_.out hHeld ?_; refine tv_ 2 61 15 HT_.out HW_.out hHeld ?_; refine pv_ 4 63 31 HT_.out ?_; refine tv_ 5 64 63 HT_.out HW_.out hHeld ?_
                refine one_ (i := 6) (N := some 65) (bb 8 127) rfl rfl (one_of HT_.out (by kernel_rfl)) (by decide) (fun K hK => ?_)
                refine gs_ Try.func77 #[.agg #[.slice (some ad102) l0_0.length c0_0], .agg #[.string ((rd_T113 ((rd_T108 l0_0 x3_2).f1) x5_4).f0), .slice A106_1 ((rd_T113 ((rd_T108 l0_0 x3_2).f1) x5_4).f1.f0).length c106_1, .bool ((rd_T113 ((rd_T108 l0_0 x3_2).f1) x5_4).f2), .int .i64 ((rd_T113 ((rd_T108 l0_0 x3_2).f1) x5_4).f3), .string ((rd_T113 ((rd_T108 l0_0 x3_2).f1) x5_4).f4)]] ?_
                with_reducible refine (spec_l5Rule.calls k4 _ _ l0_0 ((rd_T113 ((rd_T108 l0_0 x3_2).f1) x5_4).f0) _ _ ((rd_T113 ((rd_T108 l0_0 x3_2).f1) x5_4).f1.f0) ((rd_T113 ((rd_T108 l0_0 x3_2).f1) x5_4).f2) ((rd_T113 ((rd_T108 l0_0 x3_2).f1) x5_4).f3) ((rd_T113 ((rd_T108 l0_0 x3_2).f1) x5_4).f4) false _ ?side1 ?side2 ?side3 ?side4 A39.out).mono ?_
                (case side1 => exact Kd.C_below HR0_0.out (be_ HB.out))
                (case side2 => exact HC0_0.out)
                (case side3 => exact Kd.C_below HR106_1.out (be_ HB.out))
                (case side4 => exact HC106_1.out)
                rintro e w48 ⟨rfl, hb⟩
                refine ⟨_, rfl, ?_⟩; replace BK101 := lb_ BK101 hb; replace BK103 := lb_ BK103 hb; replace HB := sb2_ HB GE101 GE103 hb
                (try clear hb)
                (try clear hb2)
                (try clear hk)
                (try clear hi)
                refine hK.out _ _ ⟨(blk_cell BK101.out 0).trans rfl, (blk_cell BK103.out 0).trans rfl, (blk_cell BK103.out 1).trans rfl, (mv_ HB.out hw106_0), (mv_ HB.out hw106_1), (mv_ HB.out hw106_2), (mv_ HB.out hw106_3), (mv_ HB.out hw106_4)⟩ (fun hHeld => ?_)
                clear hK K; refine no_ (some 65) ?_; refine pv_ 7 66 255 HT_.out ?_
                refine done_ (done_of HT_.out (by kernel_rfl)) ?_
                try go_wp2
                go_ret
                exact ⟨rt_, be2_ HB.out GE101.out GE103.out⟩
              ·rw [if_neg c38] at H
               exact absurd H (by simp)
             ·rw [if_neg c37] at H; have c37b0 := decide_eq_false c37; clear c37
              have H' := Aside0.mk H
              clear H; have hnb49 := NB103_101.out; have hnc49 := NB101_103.out; obtain ⟨hcz50_0, hcz50_1, hfz50_0, hfz50_1⟩ := d2_ BK103
              go_wp2
              go_roundg k4
              case measure => have := HJ1.out; have := HK2.out; have := HJ9.out; have := HK4.out; omega
              case rel => exact ⟨(wrap64 (x3_2 + 1)), rs_, H', ⟨by have := HJ1.out; have := HK2.out; have := HJ9.out; have := HK4.out; omega⟩, ⟨bk_ BK101.out⟩, ⟨be2_ HB.out GE101.out GE103.out⟩⟩
       ·rw [if_neg c9] at H
        exact absurd H (by simp)
      ·rw [if_neg c8] at H; have c8b0 := decide_eq_false c8; clear c8; obtain rfl := Option.some.inj H; obtain ⟨hcz51_0, hfz51_0⟩ := d1_ BK101
       go_wp2
       go_ret
       exact ⟨rt_, be1_ HB.out GE101.out⟩
end Go.Proofs.Ytijmhelacmjggaa.P
namespace Go.Proofs.Ytijmhelacmjggaa.P
open Go.RowKit Go.Proofs.YtijmhelacmjggaaW.PrintWords Go.Proofs.YtijmhelacmjggaaW.PrintLast Go.Proofs.YtijmhelacmjggaaEv
set_option linter.unusedVariables false
set_option linter.unusedSimpArgs false
def okB (i : Nat) (b : Int) : Bool := decide (97 ≤ b ∧ b ≤ 122) || (decide (i ≠ 0) && decide (48 ≤ b ∧ b ≤ 57))
def okS (b : Int) : Bool := decide (97 ≤ b ∧ b ≤ 122) || decide (48 ≤ b ∧ b ≤ 57)
def nameB (s : ByteArray) : Bool := (List.range s.size).all (fun i => okB i (bt s (i : Int))) && decide (1 ≤ s.size ∧ s.size ≤ 12)
theorem all_range (n : Nat) (p : Nat → Bool) (i : Nat) (h : i < n) : ((List.range n).drop i).all p = (p i && ((List.range n).drop (i + 1)).all p) := by
  rw [all_drop (List.range n) 0 p i (by simpa using h)]
  have : (List.range n).getD i 0 = i := by
    rw [List.getD_eq_getElem?_getD, List.getElem?_eq_getElem (by simpa using h)]
    simp
  rw [this]
theorem impl_isName_ev (s : ByteArray) (hs : s.size ≤ 1048576) : Ev (fun k => impl_isName.f k s) (nameB s) := by
  unfold impl_isName.f nameB
  refine ev_congr (ev_loop s.size (fun k i => impl_isName.l0 k s (s.size : Int) (i : Nat)) (fun i => ((List.range s.size).drop i).all (fun j => okB j (bt s (j : Int))) && decide (1 ≤ s.size ∧ s.size ≤ 12)) ?_ ?_ 0 (by omega)) (by simp)
  · rw [ev_succ]
    simp only [impl_isName.l0, impl_length.f, impl_within_eq, Option.bind_some, ev_ite]
    rw [if_neg (by omega)]
    refine ev_some.2 ?_
    rw [List.drop_eq_nil_of_le (by simp)]
    simp only [List.all_nil, Bool.true_and]
    exact decide_eq_decide.2 (by omega)
  · intro i hi ih
    rw [ev_succ, all_range _ _ _ hi]
    simp only [impl_isName.l0, ev_ite]
    rw [if_pos (by omega), if_pos (by omega), if_pos (by omega), wrap_succ hi (by omega)]
    generalize bt s (i : Int) = b at *
    by_cases c : 97 ≤ b ∧ b ≤ 122
    · rw [if_pos (by omega), if_pos (by omega)]
      have : okB i b = true := by simp [okB, c]
      rw [this, Bool.true_and]
      exact ih
    · have e1 : okB i b = (decide (i ≠ 0) && decide (48 ≤ b ∧ b ≤ 57)) := by simp [okB, decide_eq_false c]
      rw [e1]
      by_cases c0 : i = 0
      · have e2 : (decide (i ≠ 0) && decide (48 ≤ b ∧ b ≤ 57)) = false := by simp [c0]
        rw [e2]
        split
        · rw [if_neg (by omega)]
          rw [if_pos (by omega)]
          exact ev_some.2 (by simp)
        · rw [if_pos (by omega)]
          exact ev_some.2 (by simp)
      · by_cases c1 : 48 ≤ b ∧ b ≤ 57
        · have e2 : (decide (i ≠ 0) && decide (48 ≤ b ∧ b ≤ 57)) = true := by simp [c0, c1]
          rw [e2, Bool.true_and]
          split
          · rw [if_neg (by omega), if_neg (by omega), if_neg (by omega), if_neg (by omega)]
            exact ih
          · rw [if_neg (by omega), if_neg (by omega), if_neg (by omega)]
            exact ih
        · have e2 : (decide (i ≠ 0) && decide (48 ≤ b ∧ b ≤ 57)) = false := by simp [decide_eq_false c1]
          rw [e2]
          repeat' split
          all_goals first | exact ev_some.2 (by simp) | (exfalso; omega)
theorem spec_l1Digit_eq (b : Int) : spec_l1Digit.f b = some (decide (48 ≤ b ∧ b ≤ 57)) := by
  unfold spec_l1Digit.f
  by_cases h : b ≥ 48 <;> simp [h]
theorem nameB_split (s : ByteArray) (h : 0 < s.size) (hd : ¬ (48 ≤ bt s 0 ∧ bt s 0 ≤ 57)) : (List.range s.size).all (fun i => okB i (bt s (i : Int))) = (List.range s.size).all (fun i => okS (bt s (i : Int))) := by
  rw [Bool.eq_iff_iff, List.all_eq_true, List.all_eq_true]
  have hb : ∀ i, okB i (bt s (i : Int)) = okS (bt s (i : Int)) := by
    intro i
    unfold okB okS
    by_cases h0 : i = 0
    · subst h0
      have e : decide (48 ≤ bt s ((0 : Nat) : Int) ∧ bt s ((0 : Nat) : Int) ≤ 57) = false := decide_eq_false hd
      rw [e]
      simp
    · simp [h0]
  constructor
  · intro h i hi
    rw [← hb]
    exact h i hi
  · intro h i hi
    rw [hb]
    exact h i hi
theorem spec_l1Name_ev (s : ByteArray) : Ev (fun k => spec_l1Name.f k s) (nameB s) := by
  unfold spec_l1Name.f
  simp only [ev_ite]
  by_cases c1 : (s.size : Int) < 1
  · rw [if_pos c1, ev_succ]
    simp only [spec_l1Name.j0, if_true]
    exact ev_some.2 (by simp [nameB]; omega)
  by_cases c2 : (s.size : Int) > 12
  · rw [if_neg c1, if_pos c2, ev_succ]
    simp only [spec_l1Name.j0, if_true]
    exact ev_some.2 (by simp [nameB]; omega)
  rw [if_neg c1, if_neg c2, if_pos (by omega)]
  simp only [spec_l1Digit_eq, Option.bind_some]
  by_cases c3 : 48 ≤ bt s 0 ∧ bt s 0 ≤ 57
  · rw [decide_eq_true c3, ev_succ]
    simp only [spec_l1Name.j0, if_true]
    refine ev_some.2 ?_
    symm
    rw [nameB, Bool.and_eq_false_iff]
    left
    rw [← List.drop_zero (l := List.range s.size), all_range _ _ 0 (by omega)]
    have : okB 0 (bt s ((0 : Nat) : Int)) = false := by
      simp only [okB]
      rw [decide_eq_false (by show ¬ (97 ≤ bt s 0 ∧ bt s 0 ≤ 122); omega)]
      simp
    rw [this, Bool.false_and]
  · rw [decide_eq_false c3, ev_succ]
    simp only [spec_l1Name.j0, Bool.false_eq_true, if_false]
    rw [nameB, nameB_split s (by omega) c3, decide_eq_true (by omega), Bool.and_true]
    refine ev_congr (ev_loop s.size (fun k i => spec_l1Name.l0 k s (i : Nat)) (fun i => ((List.range s.size).drop i).all (fun j => okS (bt s (j : Int)))) ?_ ?_ 0 (by omega)) (by simp)
    · rw [ev_succ]
      simp only [spec_l1Name.l0, ev_ite]
      rw [if_neg (by omega)]
      refine ev_some.2 ?_
      rw [List.drop_eq_nil_of_le (by simp)]
      simp
    · intro i hi ih
      rw [ev_succ, all_range _ _ _ hi]
      simp only [spec_l1Name.l0, spec_l1Digit_eq, Option.bind_some, ev_ite]
      rw [if_pos (by omega), if_pos (by omega), wrap_succ hi (by omega)]
      generalize bt s (i : Int) = b at *
      by_cases c : 48 ≤ b ∧ b ≤ 57
      · rw [if_pos (decide_eq_true c), show okS b = true by simp [okS, c], Bool.true_and]
        exact ih
      · rw [if_neg (by simpa using c)]
        by_cases c4 : b < 97
        · rw [if_pos c4, show okS b = false by simp only [okS]; rw [decide_eq_false c, decide_eq_false (by omega)]; rfl]
          exact ev_some.2 (by simp)
        · rw [if_neg c4]
          by_cases c5 : b > 122
          · rw [if_pos c5, show okS b = false by simp only [okS]; rw [decide_eq_false c, decide_eq_false (by omega)]; rfl]
            exact ev_some.2 (by simp)
          · rw [if_neg c5, show okS b = true by simp only [okS]; rw [decide_eq_true (show 97 ≤ b ∧ b ≤ 122 by omega)]; rfl, Bool.true_and]
            exact ih
theorem spec_ModeAt_ev (l : List S108) (nm : ByteArray) (hl : l.length ≤ 9223372036854775807) : Ev (fun k => spec_ModeAt.f k l nm) (modeAtP l nm) := by
  unfold spec_ModeAt.f modeAtP
  refine ev_congr (ev_loop l.length (fun k i => spec_ModeAt.l0 k nm (i : Nat) l) (fun i => idxP (named nm) (l.drop i) (i : Nat)) ?_ ?_ 0 (by omega)) (by simp)
  · rw [ev_succ]
    simp only [spec_ModeAt.l0, ev_ite]
    rw [if_neg (by omega)]
    exact ev_some.2 (by simp [idxP])
  · intro i hi ih
    rw [ev_succ]
    simp only [spec_ModeAt.l0, ev_ite]
    rw [if_pos (by omega), if_pos (by omega), wrap_succ hi (by omega), drop_cons l z108 i hi]
    have hr : l.getD i z108 = rd_T108 l i := by simp [rd_T108]
    rw [hr]
    unfold idxP named
    by_cases c : (rd_T108 l i).f0.toList = nm.toList
    · rw [if_pos c, if_pos (by simpa using c)]
      exact ev_some.2 rfl
    · rw [if_neg c, if_neg (by simpa using c)]
      exact ih
/-- Has a rule the target that its action asks for? -/
def targetB (g : List S108) (x : S113) : Bool := if x.f3 = 1 then decide (modeAtP g x.f4 ≥ 0) else if x.f3 = 2 then decide (modeAtP g x.f4 ≥ 0) else x.f4.toList == ([] : List UInt8)
def ruleB (g : List S108) (x : S113) : Bool := nameB x.f0 && (rxB x.f1.f0 && (!(rxB x.f1.f0 && nullE x.f1.f0 (x.f1.f0.length - 1)) && (decide (0 ≤ x.f3 ∧ x.f3 ≤ 3) && targetB g x)))
/-- What a rule has no more of than a law draws. -/
def smallR (x : S113) : Prop := x.f0.size ≤ 1048576 ∧ x.f1.f0.length ≤ 1048576 ∧ ∀ y ∈ x.f1.f0, y.f2.length ≤ 9223372036854775807
def smallM (m : S108) : Prop := m.f0.size ≤ 1048576 ∧ m.f1.length ≤ 1048576 ∧ ∀ x ∈ m.f1, smallR x
def smallG (g : List S108) : Prop := g.length ≤ 1048576 ∧ ∀ m ∈ g, smallM m
theorem impl_ruleOk_ev (g : List S108) (x : S113) (hx : smallR x) : Ev (fun k => impl_ruleOk.f k g x.f0 x.f1.f0 x.f2 x.f3 x.f4) (ruleB g x) := by
  have hj : ∀ b : Bool, Ev (fun k => impl_ruleOk.j0 k b g x.f0 x.f1.f0 x.f2 x.f3 x.f4) (!b && targetB g x) := by
    intro b
    rw [ev_succ]
    cases b
    · simp only [impl_ruleOk.j0, impl_Rule_hasTarget.f, impl_ModeAt.f, Bool.false_eq_true, if_false]
      unfold targetB
      by_cases c1 : x.f3 = 1
      · simp only [if_pos c1, Option.bind_some, if_true]
        exact ev_some.2 (by simp)
      · simp only [if_neg c1, Option.bind_some]
        by_cases c2 : x.f3 = 2
        · simp only [c2, beq_self_eq_true, if_true, Option.bind_some]
          exact ev_some.2 (by simp)
        · rw [if_neg (by simpa using c2), if_neg c2]
          exact ev_some.2 (by simp)
    · simp only [impl_ruleOk.j0, if_true]
      exact ev_some.2 (by simp)
  unfold impl_ruleOk.f ruleB
  rw [ev_bind (impl_isName_ev x.f0 hx.1)]
  cases nameB x.f0
  · simp only [Bool.false_eq_true, if_false]
    exact hj true
  simp only [if_true]
  rw [ev_bind (impl_RxOk_ev x.f1.f0 hx.2.1)]
  cases hr : rxB x.f1.f0
  · simp only [Bool.false_eq_true, if_false]
    exact hj true
  simp only [if_true]
  rw [ev_bind (impl_Nullable_ev x.f1.f0 hx.2.1), hr]
  cases nullE x.f1.f0 (x.f1.f0.length - 1)
  · simp only [Bool.and_false, Bool.false_eq_true, if_false, impl_within_eq, Option.bind_some]
    refine ev_congr (hj _) ?_
    simp
  · simp only [Bool.and_true, if_true]
    exact hj true
theorem spec_l5Rule_ev (g : List S108) (hg : g.length ≤ 9223372036854775807) (x : S113) (hx : smallR x) : Ev (fun k => spec_l5Rule.f k g x.f0 x.f1.f0 x.f2 x.f3 x.f4) (ruleB g x) := by
  have hj : ∀ b : Bool, Ev (fun k => spec_l5Rule.j0 k b g x.f0 x.f1.f0 x.f2 x.f3 x.f4) (!b && targetB g x) := by
    intro b
    rw [ev_succ]
    cases b
    · simp only [spec_l5Rule.j0, Bool.false_eq_true, if_false]
      unfold targetB
      by_cases c1 : x.f3 = 1
      · simp only [if_pos c1]
        rw [ev_bind (spec_ModeAt_ev g x.f4 hg)]
        exact ev_some.2 (by simp)
      · simp only [if_neg c1]
        by_cases c2 : x.f3 = 2
        · simp only [if_pos c2]
          rw [ev_bind (spec_ModeAt_ev g x.f4 hg)]
          exact ev_some.2 (by simp)
        · simp only [if_neg c2]
          exact ev_some.2 (by simp)
    · simp only [spec_l5Rule.j0, if_true]
      exact ev_some.2 (by simp)
  have hn : spec_Nullable.f x.f1.f0 = some (rxB x.f1.f0 && nullE x.f1.f0 (x.f1.f0.length - 1)) := if_pos hx.2.1
  unfold spec_l5Rule.f ruleB
  rw [ev_bind (spec_l1Name_ev x.f0)]
  cases nameB x.f0
  · simp only [Bool.false_eq_true, if_false]
    exact hj true
  simp only [if_true]
  rw [ev_bind (spec_RxOk_ev x.f1.f0 hx.2.1 hx.2.2)]
  simp only [hn]
  cases rxB x.f1.f0
  · simp only [Bool.false_eq_true, if_false]
    exact hj true
  simp only [if_true, Option.bind_some]
  cases nullE x.f1.f0 (x.f1.f0.length - 1)
  · simp only [Bool.and_false, Bool.false_eq_true, if_false, spec_l1In_eq, Option.bind_some]
    refine ev_congr (hj _) ?_
    simp
  · simp only [Bool.and_true, if_true]
    exact hj true
/-- Is a mode right at its place? -/
def modeB (g : List S108) (i : Nat) (m : S108) : Bool := nameB m.f0 && (decide (modeAtP g m.f0 = (i : Int)) && (decide (1 ≤ m.f1.length ∧ m.f1.length ≤ 40) && m.f1.all (ruleB g)))
/-- Are the modes right from a place on? -/
def modesB (g : List S108) (i : Nat) : Bool := ((List.range g.length).drop i).all fun j => modeB g j (rd_T108 g (j : Int))
def grammarB (g : List S108) : Bool := decide (1 ≤ g.length ∧ g.length ≤ 12) && modesB g 0
theorem modesB_step (g : List S108) (i : Nat) (h : i < g.length) : modesB g i = (modeB g i (rd_T108 g (i : Int)) && modesB g (i + 1)) := all_range _ _ _ h
theorem modesB_end (g : List S108) : modesB g g.length = true := by
  unfold modesB
  rw [List.drop_eq_nil_of_le (by simp)]
  rfl
theorem rd_mode_mem (g : List S108) (i : Nat) (h : i < g.length) : rd_T108 g (i : Int) ∈ g := by
  unfold rd_T108
  rw [List.getD_eq_getElem?_getD, List.getElem?_eq_getElem (by simpa using h)]
  exact List.getElem_mem _
theorem rd_rule_mem (l : List S113) (i : Nat) (h : i < l.length) : rd_T113 l (i : Int) ∈ l := by
  unfold rd_T113
  rw [List.getD_eq_getElem?_getD, List.getElem?_eq_getElem (by simpa using h)]
  exact List.getElem_mem _
theorem spec_GrammarOk_l1 (g : List S108) (hg : smallG g) (i : Nat) (nm : ByteArray) (rs : List S113) (hrs : ∀ x ∈ rs, smallR x) (hl : rs.length ≤ 1048576) (R : Bool) (hi : i < g.length) (ih : Ev (fun k => spec_GrammarOk.l0 k ((i + 1 : Nat) : Int) g) R) : Ev (fun k => spec_GrammarOk.l1 k (i : Int) 0 g nm rs) (rs.all (ruleB g) && R) := by
  have hgl := hg.1
  refine ev_congr (ev_loop rs.length (fun k j => spec_GrammarOk.l1 k (i : Int) (j : Nat) g nm rs) (fun j => (rs.drop j).all (ruleB g) && R) ?_ ?_ 0 (by omega)) (by simp)
  · rw [ev_succ]
    simp only [spec_GrammarOk.l1, ev_ite]
    rw [if_neg (by omega), wrap_succ hi (by omega), List.drop_length]
    simpa using ih
  · intro j hj ihj
    rw [ev_succ, all_drop rs z113 (ruleB g) j hj]
    have hr : rs.getD j z113 = rd_T113 rs j := by simp [rd_T113]
    rw [hr]
    simp only [spec_GrammarOk.l1, ev_ite]
    rw [if_pos (by omega), if_pos (by omega), wrap_succ hj (by omega), ev_bind (spec_l5Rule_ev g (by omega) (rd_T113 rs j) (hrs _ (rd_rule_mem rs j hj)))]
    cases ruleB g (rd_T113 rs j)
    · exact ev_some.2 (by simp)
    · simp only [if_true, Bool.true_and]
      exact ihj
theorem spec_GrammarOk_ev (g : List S108) (hg : smallG g) : Ev (fun k => spec_GrammarOk.f k g) (grammarB g) := by
  have hgl := hg.1
  have h0 : Ev (fun k => spec_GrammarOk.l0 k 0 g) (modesB g 0) := by
    refine ev_loop g.length (fun k i => spec_GrammarOk.l0 k (i : Nat) g) (fun i => modesB g i) ?_ ?_ 0 (by omega)
    · rw [ev_succ, modesB_end]
      simp only [spec_GrammarOk.l0, ev_ite]
      rw [if_neg (by omega)]
      exact ev_some.2 rfl
    · intro i hi ih
      rw [ev_succ, modesB_step g i hi]
      simp only [spec_GrammarOk.l0, ev_ite]
      rw [if_pos (by omega), if_pos (by omega)]
      have hm := hg.2 _ (rd_mode_mem g i hi)
      have hj : ∀ b : Bool, Ev (fun k => spec_GrammarOk.j2 k (i : Int) b g (rd_T108 g i).f0 (rd_T108 g i).f1) (!b && ((rd_T108 g i).f1.all (ruleB g) && modesB g (i + 1))) := by
        intro b
        rw [ev_succ]
        cases b
        · simp only [spec_GrammarOk.j2, Bool.false_eq_true, if_false]
          simpa using spec_GrammarOk_l1 g hg i _ _ hm.2.2 hm.2.1 _ hi ih
        · simp only [spec_GrammarOk.j2, if_true]
          exact ev_some.2 (by simp)
      unfold modeB
      generalize rd_T108 g (i : Int) = m at *
      rw [ev_bind (spec_l1Name_ev m.f0)]
      cases nameB m.f0
      · simp only [Bool.false_eq_true, if_false, Bool.false_and]
        exact hj true
      simp only [if_true, Bool.true_and]
      rw [ev_bind (spec_ModeAt_ev g m.f0 (by omega))]
      simp only [ev_ite]
      by_cases c1 : modeAtP g m.f0 = (i : Int)
      · rw [if_pos c1, decide_eq_true c1, Bool.true_and]
        by_cases c2 : (m.f1.length : Int) < 1
        · rw [if_pos c2, decide_eq_false (by omega)]
          exact hj true
        · rw [if_neg c2]
          refine ev_congr (hj _) ?_
          by_cases c3 : (m.f1.length : Int) > 40
          · rw [decide_eq_true c3, decide_eq_false (by omega)]
            rfl
          · rw [decide_eq_false c3, decide_eq_true (by omega)]
            rfl
      · rw [if_neg c1, decide_eq_false c1]
        exact hj true
  have hj : ∀ b : Bool, Ev (fun k => spec_GrammarOk.j0 k b g) (!b && modesB g 0) := by
    intro b
    rw [ev_succ]
    cases b
    · simp only [spec_GrammarOk.j0, Bool.false_eq_true, if_false]
      simpa using h0
    · simp only [spec_GrammarOk.j0, if_true]
      exact ev_some.2 (by simp)
  unfold spec_GrammarOk.f grammarB
  simp only [ev_ite]
  by_cases c1 : (g.length : Int) < 1
  · rw [if_pos c1, decide_eq_false (by omega)]
    exact hj true
  · rw [if_neg c1]
    refine ev_congr (hj _) ?_
    by_cases c2 : (g.length : Int) > 12
    · rw [decide_eq_true c2, decide_eq_false (by omega)]
      rfl
    · rw [decide_eq_false c2, decide_eq_true (by omega)]
      rfl
end Go.Proofs.Ytijmhelacmjggaa.P
namespace Go.Proofs.Ytijmhelacmjggaa.P
open Go.RowKit Go.Proofs.YtijmhelacmjggaaW.PrintWords Go.Proofs.YtijmhelacmjggaaW.PrintLast Go.Proofs.YtijmhelacmjggaaW.PrintMore
attribute [local go_sem] max2_int min2_int max_two min_two max_three min_three max_four min_four
set_option linter.unusedVariables false
set_option linter.unusedSimpArgs false
/-! ### impl_Mode_80: function 80 -/
def impl_Mode_80.f (l0 : List (S108)) : Option (Int) := some (l0.length : Int)
set_option maxHeartbeats 8000000 in
set_option maxRecDepth 100000 in
theorem impl_Mode_80.calls (A0 : Option Addr) (c0 : Nat) (l0 : List (S108)) (r : Int) (w : World) (hr0 : Kd.C k108 w A0 l0.length l0) (hc0 : l0.length ≤ c0) (h : impl_Mode_80.f l0 = some r) :
  Calls Try.prog 80 #[.slice A0 l0.length c0] w fun e w' => e = .returned (.int .i64 r) ∧ Drawn0 w w' := by
 have HR0 := Aside0.mk hr0; have HC0 := Aside0.mk hc0; clear hr0 hc0
 have H : (some (l0.length : Int)) = some r := h
 clear h; obtain rfl := Option.some.inj H
 go_enter Try.func80, Try.ntmps80
 go_wp2
 go_ret
 exact ⟨by first | rfl | (simp; done) | (simp [*]; done), by repeat (first | exact Drawn0.refl _ | apply Drawn0.step)⟩
/-! ### impl_Rule_83: function 83 -/
def impl_Rule_83.f (l0 : List (S113)) : Option (Int) := some (l0.length : Int)
set_option maxHeartbeats 8000000 in
set_option maxRecDepth 100000 in
theorem impl_Rule_83.calls (A0 : Option Addr) (c0 : Nat) (l0 : List (S113)) (r : Int) (w : World) (hr0 : Kd.C k113 w A0 l0.length l0) (hc0 : l0.length ≤ c0) (h : impl_Rule_83.f l0 = some r) :
  Calls Try.prog 83 #[.slice A0 l0.length c0] w fun e w' => e = .returned (.int .i64 r) ∧ Drawn0 w w' := by
 have HR0 := Aside0.mk hr0; have HC0 := Aside0.mk hc0; clear hr0 hc0
 have H : (some (l0.length : Int)) = some r := h
 clear h; obtain rfl := Option.some.inj H
 go_enter Try.func83, Try.ntmps83
 go_wp2
 go_ret
 exact ⟨by first | rfl | (simp; done) | (simp [*]; done), by repeat (first | exact Drawn0.refl _ | apply Drawn0.step)⟩
end Go.Proofs.Ytijmhelacmjggaa.P
namespace Go.Proofs.Ytijmhelacmjggaa.P
open Go.RowKit Go.Shelf Go.Proofs.YtijmhelacmjggaaW.PrintWords Go.Proofs.YtijmhelacmjggaaW.PrintLast Go.Proofs.YtijmhelacmjggaaW.PrintMore Go.Proofs.YtijmhelacmjggaaEv
set_option linter.unusedVariables false
set_option linter.unusedSimpArgs false
set_option maxHeartbeats 4000000 in
theorem GrammarOk_1_calls (g : List S108) (x : S113) (A0 A1 : Option Addr) (c0 c1 B : Nat) (W : World) (hx : smallR x) (hB : W.heap[B]? = some (.cells #[.slice A0 g.length c0] 46)) (hr0 : Kd.C k108 W A0 g.length g) (hc0 : g.length ≤ c0) (hr1 : Kd.C k156 W A1 x.f1.f0.length x.f1.f0) (hc1 : x.f1.f0.length ≤ c1) :
    Calls Try.prog 85 (#[.agg #[.string x.f0, .slice A1 x.f1.f0.length c1, .bool x.f2, .int .i64 x.f3, .string x.f4]] ++ #[.pointer (some ⟨B, 0, none⟩)]) W fun e w' => e = .returned (.bool (!ruleB g x)) ∧ Below W.heap.size W w' := by
  obtain ⟨k, hk⟩ := ev_get (impl_ruleOk_ev g x hx)
  generalize ruleB g x = b at *
  have HK := Aside0.mk hk
  have hcell : W.cell? ⟨B, 0, none⟩ = some (.slice A0 g.length c0) := (blk_cell hB 0).trans rfl
  have hlt := blk_lt hB
  have hc2 : ∀ o, (W.alloc o).cell? ⟨B, 0, none⟩ = some (.slice A0 g.length c0) := fun o => ((below_alloc (Below.refl _ _) o : Below W.heap.size W _).cell hlt).trans hcell
  have hne : (B == W.heap.size) = false := beq_eq_false_iff_ne.mpr (by omega)
  have HB := Aside0.mk (below_alloc (Below.refl W.heap.size W) (.cells #[.string x.f0, .slice A1 x.f1.f0.length c1, .bool x.f2, .int .i64 x.f3, .string x.f4] 113))
  have HR0 := Aside0.mk (Kd.C_below hr0 HB.out)
  have HR1 := Aside0.mk (Kd.C_below hr1 HB.out)
  have HC0 := Aside0.mk hc0
  have HC1 := Aside0.mk hc1
  clear hk hr0 hr1 hc0 hc1 hx hB
  show Calls Try.prog _ #[.agg #[.string x.f0, .slice A1 x.f1.f0.length c1, .bool x.f2, .int .i64 x.f3, .string x.f4], .pointer (some ⟨B, 0, none⟩)] W _
  go_enter Try.func85, Try.ntmps85
  go_wp2_with (go_at_call 86; refine (impl_ruleOk.calls k A0 c0 g x.f0 A1 c1 x.f1.f0 x.f2 x.f3 x.f4 b _ HR0.out HC0.out HR1.out HC1.out HK.out).mono ?_; rintro e w' ⟨rfl, hb⟩)
  go_ret
  exact ⟨rfl, below_then HB.out HB.out.size hb⟩
theorem any_not_all {α : Type} (l : List α) (p : α → Bool) : (l.any fun x => !p x) = !l.all p := by
  induction l with
  | nil => rfl
  | cons a r ih => simp [ih, Bool.not_and]
/-- What ContainsFunc answers of a mode's rules, with the grammar held in memory. -/
theorem rules_calls (l0 : List S108) (rs : List S113) (A0 A1 : Option Addr) (c0 c1 g : Nat) (w W : World) (hrs : ∀ x ∈ rs, smallR x) (hr0 : Kd.C k108 w A0 l0.length l0) (hc0 : l0.length ≤ c0) (hr1 : Kd.C k113 w A1 rs.length rs) (hB : W.heap[g]? = some (.cells #[.slice A0 l0.length c0] 46)) (hb : Below w.heap.size w W) :
    Calls Try.prog 84 #[.slice A1 rs.length c1, .func (.func 85) #[] #[.pointer (some ⟨g, 0, none⟩)]] W fun e w' => e = .returned (.bool (!rs.all (ruleB l0))) ∧ Below W.heap.size W w' := by
  have eg : ∀ args w, (callFunc 85 args).run Try.prog w = .ok (.enter 85 args) w := enters_of Try.func85 (by kernel_rfl) rfl
  rw [← any_not_all]
  refine ContainsFunc_Rule _ _ eg (fun x => !ruleB l0 x) A1 c1 rs W (Kd.C_below hr1 hb) ?_
  intro W2 x A2 c2 hx hb2 hr2 hc2
  exact GrammarOk_1_calls l0 x A0 A2 c0 c2 g W2 (hrs x hx) (blk_below hB hb2) (Kd.C_below (Kd.C_below hr0 hb) hb2) hc0 hr2 hc2
set_option maxHeartbeats 16000000 in
set_option maxRecDepth 100000 in
theorem GrammarOk_hand (A0 : Option Addr) (c0 : Nat) (l0 : List S108) (w : World) (hg : smallG l0) (hr0 : Kd.C k108 w A0 l0.length l0) (hc0 : l0.length ≤ c0) :
    Calls Try.prog 28 #[.agg #[.slice A0 l0.length c0]] w fun e w' => e = .returned (.bool (grammarB l0)) ∧ Below w.heap.size w w' := by
  have HR := Aside0.mk hr0
  have HC := Aside0.mk hc0
  have HG := Aside0.mk hg
  have hn := hr0.2.1
  have hg1 := hg.1
  clear hr0 hc0 hg
  have HB := Aside0.mk (below_alloc (Below.refl w.heap.size w) (.cells #[.slice A0 l0.length c0] 46))
  have BK := Aside0.mk (blk_new w (.cells #[.slice A0 l0.length c0] 46))
  have HI := Aside0.mk (impl_within_eq (l0.length : Int) 1 12)
  have hgd : grammarB l0 = (decide (1 ≤ (l0.length : Int) ∧ (l0.length : Int) ≤ 12) && modesB l0 0) := by
    unfold grammarB
    congr 1
    exact decide_eq_decide.2 (by omega)
  cases hb1 : decide (1 ≤ (l0.length : Int) ∧ (l0.length : Int) ≤ 12)
  · rw [hb1] at HI hgd
    rw [hgd, Bool.false_and]
    clear hgd hb1
    go_enter Try.func28, Try.ntmps28
    go_wp2_with (first | (go_at_call 80; refine (impl_Mode_80.calls A0 c0 l0 _ _ (Kd.C_below HR.out HB.out) HC.out rfl).mono ?_; rintro e w' ⟨rfl, ⟨nd, rfl⟩⟩) | (go_at_call 79; refine (impl_within.calls _ _ _ false _ HI.out).mono ?_; rintro e w' ⟨rfl, ⟨nd2, rfl⟩⟩))
    go_ret
    exact ⟨rfl, by repeat (first | (with_reducible exact HB.out) | apply pw_below_drewN | apply below_drew1)⟩
  rw [hb1] at HI hgd
  rw [Bool.true_and] at hgd
  have HA0 := Aside0.mk hgd
  clear hgd hb1
  generalize hgB : grammarB l0 = gb at *
  clear hgB
  go_enter Try.func28, Try.ntmps28
  go_wp2_with (first | (go_at_call 80; refine (impl_Mode_80.calls A0 c0 l0 _ _ (Kd.C_below HR.out HB.out) HC.out rfl).mono ?_; rintro e w' ⟨rfl, ⟨nd, rfl⟩⟩) | (go_at_call 79; refine (impl_within.calls _ _ _ true _ HI.out).mono ?_; rintro e w' ⟨rfl, ⟨nd2, rfl⟩⟩))
  go_loopg [13] l0.length (fun gg s13 wr => ∃ kk : Nat, kk ≤ l0.length ∧ l0.length - kk ≤ gg ∧ s13 = .int .i64 kk ∧ Aside0 (gb = modesB l0 kk) ∧ Aside0 (wr.heap[w.heap.size]? = some (.cells #[.slice A0 l0.length c0] 46)) ∧ Aside0 (Below w.heap.size w wr))
  case atStart => exact ⟨0, Nat.zero_le _, by omega, rfl, HA0, ⟨BK.out⟩, ⟨by repeat (first | (with_reducible exact HB.out) | apply pw_below_drewN | apply below_drew1)⟩⟩
  case round =>
    clear HA0 HB BK
    obtain ⟨kk, hkk, hgg, rfl, HA, BK, HB⟩ := hrel
    by_cases hlt : kk < l0.length
    · have hltz : (kk : Int) < (l0.length : Int) := by omega
      have hk0 : (0 : Int) ≤ (kk : Int) := by omega
      obtain ⟨ad, A1, c1, e1, hx0, hx1, hl, hi⟩ := at_T108 HR.out (kk : Int) (by omega) hltz
      cases e1
      rw [Int.toNat_natCast] at hx0 hx1
      replace hx0 := mv_ HB.out hx0
      replace hx1 := mv_ HB.out hx1
      have hm := HG.out.2 _ (rd_mode_mem l0 kk hlt)
      have hs := HA.out.trans (modesB_step l0 kk hlt)
      unfold modeB at hs
      clear HA
      generalize rd_T108 l0 (kk : Int) = y at *
      have HI1 := Aside0.mk hi
      have HC1 := Aside0.mk hl
      obtain ⟨kn, hkn⟩ := ev_get (impl_isName_ev y.f0 hm.1)
      have HN := Aside0.mk hkn
      have HM := Aside0.mk hm
      have HS := Aside0.mk hs
      clear hi hl hkn hm hs
      have hcg : wr.cell? ⟨w.heap.size, 0, none⟩ = some (.slice (some ad) l0.length c0) := (blk_cell BK.out 0).trans rfl
      go_upto_region 6 with ((with_reducible refine gate_dst (N := 4) rfl ?_); refine box_event ?hg (N := 4) ?hd (cs := #[.string ⟨#[]⟩, .slice none 0 0]) (t := 108) ?hr ?_; (case hd => rfl); (case hg => rfl); (case hr => first | (go_simp; done) | (go_simp; rfl)); intro gm hgm w20 hbox hb; have n0_ := Aside0.mk (blk_below BK.out hb); have n1_ := Aside0.mk (below_step HB.out hb); have n2_ := Aside0.mk (show w.heap.size ≤ gm by rw [hgm]; exact below_size HB.out); have n3_ := Aside0.mk (show w.heap.size ≠ gm by rw [hgm]; exact Nat.ne_of_lt (blk_lt BK.out)); clear BK HB; have BK := n0_; have HB := n1_; have GE := n2_; have NE := n3_; have BKm := Aside0.mk hbox; clear n0_ n1_ n2_ n3_ hb hbox hgm; have hcz0 : w20.cell? ⟨gm, 0, none⟩ = some (.string ⟨#[]⟩) := (blk_cell BKm.out 0).trans rfl; have hcz1 : w20.cell? ⟨gm, 1, none⟩ = some (.slice none 0 0) := (blk_cell BKm.out 1).trans rfl; have hfz0 := blk_frozen BKm.out 0; have hfz1 := blk_frozen BKm.out 1)
      (try simp only [Act.put, List.setIfInBounds_toArray, List.set_cons_zero, List.set_cons_succ])
      have BM2 : Aside0 (((w20.setCell ⟨gm, 0, none⟩ (.string y.f0)).setCell ⟨gm, 1, none⟩ (.slice A1 y.f1.length c1)).heap[gm]? = some (.cells #[.string y.f0, .slice A1 y.f1.length c1] 108)) := ⟨blk_put (blk_put BKm.out 0 _ rfl) 1 _ rfl⟩
      have BK2 : Aside0 (((w20.setCell ⟨gm, 0, none⟩ (.string y.f0)).setCell ⟨gm, 1, none⟩ (.slice A1 y.f1.length c1)).heap[w.heap.size]? = some (.cells #[.slice (some ad) l0.length c0] 46)) := ⟨blk_far (blk_far BK.out NE.out _) NE.out _⟩
      have HB2 : Aside0 (Below w.heap.size w ((w20.setCell ⟨gm, 0, none⟩ (.string y.f0)).setCell ⟨gm, 1, none⟩ (.slice A1 y.f1.length c1))) := ⟨below_set (below_set HB.out GE.out) GE.out⟩
      clear BKm BK HB hcz0 hcz1 hfz0 hfz1 hx0 hx1 hcg
      generalize (w20.setCell ⟨gm, 0, none⟩ (.string y.f0)).setCell ⟨gm, 1, none⟩ (.slice A1 y.f1.length c1) = w3 at *
      have hc0m : w3.cell? ⟨gm, 0, none⟩ = some (.string y.f0) := (blk_cell BM2.out 0).trans rfl
      have hc1m : w3.cell? ⟨gm, 1, none⟩ = some (.slice A1 y.f1.length c1) := (blk_cell BM2.out 1).trans rfl
      have hcg : w3.cell? ⟨w.heap.size, 0, none⟩ = some (.slice (some ad) l0.length c0) := (blk_cell BK2.out 0).trans rfl
      cases hq1 : nameB y.f0
      · rw [hq1] at HN HS
        have hs2 : Aside0 (gb = false) := ⟨by rw [HS.out]; rfl⟩
        clear HS hq1
        go_wp2_with (go_at_call 81; refine (impl_isName.calls kn y.f0 false _ HN.out).mono ?_; rintro e w' ⟨rfl, ⟨nd3, rfl⟩⟩)
        go_ret
        exact ⟨by (rw [hs2.out]; try rfl), by repeat (first | (with_reducible exact HB2.out) | apply pw_below_drewN | apply below_drew1)⟩
      rw [hq1] at HN HS
      simp only [Bool.true_and] at HS
      clear hq1
      have hma : ∀ nd : Nat, Calls Try.prog 82 #[.agg #[.slice (some ad) l0.length c0], .string y.f0] (w3.drewN nd) fun e w' => e = .returned (.int .i64 (modeAtP l0 y.f0)) ∧ Below (w3.drewN nd).heap.size (w3.drewN nd) w' := fun nd => impl_ModeAt.calls (some ad) c0 l0 y.f0 _ _ (Kd.C_below HR.out (pw_below_drewN HB2.out nd)) HC.out rfl
      have HMA := Lib.hid hma
      clear hma
      generalize modeAtP l0 y.f0 = mm at *
      by_cases hq2 : mm = (kk : Int)
      · subst hq2
        have hne0 : ((kk : Int) != (kk : Int)) = false := by simp
        have HW := Aside0.mk (impl_within_eq (y.f1.length : Int) 1 40)
        have hd : decide (1 ≤ y.f1.length ∧ y.f1.length ≤ 40) = decide (1 ≤ (y.f1.length : Int) ∧ (y.f1.length : Int) ≤ 40) := decide_eq_decide.2 (by omega)
        rw [hd] at HS
        clear hd
        cases hq3 : decide (1 ≤ (y.f1.length : Int) ∧ (y.f1.length : Int) ≤ 40)
        · rw [hq3] at HS HW
          have hs2 : Aside0 (gb = false) := ⟨by rw [HS.out]; simp⟩
          clear HS hq3
          go_wp2_with (first | (go_at_call 81; refine (impl_isName.calls kn y.f0 true _ HN.out).mono ?_; rintro e w' ⟨rfl, ⟨nd3, rfl⟩⟩) | (go_at_call 82; refine (HMA.out nd3).mono ?_; rintro e w4 ⟨rfl, hb⟩; have HB4 := Aside0.mk (below_step (pw_below_drewN HB2.out nd3) hb); have hc4 : w4.cell? ⟨gm, 1, none⟩ = some (.slice A1 y.f1.length c1) := (blk_cell (blk_below (blk_drewN BM2.out nd3) hb) 1).trans rfl; clear hb) | (go_at_call 83; refine (impl_Rule_83.calls A1 c1 y.f1 _ _ (Kd.C_below HI1.out HB4.out) HC1.out rfl).mono ?_; rintro e w' ⟨rfl, ⟨nd4, rfl⟩⟩) | (go_at_call 79; refine (impl_within.calls _ _ _ false _ HW.out).mono ?_; rintro e w' ⟨rfl, ⟨nd5, rfl⟩⟩))
          go_ret
          exact ⟨by (rw [hs2.out]; try rfl), by repeat (first | (with_reducible exact HB4.out) | apply pw_below_drewN | apply below_drew1)⟩
        rw [hq3] at HS HW
        clear hq3
        have hs0 : Aside0 (gb = (y.f1.all (ruleB l0) && modesB l0 (kk + 1))) := ⟨by rw [HS.out]; simp⟩
        clear HS
        have hca : ∀ W : World, W.heap[w.heap.size]? = some (.cells #[.slice (some ad) l0.length c0] 46) → Below w.heap.size w W → Calls Try.prog 84 #[.slice A1 y.f1.length c1, .func (.func 85) #[] #[.pointer (some ⟨w.heap.size, 0, none⟩)]] W fun e w' => e = .returned (.bool (!y.f1.all (ruleB l0))) ∧ Below W.heap.size W w' := fun W h1 h2 => rules_calls l0 y.f1 (some ad) A1 c0 c1 _ w W HM.out.2.2 HR.out HC.out HI1.out h1 h2
        have HCA := Lib.hid hca
        clear hca
        cases hq4 : y.f1.all (ruleB l0)
        · rw [hq4] at hs0 HCA
          have hs2 : Aside0 (gb = false) := ⟨by rw [hs0.out]; rfl⟩
          clear hs0 hq4
          go_wp2_with (first | (go_at_call 81; refine (impl_isName.calls kn y.f0 true _ HN.out).mono ?_; rintro e w' ⟨rfl, ⟨nd3, rfl⟩⟩) | (go_at_call 82; refine (HMA.out nd3).mono ?_; rintro e w4 ⟨rfl, hb⟩; have HB4 := Aside0.mk (below_step (pw_below_drewN HB2.out nd3) hb); have BK4 := Aside0.mk (blk_below (blk_drewN BK2.out nd3) hb); have hc4 : w4.cell? ⟨gm, 1, none⟩ = some (.slice A1 y.f1.length c1) := (blk_cell (blk_below (blk_drewN BM2.out nd3) hb) 1).trans rfl; clear hb) | (go_at_call 83; refine (impl_Rule_83.calls A1 c1 y.f1 _ _ (Kd.C_below HI1.out HB4.out) HC1.out rfl).mono ?_; rintro e w' ⟨rfl, ⟨nd4, rfl⟩⟩) | (go_at_call 79; refine (impl_within.calls _ _ _ true _ HW.out).mono ?_; rintro e w' ⟨rfl, ⟨nd5, rfl⟩⟩) | (go_at_call 84; refine (HCA.out _ (blk_drewN BK4.out _) (pw_below_drewN HB4.out _)).mono ?_; rintro e w5 ⟨rfl, hb⟩; have HB5 := Aside0.mk (below_step (pw_below_drewN HB4.out _) hb); clear hb))
          go_ret
          exact ⟨by (rw [hs2.out]; try rfl), by repeat (first | (with_reducible exact HB5.out) | apply pw_below_drewN | apply below_drew1)⟩
        · rw [hq4] at hs0 HCA
          have hs2 : Aside0 (gb = modesB l0 (kk + 1)) := ⟨by rw [hs0.out]; rfl⟩
          clear hs0 hq4
          go_wp2_with (first | (go_at_call 81; refine (impl_isName.calls kn y.f0 true _ HN.out).mono ?_; rintro e w' ⟨rfl, ⟨nd3, rfl⟩⟩) | (go_at_call 82; refine (HMA.out nd3).mono ?_; rintro e w4 ⟨rfl, hb⟩; have HB4 := Aside0.mk (below_step (pw_below_drewN HB2.out nd3) hb); have BK4 := Aside0.mk (blk_below (blk_drewN BK2.out nd3) hb); have hc4 : w4.cell? ⟨gm, 1, none⟩ = some (.slice A1 y.f1.length c1) := (blk_cell (blk_below (blk_drewN BM2.out nd3) hb) 1).trans rfl; clear hb) | (go_at_call 83; refine (impl_Rule_83.calls A1 c1 y.f1 _ _ (Kd.C_below HI1.out HB4.out) HC1.out rfl).mono ?_; rintro e w' ⟨rfl, ⟨nd4, rfl⟩⟩) | (go_at_call 79; refine (impl_within.calls _ _ _ true _ HW.out).mono ?_; rintro e w' ⟨rfl, ⟨nd5, rfl⟩⟩) | (go_at_call 84; refine (HCA.out _ (blk_drewN BK4.out _) (pw_below_drewN HB4.out _)).mono ?_; rintro e w5 ⟨rfl, hb⟩; have BK5 := Aside0.mk (blk_below (blk_drewN BK4.out _) hb); have HB5 := Aside0.mk (below_step (pw_below_drewN HB4.out _) hb); clear hb))
          go_roundg (l0.length - (kk + 1))
          case measure => omega
          case rel => exact ⟨kk + 1, by omega, by omega, by go_num, hs2, ⟨BK5.out⟩, ⟨HB5.out⟩⟩
      · have hne1 : (mm != (kk : Int)) = true := by simpa using hq2
        have hs2 : Aside0 (gb = false) := ⟨by rw [HS.out, decide_eq_false hq2]; rfl⟩
        clear HS hq2
        go_wp2_with (first | (go_at_call 81; refine (impl_isName.calls kn y.f0 true _ HN.out).mono ?_; rintro e w' ⟨rfl, ⟨nd3, rfl⟩⟩) | (go_at_call 82; refine (HMA.out nd3).mono ?_; rintro e w4 ⟨rfl, hb⟩; have HB4 := Aside0.mk (below_step (pw_below_drewN HB2.out nd3) hb); clear hb))
        go_ret
        exact ⟨by (rw [hs2.out]; try rfl), by repeat (first | (with_reducible exact HB4.out) | apply pw_below_drewN | apply below_drew1)⟩
    · have hltz : ¬ (kk : Int) < (l0.length : Int) := by omega
      have hk : kk = l0.length := by omega
      have hs2 : Aside0 (gb = true) := ⟨by rw [HA.out, hk, modesB_end]⟩
      clear hk HA
      go_wp2
      go_ret
      exact ⟨by (rw [hs2.out]; try rfl), HB.out⟩
end Go.Proofs.Ytijmhelacmjggaa.P
namespace Go.Proofs.Ytijmhelacmjggaa.P
open Go.RowKit Go.Proofs.YtijmhelacmjggaaW.PrintWords Go.Proofs.YtijmhelacmjggaaW.PrintLast Go.Proofs.YtijmhelacmjggaaW.PrintMore
attribute [local go_sem] max2_int min2_int max_two min_two max_three min_three max_four min_four
set_option linter.unusedVariables false
set_option linter.unusedSimpArgs false
/-! ### impl_GrammarOk: function 28 -/
def smallRB (x : S113) : Bool := decide (x.f0.size ≤ 1048576) && (decide (x.f1.f0.length ≤ 1048576) && x.f1.f0.all fun y => decide (y.f2.length ≤ 9223372036854775807))
def smallMB (m : S108) : Bool := decide (m.f0.size ≤ 1048576) && (decide (m.f1.length ≤ 1048576) && m.f1.all smallRB)
def smallGB (g : List (S108)) : Bool := decide (g.length ≤ 1048576) && g.all smallMB
theorem smallG_iff (g : List (S108)) : smallGB g = true ↔ smallG g := by
  simp only [smallGB, smallMB, smallRB, smallG, smallM, smallR, Bool.and_eq_true, decide_eq_true_eq, List.all_eq_true]
def impl_GrammarOk.f (l0_0 : List (S108)) : Option (Bool) := if smallGB l0_0 = true then some (grammarB l0_0) else none
theorem impl_GrammarOk.calls (A0_0 : Option Addr) (c0_0 : Nat) (l0_0 : List (S108)) (r : Bool) (w : World) (hr0_0 : Kd.C k108 w A0_0 l0_0.length l0_0) (hc0_0 : l0_0.length ≤ c0_0) (h : impl_GrammarOk.f l0_0 = some r) :
    Calls Try.prog 28 #[.agg #[.slice A0_0 l0_0.length c0_0]] w fun e w' => e = .returned (.bool r) ∧ Below w.heap.size w w' := by
  unfold impl_GrammarOk.f at h
  by_cases hp : smallGB l0_0 = true
  · rw [if_pos hp] at h
    obtain rfl := Option.some.inj h
    exact GrammarOk_hand A0_0 c0_0 l0_0 w ((smallG_iff l0_0).1 hp) hr0_0 hc0_0
  · rw [if_neg hp] at h
    exact absurd h (by simp)
end Go.Proofs.Ytijmhelacmjggaa.P
namespace Go.Proofs.Ytijmhelacmjggaa.P
open Go.RowKit Go.Proofs.YtijmhelacmjggaaW.PrintWords Go.Proofs.YtijmhelacmjggaaW.PrintLast Go.Proofs.YtijmhelacmjggaaEv
set_option linter.unusedVariables false
set_option linter.unusedSimpArgs false
theorem smallR_of (x : S218) (hw : wRule x ≤ 1048576) (hg : g218 x) : smallR (cRule x) := by
  have e : x.f0.size + (x.f1.f0.length + ws wRNode x.f1.f0) + x.f4.size ≤ 1048576 := hw
  refine ⟨by show x.f0.size ≤ _; omega, by show (x.f1.f0.map cRNode).length ≤ _; rw [List.length_map]; omega, fun y hy => ?_⟩
  obtain ⟨z, hz, rfl⟩ := List.mem_map.1 (show y ∈ x.f1.f0.map cRNode from hy)
  exact (hRNode_of_g (hg.2.1.2 z hz)).2
theorem smallM_of (x : S171) (hw : wMode x ≤ 1048576) (hg : g171 x) : smallM (cMode x) := by
  have e : x.f0.size + (x.f1.length + ws wRule x.f1) ≤ 1048576 := hw
  refine ⟨by show x.f0.size ≤ _; omega, by show (x.f1.map cRule).length ≤ _; rw [List.length_map]; omega, fun y hy => ?_⟩
  obtain ⟨z, hz, rfl⟩ := List.mem_map.1 (show y ∈ x.f1.map cRule from hy)
  have := ws_mem wRule _ z hz
  exact smallR_of z (by omega) (hg.2.2 z hz)
theorem smallG_of (l : List S171) (hw : l.length + ws wMode l ≤ 1048576) (hg : ∀ y ∈ l, g171 y) : smallG (l.map cMode) := by
  refine ⟨by rw [List.length_map]; omega, fun y hy => ?_⟩
  obtain ⟨z, hz, rfl⟩ := List.mem_map.1 hy
  have := ws_mem wMode _ z hz
  exact smallM_of z (by omega) (hg z hz)
theorem hMode_all (l : List S171) (hg : ∀ y ∈ l, g171 y) : ∀ x ∈ l.map cMode, h108 x := fun y hy => by
  obtain ⟨z, hz, rfl⟩ := List.mem_map.1 hy
  exact hMode_of_g (hg z hz)
theorem impl_GrammarOk_eq (g : List S108) (h : smallG g) : impl_GrammarOk.f g = some (grammarB g) := if_pos ((smallG_iff g).2 h)
end Go.Proofs.Ytijmhelacmjggaa.P
namespace Go.Proofs.Ytijmhelacmjggaa.P
open Go.RowKit Go.Proofs.YtijmhelacmjggaaW.PrintWords Go.Proofs.YtijmhelacmjggaaW.PrintLast Go.Proofs.YtijmhelacmjggaaW.PrintMore
attribute [local go_sem] max2_int min2_int max_two min_two max_three min_three max_four min_four
set_option linter.unusedVariables false
set_option linter.unusedSimpArgs false
/-! ### spec_l20At: function 97 -/
def spec_l20At.l0 : Nat → List ByteArray → ByteArray → Int → Option (Int)
 | 0, _, _, _ => none
 | k + 1, x0, x1, x5 => if x5 < (x0.length : Int) then (if 0 ≤ x5 then (if (rdOf ByteArray.empty x0 x5).toList = x1.toList then (some x5) else (spec_l20At.l0 k x0 x1 (wrap64 (x5 + 1)))) else (none)) else (some (-1))
def spec_l20At.f (k : Nat) (l0 : List ByteArray) (a1 : ByteArray) : Option (Int) := spec_l20At.l0 k l0 a1 0
set_option maxHeartbeats 8000000 in
set_option maxRecDepth 100000 in
theorem spec_l20At.calls (k : Nat) (A0 : Option Addr) (c0 : Nat) (l0 : List ByteArray) (a1 : ByteArray) (r : Int) (w : World) (hr0 : Kd.C Kd.string w A0 l0.length l0) (hc0 : l0.length ≤ c0) (h : spec_l20At.f k l0 a1 = some r) :
  Calls Try.prog 97 #[.slice A0 l0.length c0, .string a1] w fun e w' => e = .returned (.int .i64 r) ∧ Drawn0 w w' := by
 have HR0 := Aside0.mk hr0; have HC0 := Aside0.mk hc0; clear hr0 hc0
 have H : (spec_l20At.l0 k l0 a1 0) = some r := h
 clear h
 have H' := Aside0.mk H
 clear H
 go_enter Try.func97, Try.ntmps97
 go_wp2
 go_loopg [5] k (fun kq v5 w' => ∃ (x5_1 : Int), v5 = .int .i64 x5_1 ∧ Aside0 (spec_l20At.l0 kq l0 a1 x5_1 = some r) ∧ Aside0 (kq ≤ k) ∧ Drawn0 w w')
 case atStart => exact ⟨(0), rs_, H', ⟨Nat.le_refl _⟩, by repeat (first | exact Drawn0.refl _ | apply Drawn0.step)⟩
 case round =>
  clear H'
  obtain ⟨x5_1, rfl, HA, HK1, ⟨m1, rfl⟩⟩ := hrel
  cases gk with
  | zero => exact absurd HA.out (by simp [spec_l20At.l0])
  | succ k1 =>
   have H := HA.out; clear HA
   simp only [spec_l20At.l0] at H
   by_cases c3 : x5_1 < (l0.length : Int)
   ·rw [if_pos c3] at H; have c3b0 := decide_eq_true c3; clear c3
    by_cases c4 : 0 ≤ x5_1
    ·rw [if_pos c4] at H; have c4b0 := decide_eq_true c4; clear c4
     by_cases c5 : (rdOf ByteArray.empty l0 x5_1).toList = a1.toList
     ·rw [if_pos c5] at H
      have c5b0 : ((rdOf ByteArray.empty l0 x5_1).toList == a1.toList) = true := beq_iff_eq.mpr c5
      have c5b1 : ((rdOf ByteArray.empty l0 x5_1).toList != a1.toList) = false := bne_eq_false_iff_eq.mpr c5
      clear c5; obtain rfl := Option.some.inj H
      have p101 : 0 ≤ (x5_1 : Int) := of_decide_eq_true as_
      have q101 : x5_1 < (l0.length : Int) := of_decide_eq_true as_
      obtain ⟨ad101, e101, hx101_0⟩ := Kd.at_string HR0.out x5_1 p101 q101
      cases e101
      replace p101 := eq_true p101; replace q101 := eq_true q101
      go_wp2
      go_ret
      exact ⟨by first | rfl | (simp; done) | (simp [*]; done), by repeat (first | exact Drawn0.refl _ | apply Drawn0.step)⟩
     ·rw [if_neg c5] at H
      have c5b0 : ((rdOf ByteArray.empty l0 x5_1).toList == a1.toList) = false := beq_eq_false_iff_ne.mpr c5
      have c5b1 : ((rdOf ByteArray.empty l0 x5_1).toList != a1.toList) = true := bne_iff_ne.mpr c5
      have H' := Aside0.mk H
      clear H
      have p101 : 0 ≤ (x5_1 : Int) := of_decide_eq_true as_
      have q101 : x5_1 < (l0.length : Int) := of_decide_eq_true as_
      obtain ⟨ad101, e101, hx101_0⟩ := Kd.at_string HR0.out x5_1 p101 q101
      cases e101
      replace p101 := eq_true p101; replace q101 := eq_true q101
      go_wp2
      go_roundg k1
      case measure => have := HK1.out; omega
      case rel => exact ⟨(wrap64 (x5_1 + 1)), rs_, H', ⟨by have := HK1.out; omega⟩, by repeat (first | exact Drawn0.refl _ | apply Drawn0.step)⟩
    ·rw [if_neg c4] at H
     exact absurd H (by simp)
   ·rw [if_neg c3] at H; have c3b0 := decide_eq_false c3; clear c3; obtain rfl := Option.some.inj H
    go_wp2
    go_ret
    exact ⟨by first | rfl | (simp; done) | (simp [*]; done), by repeat (first | exact Drawn0.refl _ | apply Drawn0.step)⟩
/-! ### spec_Kinds: function 44 -/
mutual
def spec_Kinds.l0 : Nat → List ByteArray → Int → List (S108) → Option (List ByteArray)
 | 0, _, _, _ => none
 | k + 1, x3, x4, x102000 => if x4 < (x102000.length : Int) then (spec_Kinds.l1 k x3 x4 0 x102000) else (some x3)
def spec_Kinds.l1 : Nat → List ByteArray → Int → Int → List (S108) → Option (List ByteArray)
 | 0, _, _, _, _ => none
 | k + 1, x3, x4, x5, x102000 => if 0 ≤ x4 then (if x4 < (x102000.length : Int) then (if x5 < (((rd_T108 x102000 x4).f1).length : Int) then (if 0 ≤ x5 then ((spec_l20At.f k x3 ((rd_T113 ((rd_T108 x102000 x4).f1) x5).f0)).bind fun t109 => (if t109 < 0 then (if x3.length < 8796093022208 then (spec_Kinds.l1 k (x3 ++ [(rd_T113 ((rd_T108 x102000 x4).f1) x5).f0]) x4 (wrap64 (x5 + 1)) x102000) else (none)) else (spec_Kinds.l1 k x3 x4 (wrap64 (x5 + 1)) x102000))) else (none)) else (spec_Kinds.l0 k x3 (wrap64 (x4 + 1)) x102000)) else (none)) else (none)
end
def spec_Kinds.f (k : Nat) (l0_0 : List (S108)) : Option (List ByteArray) := (some (([] : List ByteArray) : List ByteArray)).bind fun y102 => ((spec_GrammarOk.f k l0_0).bind fun t105 => (if t105 = true then (spec_Kinds.l0 k y102 0 l0_0) else (some y102)))
set_option maxHeartbeats 8000000 in
set_option maxRecDepth 100000 in
theorem spec_Kinds.calls (k : Nat) (A0_0 : Option Addr) (c0_0 : Nat) (l0_0 : List (S108)) (r : List ByteArray) (w : World) (hr0_0 : Kd.C k108 w A0_0 l0_0.length l0_0) (hc0_0 : l0_0.length ≤ c0_0) (h : spec_Kinds.f k l0_0 = some r) :
  Calls Try.prog 44 #[.agg #[.slice A0_0 l0_0.length c0_0]] w fun e w' => ∃ v0_ : Value, e = .returned (v0_) ∧ Kd.R Kd.string 9 w' w.heap.size (fun _ => True) v0_ r ∧ Below w.heap.size w w' := by
 have hu46 := Try.underlying46; have HR0_0 := Aside0.mk hr0_0; have HC0_0 := Aside0.mk hc0_0; clear hr0_0 hc0_0; have HB := Aside0.mk (Below.refl w.heap.size w)
 have H : ((some (([] : List ByteArray) : List ByteArray)).bind fun y102 => ((spec_GrammarOk.f k l0_0).bind fun t105 => (if t105 = true then (spec_Kinds.l0 k y102 0 l0_0) else (some y102)))) = some r := h
 clear h
 obtain ⟨y102, hy102⟩ : ∃ y_ : List ByteArray, y_ = (([] : List ByteArray)) := ⟨_, rfl⟩
 replace H : ((spec_GrammarOk.f k l0_0).bind fun t105 => (if t105 = true then (spec_Kinds.l0 k y102 0 l0_0) else (some y102))) = some r := by first | (rw [hy102]; with_reducible exact H) | (have H2_ := (Option.bind_some _ _).symm.trans H; rw [hy102]; with_reducible exact H2_) | (have H2_ := (Option.bind_some _ _).symm.trans H; with_reducible exact H2_) | with_reducible exact H | (rw [hy102]; exact H) | exact H
 have Ny102 := Aside0.mk hy102; clear hy102; obtain ⟨t105, A2, H⟩ := ob_ H
 by_cases c3 : t105 = true
 ·subst c3; rw [if_pos rfl] at H
  have H' := Aside0.mk H
  clear H
  go_enter Try.func44, Try.ntmps44
  go_wp2_with (first | ((with_reducible refine gate_dst (N := 1) rfl ?_); refine bx_ 1 #[.slice A0_0 l0_0.length c0_0] 46 ?_; intro gb101 hg w4 hbox hb; have BK101 := Aside0.mk (hbox); have GW101 := ge_ hg HB; have GE101 := GW101; replace HB := sb_ HB hb; clear hb hbox hg) | ((with_reducible refine gate_dst (N := 7) rfl ?_); refine Kd.R_lit Kd.string _ 9 ?hg (N := 7) ?hd (xs := ([] : List ByteArray)) (inner := []) (ok := fun _ => True) (okp := fun _ => True) ?hr ?hp (fun _ hk => hk) trivial (Below.refl _ _) (Nat.le_refl _) (by simp) ?_; (case hd => rfl); (case hg => rfl); (case hr => first | (go_simp; done) | (go_simp; rfl)); (case hp => exact (Reps.none _ _)); intro v103 w5 ho6 hb hg_ hnew_; clear hg_ hnew_; (first | rw [← Ny102.out] at ho6 | (simp only [Int.reduceToNat] at ho6; rw [← Ny102.out] at ho6)); have HO104 := Aside0.mk (Kd.R_lower ho6 (below_size (be1_ HB.out GE101.out))); replace BK101 := lb_ BK101 hb; replace HB := sb1_ HB GE101 hb; clear hb ho6; obtain ⟨hcz7_0, hfz7_0⟩ := d1_ BK101) | ((with_reducible refine gate_callee (f := 26) rfl ?_); refine gl_ (some 9) rfl rfl Try.func26 #[.agg #[.slice A0_0 l0_0.length c0_0]] ?_; (with_reducible refine (spec_GrammarOk.calls k _ _ l0_0 true _ ?side1 ?side2 A2.out).mono ?_); (case side1 => exact Kd.C_below HR0_0.out (be_ HB.out)); (case side2 => exact HC0_0.out); rintro e w8 ⟨rfl, hb⟩; refine ⟨_, rfl, ?_⟩; replace HO104 := Aside0.mk (Kd.R_below (ra_ HO104.out) hb); replace BK101 := lb_ BK101 hb; replace HB := sb1_ HB GE101 hb; (try clear hb)))
  go_loopg [3, 4] k (fun kq v3 v4 w' => ∃ (x3_1 : List ByteArray) (x4_1 : Int), v4 = .int .i64 x4_1 ∧ Aside0 (spec_Kinds.l0 kq x3_1 x4_1 l0_0 = some r) ∧ Aside0 (kq ≤ k) ∧ Aside0 (Kd.R Kd.string 9 w' w.heap.size (fun _ => True) v3 x3_1) ∧ Aside0 (w'.heap[gb101]? = some (.cells #[(.slice A0_0 l0_0.length c0_0)] 46 (0, 0))) ∧ Aside0 (Below w.heap.size w w'))
  case atStart => exact ⟨(y102), (0), rs_, H', ⟨Nat.le_refl _⟩, ⟨ra_ HO104.out⟩, ⟨bk_ BK101.out⟩, ⟨be1_ HB.out GE101.out⟩⟩
  case round =>
   clear H'; (try clear c3); (try clear hcz7_0); (try clear hfz7_0); obtain ⟨x3_1, x4_1, rfl, HA, HK1, HO_3, BK101, HB⟩ := hrel
   cases gk with
   | zero => exact absurd HA.out (by simp [spec_Kinds.l0])
   | succ k1 =>
    have H := HA.out; clear HA
    simp only [spec_Kinds.l0] at H
    by_cases c9 : x4_1 < (l0_0.length : Int)
    ·rw [if_pos c9] at H; have c9b0 := decide_eq_true c9; clear c9
     have H' := Aside0.mk H
     clear H; obtain ⟨hcz10_0, hfz10_0⟩ := d1_ BK101
     go_wp2
     go_loopg [3, 5] k1 (fun kq v3 v5 w' => ∃ (x3_2 : List ByteArray) (x5_2 : Int), v5 = .int .i64 x5_2 ∧ Aside0 (spec_Kinds.l1 kq x3_2 x4_1 x5_2 l0_0 = some r) ∧ Aside0 (kq ≤ k1) ∧ Aside0 (Kd.R Kd.string 9 w' w.heap.size (fun _ => True) v3 x3_2) ∧ Aside0 (w'.heap[gb101]? = some (.cells #[(.slice A0_0 l0_0.length c0_0)] 46 (0, 0))) ∧ Aside0 (Below w.heap.size w w'))
     case atStart => exact ⟨(x3_1), (0), rs_, H', ⟨Nat.le_refl _⟩, ⟨ra_ HO_3.out⟩, ⟨bk_ BK101.out⟩, ⟨be1_ HB.out GE101.out⟩⟩
     case round =>
      clear H'; (try clear c3); (try clear c9); (try clear c9b0); (try clear hcz10_0); (try clear hcz7_0); (try clear hfz10_0); (try clear hfz7_0); obtain ⟨x3_2, x5_2, rfl, HA, HK2, HO_3, BK101, HB⟩ := hrel
      cases gk with
      | zero => exact absurd HA.out (by simp [spec_Kinds.l1])
      | succ k2 =>
       have H := HA.out; clear HA
       simp only [spec_Kinds.l1] at H
       by_cases c11 : 0 ≤ x4_1
       ·rw [if_pos c11] at H; have c11b0 := decide_eq_true c11; clear c11
        by_cases c12 : x4_1 < (l0_0.length : Int)
        ·rw [if_pos c12] at H; have c12b0 := decide_eq_true c12; clear c12
         by_cases c13 : x5_2 < (((rd_T108 l0_0 x4_1).f1).length : Int)
         ·rw [if_pos c13] at H; have c13b0 := decide_eq_true c13; clear c13
          by_cases c14 : 0 ≤ x5_2
          ·rw [if_pos c14] at H; have c14b0 := decide_eq_true c14; clear c14; obtain ⟨t109, A15, H⟩ := ob_ H
           by_cases c16 : t109 < 0
           ·rw [if_pos c16] at H; have c16b0 := decide_eq_true c16; clear c16
            by_cases c17 : x3_2.length < 8796093022208
            ·rw [if_pos c17] at H; have LMc17 := Aside0.mk c17; clear c17
             obtain ⟨y110, hy110⟩ : ∃ y_ : List ByteArray, y_ = (x3_2 ++ [(rd_T113 ((rd_T108 l0_0 x4_1).f1) x5_2).f0]) := ⟨_, rfl⟩
             replace H : (spec_Kinds.l1 k2 y110 x4_1 (wrap64 (x5_2 + 1)) l0_0) = some r := by first | (rw [hy110]; with_reducible exact H) | (have H2_ := (Option.bind_some _ _).symm.trans H; rw [hy110]; with_reducible exact H2_) | (have H2_ := (Option.bind_some _ _).symm.trans H; with_reducible exact H2_) | with_reducible exact H | (rw [hy110]; exact H) | exact H
             have Ny110 := Aside0.mk hy110; clear hy110
             have H' := Aside0.mk H
             clear H; obtain ⟨hcz18_0, hfz18_0⟩ := d1_ BK101
             have p106 : 0 ≤ (x4_1 : Int) := of_decide_eq_true as_
             have q106 : x4_1 < (l0_0.length : Int) := of_decide_eq_true as_
             obtain ⟨ad106, A106_1, c106_1, e106, hx106_0, hx106_1, hl106_1, hi106_1⟩ := at_T108 HR0_0.out x4_1 p106 q106
             cases e106
             replace hx106_0 := mv_ HB.out hx106_0; replace hx106_1 := mv_ HB.out hx106_1; have HR106_1 := Aside0.mk hi106_1; have HC106_1 := Aside0.mk hl106_1; clear hi106_1 hl106_1; replace p106 := eq_true p106; replace q106 := eq_true q106
             have p108 : 0 ≤ (x5_2 : Int) := of_decide_eq_true as_
             have q108 : x5_2 < (((rd_T108 l0_0 x4_1).f1).length : Int) := of_decide_eq_true as_
             obtain ⟨ad108, A108_1, c108_1, e108, hx108_0, hx108_1, hx108_2, hx108_3, hx108_4, hl108_1, hi108_1⟩ := at_T113 HR106_1.out x5_2 p108 q108
             cases e108
             replace hx108_0 := mv_ HB.out hx108_0; replace hx108_1 := mv_ HB.out hx108_1; replace hx108_2 := mv_ HB.out hx108_2; replace hx108_3 := mv_ HB.out hx108_3; replace hx108_4 := mv_ HB.out hx108_4; have HR108_1 := Aside0.mk hi108_1; have HC108_1 := Aside0.mk hl108_1; clear hi108_1 hl108_1; replace p108 := eq_true p108; replace q108 := eq_true q108; obtain ⟨Ao19, co19, eo19⟩ := Kd.R_slice HO_3.out; subst eo19
             go_wp2_with (first | ((with_reducible refine gate_callee (f := 97) rfl ?_); refine gl_ (some 42) rfl rfl Try.func97 #[.slice Ao19 x3_2.length co19, .string ((rd_T113 ((rd_T108 l0_0 x4_1).f1) x5_2).f0)] ?_; (with_reducible refine (spec_l20At.calls k2 _ _ x3_2 ((rd_T113 ((rd_T108 l0_0 x4_1).f1) x5_2).f0) t109 _ ?side1 ?side2 A15.out).mono ?_); (case side1 => repeat (first | exact (Kd.R_reads' HO_3.out).2.2 | (with_reducible refine Kd.C_alloc ?_ _) | (with_reducible refine Kd.C_drewN ?_ _) | (with_reducible refine Kd.C_drew ?_))); (case side2 => exact (Kd.R_reads' HO_3.out).2.1); rintro e w' ⟨rfl, ⟨nd, rfl⟩⟩; refine ⟨_, rfl, ?_⟩) | ((with_reducible refine gate_builtin (b := .append) (xs := #[.tmp 44, .tmp 46]) rfl ?_); at_builtin; refine Kd.R_append Kd.string (w0 := w) w.heap.size rfl (.tmp 44) (.tmp 46) 69 9 (.string ⟨#[]⟩) 16 rfl Try.underlying69 info9 rfl (by decide) (by omega) (.slice Ao19 x3_2.length co19) x3_2 ((rd_T113 ((rd_T108 l0_0 x4_1).f1) x5_2).f0) [.string ((rd_T113 ((rd_T108 l0_0 x4_1).f1) x5_2).f0)] (fun _ => True) (fun _ => False) rfl rfl ?aP (fun _ hk => hk.elim) ?aF ?aO ?aB ?aS ?aL ?_; (case aP => exact rfl); (case aB => exact (be1_ HB.out GE101.out)); (case aF => exact (fun _ _ => trivial)); (case aO => exact (ra_ HO_3.out)); (case aS => exact (below_size (be1_ HB.out GE101.out))); (case aL => have := LMc17.out; omega); intro v111 w20 ho hb hg hat; rw [← Ny110.out] at ho; have HO112 := Aside0.mk (ho); replace BK101 := Aside0.mk (blk_grown (g := gb101) (o := .cells #[.slice (some ad106) l0_0.length c0_0] 46 (0, 0)) (bk_ BK101.out) hg (Kd.R_ne HO_3.out BK101.out (by decide))); replace HB := Aside0.mk (hb); clear HO_3; clear ho hb hg hat))
             go_roundg k2
             case measure => have := HK1.out; have := HK2.out; omega
             case rel => exact ⟨(y110), (wrap64 (x5_2 + 1)), rs_, H', ⟨by have := HK1.out; have := HK2.out; omega⟩, ⟨ra_ HO112.out⟩, ⟨bk_ BK101.out⟩, ⟨be1_ HB.out GE101.out⟩⟩
            ·rw [if_neg c17] at H
             exact absurd H (by simp)
           ·rw [if_neg c16] at H; have c16b0 := decide_eq_false c16; clear c16
            have H' := Aside0.mk H
            clear H; obtain ⟨hcz21_0, hfz21_0⟩ := d1_ BK101
            have p106 : 0 ≤ (x4_1 : Int) := of_decide_eq_true as_
            have q106 : x4_1 < (l0_0.length : Int) := of_decide_eq_true as_
            obtain ⟨ad106, A106_1, c106_1, e106, hx106_0, hx106_1, hl106_1, hi106_1⟩ := at_T108 HR0_0.out x4_1 p106 q106
            cases e106
            replace hx106_0 := mv_ HB.out hx106_0; replace hx106_1 := mv_ HB.out hx106_1; have HR106_1 := Aside0.mk hi106_1; have HC106_1 := Aside0.mk hl106_1; clear hi106_1 hl106_1; replace p106 := eq_true p106; replace q106 := eq_true q106
            have p108 : 0 ≤ (x5_2 : Int) := of_decide_eq_true as_
            have q108 : x5_2 < (((rd_T108 l0_0 x4_1).f1).length : Int) := of_decide_eq_true as_
            obtain ⟨ad108, A108_1, c108_1, e108, hx108_0, hx108_1, hx108_2, hx108_3, hx108_4, hl108_1, hi108_1⟩ := at_T113 HR106_1.out x5_2 p108 q108
            cases e108
            replace hx108_0 := mv_ HB.out hx108_0; replace hx108_1 := mv_ HB.out hx108_1; replace hx108_2 := mv_ HB.out hx108_2; replace hx108_3 := mv_ HB.out hx108_3; replace hx108_4 := mv_ HB.out hx108_4; have HR108_1 := Aside0.mk hi108_1; have HC108_1 := Aside0.mk hl108_1; clear hi108_1 hl108_1; replace p108 := eq_true p108; replace q108 := eq_true q108; obtain ⟨Ao22, co22, eo22⟩ := Kd.R_slice HO_3.out; subst eo22
            go_wp2_with (first | ((with_reducible refine gate_callee (f := 97) rfl ?_); refine gl_ (some 42) rfl rfl Try.func97 #[.slice Ao22 x3_2.length co22, .string ((rd_T113 ((rd_T108 l0_0 x4_1).f1) x5_2).f0)] ?_; (with_reducible refine (spec_l20At.calls k2 _ _ x3_2 ((rd_T113 ((rd_T108 l0_0 x4_1).f1) x5_2).f0) t109 _ ?side1 ?side2 A15.out).mono ?_); (case side1 => repeat (first | exact (Kd.R_reads' HO_3.out).2.2 | (with_reducible refine Kd.C_alloc ?_ _) | (with_reducible refine Kd.C_drewN ?_ _) | (with_reducible refine Kd.C_drew ?_))); (case side2 => exact (Kd.R_reads' HO_3.out).2.1); rintro e w' ⟨rfl, ⟨nd, rfl⟩⟩; refine ⟨_, rfl, ?_⟩))
            go_roundg k2
            case measure => have := HK1.out; have := HK2.out; omega
            case rel => exact ⟨(x3_2), (wrap64 (x5_2 + 1)), rs_, H', ⟨by have := HK1.out; have := HK2.out; omega⟩, ⟨ra_ HO_3.out⟩, ⟨bk_ BK101.out⟩, ⟨be1_ HB.out GE101.out⟩⟩
          ·rw [if_neg c14] at H
           exact absurd H (by simp)
         ·rw [if_neg c13] at H; have c13b0 := decide_eq_false c13; clear c13
          have H' := Aside0.mk H
          clear H; obtain ⟨hcz23_0, hfz23_0⟩ := d1_ BK101
          have p106 : 0 ≤ (x4_1 : Int) := of_decide_eq_true as_
          have q106 : x4_1 < (l0_0.length : Int) := of_decide_eq_true as_
          obtain ⟨ad106, A106_1, c106_1, e106, hx106_0, hx106_1, hl106_1, hi106_1⟩ := at_T108 HR0_0.out x4_1 p106 q106
          cases e106
          replace hx106_0 := mv_ HB.out hx106_0; replace hx106_1 := mv_ HB.out hx106_1; have HR106_1 := Aside0.mk hi106_1; have HC106_1 := Aside0.mk hl106_1; clear hi106_1 hl106_1; replace p106 := eq_true p106; replace q106 := eq_true q106
          go_wp2
          go_roundg k2
          case measure => have := HK1.out; have := HK2.out; omega
          case rel => exact ⟨(x3_2), (wrap64 (x4_1 + 1)), rs_, H', ⟨by have := HK1.out; have := HK2.out; omega⟩, ⟨ra_ HO_3.out⟩, ⟨bk_ BK101.out⟩, ⟨be1_ HB.out GE101.out⟩⟩
        ·rw [if_neg c12] at H
         exact absurd H (by simp)
       ·rw [if_neg c11] at H
        exact absurd H (by simp)
    ·rw [if_neg c9] at H; have c9b0 := decide_eq_false c9; clear c9; obtain rfl := Option.some.inj H; obtain ⟨hcz24_0, hfz24_0⟩ := d1_ BK101
     go_wp2
     go_ret
     exact ⟨_, rt_, ra_ HO_3.out, be1_ HB.out GE101.out⟩
 ·replace c3 := Bool.eq_false_iff.mpr c3; subst c3; rw [if_neg nft_] at H; obtain rfl := Option.some.inj H
  go_enter Try.func44, Try.ntmps44
  go_wp2_with (first | ((with_reducible refine gate_dst (N := 1) rfl ?_); refine bx_ 1 #[.slice A0_0 l0_0.length c0_0] 46 ?_; intro gb101 hg w25 hbox hb; have BK101 := Aside0.mk (hbox); have GW101 := ge_ hg HB; have GE101 := GW101; replace HB := sb_ HB hb; clear hb hbox hg) | ((with_reducible refine gate_dst (N := 7) rfl ?_); refine Kd.R_lit Kd.string _ 9 ?hg (N := 7) ?hd (xs := ([] : List ByteArray)) (inner := []) (ok := fun _ => True) (okp := fun _ => True) ?hr ?hp (fun _ hk => hk) trivial (Below.refl _ _) (Nat.le_refl _) (by simp) ?_; (case hd => rfl); (case hg => rfl); (case hr => first | (go_simp; done) | (go_simp; rfl)); (case hp => exact (Reps.none _ _)); intro v103 w26 ho27 hb hg_ hnew_; clear hg_ hnew_; (first | rw [← Ny102.out] at ho27 | (simp only [Int.reduceToNat] at ho27; rw [← Ny102.out] at ho27)); have HO104 := Aside0.mk (Kd.R_lower ho27 (below_size (be1_ HB.out GE101.out))); replace BK101 := lb_ BK101 hb; replace HB := sb1_ HB GE101 hb; clear hb ho27; obtain ⟨hcz28_0, hfz28_0⟩ := d1_ BK101) | ((with_reducible refine gate_callee (f := 26) rfl ?_); refine gl_ (some 9) rfl rfl Try.func26 #[.agg #[.slice A0_0 l0_0.length c0_0]] ?_; (with_reducible refine (spec_GrammarOk.calls k _ _ l0_0 false _ ?side1 ?side2 A2.out).mono ?_); (case side1 => exact Kd.C_below HR0_0.out (be_ HB.out)); (case side2 => exact HC0_0.out); rintro e w29 ⟨rfl, hb⟩; refine ⟨_, rfl, ?_⟩; replace HO104 := Aside0.mk (Kd.R_below (ra_ HO104.out) hb); replace BK101 := lb_ BK101 hb; replace HB := sb1_ HB GE101 hb; (try clear hb)))
  go_ret
  exact ⟨_, rt_, ra_ HO104.out, be1_ HB.out GE101.out⟩
/-! ### slices_Index_string_string: function 136 -/
def slices_Index_string_string.l0 : Nat → List ByteArray → ByteArray → Int → Int → Option (Int)
 | 0, _, _, _, _ => none
 | k + 1, x0, x1, x7, x8 => if x8 < x7 then (if 0 ≤ x8 then (if x8 < (x0.length : Int) then (if x1.toList = (rdOf ByteArray.empty x0 x8).toList then (some x8) else (slices_Index_string_string.l0 k x0 x1 x7 (wrap64 (x8 + 1)))) else (none)) else (none)) else (some (-1))
def slices_Index_string_string.f (k : Nat) (l0 : List ByteArray) (a1 : ByteArray) : Option (Int) := slices_Index_string_string.l0 k l0 a1 (l0.length : Int) 0
set_option maxHeartbeats 8000000 in
set_option maxRecDepth 100000 in
theorem slices_Index_string_string.calls (k : Nat) (A0 : Option Addr) (c0 : Nat) (l0 : List ByteArray) (a1 : ByteArray) (r : Int) (w : World) (hr0 : Kd.C Kd.string w A0 l0.length l0) (hc0 : l0.length ≤ c0) (h : slices_Index_string_string.f k l0 a1 = some r) :
  Calls Try.prog 136 #[.slice A0 l0.length c0, .string a1] w fun e w' => e = .returned (.int .i64 r) ∧ Drawn0 w w' := by
 have HR0 := Aside0.mk hr0; have HC0 := Aside0.mk hc0; clear hr0 hc0
 have H : (slices_Index_string_string.l0 k l0 a1 (l0.length : Int) 0) = some r := h
 clear h
 have H' := Aside0.mk H
 clear H
 go_enter Try.func136, Try.ntmps136
 go_wp2
 go_loopg [8] k (fun kq v8 w' => ∃ (x8_1 : Int), v8 = .int .i64 x8_1 ∧ Aside0 (slices_Index_string_string.l0 kq l0 a1 (l0.length : Int) x8_1 = some r) ∧ Aside0 (kq ≤ k) ∧ Drawn0 w w')
 case atStart => exact ⟨(0), rs_, H', ⟨Nat.le_refl _⟩, by repeat (first | exact Drawn0.refl _ | apply Drawn0.step)⟩
 case round =>
  clear H'
  obtain ⟨x8_1, rfl, HA, HK1, ⟨m1, rfl⟩⟩ := hrel
  cases gk with
  | zero => exact absurd HA.out (by simp [slices_Index_string_string.l0])
  | succ k1 =>
   have H := HA.out; clear HA
   simp only [slices_Index_string_string.l0] at H
   by_cases c3 : x8_1 < (l0.length : Int)
   ·rw [if_pos c3] at H; have c3b0 := decide_eq_true c3; clear c3
    by_cases c4 : 0 ≤ x8_1
    ·rw [if_pos c4] at H; have c4b0 := decide_eq_true c4; clear c4
     by_cases c5 : x8_1 < (l0.length : Int)
     ·rw [if_pos c5] at H; have c5b0 := decide_eq_true c5; clear c5
      by_cases c6 : a1.toList = (rdOf ByteArray.empty l0 x8_1).toList
      ·rw [if_pos c6] at H
       have c6b0 : (a1.toList == (rdOf ByteArray.empty l0 x8_1).toList) = true := beq_iff_eq.mpr c6
       have c6b1 : (a1.toList != (rdOf ByteArray.empty l0 x8_1).toList) = false := bne_eq_false_iff_eq.mpr c6
       clear c6; obtain rfl := Option.some.inj H
       have p101 : 0 ≤ (x8_1 : Int) := of_decide_eq_true as_
       have q101 : x8_1 < (l0.length : Int) := of_decide_eq_true as_
       obtain ⟨ad101, e101, hx101_0⟩ := Kd.at_string HR0.out x8_1 p101 q101
       cases e101
       replace p101 := eq_true p101; replace q101 := eq_true q101
       go_wp2
       go_ret
       exact ⟨by first | rfl | (simp; done) | (simp [*]; done), by repeat (first | exact Drawn0.refl _ | apply Drawn0.step)⟩
      ·rw [if_neg c6] at H
       have c6b0 : (a1.toList == (rdOf ByteArray.empty l0 x8_1).toList) = false := beq_eq_false_iff_ne.mpr c6
       have c6b1 : (a1.toList != (rdOf ByteArray.empty l0 x8_1).toList) = true := bne_iff_ne.mpr c6
       have H' := Aside0.mk H
       clear H
       have p101 : 0 ≤ (x8_1 : Int) := of_decide_eq_true as_
       have q101 : x8_1 < (l0.length : Int) := of_decide_eq_true as_
       obtain ⟨ad101, e101, hx101_0⟩ := Kd.at_string HR0.out x8_1 p101 q101
       cases e101
       replace p101 := eq_true p101; replace q101 := eq_true q101
       go_wp2
       go_roundg k1
       case measure => have := HK1.out; omega
       case rel => exact ⟨(wrap64 (x8_1 + 1)), rs_, H', ⟨by have := HK1.out; omega⟩, by repeat (first | exact Drawn0.refl _ | apply Drawn0.step)⟩
     ·rw [if_neg c5] at H
      exact absurd H (by simp)
    ·rw [if_neg c4] at H
     exact absurd H (by simp)
   ·rw [if_neg c3] at H; have c3b0 := decide_eq_false c3; clear c3; obtain rfl := Option.some.inj H
    go_wp2
    go_ret
    exact ⟨by first | rfl | (simp; done) | (simp [*]; done), by repeat (first | exact Drawn0.refl _ | apply Drawn0.step)⟩
/-! ### slices_Contains_string_string: function 98 -/
def slices_Contains_string_string.f (k : Nat) (l0 : List ByteArray) (a1 : ByteArray) : Option (Bool) := (slices_Index_string_string.f k l0 a1).bind fun t101 => (some (decide (t101 ≥ 0)))
set_option maxHeartbeats 8000000 in
set_option maxRecDepth 100000 in
theorem slices_Contains_string_string.calls (k : Nat) (A0 : Option Addr) (c0 : Nat) (l0 : List ByteArray) (a1 : ByteArray) (r : Bool) (w : World) (hr0 : Kd.C Kd.string w A0 l0.length l0) (hc0 : l0.length ≤ c0) (h : slices_Contains_string_string.f k l0 a1 = some r) :
  Calls Try.prog 98 #[.slice A0 l0.length c0, .string a1] w fun e w' => e = .returned (.bool r) ∧ Drawn0 w w' := by
 have HR0 := Aside0.mk hr0; have HC0 := Aside0.mk hc0; clear hr0 hc0
 have H : ((slices_Index_string_string.f k l0 a1).bind fun t101 => (some (decide (t101 ≥ 0)))) = some r := h
 clear h; obtain ⟨t101, A3, H⟩ := ob_ H; obtain rfl := Option.some.inj H
 go_enter Try.func98, Try.ntmps98
 go_wp2_with (first | ((with_reducible refine gate_callee (f := 136) rfl ?_); refine gl_ (some 7) rfl rfl Try.func136 #[.slice A0 l0.length c0, .string a1] ?_; (with_reducible refine (slices_Index_string_string.calls k _ _ l0 a1 t101 _ ?side1 ?side2 A3.out).mono ?_); (case side1 => repeat (first | exact HR0.out | (with_reducible refine Kd.C_alloc ?_ _) | (with_reducible refine Kd.C_drewN ?_ _) | (with_reducible refine Kd.C_drew ?_))); (case side2 => exact HC0.out); rintro e w' ⟨rfl, ⟨nd, rfl⟩⟩; refine ⟨_, rfl, ?_⟩))
 go_ret
 exact ⟨by first | rfl | (simp; done) | (simp [*]; done), by repeat (first | exact Drawn0.refl _ | apply Drawn0.step)⟩
/-! ### impl_Kinds: function 45 -/
mutual
def impl_Kinds.l0 : Nat → List ByteArray → List (S108) → Int → Int → Option (List ByteArray)
 | 0, _, _, _, _ => none
 | k + 1, x3, x13, x14, x15 => if x15 < x14 then (if 0 ≤ x15 then (if x15 < (x13.length : Int) then (impl_Kinds.l1 k x3 x13 x14 x15 ((rd_T108 x13 x15).f1) (((rd_T108 x13 x15).f1).length : Int) 0) else (none)) else (none)) else (some x3)
def impl_Kinds.l1 : Nat → List ByteArray → List (S108) → Int → Int → List (S113) → Int → Int → Option (List ByteArray)
 | 0, _, _, _, _, _, _, _ => none
 | k + 1, x3, x13, x14, x15, x20, x21, x22 => if x22 < x21 then (if 0 ≤ x22 then (if x22 < (x20.length : Int) then ((slices_Contains_string_string.f k x3 ((rd_T113 x20 x22).f0)).bind fun t110 => (if t110 = true then (impl_Kinds.l1 k x3 x13 x14 x15 x20 x21 (wrap64 (x22 + 1))) else (if x3.length < 8796093022208 then (impl_Kinds.l1 k (x3 ++ [(rd_T113 x20 x22).f0]) x13 x14 x15 x20 x21 (wrap64 (x22 + 1))) else (none)))) else (none)) else (none)) else (impl_Kinds.l0 k x3 x13 x14 (wrap64 (x15 + 1)))
end
def impl_Kinds.f (k : Nat) (l0_0 : List (S108)) : Option (List ByteArray) := (impl_GrammarOk.f l0_0).bind fun t102 => (if t102 = true then (impl_Kinds.l0 k (([] : List ByteArray)) l0_0 (l0_0.length : Int) 0) else (some ([] : List ByteArray)))
set_option maxHeartbeats 8000000 in
set_option maxRecDepth 100000 in
theorem impl_Kinds.calls (k : Nat) (A0_0 : Option Addr) (c0_0 : Nat) (l0_0 : List (S108)) (r : List ByteArray) (w : World) (hr0_0 : Kd.C k108 w A0_0 l0_0.length l0_0) (hc0_0 : l0_0.length ≤ c0_0) (h : impl_Kinds.f k l0_0 = some r) :
  Calls Try.prog 45 #[.agg #[.slice A0_0 l0_0.length c0_0]] w fun e w' => ∃ v0_ : Value, e = .returned (v0_) ∧ Kd.R Kd.string 9 w' w.heap.size (fun _ => True) v0_ r ∧ Below w.heap.size w w' := by
 have hu46 := Try.underlying46; have hu108 := Try.underlying108; have hu113 := Try.underlying113; have HR0_0 := Aside0.mk hr0_0; have HC0_0 := Aside0.mk hc0_0; clear hr0_0 hc0_0; have HB := Aside0.mk (Below.refl w.heap.size w)
 have H : ((impl_GrammarOk.f l0_0).bind fun t102 => (if t102 = true then (impl_Kinds.l0 k (([] : List ByteArray)) l0_0 (l0_0.length : Int) 0) else (some ([] : List ByteArray)))) = some r := h
 clear h; obtain ⟨t102, A2, H⟩ := ob_ H
 by_cases c3 : t102 = true
 ·subst c3; rw [if_pos rfl] at H
  obtain ⟨y103, hy103⟩ : ∃ y_ : List ByteArray, y_ = (([] : List ByteArray)) := ⟨_, rfl⟩
  replace H : (impl_Kinds.l0 k y103 l0_0 (l0_0.length : Int) 0) = some r := by first | (rw [hy103]; with_reducible exact H) | (have H2_ := (Option.bind_some _ _).symm.trans H; rw [hy103]; with_reducible exact H2_) | (have H2_ := (Option.bind_some _ _).symm.trans H; with_reducible exact H2_) | with_reducible exact H | (rw [hy103]; exact H) | exact H
  have Ny103 := Aside0.mk hy103; clear hy103
  have H' := Aside0.mk H
  clear H
  go_enter Try.func45, Try.ntmps45
  go_wp2_with (first | ((with_reducible refine gate_dst (N := 1) rfl ?_); refine bx_ 1 #[.slice A0_0 l0_0.length c0_0] 46 ?_; intro gb101 hg w4 hbox hb; have BK101 := Aside0.mk (hbox); have GW101 := ge_ hg HB; have GE101 := GW101; replace HB := sb_ HB hb; clear hb hbox hg; obtain ⟨hcz5_0, hfz5_0⟩ := d1_ BK101) | ((with_reducible refine gate_callee (f := 28) rfl ?_); refine gl_ (some 9) rfl rfl Try.func28 #[.agg #[.slice A0_0 l0_0.length c0_0]] ?_; (with_reducible refine (impl_GrammarOk.calls _ _ l0_0 true _ ?side1 ?side2 A2.out).mono ?_); (case side1 => exact Kd.C_below HR0_0.out (be_ HB.out)); (case side2 => exact HC0_0.out); rintro e w6 ⟨rfl, hb⟩; refine ⟨_, rfl, ?_⟩; replace BK101 := lb_ BK101 hb; replace HB := sb1_ HB GE101 hb; (try clear hb)) | ((with_reducible refine gate_dst (N := 11) rfl ?_); refine Kd.R_lit Kd.string _ 9 ?hg (N := 11) ?hd (xs := ([] : List ByteArray)) (inner := []) (ok := fun _ => True) (okp := fun _ => True) ?hr ?hp (fun _ hk => hk) trivial (Below.refl _ _) (Nat.le_refl _) (by simp) ?_; (case hd => rfl); (case hg => rfl); (case hr => first | (go_simp; done) | (go_simp; rfl)); (case hp => exact (Reps.none _ _)); intro v104 w7 ho8 hb hg_ hnew_; clear hg_ hnew_; (first | rw [← Ny103.out] at ho8 | (simp only [Int.reduceToNat] at ho8; rw [← Ny103.out] at ho8)); have HO105 := Aside0.mk (Kd.R_lower ho8 (below_size (be1_ HB.out GE101.out))); replace BK101 := lb_ BK101 hb; replace HB := sb1_ HB GE101 hb; clear hb ho8; obtain ⟨hcz9_0, hfz9_0⟩ := d1_ BK101))
  go_loopg [3, 15] k (fun kq v3 v15 w' => ∃ (x3_1 : List ByteArray) (x15_1 : Int), v15 = .int .i64 x15_1 ∧ Aside0 (impl_Kinds.l0 kq x3_1 l0_0 (l0_0.length : Int) x15_1 = some r) ∧ Aside0 (kq ≤ k) ∧ Aside0 (Kd.R Kd.string 9 w' w.heap.size (fun _ => True) v3 x3_1) ∧ Aside0 (w'.heap[gb101]? = some (.cells #[(.slice A0_0 l0_0.length c0_0)] 46 (0, 0))) ∧ Aside0 (Below w.heap.size w w'))
  case atStart => exact ⟨(y103), (0), rs_, H', ⟨Nat.le_refl _⟩, ⟨ra_ HO105.out⟩, ⟨bk_ BK101.out⟩, ⟨be1_ HB.out GE101.out⟩⟩
  case round =>
   clear H'; (try clear c3); (try clear hcz5_0); (try clear hcz9_0); (try clear hfz5_0); (try clear hfz9_0); obtain ⟨x3_1, x15_1, rfl, HA, HK1, HO_3, BK101, HB⟩ := hrel
   cases gk with
   | zero => exact absurd HA.out (by simp [impl_Kinds.l0])
   | succ k1 =>
    have H := HA.out; clear HA
    simp only [impl_Kinds.l0] at H
    by_cases c10 : x15_1 < (l0_0.length : Int)
    ·rw [if_pos c10] at H; have c10b0 := decide_eq_true c10; clear c10
     by_cases c11 : 0 ≤ x15_1
     ·rw [if_pos c11] at H; have c11b0 := decide_eq_true c11; clear c11
      by_cases c12 : x15_1 < (l0_0.length : Int)
      ·rw [if_pos c12] at H; have c12b0 := decide_eq_true c12; clear c12
       have H' := Aside0.mk H
       clear H
       have p106 : 0 ≤ (x15_1 : Int) := of_decide_eq_true as_
       have q106 : x15_1 < (l0_0.length : Int) := of_decide_eq_true as_
       obtain ⟨ad106, A106_1, c106_1, e106, hx106_0, hx106_1, hl106_1, hi106_1⟩ := at_T108 HR0_0.out x15_1 p106 q106
       cases e106
       replace hx106_0 := mv_ HB.out hx106_0; replace hx106_1 := mv_ HB.out hx106_1; have HR106_1 := Aside0.mk hi106_1; have HC106_1 := Aside0.mk hl106_1; clear hi106_1 hl106_1; replace p106 := eq_true p106; replace q106 := eq_true q106
       go_wp2_with (first | ((with_reducible refine gate_dst (N := 5) rfl ?_); refine bx_ 5 #[.string (⟨#[]⟩ : ByteArray), .slice none 0 0] 108 ?_; intro gb107 hg w13 hbox hb; have BK107 := Aside0.mk (hbox); have GW107 := ge1_ hg HB GE101; have GE107 := GW107; have NB101_107 := nl_ hg BK101; have NB107_101 := ng_ hg BK101; replace HO_3 := Aside0.mk (Kd.R_below (ra_ HO_3.out) hb); replace BK101 := lb_ BK101 hb; replace HB := sb1_ HB GE101 hb; clear hb hbox hg; have hnb14 := NB107_101.out; have hnc14 := NB101_107.out; obtain ⟨hcz15_0, hcz15_1, hfz15_0, hfz15_1⟩ := d2_ BK107))
       go_loopg [3, 22] k1 (fun kq v3 v22 w' => ∃ (x3_2 : List ByteArray) (x22_2 : Int), v22 = .int .i64 x22_2 ∧ Aside0 (impl_Kinds.l1 kq x3_2 l0_0 (l0_0.length : Int) x15_1 ((rd_T108 l0_0 x15_1).f1) (((rd_T108 l0_0 x15_1).f1).length : Int) x22_2 = some r) ∧ Aside0 (kq ≤ k1) ∧ Aside0 (Kd.R Kd.string 9 w' w.heap.size (fun _ => True) v3 x3_2) ∧ Aside0 (w'.heap[gb101]? = some (.cells #[(.slice (some ad106) l0_0.length c0_0)] 46 (0, 0))) ∧ Aside0 (w'.heap[gb107]? = some (.cells #[.string ((rd_T108 l0_0 x15_1).f0), (.slice A106_1 ((rd_T108 l0_0 x15_1).f1).length c106_1)] 108 (0, 0))) ∧ Aside0 (Below w.heap.size w w'))
       case atStart => exact ⟨(x3_1), (0), rs_, H', ⟨Nat.le_refl _⟩, ⟨by (with_reducible repeat (first | apply Kd.R_alloc | apply Kd.R_drewN | apply Kd.R_drew)); exact Kd.R_mono (Kd.R_far (p := ⟨gb107, 1, none⟩) (Kd.R_far (p := ⟨gb107, 0, none⟩) (Kd.R_types HO_3.out BK107.out (by decide)) (fun _ hk => hk.2) (.string ((rd_T108 l0_0 x15_1).f0))) (fun _ hk => hk.2) (.slice A106_1 ((rd_T108 l0_0 x15_1).f1).length c106_1)) (fun _ hk => trivial)⟩, ⟨by (with_reducible repeat (first | refine blk_drewN ?_ _ | refine blk_drew ?_ | refine blk_alloc ?_ _)); refine blk_far ?_ NB101_107.out _; (with_reducible repeat (first | refine blk_drewN ?_ _ | refine blk_drew ?_ | refine blk_alloc ?_ _)); refine blk_far ?_ NB101_107.out _; (with_reducible repeat (first | refine blk_drewN ?_ _ | refine blk_drew ?_ | refine blk_alloc ?_ _)); exact BK101.out⟩, ⟨by (with_reducible repeat (first | refine blk_drewN ?_ _ | refine blk_drew ?_ | refine blk_alloc ?_ _)); refine blk_put (cs := #[.string ((rd_T108 l0_0 x15_1).f0), .slice none 0 0]) ?_ 1 _ rfl; (with_reducible repeat (first | refine blk_drewN ?_ _ | refine blk_drew ?_ | refine blk_alloc ?_ _)); refine blk_put (cs := #[.string (⟨#[]⟩ : ByteArray), .slice none 0 0]) ?_ 0 _ rfl; (with_reducible repeat (first | refine blk_drewN ?_ _ | refine blk_drew ?_ | refine blk_alloc ?_ _)); exact BK107.out⟩, ⟨be2_ HB.out GE101.out GE107.out⟩⟩
       case round =>
        clear H'; (try clear c3); (try clear c10); (try clear c10b0); (try clear c11); (try clear c11b0); (try clear c12); (try clear c12b0); (try clear hcz15_0); (try clear hcz15_1); (try clear hcz5_0); (try clear hcz9_0); (try clear hfz15_0); (try clear hfz15_1); (try clear hfz5_0); (try clear hfz9_0); (try clear hx106_0); (try clear hx106_1); (try clear p106); (try clear q106); obtain ⟨x3_2, x22_2, rfl, HA, HK2, HO_3, BK101, BK107, HB⟩ := hrel
        cases gk with
        | zero => exact absurd HA.out (by simp [impl_Kinds.l1])
        | succ k2 =>
         have H := HA.out; clear HA
         simp only [impl_Kinds.l1] at H
         by_cases c16 : x22_2 < (((rd_T108 l0_0 x15_1).f1).length : Int)
         ·rw [if_pos c16] at H; have c16b0 := decide_eq_true c16; clear c16
          by_cases c17 : 0 ≤ x22_2
          ·rw [if_pos c17] at H; have c17b0 := decide_eq_true c17; clear c17
           by_cases c18 : x22_2 < (((rd_T108 l0_0 x15_1).f1).length : Int)
           ·rw [if_pos c18] at H; have c18b0 := decide_eq_true c18; clear c18; obtain ⟨t110, A19, H⟩ := ob_ H
            by_cases c20 : t110 = true
            ·subst c20; rw [if_pos rfl] at H
             have H' := Aside0.mk H
             clear H
             have p108 : 0 ≤ (x22_2 : Int) := of_decide_eq_true as_
             have q108 : x22_2 < (((rd_T108 l0_0 x15_1).f1).length : Int) := of_decide_eq_true as_
             obtain ⟨ad108, A108_1, c108_1, e108, hx108_0, hx108_1, hx108_2, hx108_3, hx108_4, hl108_1, hi108_1⟩ := at_T113 HR106_1.out x22_2 p108 q108
             cases e108
             replace hx108_0 := mv_ HB.out hx108_0; replace hx108_1 := mv_ HB.out hx108_1; replace hx108_2 := mv_ HB.out hx108_2; replace hx108_3 := mv_ HB.out hx108_3; replace hx108_4 := mv_ HB.out hx108_4; have HR108_1 := Aside0.mk hi108_1; have HC108_1 := Aside0.mk hl108_1; clear hi108_1 hl108_1; replace p108 := eq_true p108; replace q108 := eq_true q108
             go_wp2_with (first | ((with_reducible refine gate_dst (N := 7) rfl ?_); refine bx_ 7 #[.string (⟨#[]⟩ : ByteArray), .slice none 0 0, .bool false, .int .i64 0, .string (⟨#[]⟩ : ByteArray)] 113 ?_; intro gb109 hg w21 hbox hb; have BK109 := Aside0.mk (hbox); have GW109 := ge2_ hg HB GE101 GE107; have GE109 := GW109; have NB101_109 := nl_ hg BK101; have NB109_101 := ng_ hg BK101; have NB107_109 := nl_ hg BK107; have NB109_107 := ng_ hg BK107; replace HO_3 := Aside0.mk (Kd.R_below (ra_ HO_3.out) hb); replace BK101 := lb_ BK101 hb; replace BK107 := lb_ BK107 hb; replace HB := sb2_ HB GE101 GE107 hb; clear hb hbox hg; have hnb22 := NB109_101.out; have hnc22 := NB101_109.out; have hnb23 := NB109_107.out; have hnc23 := NB107_109.out; obtain ⟨hcz24_0, hcz24_1, hcz24_2, hcz24_3, hcz24_4, hfz24_0, hfz24_1, hfz24_2, hfz24_3, hfz24_4⟩ := d5_ BK109; obtain ⟨Ao25, co25, eo25⟩ := Kd.R_slice HO_3.out; subst eo25) | ((with_reducible refine gate_callee (f := 98) rfl ?_); refine gl_ (some 29) rfl rfl Try.func98 #[.slice Ao25 x3_2.length co25, .string ((rd_T113 ((rd_T108 l0_0 x15_1).f1) x22_2).f0)] ?_; (with_reducible refine (slices_Contains_string_string.calls k2 _ _ x3_2 ((rd_T113 ((rd_T108 l0_0 x15_1).f1) x22_2).f0) true _ ?side1 ?side2 A19.out).mono ?_); (case side1 => refine (Kd.R_reads' (e := 9) (base := w.heap.size) (ok := fun k_ => True) (n := x3_2.length) (c := co25) ?_).2.2; exact (by (with_reducible repeat (first | apply Kd.R_alloc | apply Kd.R_drewN | apply Kd.R_drew)); exact (Kd.R_mono (Kd.R_far (p := ⟨gb109, 4, none⟩) (Kd.R_far (p := ⟨gb109, 3, none⟩) (Kd.R_far (p := ⟨gb109, 2, none⟩) (Kd.R_far (p := ⟨gb109, 1, none⟩) (Kd.R_far (p := ⟨gb109, 0, none⟩) (Kd.R_types HO_3.out BK109.out (by decide)) (fun _ hk => hk.2) (.string ((rd_T113 ((rd_T108 l0_0 x15_1).f1) x22_2).f0))) (fun _ hk => hk.2) (.slice A108_1 ((rd_T113 ((rd_T108 l0_0 x15_1).f1) x22_2).f1.f0).length c108_1)) (fun _ hk => hk.2) (.bool ((rd_T113 ((rd_T108 l0_0 x15_1).f1) x22_2).f2))) (fun _ hk => hk.2) (.int .i64 ((rd_T113 ((rd_T108 l0_0 x15_1).f1) x22_2).f3))) (fun _ hk => hk.2) (.string ((rd_T113 ((rd_T108 l0_0 x15_1).f1) x22_2).f4))) (fun _ h_ => h_.1)))); (case side2 => exact (Kd.R_reads' HO_3.out).2.1); rintro e w' ⟨rfl, ⟨nd, rfl⟩⟩; refine ⟨_, rfl, ?_⟩))
             go_roundg k2
             case measure => have := HK1.out; have := HK2.out; omega
             case rel => exact ⟨(x3_2), (wrap64 (x22_2 + 1)), rs_, H', ⟨by have := HK1.out; have := HK2.out; omega⟩, ⟨by (with_reducible repeat (first | apply Kd.R_alloc | apply Kd.R_drewN | apply Kd.R_drew)); exact Kd.R_mono (Kd.R_far (p := ⟨gb109, 4, none⟩) (Kd.R_far (p := ⟨gb109, 3, none⟩) (Kd.R_far (p := ⟨gb109, 2, none⟩) (Kd.R_far (p := ⟨gb109, 1, none⟩) (Kd.R_far (p := ⟨gb109, 0, none⟩) (Kd.R_types HO_3.out BK109.out (by decide)) (fun _ hk => hk.2) (.string ((rd_T113 ((rd_T108 l0_0 x15_1).f1) x22_2).f0))) (fun _ hk => hk.2) (.slice A108_1 ((rd_T113 ((rd_T108 l0_0 x15_1).f1) x22_2).f1.f0).length c108_1)) (fun _ hk => hk.2) (.bool ((rd_T113 ((rd_T108 l0_0 x15_1).f1) x22_2).f2))) (fun _ hk => hk.2) (.int .i64 ((rd_T113 ((rd_T108 l0_0 x15_1).f1) x22_2).f3))) (fun _ hk => hk.2) (.string ((rd_T113 ((rd_T108 l0_0 x15_1).f1) x22_2).f4))) (fun _ hk => trivial)⟩, ⟨by (with_reducible repeat (first | refine blk_drewN ?_ _ | refine blk_drew ?_ | refine blk_alloc ?_ _)); refine blk_far ?_ NB101_109.out _; (with_reducible repeat (first | refine blk_drewN ?_ _ | refine blk_drew ?_ | refine blk_alloc ?_ _)); refine blk_far ?_ NB101_109.out _; (with_reducible repeat (first | refine blk_drewN ?_ _ | refine blk_drew ?_ | refine blk_alloc ?_ _)); refine blk_far ?_ NB101_109.out _; (with_reducible repeat (first | refine blk_drewN ?_ _ | refine blk_drew ?_ | refine blk_alloc ?_ _)); refine blk_far ?_ NB101_109.out _; (with_reducible repeat (first | refine blk_drewN ?_ _ | refine blk_drew ?_ | refine blk_alloc ?_ _)); refine blk_far ?_ NB101_109.out _; (with_reducible repeat (first | refine blk_drewN ?_ _ | refine blk_drew ?_ | refine blk_alloc ?_ _)); exact BK101.out⟩, ⟨by (with_reducible repeat (first | refine blk_drewN ?_ _ | refine blk_drew ?_ | refine blk_alloc ?_ _)); refine blk_far ?_ NB107_109.out _; (with_reducible repeat (first | refine blk_drewN ?_ _ | refine blk_drew ?_ | refine blk_alloc ?_ _)); refine blk_far ?_ NB107_109.out _; (with_reducible repeat (first | refine blk_drewN ?_ _ | refine blk_drew ?_ | refine blk_alloc ?_ _)); refine blk_far ?_ NB107_109.out _; (with_reducible repeat (first | refine blk_drewN ?_ _ | refine blk_drew ?_ | refine blk_alloc ?_ _)); refine blk_far ?_ NB107_109.out _; (with_reducible repeat (first | refine blk_drewN ?_ _ | refine blk_drew ?_ | refine blk_alloc ?_ _)); refine blk_far ?_ NB107_109.out _; (with_reducible repeat (first | refine blk_drewN ?_ _ | refine blk_drew ?_ | refine blk_alloc ?_ _)); exact BK107.out⟩, ⟨be3_ HB.out GE101.out GE107.out GE109.out⟩⟩
            ·replace c20 := Bool.eq_false_iff.mpr c20; subst c20; rw [if_neg nft_] at H
             by_cases c26 : x3_2.length < 8796093022208
             ·rw [if_pos c26] at H; have LMc26 := Aside0.mk c26; clear c26
              obtain ⟨y111, hy111⟩ : ∃ y_ : List ByteArray, y_ = (x3_2 ++ [(rd_T113 ((rd_T108 l0_0 x15_1).f1) x22_2).f0]) := ⟨_, rfl⟩
              replace H : (impl_Kinds.l1 k2 y111 l0_0 (l0_0.length : Int) x15_1 ((rd_T108 l0_0 x15_1).f1) (((rd_T108 l0_0 x15_1).f1).length : Int) (wrap64 (x22_2 + 1))) = some r := by first | (rw [hy111]; with_reducible exact H) | (have H2_ := (Option.bind_some _ _).symm.trans H; rw [hy111]; with_reducible exact H2_) | (have H2_ := (Option.bind_some _ _).symm.trans H; with_reducible exact H2_) | with_reducible exact H | (rw [hy111]; exact H) | exact H
              have Ny111 := Aside0.mk hy111; clear hy111
              have H' := Aside0.mk H
              clear H
              have p108 : 0 ≤ (x22_2 : Int) := of_decide_eq_true as_
              have q108 : x22_2 < (((rd_T108 l0_0 x15_1).f1).length : Int) := of_decide_eq_true as_
              obtain ⟨ad108, A108_1, c108_1, e108, hx108_0, hx108_1, hx108_2, hx108_3, hx108_4, hl108_1, hi108_1⟩ := at_T113 HR106_1.out x22_2 p108 q108
              cases e108
              replace hx108_0 := mv_ HB.out hx108_0; replace hx108_1 := mv_ HB.out hx108_1; replace hx108_2 := mv_ HB.out hx108_2; replace hx108_3 := mv_ HB.out hx108_3; replace hx108_4 := mv_ HB.out hx108_4; have HR108_1 := Aside0.mk hi108_1; have HC108_1 := Aside0.mk hl108_1; clear hi108_1 hl108_1; replace p108 := eq_true p108; replace q108 := eq_true q108
              go_wp2_with (first | ((with_reducible refine gate_dst (N := 7) rfl ?_); refine bx_ 7 #[.string (⟨#[]⟩ : ByteArray), .slice none 0 0, .bool false, .int .i64 0, .string (⟨#[]⟩ : ByteArray)] 113 ?_; intro gb109 hg w27 hbox hb; have BK109 := Aside0.mk (hbox); have GW109 := ge2_ hg HB GE101 GE107; have GE109 := GW109; have NB101_109 := nl_ hg BK101; have NB109_101 := ng_ hg BK101; have NB107_109 := nl_ hg BK107; have NB109_107 := ng_ hg BK107; replace HO_3 := Aside0.mk (Kd.R_below (ra_ HO_3.out) hb); replace BK101 := lb_ BK101 hb; replace BK107 := lb_ BK107 hb; replace HB := sb2_ HB GE101 GE107 hb; clear hb hbox hg; have hnb28 := NB109_101.out; have hnc28 := NB101_109.out; have hnb29 := NB109_107.out; have hnc29 := NB107_109.out; obtain ⟨hcz30_0, hcz30_1, hcz30_2, hcz30_3, hcz30_4, hfz30_0, hfz30_1, hfz30_2, hfz30_3, hfz30_4⟩ := d5_ BK109; obtain ⟨Ao31, co31, eo31⟩ := Kd.R_slice HO_3.out; subst eo31) | ((with_reducible refine gate_callee (f := 98) rfl ?_); refine gl_ (some 29) rfl rfl Try.func98 #[.slice Ao31 x3_2.length co31, .string ((rd_T113 ((rd_T108 l0_0 x15_1).f1) x22_2).f0)] ?_; (with_reducible refine (slices_Contains_string_string.calls k2 _ _ x3_2 ((rd_T113 ((rd_T108 l0_0 x15_1).f1) x22_2).f0) false _ ?side1 ?side2 A19.out).mono ?_); (case side1 => refine (Kd.R_reads' (e := 9) (base := w.heap.size) (ok := fun k_ => True) (n := x3_2.length) (c := co31) ?_).2.2; exact (by (with_reducible repeat (first | apply Kd.R_alloc | apply Kd.R_drewN | apply Kd.R_drew)); exact (Kd.R_mono (Kd.R_far (p := ⟨gb109, 4, none⟩) (Kd.R_far (p := ⟨gb109, 3, none⟩) (Kd.R_far (p := ⟨gb109, 2, none⟩) (Kd.R_far (p := ⟨gb109, 1, none⟩) (Kd.R_far (p := ⟨gb109, 0, none⟩) (Kd.R_types HO_3.out BK109.out (by decide)) (fun _ hk => hk.2) (.string ((rd_T113 ((rd_T108 l0_0 x15_1).f1) x22_2).f0))) (fun _ hk => hk.2) (.slice A108_1 ((rd_T113 ((rd_T108 l0_0 x15_1).f1) x22_2).f1.f0).length c108_1)) (fun _ hk => hk.2) (.bool ((rd_T113 ((rd_T108 l0_0 x15_1).f1) x22_2).f2))) (fun _ hk => hk.2) (.int .i64 ((rd_T113 ((rd_T108 l0_0 x15_1).f1) x22_2).f3))) (fun _ hk => hk.2) (.string ((rd_T113 ((rd_T108 l0_0 x15_1).f1) x22_2).f4))) (fun _ h_ => h_.1)))); (case side2 => exact (Kd.R_reads' HO_3.out).2.1); rintro e w' ⟨rfl, ⟨nd, rfl⟩⟩; refine ⟨_, rfl, ?_⟩) | ((with_reducible refine gate_builtin (b := .append) (xs := #[.tmp 31, .tmp 34]) rfl ?_); at_builtin; refine Kd.R_append Kd.string (w0 := w) w.heap.size rfl (.tmp 31) (.tmp 34) 69 9 (.string ⟨#[]⟩) 16 rfl Try.underlying69 info9 rfl (by decide) (by omega) (.slice Ao31 x3_2.length co31) x3_2 ((rd_T113 ((rd_T108 l0_0 x15_1).f1) x22_2).f0) [.string ((rd_T113 ((rd_T108 l0_0 x15_1).f1) x22_2).f0)] (fun _ => True) (fun _ => False) rfl (by first | (go_simp; done) | (go_simp; rfl)) ?aP (fun _ hk => hk.elim) ?aF ?aO ?aB ?aS ?aL ?_; (case aP => exact rfl); (case aB => exact (be3_ HB.out GE101.out GE107.out GE109.out)); (case aF => exact (fun _ _ => trivial)); (case aO => exact (by (with_reducible repeat (first | apply Kd.R_alloc | apply Kd.R_drewN | apply Kd.R_drew)); exact Kd.R_mono (Kd.R_far (p := ⟨gb109, 4, none⟩) (Kd.R_far (p := ⟨gb109, 3, none⟩) (Kd.R_far (p := ⟨gb109, 2, none⟩) (Kd.R_far (p := ⟨gb109, 1, none⟩) (Kd.R_far (p := ⟨gb109, 0, none⟩) (Kd.R_types HO_3.out BK109.out (by decide)) (fun _ hk => hk.2) (.string ((rd_T113 ((rd_T108 l0_0 x15_1).f1) x22_2).f0))) (fun _ hk => hk.2) (.slice A108_1 ((rd_T113 ((rd_T108 l0_0 x15_1).f1) x22_2).f1.f0).length c108_1)) (fun _ hk => hk.2) (.bool ((rd_T113 ((rd_T108 l0_0 x15_1).f1) x22_2).f2))) (fun _ hk => hk.2) (.int .i64 ((rd_T113 ((rd_T108 l0_0 x15_1).f1) x22_2).f3))) (fun _ hk => hk.2) (.string ((rd_T113 ((rd_T108 l0_0 x15_1).f1) x22_2).f4))) (fun _ hk => trivial))); (case aS => exact (below_size (be3_ HB.out GE101.out GE107.out GE109.out))); (case aL => have := LMc26.out; omega); intro v112 w32 ho hb hg hat; rw [← Ny111.out] at ho; have HO113 := Aside0.mk (ho); replace BK101 := Aside0.mk (blk_grown (g := gb101) (o := .cells #[.slice (some ad106) l0_0.length c0_0] 46 (0, 0)) (by (with_reducible repeat (first | refine blk_drewN ?_ _ | refine blk_drew ?_ | refine blk_alloc ?_ _)); refine blk_far ?_ NB101_109.out _; (with_reducible repeat (first | refine blk_drewN ?_ _ | refine blk_drew ?_ | refine blk_alloc ?_ _)); refine blk_far ?_ NB101_109.out _; (with_reducible repeat (first | refine blk_drewN ?_ _ | refine blk_drew ?_ | refine blk_alloc ?_ _)); refine blk_far ?_ NB101_109.out _; (with_reducible repeat (first | refine blk_drewN ?_ _ | refine blk_drew ?_ | refine blk_alloc ?_ _)); refine blk_far ?_ NB101_109.out _; (with_reducible repeat (first | refine blk_drewN ?_ _ | refine blk_drew ?_ | refine blk_alloc ?_ _)); refine blk_far ?_ NB101_109.out _; (with_reducible repeat (first | refine blk_drewN ?_ _ | refine blk_drew ?_ | refine blk_alloc ?_ _)); exact BK101.out) hg (Kd.R_ne HO_3.out BK101.out (by decide))); replace BK107 := Aside0.mk (blk_grown (g := gb107) (o := .cells #[.string ((rd_T108 l0_0 x15_1).f0), .slice (some ad108) ((rd_T108 l0_0 x15_1).f1).length c106_1] 108 (0, 0)) (by (with_reducible repeat (first | refine blk_drewN ?_ _ | refine blk_drew ?_ | refine blk_alloc ?_ _)); refine blk_far ?_ NB107_109.out _; (with_reducible repeat (first | refine blk_drewN ?_ _ | refine blk_drew ?_ | refine blk_alloc ?_ _)); refine blk_far ?_ NB107_109.out _; (with_reducible repeat (first | refine blk_drewN ?_ _ | refine blk_drew ?_ | refine blk_alloc ?_ _)); refine blk_far ?_ NB107_109.out _; (with_reducible repeat (first | refine blk_drewN ?_ _ | refine blk_drew ?_ | refine blk_alloc ?_ _)); refine blk_far ?_ NB107_109.out _; (with_reducible repeat (first | refine blk_drewN ?_ _ | refine blk_drew ?_ | refine blk_alloc ?_ _)); refine blk_far ?_ NB107_109.out _; (with_reducible repeat (first | refine blk_drewN ?_ _ | refine blk_drew ?_ | refine blk_alloc ?_ _)); exact BK107.out) hg (Kd.R_ne HO_3.out BK107.out (by decide))); replace BK109 := Aside0.mk (blk_grown (g := gb109) (o := .cells #[.string ((rd_T113 ((rd_T108 l0_0 x15_1).f1) x22_2).f0), .slice A108_1 ((rd_T113 ((rd_T108 l0_0 x15_1).f1) x22_2).f1.f0).length c108_1, .bool ((rd_T113 ((rd_T108 l0_0 x15_1).f1) x22_2).f2), .int .i64 ((rd_T113 ((rd_T108 l0_0 x15_1).f1) x22_2).f3), .string ((rd_T113 ((rd_T108 l0_0 x15_1).f1) x22_2).f4)] 113 (0, 0)) (by (with_reducible repeat (first | refine blk_drewN ?_ _ | refine blk_drew ?_ | refine blk_alloc ?_ _)); refine blk_put (cs := #[.string ((rd_T113 ((rd_T108 l0_0 x15_1).f1) x22_2).f0), .slice A108_1 ((rd_T113 ((rd_T108 l0_0 x15_1).f1) x22_2).f1.f0).length c108_1, .bool ((rd_T113 ((rd_T108 l0_0 x15_1).f1) x22_2).f2), .int .i64 ((rd_T113 ((rd_T108 l0_0 x15_1).f1) x22_2).f3), .string (⟨#[]⟩ : ByteArray)]) ?_ 4 _ rfl; (with_reducible repeat (first | refine blk_drewN ?_ _ | refine blk_drew ?_ | refine blk_alloc ?_ _)); refine blk_put (cs := #[.string ((rd_T113 ((rd_T108 l0_0 x15_1).f1) x22_2).f0), .slice A108_1 ((rd_T113 ((rd_T108 l0_0 x15_1).f1) x22_2).f1.f0).length c108_1, .bool ((rd_T113 ((rd_T108 l0_0 x15_1).f1) x22_2).f2), .int .i64 0, .string (⟨#[]⟩ : ByteArray)]) ?_ 3 _ rfl; (with_reducible repeat (first | refine blk_drewN ?_ _ | refine blk_drew ?_ | refine blk_alloc ?_ _)); refine blk_put (cs := #[.string ((rd_T113 ((rd_T108 l0_0 x15_1).f1) x22_2).f0), .slice A108_1 ((rd_T113 ((rd_T108 l0_0 x15_1).f1) x22_2).f1.f0).length c108_1, .bool false, .int .i64 0, .string (⟨#[]⟩ : ByteArray)]) ?_ 2 _ rfl; (with_reducible repeat (first | refine blk_drewN ?_ _ | refine blk_drew ?_ | refine blk_alloc ?_ _)); refine blk_put (cs := #[.string ((rd_T113 ((rd_T108 l0_0 x15_1).f1) x22_2).f0), .slice none 0 0, .bool false, .int .i64 0, .string (⟨#[]⟩ : ByteArray)]) ?_ 1 _ rfl; (with_reducible repeat (first | refine blk_drewN ?_ _ | refine blk_drew ?_ | refine blk_alloc ?_ _)); refine blk_put (cs := #[.string (⟨#[]⟩ : ByteArray), .slice none 0 0, .bool false, .int .i64 0, .string (⟨#[]⟩ : ByteArray)]) ?_ 0 _ rfl; (with_reducible repeat (first | refine blk_drewN ?_ _ | refine blk_drew ?_ | refine blk_alloc ?_ _)); exact BK109.out) hg (Kd.R_ne HO_3.out BK109.out (by decide))); replace HB := Aside0.mk (hb); clear HO_3; clear ho hb hg hat))
              go_roundg k2
              case measure => have := HK1.out; have := HK2.out; omega
              case rel => exact ⟨(y111), (wrap64 (x22_2 + 1)), rs_, H', ⟨by have := HK1.out; have := HK2.out; omega⟩, ⟨ra_ HO113.out⟩, ⟨bk_ BK101.out⟩, ⟨bk_ BK107.out⟩, ⟨be3_ HB.out GE101.out GE107.out GE109.out⟩⟩
             ·rw [if_neg c26] at H
              exact absurd H (by simp)
           ·rw [if_neg c18] at H
            exact absurd H (by simp)
          ·rw [if_neg c17] at H
           exact absurd H (by simp)
         ·rw [if_neg c16] at H; have c16b0 := decide_eq_false c16; clear c16
          have H' := Aside0.mk H
          clear H
          go_wp2
          go_roundg k2
          case measure => have := HK1.out; have := HK2.out; omega
          case rel => exact ⟨(x3_2), (wrap64 (x15_1 + 1)), rs_, H', ⟨by have := HK1.out; have := HK2.out; omega⟩, ⟨ra_ HO_3.out⟩, ⟨bk_ BK101.out⟩, ⟨be2_ HB.out GE101.out GE107.out⟩⟩
      ·rw [if_neg c12] at H
       exact absurd H (by simp)
     ·rw [if_neg c11] at H
      exact absurd H (by simp)
    ·rw [if_neg c10] at H; have c10b0 := decide_eq_false c10; clear c10; obtain rfl := Option.some.inj H
     go_wp2
     go_ret
     exact ⟨_, rt_, ra_ HO_3.out, be1_ HB.out GE101.out⟩
 ·replace c3 := Bool.eq_false_iff.mpr c3; subst c3; rw [if_neg nft_] at H; obtain rfl := Option.some.inj H
  go_enter Try.func45, Try.ntmps45
  go_wp2_with (first | ((with_reducible refine gate_dst (N := 1) rfl ?_); refine bx_ 1 #[.slice A0_0 l0_0.length c0_0] 46 ?_; intro gb101 hg w33 hbox hb; have BK101 := Aside0.mk (hbox); have GW101 := ge_ hg HB; have GE101 := GW101; replace HB := sb_ HB hb; clear hb hbox hg; obtain ⟨hcz34_0, hfz34_0⟩ := d1_ BK101) | ((with_reducible refine gate_callee (f := 28) rfl ?_); refine gl_ (some 9) rfl rfl Try.func28 #[.agg #[.slice A0_0 l0_0.length c0_0]] ?_; (with_reducible refine (impl_GrammarOk.calls _ _ l0_0 false _ ?side1 ?side2 A2.out).mono ?_); (case side1 => exact Kd.C_below HR0_0.out (be_ HB.out)); (case side2 => exact HC0_0.out); rintro e w35 ⟨rfl, hb⟩; refine ⟨_, rfl, ?_⟩; replace BK101 := lb_ BK101 hb; replace HB := sb1_ HB GE101 hb; (try clear hb)))
  go_ret
  exact ⟨_, rt_, by first | exact Kd.R_nil _ _ _ _ _ | exact Kd.N_nil _ _ _ _ _ | exact Kd.V_nil _ _ _ _ _ | exact Kd.Q_nil _ _ _ _ _ | exact Kd.S_nil _ _ _ _ _, be1_ HB.out GE101.out⟩
end Go.Proofs.Ytijmhelacmjggaa.P
namespace Go.Proofs.Ytijmhelacmjggaa.P
open Go.RowKit Go.Proofs.YtijmhelacmjggaaW.PrintWords Go.Proofs.YtijmhelacmjggaaW.PrintLast Go.Proofs.YtijmhelacmjggaaEv
set_option linter.unusedVariables false
set_option linter.unusedSimpArgs false
def isS (s y : ByteArray) : Bool := y.toList == s.toList
def addK (acc : List ByteArray) (x : S113) : List ByteArray := if acc.any (isS x.f0) = true then acc else acc ++ [x.f0]
def kindsR (acc : List ByteArray) (rs : List S113) : List ByteArray := rs.foldl addK acc
def kindsM (acc : List ByteArray) (g : List S108) : List ByteArray := g.foldl (fun a m => kindsR a m.f1) acc
def tokKinds (g : List S108) : List ByteArray := if grammarB g = true then kindsM [] g else []
theorem addK_length (acc : List ByteArray) (x : S113) : (addK acc x).length ≤ acc.length + 1 := by
  unfold addK
  split <;> simp
theorem kindsR_length (rs : List S113) : ∀ acc : List ByteArray, (kindsR acc rs).length ≤ acc.length + rs.length := by
  induction rs with
  | nil => intro acc; exact Nat.le_refl _
  | cons x xs ih =>
    intro acc
    have h1 := ih (addK acc x)
    have h2 := addK_length acc x
    simp only [kindsR, List.foldl_cons, List.length_cons] at h1 ⊢
    omega
theorem kindsR_take (acc : List ByteArray) (rs : List S113) (j : Nat) (h : j < rs.length) : kindsR acc (rs.take (j + 1)) = addK (kindsR acc (rs.take j)) (rd_T113 rs (j : Int)) := by
  have e : rd_T113 rs (j : Int) = rs[j] := by simp [rd_T113, h]
  unfold kindsR
  rw [List.take_succ_eq_append_getElem h, List.foldl_append, e]
  rfl
theorem kindsM_take (acc : List ByteArray) (g : List S108) (j : Nat) (h : j < g.length) : kindsM acc (g.take (j + 1)) = kindsR (kindsM acc (g.take j)) (rd_T108 g (j : Int)).f1 := by
  have e : rd_T108 g (j : Int) = g[j] := by simp [rd_T108, h]
  unfold kindsM
  rw [List.take_succ_eq_append_getElem h, List.foldl_append, e]
  rfl
theorem kindsM_length (g : List S108) (hg : smallG g) : ∀ i, i ≤ g.length → (kindsM [] (g.take i)).length ≤ 1048576 * i := by
  intro i
  induction i with
  | zero => intro _; simp [kindsM]
  | succ i ih =>
    intro h
    rw [kindsM_take [] g i (by omega)]
    have h1 := kindsR_length (rd_T108 g (i : Int)).f1 (kindsM [] (g.take i))
    have h2 := (hg.2 _ (rd_mode_mem g i (by omega))).2.1
    have := ih (by omega)
    omega
theorem tokKinds_length (g : List S108) (hg : smallG g) : (tokKinds g).length ≤ 1099511627776 := by
  unfold tokKinds
  split
  · have h := kindsM_length g hg g.length (Nat.le_refl _)
    rw [List.take_length] at h
    have := hg.1
    omega
  · simp
theorem spec_l20At_ev (l : List ByteArray) (s : ByteArray) (hl : l.length ≤ 9223372036854775807) : Ev (fun k => spec_l20At.f k l s) (idxP (isS s) l 0) := by
  unfold spec_l20At.f
  refine ev_congr (ev_loop l.length (fun k i => spec_l20At.l0 k l s (i : Nat)) (fun i => idxP (isS s) (l.drop i) (i : Nat)) ?_ ?_ 0 (by omega)) (by simp)
  · rw [ev_succ]
    simp only [spec_l20At.l0, ev_ite]
    rw [if_neg (by omega)]
    exact ev_some.2 (by simp [idxP])
  · intro i hi ih
    rw [ev_succ]
    simp only [spec_l20At.l0, ev_ite]
    rw [if_pos (by omega), if_pos (by omega), wrap_succ hi (by omega), drop_cons l ByteArray.empty i hi]
    have hr : l.getD i ByteArray.empty = rdOf ByteArray.empty l (i : Int) := by simp [rdOf]
    rw [hr]
    unfold idxP isS
    by_cases c : (rdOf ByteArray.empty l (i : Int)).toList = s.toList
    · rw [if_pos c, if_pos (by simpa using c)]
      exact ev_some.2 rfl
    · rw [if_neg c, if_neg (by simpa using c)]
      exact ih
theorem slices_IndexS_ev (l : List ByteArray) (s : ByteArray) (hl : l.length ≤ 9223372036854775807) : Ev (fun k => slices_Index_string_string.f k l s) (idxP (isS s) l 0) := by
  unfold slices_Index_string_string.f
  refine ev_congr (ev_loop l.length (fun k i => slices_Index_string_string.l0 k l s (l.length : Int) (i : Nat)) (fun i => idxP (isS s) (l.drop i) (i : Nat)) ?_ ?_ 0 (by omega)) (by simp)
  · rw [ev_succ]
    simp only [slices_Index_string_string.l0, ev_ite]
    rw [if_neg (by omega)]
    exact ev_some.2 (by simp [idxP])
  · intro i hi ih
    rw [ev_succ]
    simp only [slices_Index_string_string.l0, ev_ite]
    rw [if_pos (by omega), if_pos (by omega), if_pos (by omega), wrap_succ hi (by omega), drop_cons l ByteArray.empty i hi]
    have hr : l.getD i ByteArray.empty = rdOf ByteArray.empty l (i : Int) := by simp [rdOf]
    rw [hr]
    unfold idxP isS
    by_cases c : s.toList = (rdOf ByteArray.empty l (i : Int)).toList
    · rw [if_pos c, if_pos (by simpa using c.symm)]
      exact ev_some.2 rfl
    · rw [if_neg c, if_neg (by simpa using fun h => c h.symm)]
      exact ih
theorem slices_ContainsS_ev (l : List ByteArray) (s : ByteArray) (hl : l.length ≤ 9223372036854775807) : Ev (fun k => slices_Contains_string_string.f k l s) (l.any (isS s)) := by
  unfold slices_Contains_string_string.f
  rw [ev_bind (slices_IndexS_ev l s hl)]
  refine ev_some.2 ?_
  rw [Bool.eq_iff_iff, decide_eq_true_iff]
  exact idxP_ge (isS s) l 0 (by omega)
theorem spec_Kinds_l1_ev (g : List S108) (hg : smallG g) (i : Nat) (hi : i < g.length) (acc : List ByteArray) (ha : acc.length ≤ 1048576 * i) (R : List ByteArray) (ih : Ev (fun k => spec_Kinds.l0 k (kindsR acc (rd_T108 g (i : Int)).f1) ((i + 1 : Nat) : Int) g) R) : Ev (fun k => spec_Kinds.l1 k acc (i : Int) 0 g) R := by
  have hgl := hg.1
  have hrl := (hg.2 _ (rd_mode_mem g i hi)).2.1
  refine ev_loop (rd_T108 g (i : Int)).f1.length (fun k j => spec_Kinds.l1 k (kindsR acc ((rd_T108 g (i : Int)).f1.take j)) (i : Int) (j : Nat) g) (fun _ => R) ?_ ?_ 0 (by omega)
  · rw [ev_succ, List.take_length]
    simp only [spec_Kinds.l1, ev_ite]
    rw [if_pos (by omega), if_pos (by omega), if_neg (by omega), wrap_succ hi (by omega)]
    exact ih
  · intro j hj ihj
    have hlen := kindsR_length ((rd_T108 g (i : Int)).f1.take j) acc
    rw [List.length_take] at hlen
    rw [kindsR_take acc _ j hj] at ihj
    rw [ev_succ]
    simp only [spec_Kinds.l1, ev_ite]
    rw [if_pos (by omega), if_pos (by omega), if_pos (by omega), if_pos (by omega), wrap_succ hj (by omega), ev_bind (spec_l20At_ev _ _ (by omega))]
    simp only [ev_ite]
    unfold addK at ihj
    by_cases c : (kindsR acc ((rd_T108 g (i : Int)).f1.take j)).any (isS (rd_T113 (rd_T108 g (i : Int)).f1 (j : Int)).f0) = true
    · rw [if_pos c] at ihj
      have := (idxP_ge _ _ 0 (by omega)).2 c
      rw [if_neg (by omega)]
      exact ihj
    · rw [if_neg c] at ihj
      have : ¬ (0 ≤ idxP (isS (rd_T113 (rd_T108 g (i : Int)).f1 (j : Int)).f0) (kindsR acc ((rd_T108 g (i : Int)).f1.take j)) 0) := fun h => c ((idxP_ge _ _ 0 (by omega)).1 h)
      rw [if_pos (by omega), if_pos (by omega)]
      exact ihj
theorem spec_Kinds_ev (g : List S108) (hg : smallG g) : Ev (fun k => spec_Kinds.f k g) (tokKinds g) := by
  have hgl := hg.1
  unfold spec_Kinds.f tokKinds
  simp only [Option.bind_some]
  rw [ev_bind (spec_GrammarOk_ev g hg)]
  cases grammarB g
  · simp only [Bool.false_eq_true, if_false]
    exact ev_some.2 rfl
  simp only [if_true]
  refine ev_loop g.length (fun k i => spec_Kinds.l0 k (kindsM [] (g.take i)) (i : Nat) g) (fun _ => kindsM [] g) ?_ ?_ 0 (by omega)
  · rw [ev_succ, List.take_length]
    simp only [spec_Kinds.l0, ev_ite]
    rw [if_neg (by omega)]
    exact ev_some.2 rfl
  · intro i hi ih
    rw [ev_succ]
    simp only [spec_Kinds.l0, ev_ite]
    rw [if_pos (by omega)]
    rw [kindsM_take [] g i hi] at ih
    exact spec_Kinds_l1_ev g hg i hi _ (kindsM_length g hg i (by omega)) _ ih
theorem impl_Kinds_l1_ev (g : List S108) (hg : smallG g) (i : Nat) (hi : i < g.length) (acc : List ByteArray) (ha : acc.length ≤ 1048576 * i) (R : List ByteArray) (ih : Ev (fun k => impl_Kinds.l0 k (kindsR acc (rd_T108 g (i : Int)).f1) g (g.length : Int) ((i + 1 : Nat) : Int)) R) : Ev (fun k => impl_Kinds.l1 k acc g (g.length : Int) (i : Int) (rd_T108 g (i : Int)).f1 ((rd_T108 g (i : Int)).f1.length : Int) 0) R := by
  have hgl := hg.1
  have hrl := (hg.2 _ (rd_mode_mem g i hi)).2.1
  refine ev_loop (rd_T108 g (i : Int)).f1.length (fun k j => impl_Kinds.l1 k (kindsR acc ((rd_T108 g (i : Int)).f1.take j)) g (g.length : Int) (i : Int) (rd_T108 g (i : Int)).f1 ((rd_T108 g (i : Int)).f1.length : Int) (j : Nat)) (fun _ => R) ?_ ?_ 0 (by omega)
  · rw [ev_succ, List.take_length]
    simp only [impl_Kinds.l1, ev_ite]
    rw [if_neg (by omega), wrap_succ hi (by omega)]
    exact ih
  · intro j hj ihj
    have hlen := kindsR_length ((rd_T108 g (i : Int)).f1.take j) acc
    rw [List.length_take] at hlen
    rw [kindsR_take acc _ j hj] at ihj
    rw [ev_succ]
    simp only [impl_Kinds.l1, ev_ite]
    rw [if_pos (by omega), if_pos (by omega), if_pos (by omega), wrap_succ hj (by omega), ev_bind (slices_ContainsS_ev _ _ (by omega))]
    simp only [ev_ite]
    unfold addK at ihj
    by_cases c : (kindsR acc ((rd_T108 g (i : Int)).f1.take j)).any (isS (rd_T113 (rd_T108 g (i : Int)).f1 (j : Int)).f0) = true
    · rw [if_pos c] at ihj
      rw [if_pos c]
      exact ihj
    · rw [if_neg c] at ihj
      rw [if_neg c, if_pos (by omega)]
      exact ihj
theorem impl_Kinds_ev (g : List S108) (hg : smallG g) : Ev (fun k => impl_Kinds.f k g) (tokKinds g) := by
  have hgl := hg.1
  unfold impl_Kinds.f tokKinds
  simp only [impl_GrammarOk_eq g hg, Option.bind_some]
  cases grammarB g
  · simp only [Bool.false_eq_true, if_false]
    exact ev_some.2 rfl
  simp only [if_true]
  refine ev_loop g.length (fun k i => impl_Kinds.l0 k (kindsM [] (g.take i)) g (g.length : Int) (i : Nat)) (fun _ => kindsM [] g) ?_ ?_ 0 (by omega)
  · rw [ev_succ, List.take_length]
    simp only [impl_Kinds.l0, ev_ite]
    rw [if_neg (by omega)]
    exact ev_some.2 rfl
  · intro i hi ih
    rw [ev_succ]
    simp only [impl_Kinds.l0, ev_ite]
    rw [if_pos (by omega), if_pos (by omega), if_pos (by omega)]
    rw [kindsM_take [] g i hi] at ih
    exact impl_Kinds_l1_ev g hg i hi _ (kindsM_length g hg i (by omega)) _ ih
end Go.Proofs.Ytijmhelacmjggaa.P
namespace Go.Proofs.Ytijmhelacmjggaa.P
open Go.RowKit Go.Proofs.YtijmhelacmjggaaW.PrintWords Go.Proofs.YtijmhelacmjggaaW.PrintLast Go.Proofs.YtijmhelacmjggaaW.PrintMore
attribute [local go_sem] max2_int min2_int max_two min_two max_three min_three max_four min_four
set_option linter.unusedVariables false
set_option linter.unusedSimpArgs false
/-! ### laws_markText: function 99 -/
def laws_markText.l0 : Nat → Int → ByteArray → Option (ByteArray)
 | 0, _, _ => none
 | k + 1, x0, x3 => if x0 > 0 then ((some (([(wrap64 (48 + (Int.tmod x0 10))) % 256] : List Int) : List Int)).bind fun y101 => (if (strOfNums y101).size + x3.size ≤ 9223372036854775807 then (laws_markText.l0 k (wrap64 (Int.tdiv x0 10)) ((strOfNums y101) ++ x3)) else (none))) else (if 1 + x3.size ≤ 9223372036854775807 then (some ((⟨#[109]⟩ : ByteArray) ++ x3)) else (none))
def laws_markText.f (k : Nat) (a0 : Int) : Option (ByteArray) := if a0 ≤ 0 then (some (⟨#[109, 48]⟩ : ByteArray)) else (laws_markText.l0 k a0 (⟨#[]⟩ : ByteArray))
set_option maxHeartbeats 8000000 in
set_option maxRecDepth 100000 in
theorem laws_markText.calls (k : Nat) (a0 : Int) (r : ByteArray) (w : World) (h : laws_markText.f k a0 = some r) :
  Calls Try.prog 99 #[.int .i64 a0] w fun e w' => e = .returned (.string r) ∧ Below w.heap.size w w' := by
 have HB := Aside0.mk (Below.refl w.heap.size w)
 have H : (if a0 ≤ 0 then (some (⟨#[109, 48]⟩ : ByteArray)) else (laws_markText.l0 k a0 (⟨#[]⟩ : ByteArray))) = some r := h
 clear h
 by_cases c2 : a0 ≤ 0
 ·rw [if_pos c2] at H; have c2b0 := decide_eq_true c2; clear c2; obtain rfl := Option.some.inj H
  go_enter Try.func99, Try.ntmps99
  go_wp2
  go_ret
  exact ⟨rt_, be_ HB.out⟩
 ·rw [if_neg c2] at H; have c2b0 := decide_eq_false c2; clear c2
  have H' := Aside0.mk H
  clear H
  go_enter Try.func99, Try.ntmps99
  go_wp2
  go_loopg [0, 3] k (fun kq v0 v3 w' => ∃ (x0_1 : Int) (x3_1 : ByteArray), v0 = .int .i64 x0_1 ∧ v3 = .string x3_1 ∧ Aside0 (laws_markText.l0 kq x0_1 x3_1 = some r) ∧ Aside0 (kq ≤ k) ∧ Aside0 (Below w.heap.size w w'))
  case atStart => exact ⟨(a0), ((⟨#[]⟩ : ByteArray)), rs_, rs_, H', ⟨Nat.le_refl _⟩, ⟨be_ HB.out⟩⟩
  case round =>
   clear H'; (try clear c2); (try clear c2b0); obtain ⟨x0_1, x3_1, rfl, rfl, HA, HK1, HB⟩ := hrel
   cases gk with
   | zero => exact absurd HA.out (by simp [laws_markText.l0])
   | succ k1 =>
    have H := HA.out; clear HA
    simp only [laws_markText.l0] at H
    by_cases c3 : x0_1 > 0
    ·rw [if_pos c3] at H
     have c3b0 : decide (0 < x0_1) = true := decide_eq_true c3
     clear c3
     obtain ⟨y101, hy101⟩ : ∃ y_ : List Int, y_ = (([(wrap64 (48 + (Int.tmod x0_1 10))) % 256] : List Int)) := ⟨_, rfl⟩
     replace H : (if (strOfNums y101).size + x3_1.size ≤ 9223372036854775807 then (laws_markText.l0 k1 (wrap64 (Int.tdiv x0_1 10)) ((strOfNums y101) ++ x3_1)) else (none)) = some r := by first | (rw [hy101]; with_reducible exact H) | (have H2_ := (Option.bind_some _ _).symm.trans H; rw [hy101]; with_reducible exact H2_) | (have H2_ := (Option.bind_some _ _).symm.trans H; with_reducible exact H2_) | with_reducible exact H | (rw [hy101]; exact H) | exact H
     have Ny101 := Aside0.mk hy101; clear hy101
     by_cases c4 : (strOfNums y101).size + x3_1.size ≤ 9223372036854775807
     ·rw [if_pos c4] at H; have c4b0 := eq_true c4; have c4b1 := decide_eq_true c4
      try have c4b2 : (9223372036854775807 < (strOfNums y101).size + x3_1.size) = False := eq_false (Nat.not_lt.2 c4)
      have H' := Aside0.mk H
      clear H
      go_wp2_with (first | ((with_reducible refine gate_dst (N := 12) rfl ?_); refine Kd.R_lit (Kd.int .u8) _ 5 ?hg (N := 12) ?hd (xs := ([(wrap64 (48 + (Int.tmod x0_1 10))) % 256] : List Int)) (inner := [.int .u8 ((wrap64 (48 + (Int.tmod x0_1 10))) % 256)]) (ok := fun _ => True) (okp := fun _ => True) ?hr ?hp (fun _ hk => hk) trivial (Below.refl _ _) (Nat.le_refl _) (by simp) ?_; (case hd => rfl); (case hg => rfl); (case hr => first | (go_simp; done) | (go_simp; rfl)); (case hp => exact (Reps.one (show Kd.M (Kd.int .u8) _ _ _ ((wrap64 (48 + (Int.tmod x0_1 10))) % 256) [.int .u8 ((wrap64 (48 + (Int.tmod x0_1 10))) % 256)] from rfl) (Reps.none _ _))); intro v102 w5 ho6 hb hg_ hnew_; clear hg_ hnew_; (first | rw [← Ny101.out] at ho6 | (simp only [Int.reduceToNat] at ho6; rw [← Ny101.out] at ho6)); have HO103 := Aside0.mk (Kd.R_lower ho6 (below_size (be_ HB.out))); replace HB := sb_ HB hb; clear hb ho6; have hcv7 := own_string (P := Try.prog) Try.underlying183 Try.underlying5 Try.underlying9 (Kd.own_of_R HO103.out)))
      go_roundg k1
      case measure => have := HK1.out; omega
      case rel => exact ⟨(wrap64 (Int.tdiv x0_1 10)), ((strOfNums y101) ++ x3_1), rs_, rs_, H', ⟨by have := HK1.out; omega⟩, ⟨be_ HB.out⟩⟩
     ·rw [if_neg c4] at H
      exact absurd H (by simp)
    ·rw [if_neg c3] at H
     have c3b0 : decide (0 < x0_1) = false := decide_eq_false c3
     clear c3
     by_cases c8 : 1 + x3_1.size ≤ 9223372036854775807
     ·rw [if_pos c8] at H; have c8b0 := eq_true c8; have c8b1 := decide_eq_true c8
      try have c8b2 : (9223372036854775807 < 1 + x3_1.size) = False := eq_false (Nat.not_lt.2 c8)
      obtain rfl := Option.some.inj H
      go_wp2
      go_ret
      exact ⟨rt_, be_ HB.out⟩
     ·rw [if_neg c8] at H
      exact absurd H (by simp)
end Go.Proofs.Ytijmhelacmjggaa.P
namespace Go.Proofs.Ytijmhelacmjggaa.P
open Go.RowKit Go.Proofs.YtijmhelacmjggaaW.PrintWords Go.Proofs.YtijmhelacmjggaaW.PrintLast Go.Proofs.YtijmhelacmjggaaEv
set_option linter.unusedVariables false
set_option linter.unusedSimpArgs false
theorem strOfNums_one (x : Int) : (strOfNums [x]).size = 1 := rfl
theorem markText_l0 : ∀ (n : Nat) (a : Int) (s : ByteArray), 0 ≤ a → a < 10 ^ n → a ≤ 9223372036854775807 → s.size + n ≤ 1000 → ∃ r, Ev (fun k => laws_markText.l0 k a s) r := by
  intro n
  induction n with
  | zero =>
    intro a s h0 h1 _ hs
    have ha : a = 0 := by simp at h1; omega
    subst ha
    refine ⟨(⟨#[109]⟩ : ByteArray) ++ s, ?_⟩
    rw [ev_succ]
    simp only [laws_markText.l0, ev_ite]
    rw [if_neg (by omega), if_pos (by omega)]
    exact ev_some.2 rfl
  | succ n ih =>
    intro a s h0 h1 h2 hs
    by_cases ha : a > 0
    · have hd : Int.tdiv a 10 = a / 10 := Int.tdiv_eq_ediv_of_nonneg h0
      obtain ⟨r, hr⟩ := ih (a / 10) (strOfNums [(wrap64 (48 + (Int.tmod a 10))) % 256] ++ s) (by omega) (by rw [Int.pow_succ] at h1; omega) (by omega) (by rw [ByteArray.size_append, strOfNums_one]; omega)
      refine ⟨r, ?_⟩
      rw [ev_succ]
      simp only [laws_markText.l0, ev_ite, Option.bind_some]
      rw [if_pos ha, strOfNums_one, if_pos (by omega), hd, wrap_id (by omega) (by omega)]
      exact hr
    · refine ⟨(⟨#[109]⟩ : ByteArray) ++ s, ?_⟩
      rw [ev_succ]
      simp only [laws_markText.l0, ev_ite]
      rw [if_neg ha, if_pos (by omega)]
      exact ev_some.2 rfl
theorem markText_ev (a : Int) (h0 : 0 ≤ a) (h1 : a ≤ 9000000000000000000) : ∃ r, Ev (fun k => laws_markText.f k a) r := by
  unfold laws_markText.f
  by_cases ha : a ≤ 0
  · exact ⟨_, by rw [ev_ite, if_pos ha]; exact ev_some.2 rfl⟩
  · obtain ⟨r, hr⟩ := markText_l0 19 a ⟨#[]⟩ h0 (by omega) (by omega) (by decide)
    exact ⟨r, by rw [ev_ite, if_neg ha]; exact hr⟩
theorem markText_ok (a : Int) (h0 : 0 ≤ a) (h1 : a ≤ 9000000000000000000) : ∃ k s, laws_markText.f k a = some s := by
  obtain ⟨r, hr⟩ := markText_ev a h0 h1
  obtain ⟨k, hk⟩ := ev_get hr
  exact ⟨k, r, hk⟩
end Go.Proofs.Ytijmhelacmjggaa.P
namespace Go.Proofs.Ytijmhelacmjggaa.P
open Go.RowKit Go.Proofs.YtijmhelacmjggaaW.PrintWords Go.Proofs.YtijmhelacmjggaaW.PrintLast Go.Proofs.YtijmhelacmjggaaW.PrintMore
attribute [local go_sem] max2_int min2_int max_two min_two max_three min_three max_four min_four
set_option linter.unusedVariables false
set_option linter.unusedSimpArgs false
/-! ### laws_eqStringS: function 46 -/
def laws_eqStringS.l0 : Nat → List ByteArray → List ByteArray → Int → Option (Bool)
 | 0, _, _, _ => none
 | k + 1, x0, x1, x5 => if x5 < (x0.length : Int) then (if 0 ≤ x5 then (if x5 < (x1.length : Int) then (if (rdOf ByteArray.empty x0 x5).toList = (rdOf ByteArray.empty x1 x5).toList then (laws_eqStringS.l0 k x0 x1 (wrap64 (x5 + 1))) else (none)) else (none)) else (none)) else (some true)
def laws_eqStringS.f (k : Nat) (l0 : List ByteArray) (l1 : List ByteArray) : Option (Bool) := if (l0.length : Int) = (l1.length : Int) then (laws_eqStringS.l0 k l0 l1 0) else (none)
set_option maxHeartbeats 8000000 in
set_option maxRecDepth 100000 in
theorem laws_eqStringS.calls (k : Nat) (A0 : Option Addr) (c0 : Nat) (l0 : List ByteArray) (A1 : Option Addr) (c1 : Nat) (l1 : List ByteArray) (r : Bool) (w : World) (hr0 : Kd.C Kd.string w A0 l0.length l0) (hc0 : l0.length ≤ c0) (hr1 : Kd.C Kd.string w A1 l1.length l1) (hc1 : l1.length ≤ c1) (h : laws_eqStringS.f k l0 l1 = some r) :
  Calls Try.prog 46 #[.slice A0 l0.length c0, .slice A1 l1.length c1] w fun e w' => e = .returned (.bool r) ∧ Drawn0 w w' := by
 have HR0 := Aside0.mk hr0; have HC0 := Aside0.mk hc0; clear hr0 hc0; have HR1 := Aside0.mk hr1; have HC1 := Aside0.mk hc1; clear hr1 hc1
 have H : (if (l0.length : Int) = (l1.length : Int) then (laws_eqStringS.l0 k l0 l1 0) else (none)) = some r := h
 clear h
 by_cases c3 : (l0.length : Int) = (l1.length : Int)
 ·rw [if_pos c3] at H
  have c3b0 : ((l0.length : Int) == (l1.length : Int)) = true := beq_iff_eq.mpr c3
  have c3b1 : ((l0.length : Int) != (l1.length : Int)) = false := bne_eq_false_iff_eq.mpr c3
  have c3b2 : (l0.length == l1.length) = true := by first | simpa using c3 | (simp at c3 ⊢; omega)
  clear c3
  have H' := Aside0.mk H
  clear H
  go_enter Try.func46, Try.ntmps46
  go_wp2
  repeat (go_quiet (fail); try go_wp2)
  go_loopg [5] k (fun kq v5 w' => ∃ (x5_1 : Int), v5 = .int .i64 x5_1 ∧ Aside0 (laws_eqStringS.l0 kq l0 l1 x5_1 = some r) ∧ Aside0 (kq ≤ k) ∧ Drawn0 w w')
  case atStart => exact ⟨(0), rs_, H', ⟨Nat.le_refl _⟩, by repeat (first | exact Drawn0.refl _ | apply Drawn0.step)⟩
  case round =>
   clear H'; (try clear c1); (try clear c3); (try clear c3b0); (try clear c3b1); (try clear c3b2)
   obtain ⟨x5_1, rfl, HA, HK1, ⟨m1, rfl⟩⟩ := hrel
   cases gk with
   | zero => exact absurd HA.out (by simp [laws_eqStringS.l0])
   | succ k1 =>
    have H := HA.out; clear HA
    simp only [laws_eqStringS.l0] at H
    by_cases c4 : x5_1 < (l0.length : Int)
    ·rw [if_pos c4] at H; have c4b0 := decide_eq_true c4; clear c4
     by_cases c5 : 0 ≤ x5_1
     ·rw [if_pos c5] at H; have c5b0 := decide_eq_true c5; clear c5
      by_cases c6 : x5_1 < (l1.length : Int)
      ·rw [if_pos c6] at H; have c6b0 := decide_eq_true c6; clear c6
       by_cases c7 : (rdOf ByteArray.empty l0 x5_1).toList = (rdOf ByteArray.empty l1 x5_1).toList
       ·rw [if_pos c7] at H
        have c7b0 : ((rdOf ByteArray.empty l0 x5_1).toList == (rdOf ByteArray.empty l1 x5_1).toList) = true := beq_iff_eq.mpr c7
        have c7b1 : ((rdOf ByteArray.empty l0 x5_1).toList != (rdOf ByteArray.empty l1 x5_1).toList) = false := bne_eq_false_iff_eq.mpr c7
        clear c7
        have H' := Aside0.mk H
        clear H
        have p101 : 0 ≤ (x5_1 : Int) := of_decide_eq_true as_
        have q101 : x5_1 < (l0.length : Int) := of_decide_eq_true as_
        obtain ⟨ad101, e101, hx101_0⟩ := Kd.at_string HR0.out x5_1 p101 q101
        cases e101
        replace p101 := eq_true p101; replace q101 := eq_true q101
        have p102 : 0 ≤ (x5_1 : Int) := of_decide_eq_true as_
        have q102 : x5_1 < (l1.length : Int) := of_decide_eq_true as_
        obtain ⟨ad102, e102, hx102_0⟩ := Kd.at_string HR1.out x5_1 p102 q102
        cases e102
        replace p102 := eq_true p102; replace q102 := eq_true q102
        go_wp2
        repeat (go_quiet (fail); try go_wp2)
        go_roundg k1
        case measure => have := HK1.out; omega
        case rel => exact ⟨(wrap64 (x5_1 + 1)), rs_, H', ⟨by have := HK1.out; omega⟩, by repeat (first | exact Drawn0.refl _ | apply Drawn0.step)⟩
       ·rw [if_neg c7] at H
        have c7b0 : ((rdOf ByteArray.empty l0 x5_1).toList == (rdOf ByteArray.empty l1 x5_1).toList) = false := beq_eq_false_iff_ne.mpr c7
        have c7b1 : ((rdOf ByteArray.empty l0 x5_1).toList != (rdOf ByteArray.empty l1 x5_1).toList) = true := bne_iff_ne.mpr c7
        exact absurd H (by simp)
      ·rw [if_neg c6] at H
       exact absurd H (by simp)
     ·rw [if_neg c5] at H
      exact absurd H (by simp)
    ·rw [if_neg c4] at H; have c4b0 := decide_eq_false c4; clear c4; obtain rfl := Option.some.inj H
     go_wp2
     repeat (go_quiet (fail); try go_wp2)
     go_ret
     exact ⟨by first | rfl | (simp; done) | (simp [*]; done), by repeat (first | exact Drawn0.refl _ | apply Drawn0.step)⟩
 ·rw [if_neg c3] at H
  have c3b0 : ((l0.length : Int) == (l1.length : Int)) = false := beq_eq_false_iff_ne.mpr c3
  have c3b1 : ((l0.length : Int) != (l1.length : Int)) = true := bne_iff_ne.mpr c3
  have c3b2 : (l0.length == l1.length) = false := by first | simpa using c3 | (simp at c3 ⊢; omega)
  exact absurd H (by simp)
/-! ### laws_markStringS: function 47 -/
def laws_markStringS.l0 : Nat → List ByteArray → Int → Int → Option (Int × List ByteArray)
 | 0, _, _, _ => none
 | k + 1, x0, x1, x5 => if x5 < (x0.length : Int) then ((laws_markText.f k x1).bind fun t101 => (if 0 ≤ x5 then (laws_markStringS.l0 k (x0.set (x5 : Int).toNat t101) (wrap64 (x1 + 1)) (wrap64 (x5 + 1))) else (none))) else (some (x1, x0))
def laws_markStringS.f (k : Nat) (l0 : List ByteArray) (a1 : Int) : Option (Int × List ByteArray) := laws_markStringS.l0 k l0 a1 0
set_option maxHeartbeats 8000000 in
set_option maxRecDepth 100000 in
theorem laws_markStringS.calls (k : Nat) (P0_ : Nat → Prop) (u9000_ : Value) (l0 : List ByteArray) (a1 : Int) (r1 : Int) (r2 : List ByteArray) (w0 w : World) (hB : Below w0.heap.size w0 w) (ho0 : Kd.R Kd.string 9 w w0.heap.size P0_ u9000_ l0) (h : laws_markStringS.f k l0 a1 = some (r1, r2)) :
  Calls Try.prog 47 #[u9000_, .int .i64 a1] w fun e w' => e = .returned (.int .i64 r1) ∧ Kd.R Kd.string 9 w' w0.heap.size (fun k_ => (P0_ k_ ∨ w.heap.size ≤ k_)) u9000_ r2 ∧ Below w0.heap.size w0 w' ∧ Kept w w' (fun k_ => P0_ k_) := by
 have HO0 := Aside0.mk (show Kd.R Kd.string 9 w w0.heap.size (fun k_ => (P0_ k_ ∨ w.heap.size ≤ k_)) u9000_ l0 from Kd.R_mono ho0 (fun k_ hk => (.inl hk)))
 have HK := Aside0.mk (Kept.refl w (fun k_ => P0_ k_))
 have HW0 := Aside0.mk hB.size; have HB := Aside0.mk hB; clear hB
 have H : (laws_markStringS.l0 k l0 a1 0) = some (r1, r2) := h
 clear h
 have H' := Aside0.mk H
 clear H
 go_enter Try.func47, Try.ntmps47
 go_wp2
 go_loopg [1, 5] k (fun kq v1 v5 w' => ∃ (x0_1 : List ByteArray) (x1_1 : Int) (x5_1 : Int), v1 = .int .i64 x1_1 ∧ v5 = .int .i64 x5_1 ∧ Aside0 (laws_markStringS.l0 kq x0_1 x1_1 x5_1 = some (r1, r2)) ∧ Aside0 (kq ≤ k) ∧ Aside0 (Kd.R Kd.string 9 w' w0.heap.size (fun k_ => (P0_ k_ ∨ w.heap.size ≤ k_)) u9000_ x0_1) ∧ Aside0 (Kept w w' (fun k_ => P0_ k_)) ∧ Aside0 (Below w0.heap.size w0 w'))
 case atStart => exact ⟨(l0), (a1), (0), rs_, rs_, H', ⟨Nat.le_refl _⟩, ⟨ra_ HO0.out⟩, ⟨by repeat (first | (with_reducible first | exact HK.out | apply Kept.alloc | apply Kept.drewN | apply Kept.drew) | exact HK.out)⟩, ⟨be_ HB.out⟩⟩
 case round =>
  clear H'; obtain ⟨x0_1, x1_1, x5_1, rfl, rfl, HA, HK1, HO_0, HK, HB⟩ := hrel
  cases gk with
  | zero => exact absurd HA.out (by simp [laws_markStringS.l0])
  | succ k1 =>
   have H := HA.out; clear HA
   simp only [laws_markStringS.l0] at H
   by_cases c3 : x5_1 < (x0_1.length : Int)
   ·rw [if_pos c3] at H; have c3b0 := decide_eq_true c3; clear c3; obtain ⟨t101, A4, H⟩ := ob_ H
    by_cases c5 : 0 ≤ x5_1
    ·rw [if_pos c5] at H; have c5b0 := decide_eq_true c5; clear c5
     obtain ⟨y102, hy102⟩ : ∃ y_ : List ByteArray, y_ = (x0_1.set (x5_1 : Int).toNat t101) := ⟨_, rfl⟩
     replace H : (laws_markStringS.l0 k1 y102 (wrap64 (x1_1 + 1)) (wrap64 (x5_1 + 1))) = some (r1, r2) := by first | (rw [hy102]; with_reducible exact H) | (have H2_ := (Option.bind_some _ _).symm.trans H; rw [hy102]; with_reducible exact H2_) | (have H2_ := (Option.bind_some _ _).symm.trans H; with_reducible exact H2_) | with_reducible exact H | (rw [hy102]; exact H) | exact H
     have Ny102 := Aside0.mk hy102; clear hy102
     have H' := Aside0.mk H
     clear H; obtain ⟨Ao7, co7, eo7⟩ := Kd.R_slice HO_0.out; subst eo7
     go_wp2_with (first | ((with_reducible refine gate_callee (f := 99) rfl ?_); refine gl_ (some 15) rfl rfl Try.func99 #[.int .i64 x1_1] ?_; (with_reducible refine (laws_markText.calls k1 x1_1 t101 _ A4.out).mono ?_); rintro e w8 ⟨rfl, hb⟩; refine ⟨_, rfl, ?_⟩; replace HO_0 := Aside0.mk (Kd.R_below (ra_ HO_0.out) hb); replace HK := Aside0.mk (Kept.below (S := (fun k_ => P0_ k_)) (by repeat (first | (with_reducible first | exact HK.out | apply Kept.alloc | apply Kept.drewN | apply Kept.drew) | exact HK.out)) hb); replace HB := sb_ HB hb; (try clear hb); have p6 : 0 ≤ (x5_1 : Int) := of_decide_eq_true as_; have q6 : (x5_1 : Int) < ((x0_1.length : Int) : Int) := of_decide_eq_true as_; obtain ⟨go6, co6, eo6, gb6, gl6, cl6, HG6⟩ := Kd.R_form HO_0.out (by omega); (first | cases eo6 | (injection eo6 with ea_ en_ ec_; (first | subst ea_ | (injection ea_ with ea_; subst ea_)); subst ec_; clear en_)); have GB6 := Aside0.mk gb6; have GG6 := Aside0.mk HG6; clear gb6 gl6 HG6; have HMgo6 := Aside0.mk (show (P0_ go6 ∨ w.heap.size ≤ go6) from (HO_0.out.1 _ rfl)); obtain ⟨hx6_0, hf6_0⟩ := Kd.R_celln (⟨#[]⟩ : ByteArray) HO_0.out (x5_1 : Int) p6 q6; replace p6 := eq_true p6; replace q6 := eq_true q6; obtain ⟨hy9_, hz9_⟩ := Kd.R_celln (⟨#[]⟩ : ByteArray) HO_0.out (x5_1 : Int) (of_decide_eq_true as_) (of_decide_eq_true as_); have HP9 := Kd.R_putg HO_0.out (x5_1 : Int) t101) | ((with_reducible refine gate_store (t := 9) (p := 16) rfl ?_); refine store_event (t := 9) (p := 16) (v := ?vo_w10) (w1 := (w8.setCell ⟨go6, (x5_1 : Int).toNat, none⟩ (.string t101))) ?hg ?ho ?hn ?hr ?_; (case ho => rfl); (case hg => rfl); (case hn => rfl); (case hr => first | (go_simp; done) | (go_simp; rfl)); intro w10 hw; have hg : w8.grownBy w10 (some go6) := (by rw [hw]; exact HP9.2); have hp_ : Kd.R Kd.string 9 w10 w0.heap.size (fun k_ => (P0_ k_ ∨ w.heap.size ≤ k_)) (.slice (some ⟨go6, 0, none⟩) x0_1.length co7) y102 := (by rw [hw, Ny102.out]; exact HP9.1); clear HP9; replace HB := Aside0.mk ((by rw [hw]; exact below_set (HB.out) GB6.out : Below w0.heap.size w0 w10)); replace HK := Aside0.mk (Kept.of_grown (S := (fun k_ => P0_ k_)) hg (by repeat (first | (with_reducible first | exact HK.out | apply Kept.alloc | apply Kept.drewN | apply Kept.drew) | exact HK.out)) (fun k_ e_ => (HO_0.out.1 k_ e_))); replace HO_0 := Aside0.mk (hp_); clear hg hw hp_))
     go_roundg k1
     case measure => have := HK1.out; omega
     case rel => exact ⟨(y102), (wrap64 (x1_1 + 1)), (wrap64 (x5_1 + 1)), rs_, rs_, H', ⟨by have := HK1.out; omega⟩, ⟨ra_ HO_0.out⟩, ⟨by repeat (first | (with_reducible first | exact HK.out | apply Kept.alloc | apply Kept.drewN | apply Kept.drew) | exact HK.out)⟩, ⟨be_ HB.out⟩⟩
    ·rw [if_neg c5] at H
     exact absurd H (by simp)
   ·rw [if_neg c3] at H; have c3b0 := decide_eq_false c3; clear c3
    simp only [Option.some.injEq, Prod.mk.injEq] at H
    obtain ⟨rfl, rfl⟩ := H; obtain ⟨Ao11, co11, eo11⟩ := Kd.R_slice HO_0.out; subst eo11
    go_wp2
    go_ret
    exact ⟨rt_, ra_ HO_0.out, be_ HB.out, by repeat (first | (with_reducible first | exact HK.out | apply Kept.alloc | apply Kept.drewN | apply Kept.drew) | exact HK.out)⟩
/-! ### laws_heldStringS: function 48 -/
def laws_heldStringS.l0 : Nat → List ByteArray → Int → Int → Option (Int)
 | 0, _, _, _ => none
 | k + 1, x0, x1, x5 => if x5 < (x0.length : Int) then (if 0 ≤ x5 then ((laws_markText.f k x1).bind fun t102 => (if (rdOf ByteArray.empty x0 x5).toList = t102.toList then (laws_heldStringS.l0 k x0 (wrap64 (x1 + 1)) (wrap64 (x5 + 1))) else (some (-1)))) else (none)) else (some x1)
def laws_heldStringS.f (k : Nat) (l0 : List ByteArray) (a1 : Int) : Option (Int) := laws_heldStringS.l0 k l0 a1 0
set_option maxHeartbeats 8000000 in
set_option maxRecDepth 100000 in
theorem laws_heldStringS.calls (k : Nat) (A0 : Option Addr) (c0 : Nat) (l0 : List ByteArray) (a1 : Int) (r : Int) (w : World) (hr0 : Kd.C Kd.string w A0 l0.length l0) (hc0 : l0.length ≤ c0) (h : laws_heldStringS.f k l0 a1 = some r) :
  Calls Try.prog 48 #[.slice A0 l0.length c0, .int .i64 a1] w fun e w' => e = .returned (.int .i64 r) ∧ Below w.heap.size w w' := by
 have HR0 := Aside0.mk hr0; have HC0 := Aside0.mk hc0; clear hr0 hc0; have HB := Aside0.mk (Below.refl w.heap.size w)
 have H : (laws_heldStringS.l0 k l0 a1 0) = some r := h
 clear h
 have H' := Aside0.mk H
 clear H
 go_enter Try.func48, Try.ntmps48
 go_wp2
 go_loopg [1, 5] k (fun kq v1 v5 w' => ∃ (x1_1 : Int) (x5_1 : Int), v1 = .int .i64 x1_1 ∧ v5 = .int .i64 x5_1 ∧ Aside0 (laws_heldStringS.l0 kq l0 x1_1 x5_1 = some r) ∧ Aside0 (kq ≤ k) ∧ Aside0 (Below w.heap.size w w'))
 case atStart => exact ⟨(a1), (0), rs_, rs_, H', ⟨Nat.le_refl _⟩, ⟨be_ HB.out⟩⟩
 case round =>
  clear H'; obtain ⟨x1_1, x5_1, rfl, rfl, HA, HK1, HB⟩ := hrel
  cases gk with
  | zero => exact absurd HA.out (by simp [laws_heldStringS.l0])
  | succ k1 =>
   have H := HA.out; clear HA
   simp only [laws_heldStringS.l0] at H
   by_cases c3 : x5_1 < (l0.length : Int)
   ·rw [if_pos c3] at H; have c3b0 := decide_eq_true c3; clear c3
    by_cases c4 : 0 ≤ x5_1
    ·rw [if_pos c4] at H; have c4b0 := decide_eq_true c4; clear c4; obtain ⟨t102, A5, H⟩ := ob_ H
     by_cases c6 : (rdOf ByteArray.empty l0 x5_1).toList = t102.toList
     ·rw [if_pos c6] at H
      have c6b0 : ((rdOf ByteArray.empty l0 x5_1).toList == t102.toList) = true := beq_iff_eq.mpr c6
      have c6b1 : ((rdOf ByteArray.empty l0 x5_1).toList != t102.toList) = false := bne_eq_false_iff_eq.mpr c6
      clear c6
      have H' := Aside0.mk H
      clear H
      try go_wp2
      replace HB := Aside0.mk (below_drew1 HB.out)
      have p101 : 0 ≤ (x5_1 : Int) := of_decide_eq_true as_
      have q101 : x5_1 < (l0.length : Int) := of_decide_eq_true as_
      obtain ⟨ad101, e101, hx101_0⟩ := Kd.at_string HR0.out x5_1 p101 q101; have hw101_0 := hx101_0
      cases e101
      replace hx101_0 := mv_ HB.out hx101_0; replace p101 := eq_true p101; replace q101 := eq_true q101
      refine start_ (n := 7) (S := fun w' => w'.cell? (ad101.add (x5_1).toNat) = some (.string (rdOf ByteArray.empty l0 x5_1))) (ds := []) (bb 7 0) (by kernel_rfl) rfl rfl ((mv_ HB.out hw101_0)) (fun hHeld => ?_)
      generalize wr.drew = w7 at HB hx101_0 hHeld ⊢
      refine pure_ (i := 0) (N := some 12) (v := ?_) (a' := ?_) (bb 7 1) rfl rfl (by kernel_rfl) (fun _ _ _ h => h) (Or.inl ⟨by rfl, ?_⟩) ?_ ?_
      rotate_left
      ·intro w'
       go_simp
       with_reducible rfl
      rotate_left
      ·simp only [Act.put, List.setIfInBounds_toArray, List.set_cons_zero, List.set_cons_succ, i64_w, i32_w]
       rfl
      refine pure_ (i := 1) (N := some 13) (v := ?_) (a' := ?_) (bb 7 3) rfl rfl (by kernel_rfl) (fun _ _ _ h => h) (Or.inl ⟨by rfl, ?_⟩) ?_ ?_
      rotate_left
      ·intro w'
       go_simp
       with_reducible rfl
      rotate_left
      ·simp only [Act.put, List.setIfInBounds_toArray, List.set_cons_zero, List.set_cons_succ, i64_w, i32_w]
       rfl
      refine pure_ (i := 2) (N := some 14) (v := ?_) (a' := ?_) (bb 7 7) rfl rfl (by kernel_rfl) (fun _ _ _ h => h) (Or.inl ⟨by rfl, ?_⟩) ?_ ?_
      rotate_left
      ·intro w'
       go_simp
       with_reducible rfl
      rotate_left
      ·simp only [Act.put, List.setIfInBounds_toArray, List.set_cons_zero, List.set_cons_succ, i64_w, i32_w]
       rfl
      refine pure_ (i := 4) (N := some 16) (v := ?_) (a' := ?_) (bb 7 23) rfl rfl (by kernel_rfl) (fun _ _ _ h => h) (Or.inl ⟨by rfl, ?_⟩) ?_ ?_
      rotate_left
      ·intro w'
       go_simp
       with_reducible rfl
      rotate_left
      ·simp only [Act.put, List.setIfInBounds_toArray, List.set_cons_zero, List.set_cons_succ, i64_w, i32_w]
       rfl
      refine take_ (i := 3) (N := some 15) (v := ?_) (a' := ?_) (bb 7 31) rfl rfl (by kernel_rfl) (fun _ _ _ h => h) (Or.inl ⟨by rfl, ?_⟩) hHeld ?_ ?_
      rotate_left
      ·intro w' s0
       go_simp
       with_reducible rfl
      rotate_left
      ·simp only [Act.put, List.setIfInBounds_toArray, List.set_cons_zero, List.set_cons_succ, i64_w, i32_w]
       rfl
      refine one_ (i := 5) (N := some 17) (bb 7 63) rfl rfl (by kernel_rfl) (by decide) (fun K hK => ?_)
      refine gs_ Try.func99 #[.int .i64 x1_1] ?_
      with_reducible refine (laws_markText.calls k1 x1_1 t102 _ A5.out).mono ?_
      rintro e w8 ⟨rfl, hb⟩
      refine ⟨_, rfl, ?_⟩; replace HB := sb_ HB hb
      (try clear hb)
      (try clear hb2)
      (try clear hk)
      (try clear hi)
      refine hK.out _ _ ((mv_ HB.out hw101_0)) (fun hHeld => ?_)
      clear hK K; refine no_ (some 17) ?_
      refine pure_ (i := 6) (N := some 18) (v := ?_) (a' := ?_) (bb 7 127) rfl rfl (by kernel_rfl) (fun _ _ _ h => h) (Or.inl ⟨by rfl, ?_⟩) ?_ ?_
      rotate_left
      ·intro w'
       go_simp
       with_reducible rfl
      rotate_left
      ·simp only [Act.put, List.setIfInBounds_toArray, List.set_cons_zero, List.set_cons_succ, i64_w, i32_w]
       rfl
      refine done_ (by kernel_rfl) ?_
      try go_wp2
      go_roundg k1
      case measure => have := HK1.out; omega
      case rel => exact ⟨(wrap64 (x1_1 + 1)), (wrap64 (x5_1 + 1)), rs_, rs_, H', ⟨by have := HK1.out; omega⟩, ⟨be_ HB.out⟩⟩
     ·rw [if_neg c6] at H
      have c6b0 : ((rdOf ByteArray.empty l0 x5_1).toList == t102.toList) = false := beq_eq_false_iff_ne.mpr c6
      have c6b1 : ((rdOf ByteArray.empty l0 x5_1).toList != t102.toList) = true := bne_iff_ne.mpr c6
      obtain rfl := Option.some.inj H
      try go_wp2
      replace HB := Aside0.mk (below_drew1 HB.out)
      have p101 : 0 ≤ (x5_1 : Int) := of_decide_eq_true as_
      have q101 : x5_1 < (l0.length : Int) := of_decide_eq_true as_
      obtain ⟨ad101, e101, hx101_0⟩ := Kd.at_string HR0.out x5_1 p101 q101; have hw101_0 := hx101_0
      cases e101
      replace hx101_0 := mv_ HB.out hx101_0; replace p101 := eq_true p101; replace q101 := eq_true q101
      refine start_ (n := 7) (S := fun w' => w'.cell? (ad101.add (x5_1).toNat) = some (.string (rdOf ByteArray.empty l0 x5_1))) (ds := []) (bb 7 0) (by kernel_rfl) rfl rfl ((mv_ HB.out hw101_0)) (fun hHeld => ?_)
      generalize wr.drew = w9 at HB hx101_0 hHeld ⊢
      refine pure_ (i := 0) (N := some 12) (v := ?_) (a' := ?_) (bb 7 1) rfl rfl (by kernel_rfl) (fun _ _ _ h => h) (Or.inl ⟨by rfl, ?_⟩) ?_ ?_
      rotate_left
      ·intro w'
       go_simp
       with_reducible rfl
      rotate_left
      ·simp only [Act.put, List.setIfInBounds_toArray, List.set_cons_zero, List.set_cons_succ, i64_w, i32_w]
       rfl
      refine pure_ (i := 1) (N := some 13) (v := ?_) (a' := ?_) (bb 7 3) rfl rfl (by kernel_rfl) (fun _ _ _ h => h) (Or.inl ⟨by rfl, ?_⟩) ?_ ?_
      rotate_left
      ·intro w'
       go_simp
       with_reducible rfl
      rotate_left
      ·simp only [Act.put, List.setIfInBounds_toArray, List.set_cons_zero, List.set_cons_succ, i64_w, i32_w]
       rfl
      refine pure_ (i := 2) (N := some 14) (v := ?_) (a' := ?_) (bb 7 7) rfl rfl (by kernel_rfl) (fun _ _ _ h => h) (Or.inl ⟨by rfl, ?_⟩) ?_ ?_
      rotate_left
      ·intro w'
       go_simp
       with_reducible rfl
      rotate_left
      ·simp only [Act.put, List.setIfInBounds_toArray, List.set_cons_zero, List.set_cons_succ, i64_w, i32_w]
       rfl
      refine pure_ (i := 4) (N := some 16) (v := ?_) (a' := ?_) (bb 7 23) rfl rfl (by kernel_rfl) (fun _ _ _ h => h) (Or.inl ⟨by rfl, ?_⟩) ?_ ?_
      rotate_left
      ·intro w'
       go_simp
       with_reducible rfl
      rotate_left
      ·simp only [Act.put, List.setIfInBounds_toArray, List.set_cons_zero, List.set_cons_succ, i64_w, i32_w]
       rfl
      refine take_ (i := 3) (N := some 15) (v := ?_) (a' := ?_) (bb 7 31) rfl rfl (by kernel_rfl) (fun _ _ _ h => h) (Or.inl ⟨by rfl, ?_⟩) hHeld ?_ ?_
      rotate_left
      ·intro w' s0
       go_simp
       with_reducible rfl
      rotate_left
      ·simp only [Act.put, List.setIfInBounds_toArray, List.set_cons_zero, List.set_cons_succ, i64_w, i32_w]
       rfl
      refine one_ (i := 5) (N := some 17) (bb 7 63) rfl rfl (by kernel_rfl) (by decide) (fun K hK => ?_)
      refine gs_ Try.func99 #[.int .i64 x1_1] ?_
      with_reducible refine (laws_markText.calls k1 x1_1 t102 _ A5.out).mono ?_
      rintro e w10 ⟨rfl, hb⟩
      refine ⟨_, rfl, ?_⟩; replace HB := sb_ HB hb
      (try clear hb)
      (try clear hb2)
      (try clear hk)
      (try clear hi)
      refine hK.out _ _ ((mv_ HB.out hw101_0)) (fun hHeld => ?_)
      clear hK K; refine no_ (some 17) ?_
      refine pure_ (i := 6) (N := some 18) (v := ?_) (a' := ?_) (bb 7 127) rfl rfl (by kernel_rfl) (fun _ _ _ h => h) (Or.inl ⟨by rfl, ?_⟩) ?_ ?_
      rotate_left
      ·intro w'
       go_simp
       with_reducible rfl
      rotate_left
      ·simp only [Act.put, List.setIfInBounds_toArray, List.set_cons_zero, List.set_cons_succ, i64_w, i32_w]
       rfl
      refine done_ (by kernel_rfl) ?_
      try go_wp2
      go_ret
      exact ⟨rt_, be_ HB.out⟩
    ·rw [if_neg c4] at H
     exact absurd H (by simp)
   ·rw [if_neg c3] at H; have c3b0 := decide_eq_false c3; clear c3; obtain rfl := Option.some.inj H
    go_wp2
    go_ret
    exact ⟨rt_, be_ HB.out⟩
end Go.Proofs.Ytijmhelacmjggaa.P
namespace Go.Proofs.Ytijmhelacmjggaa.P
open Go.RowKit Go.Proofs.YtijmhelacmjggaaW.PrintWords Go.Proofs.YtijmhelacmjggaaW.PrintLast Go.Proofs.YtijmhelacmjggaaEv
set_option linter.unusedVariables false
set_option linter.unusedSimpArgs false
noncomputable def mtext (a : Int) : ByteArray := @Classical.epsilon ByteArray ⟨ByteArray.empty⟩ (fun r => Ev (fun k => laws_markText.f k a) r)
theorem mtext_ev (a : Int) (h0 : 0 ≤ a) (h1 : a ≤ 9000000000000000000) : Ev (fun k => laws_markText.f k a) (mtext a) := by
  exact Classical.epsilon_spec (p := fun r => Ev (fun k => laws_markText.f k a) r) (markText_ev a h0 h1)
theorem laws_eqStringS_ev (l : List ByteArray) (hl : l.length ≤ 9223372036854775807) : Ev (fun k => laws_eqStringS.f k l l) true := by
  unfold laws_eqStringS.f
  simp only [ev_ite]
  rw [if_pos trivial]
  refine ev_loop l.length (fun k i => laws_eqStringS.l0 k l l (i : Nat)) (fun _ => true) ?_ ?_ 0 (by omega)
  · rw [ev_succ]
    simp [laws_eqStringS.l0, ev_some]
  · intro i hi ih
    rw [ev_succ]
    simp only [laws_eqStringS.l0, if_true, ev_ite]
    rw [if_pos (by omega), if_pos (by omega), wrap_succ hi (by omega), if_pos (by omega)]
    exact ih
theorem laws_markStringS_ev (l : List ByteArray) (a : Int) (h0 : 0 ≤ a) (h1 : a + l.length ≤ 9000000000000000000) : Ev (fun k => laws_markStringS.f k l a) (a + l.length, (List.range l.length).map (fun j : Nat => mtext (a + (j : Int)))) := by
  unfold laws_markStringS.f
  have h := ev_loop l.length (fun k i => laws_markStringS.l0 k (marked (fun j : Nat => mtext (a + (j : Int))) l i) (a + (i : Int)) (i : Nat)) (fun _ => (a + l.length, (List.range l.length).map (fun j : Nat => mtext (a + (j : Int))))) ?_ ?_ 0 (by omega)
  · simpa [marked] using h
  · rw [ev_succ]
    simp [laws_markStringS.l0, ev_some, marked]
  · intro i hi ih
    rw [ev_succ]
    have hl : (marked (fun j : Nat => mtext (a + (j : Int))) l i).length = l.length := marked_length _ _ _ (by omega)
    simp only [laws_markStringS.l0, ev_ite, hl, Int.toNat_natCast]
    rw [if_pos (by omega), ev_bind (mtext_ev (a + (i : Int)) (by omega) (by omega)), ev_ite, if_pos (by omega), wrap_succ hi (by omega), wrap_id (by omega) (by omega)]
    have hm := marked_set (fun j : Nat => mtext (a + (j : Int))) l i hi
    have ih' : Ev (fun k => laws_markStringS.l0 k (marked (fun j : Nat => mtext (a + (j : Int))) l (i + 1)) (a + ((i + 1 : Nat) : Int)) ((i + 1 : Nat) : Int)) _ := ih
    rw [← hm, show a + ((i + 1 : Nat) : Int) = a + (i : Int) + 1 by omega] at ih'
    exact ih'
theorem laws_heldStringS_ev (n : Nat) (a : Int) (h0 : 0 ≤ a) (h1 : a + n ≤ 9000000000000000000) : Ev (fun k => laws_heldStringS.f k ((List.range n).map (fun j : Nat => mtext (a + (j : Int)))) a) (a + n) := by
  unfold laws_heldStringS.f
  have h := ev_loop n (fun k i => laws_heldStringS.l0 k ((List.range n).map (fun j : Nat => mtext (a + (j : Int)))) (a + (i : Int)) (i : Nat)) (fun _ => a + n) ?_ ?_ 0 (by omega)
  · simpa using h
  · rw [ev_succ]
    simp [laws_heldStringS.l0, ev_some]
  · intro i hi ih
    rw [ev_succ]
    have hr : rdOf ByteArray.empty ((List.range n).map (fun j : Nat => mtext (a + (j : Int)))) (i : Int) = mtext (a + i) := by simp [rdOf, hi]
    simp only [laws_heldStringS.l0, ev_ite, hr, List.length_map, List.length_range]
    rw [if_pos (by omega), if_pos (by omega), ev_bind (mtext_ev (a + (i : Int)) (by omega) (by omega)), ev_ite, if_pos rfl, wrap_succ hi (by omega), wrap_id (by omega) (by omega)]
    have ih' : Ev (fun k => laws_heldStringS.l0 k ((List.range n).map (fun j : Nat => mtext (a + (j : Int)))) (a + ((i + 1 : Nat) : Int)) ((i + 1 : Nat) : Int)) _ := ih
    rw [show a + ((i + 1 : Nat) : Int) = a + (i : Int) + 1 by omega] at ih'
    exact ih'
end Go.Proofs.Ytijmhelacmjggaa.P
namespace Go.Proofs.Ytijmhelacmjggaa.P
open Go.RowKit Go.Proofs.YtijmhelacmjggaaW.PrintWords Go.Proofs.YtijmhelacmjggaaW.PrintLast Go.Proofs.YtijmhelacmjggaaW.PrintMore Go.Proofs.YtijmhelacmjggaaEv
set_option linter.unusedVariables false
set_option linter.unusedSimpArgs false
def sk : Value → Value → Prop
  | .int k _, .int k' _ => k = k'
  | .string _, .string _ => True
  | .bool _, .bool _ => True
  | v, v' => v' = v
theorem sk_refl (v : Value) : sk v v := by
  cases v <;> simp [sk]
theorem sk_int {k : IntKind} {x : Int} {u : Value} (h : sk (.int k x) u) : ∃ y, u = .int k y := by
  cases u with
  | int k' y => simp [sk] at h; exact ⟨y, by rw [h]⟩
  | _ => simp [sk] at h
theorem sk_string {x : ByteArray} {u : Value} (h : sk (.string x) u) : ∃ y, u = .string y := by
  cases u with
  | string y => exact ⟨y, rfl⟩
  | _ => simp [sk] at h
theorem sk_bool {x : Bool} {u : Value} (h : sk (.bool x) u) : ∃ y, u = .bool y := by
  cases u with
  | bool y => exact ⟨y, rfl⟩
  | _ => simp [sk] at h
theorem sk_slice {A : Option Addr} {n c : Nat} {u : Value} (h : sk (.slice A n c) u) : u = .slice A n c := by
  cases u <;> exact h
theorem sk_trans {u v x : Value} (h : sk u v) (h2 : sk v x) : sk u x := by
  cases u with
  | int k a =>
    obtain ⟨b, rfl⟩ := sk_int h
    obtain ⟨c, rfl⟩ := sk_int h2
    simp [sk]
  | string a =>
    obtain ⟨b, rfl⟩ := sk_string h
    obtain ⟨c, rfl⟩ := sk_string h2
    simp [sk]
  | bool a =>
    obtain ⟨b, rfl⟩ := sk_bool h
    obtain ⟨c, rfl⟩ := sk_bool h2
    simp [sk]
  | _ =>
    have e : v = _ := h
    subst e
    exact h2
structure Like (w w' : World) : Prop where
  size : w.heap.size ≤ w'.heap.size
  block : ∀ (g : Nat) (cs : Array Value) (t : TypeId), w.heap[g]? = some (.cells cs t (0, 0)) → ∃ cs' : Array Value, w'.heap[g]? = some (.cells cs' t (0, 0)) ∧ cs'.size = cs.size ∧ ∀ (i : Nat) u, cs[i]? = some u → ∃ u', cs'[i]? = some u' ∧ sk u u'
theorem Like.refl (w : World) : Like w w := ⟨Nat.le_refl _, fun g cs t h => ⟨cs, h, rfl, fun i u hu => ⟨u, hu, sk_refl u⟩⟩⟩
theorem Like.trans {w w1 w2 : World} (h : Like w w1) (k : Like w1 w2) : Like w w2 := ⟨Nat.le_trans h.size k.size, fun g cs t hb => by
  obtain ⟨cs1, hb1, hs1, hc1⟩ := h.block g cs t hb
  obtain ⟨cs2, hb2, hs2, hc2⟩ := k.block g cs1 t hb1
  refine ⟨cs2, hb2, hs2.trans hs1, fun i u hu => ?_⟩
  obtain ⟨u1, hu1, k1⟩ := hc1 i u hu
  obtain ⟨u2, hu2, k2⟩ := hc2 i u1 hu1
  exact ⟨u2, hu2, sk_trans k1 k2⟩⟩
theorem Like.below {w w1 w2 : World} (h : Like w w1) (hb : Below w1.heap.size w1 w2) : Like w w2 := h.trans ⟨hb.size, fun g cs t hg => ⟨cs, blk_below hg hb, rfl, fun i u hu => ⟨u, hu, sk_refl u⟩⟩⟩
theorem Like.set {w w1 : World} (h : Like w w1) {g i : Nat} {t : TypeId} {cs : Array Value} {u u' : Value} (hg : w1.heap[g]? = some (.cells cs t (0, 0))) (hc : w1.cell? ⟨g, i, none⟩ = some u) (hs : sk u u') : Like w (w1.setCell ⟨g, i, none⟩ u') := h.trans ⟨by simp [World.setCell], fun b cs2 t2 hb => by
  by_cases e : b = g
  · subst e
    rw [hg] at hb
    injection hb with hb
    injection hb with e1 e2
    subst e1
    subst e2
    refine ⟨_, blk_set hg i u', by simp, fun j x hx => ?_⟩
    rw [blk_cell hg i] at hc
    by_cases e2 : i = j
    · subst e2
      have hu : x = u := by rw [hc] at hx; injection hx with hx; exact hx.symm
      have hi : i < cs.size := (Array.getElem?_eq_some_iff.1 hc).1
      exact ⟨u', by simp [Array.getElem?_setIfInBounds, hi], by rw [hu]; exact hs⟩
    · exact ⟨x, by rw [Array.getElem?_setIfInBounds_ne e2]; exact hx, sk_refl x⟩
  · exact ⟨cs2, blk_far hb e u', rfl, fun j x hx => ⟨x, hx, sk_refl x⟩⟩⟩
/-- A cell's block, and what it holds, in a world alike. -/
theorem Like.cell {w w1 : World} (h : Like w w1) {g i : Nat} {t : TypeId} {cs : Array Value} {u : Value} (hg : w.heap[g]? = some (.cells cs t (0, 0))) (hc : w.cell? ⟨g, i, none⟩ = some u) : ∃ u', w1.cell? ⟨g, i, none⟩ = some u' ∧ sk u u' ∧ w1.frozen? ⟨g, i, none⟩ = false ∧ ∃ cs', w1.heap[g]? = some (.cells cs' t (0, 0)) := by
  obtain ⟨cs', hb, _, hcc⟩ := h.block g cs t hg
  rw [blk_cell hg i] at hc
  obtain ⟨u', hu, k⟩ := hcc i u hc
  exact ⟨u', (blk_cell hb i).trans hu, k, blk_frozen hb i, cs', hb⟩
theorem like_int {w w1 : World} {g i : Nat} {t : TypeId} {cs : Array Value} {k : IntKind} {x : Int} (h : Like w w1) (hg : w.heap[g]? = some (.cells cs t (0, 0))) (hc : w.cell? ⟨g, i, none⟩ = some (.int k x)) : ∃ y, w1.cell? ⟨g, i, none⟩ = some (.int k y) ∧ w1.frozen? ⟨g, i, none⟩ = false := by
  obtain ⟨u, h1, h2, h3, _⟩ := h.cell hg hc
  obtain ⟨y, rfl⟩ := sk_int h2
  exact ⟨y, h1, h3⟩
theorem like_string {w w1 : World} {g i : Nat} {t : TypeId} {cs : Array Value} {x : ByteArray} (h : Like w w1) (hg : w.heap[g]? = some (.cells cs t (0, 0))) (hc : w.cell? ⟨g, i, none⟩ = some (.string x)) : ∃ y, w1.cell? ⟨g, i, none⟩ = some (.string y) ∧ w1.frozen? ⟨g, i, none⟩ = false := by
  obtain ⟨u, h1, h2, h3, _⟩ := h.cell hg hc
  obtain ⟨y, rfl⟩ := sk_string h2
  exact ⟨y, h1, h3⟩
theorem like_bool {w w1 : World} {g i : Nat} {t : TypeId} {cs : Array Value} {x : Bool} (h : Like w w1) (hg : w.heap[g]? = some (.cells cs t (0, 0))) (hc : w.cell? ⟨g, i, none⟩ = some (.bool x)) : ∃ y, w1.cell? ⟨g, i, none⟩ = some (.bool y) ∧ w1.frozen? ⟨g, i, none⟩ = false := by
  obtain ⟨u, h1, h2, h3, _⟩ := h.cell hg hc
  obtain ⟨y, rfl⟩ := sk_bool h2
  exact ⟨y, h1, h3⟩
theorem like_slice {w w1 : World} {g i : Nat} {t : TypeId} {cs : Array Value} {A : Option Addr} {n c : Nat} (h : Like w w1) (hg : w.heap[g]? = some (.cells cs t (0, 0))) (hc : w.cell? ⟨g, i, none⟩ = some (.slice A n c)) : w1.cell? ⟨g, i, none⟩ = some (.slice A n c) := by
  obtain ⟨u, h1, h2, _⟩ := h.cell hg hc
  rw [h1, sk_slice h2]
theorem Like.put_int {w w1 : World} {g i : Nat} {t : TypeId} {cs : Array Value} {k : IntKind} {x y : Int} (h : Like w w1) (hg : w.heap[g]? = some (.cells cs t (0, 0))) (hc : w.cell? ⟨g, i, none⟩ = some (.int k x)) : Like w (w1.setCell ⟨g, i, none⟩ (.int k y)) := by
  obtain ⟨u, h1, h2, h3, cs', h4⟩ := h.cell hg hc
  obtain ⟨z, rfl⟩ := sk_int h2
  exact h.set h4 h1 rfl
theorem Like.put_string {w w1 : World} {g i : Nat} {t : TypeId} {cs : Array Value} {x y : ByteArray} (h : Like w w1) (hg : w.heap[g]? = some (.cells cs t (0, 0))) (hc : w.cell? ⟨g, i, none⟩ = some (.string x)) : Like w (w1.setCell ⟨g, i, none⟩ (.string y)) := by
  obtain ⟨u, h1, h2, h3, cs', h4⟩ := h.cell hg hc
  obtain ⟨z, rfl⟩ := sk_string h2
  exact h.set h4 h1 trivial
theorem Like.put_bool {w w1 : World} {g i : Nat} {t : TypeId} {cs : Array Value} {x y : Bool} (h : Like w w1) (hg : w.heap[g]? = some (.cells cs t (0, 0))) (hc : w.cell? ⟨g, i, none⟩ = some (.bool x)) : Like w (w1.setCell ⟨g, i, none⟩ (.bool y)) := by
  obtain ⟨u, h1, h2, h3, cs', h4⟩ := h.cell hg hc
  obtain ⟨z, rfl⟩ := sk_bool h2
  exact h.set h4 h1 trivial
/-- Lists of cells, each of the same kind. -/
def sks (cs cs' : List Value) : Prop := cs'.length = cs.length ∧ ∀ (i : Nat) u, cs[i]? = some u → ∃ u', cs'[i]? = some u' ∧ sk u u'
theorem sks_one {u : Value} {cs' : List Value} (h : sks [u] cs') : ∃ u', cs' = [u'] ∧ sk u u' := by
  obtain ⟨h1, h2⟩ := h
  obtain ⟨u', h3, h4⟩ := h2 0 u rfl
  match cs', h1, h3 with
  | [x], _, h3 => exact ⟨x, rfl, by injection h3 with h3; rw [h3]; exact h4⟩
theorem sks_append {a b cs' : List Value} (h : sks (a ++ b) cs') : ∃ a' b', cs' = a' ++ b' ∧ sks a a' ∧ sks b b' := by
  obtain ⟨h1, h2⟩ := h
  rw [List.length_append] at h1
  refine ⟨cs'.take a.length, cs'.drop a.length, (List.take_append_drop _ _).symm, ⟨by rw [List.length_take]; omega, fun i u hu => ?_⟩, ⟨by rw [List.length_drop]; omega, fun i u hu => ?_⟩⟩
  · have hi : i < a.length := (List.getElem?_eq_some_iff.1 hu).1
    obtain ⟨u', h3, h4⟩ := h2 i u (by rw [List.getElem?_append_left hi]; exact hu)
    exact ⟨u', by rw [List.getElem?_take_of_lt hi]; exact h3, h4⟩
  · obtain ⟨u', h3, h4⟩ := h2 (a.length + i) u (by rw [List.getElem?_append_right (by omega)]; simpa using hu)
    exact ⟨u', by rw [List.getElem?_drop]; exact h3, h4⟩
def sumN {α : Type} (m : α → Nat) : List α → Nat
  | [] => 0
  | x :: xs => m x + sumN m xs
theorem sumN_len {α : Type} (m : α → Nat) (h : ∀ x, 1 ≤ m x) : ∀ l : List α, l.length ≤ sumN m l
  | [] => Nat.le_refl _
  | x :: xs => by have := sumN_len m h xs; have := h x; simp only [sumN, List.length_cons]; omega
theorem sumN_take {α : Type} (m : α → Nat) : ∀ (l : List α) (i : Nat) (h : i < l.length), sumN m (l.take (i + 1)) = sumN m (l.take i) + m l[i]
  | x :: xs, 0, _ => by simp [sumN]
  | x :: xs, i + 1, h => by
    simp only [List.take_succ_cons, sumN, List.getElem_cons_succ]
    rw [sumN_take m xs i (by simpa using h)]
    omega
theorem sumN_le {α : Type} (m : α → Nat) (l : List α) (i : Nat) : sumN m (l.take i) ≤ sumN m l := by
  induction l generalizing i with
  | nil => simp [sumN]
  | cons x xs ih =>
    cases i with
    | zero => simp [sumN]
    | succ i => simp only [List.take_succ_cons, sumN]; have := ih i; omega
theorem sumN_map {α : Type} (m : α → Nat) : ∀ l l' : List α, l'.map m = l.map m → sumN m l' = sumN m l
  | [], [], _ => rfl
  | x :: xs, [], h => by simp at h
  | [], x :: xs, h => by simp at h
  | x :: xs, y :: ys, h => by
    simp only [List.map_cons, List.cons.injEq] at h
    simp only [sumN, h.1, sumN_map m xs ys h.2]
/-- A kind keeps a measure: in a world alike, cells of the same kinds are an element of the same measure. -/
def Keeps {α : Type} (d : Kd α) (m : α → Nat) : Prop := ∀ {w w' : World} {base : Nat} {ok : Nat → Prop} {x : α} {cs cs' : List Value}, Like w w' → d.M w base ok x cs → sks cs cs' → ∃ x', d.M w' base ok x' cs' ∧ m x' = m x
theorem exists_list {α : Type} (P : Nat → α → Prop) : ∀ n : Nat, (∀ i, i < n → ∃ x, P i x) → ∃ l : List α, l.length = n ∧ ∀ i x, l[i]? = some x → P i x
  | 0, _ => ⟨[], rfl, fun i x h => by simp at h⟩
  | n + 1, h => by
    obtain ⟨l, hl, hp⟩ := exists_list P n (fun i hi => h i (by omega))
    obtain ⟨x, hx⟩ := h n (by omega)
    refine ⟨l ++ [x], by simp [hl], fun i y hy => ?_⟩
    by_cases hi : i < n
    · rw [List.getElem?_append_left (by omega)] at hy
      exact hp i y hy
    · have hlt : i < (l ++ [x]).length := (List.getElem?_eq_some_iff.1 hy).1
      have e : i = n := by simp at hlt; omega
      subst e
      rw [List.getElem?_append_right (by omega), hl, Nat.sub_self] at hy
      injection hy with hy
      rw [← hy]
      exact hx
theorem R_like {α : Type} {d : Kd α} {m : α → Nat} (hd : Keeps d m) {e : Nat} {w w' : World} {base : Nat} {ok : Nat → Prop} {v : Value} {xs : List α} (h : d.R e w base ok v xs) (hl : Like w w') : ∃ xs', d.R e w' base ok v xs' ∧ xs'.map m = xs.map m := by
  obtain ⟨h0, inner, ⟨hi, ho⟩, hr⟩ := h
  rcases ho with ⟨rfl, hn⟩ | ⟨g, cap, cur, rfl, hg, hh, hnc, hcm, hcs, htk⟩
  · have : xs = [] := List.length_eq_zero_iff.1 hn
    subst this
    exact ⟨[], Kd.R_nil _ _ _ _ _, rfl⟩
  · obtain ⟨cur', hh', hs', hc'⟩ := hl.block g cur e hh
    have hsk : sks inner (cur'.toList.take (xs.length * d.sz)) := by
      rw [← htk]
      refine ⟨by simp [hs'], fun i u hu => ?_⟩
      have hlt : i < xs.length * d.sz := by
        have := (List.getElem?_eq_some_iff.1 hu).1
        rw [List.length_take] at this
        omega
      rw [List.getElem?_take_of_lt hlt] at hu ⊢
      obtain ⟨u', h1, h2⟩ := hc' i u (by simpa using hu)
      exact ⟨u', by simpa using h1, h2⟩
    have hx : ∀ i, i < xs.length → ∃ x', d.M w' base (fun k => ok k ∧ some k ≠ (Value.slice (some ⟨g, 0, none⟩) xs.length cap).ownBlock) x' (((cur'.toList.take (xs.length * d.sz)).drop (i * d.sz)).take d.sz) ∧ (∃ x, xs[i]? = some x ∧ m x' = m x) := by
      intro i hi2
      obtain ⟨x', h1, h2⟩ := hd hl (hr.2 i xs[i] (List.getElem?_eq_getElem hi2)) (cs' := ((cur'.toList.take (xs.length * d.sz)).drop (i * d.sz)).take d.sz) (by
        obtain ⟨s1, s2⟩ := hsk
        refine ⟨by simp only [List.length_take, List.length_drop] at s1 ⊢; omega, fun j u hu => ?_⟩
        have hj : j < d.sz := by
          have := (List.getElem?_eq_some_iff.1 hu).1
          rw [List.length_take] at this
          omega
        rw [List.getElem?_take_of_lt hj, List.getElem?_drop] at hu ⊢
        exact s2 _ u hu)
      exact ⟨x', h1, xs[i], List.getElem?_eq_getElem hi2, h2⟩
    obtain ⟨xs', hlen, hp⟩ := exists_list _ xs.length hx
    refine ⟨xs', ⟨?_, cur'.toList.take (xs.length * d.sz), ⟨?_, .inr ⟨g, cap, cur', by rw [hlen], hg, hh', by rw [hlen]; exact hnc, hcm, by rw [hs', hcs], by rw [hlen]⟩⟩, ⟨?_, fun j p hj => (hp j p hj).1⟩⟩, ?_⟩
    · intro k hk
      exact h0 k hk
    · rw [hlen]
      exact hsk.1.trans hi
    · rw [hlen]
      exact hsk.1.trans hi
    · apply List.ext_getElem?
      intro i
      rw [List.getElem?_map, List.getElem?_map]
      by_cases hi2 : i < xs.length
      · obtain ⟨_, x, h1, h2⟩ := hp i xs'[i] (List.getElem?_eq_getElem (by omega))
        rw [List.getElem?_eq_getElem (by omega : i < xs'.length), h1]
        simp [h2]
      · rw [List.getElem?_eq_none (by omega), List.getElem?_eq_none (by omega)]
theorem keeps_int (k : IntKind) : Keeps (Kd.int k) (fun _ => 1) := by
  intro w w' base ok x cs cs' hl hM hs
  have e : cs = [.int k x] := hM
  subst e
  obtain ⟨u, rfl, hu⟩ := sks_one hs
  obtain ⟨y, rfl⟩ := sk_int hu
  exact ⟨y, rfl, rfl⟩
theorem keeps_string : Keeps Kd.string (fun _ => 1) := by
  intro w w' base ok x cs cs' hl hM hs
  have e : cs = [.string x] := hM
  subst e
  obtain ⟨u, rfl, hu⟩ := sks_one hs
  obtain ⟨y, rfl⟩ := sk_string hu
  exact ⟨y, rfl, rfl⟩
theorem keeps_bool : Keeps Kd.bool (fun _ => 1) := by
  intro w w' base ok x cs cs' hl hM hs
  have e : cs = [.bool x] := hM
  subst e
  obtain ⟨u, rfl, hu⟩ := sks_one hs
  obtain ⟨y, rfl⟩ := sk_bool hu
  exact ⟨y, rfl, rfl⟩
theorem keeps_pair {α β : Type} {a : Kd α} {b : Kd β} {m : α → Nat} {n : β → Nat} (ha : Keeps a m) (hb : Keeps b n) : Keeps (Kd.pair a b) (fun x => m x.1 + n x.2) := by
  intro w w' base ok x cs cs' hl hM hs
  obtain ⟨c0, c1, rfl, h0, h1⟩ := hM
  obtain ⟨a', b', rfl, s0, s1⟩ := sks_append hs
  obtain ⟨x0, k0, e0⟩ := ha hl h0 s0
  obtain ⟨x1, k1, e1⟩ := hb hl h1 s1
  exact ⟨(x0, x1), ⟨a', b', rfl, k0, k1⟩, by simp only [e0, e1]⟩
theorem keeps_slice {α : Type} {d : Kd α} {m : α → Nat} (hd : Keeps d m) (e : Nat) : Keeps (Kd.slice e d) (sumN m) := by
  intro w w' base ok x cs cs' hl hM hs
  obtain ⟨v, rfl, h⟩ := hM
  obtain ⟨u, rfl, hu⟩ := sks_one hs
  obtain ⟨A, c, rfl⟩ := Kd.R_slice h
  have e2 := sk_slice hu
  subst e2
  obtain ⟨xs', h1, h2⟩ := R_like hd h hl
  exact ⟨xs', ⟨_, rfl, h1⟩, sumN_map m _ _ h2⟩
theorem keeps_iso {α β : Type} {d : Kd α} {m : α → Nat} (hd : Keeps d m) (f : β → α) (g : α → β) (hfg : ∀ y, f (g y) = y) : Keeps (Kd.iso d f) (fun x => m (f x)) := by
  intro w w' base ok x cs cs' hl hM hs
  obtain ⟨y, h1, h2⟩ := hd hl (show d.M w base ok (f x) cs from hM) hs
  exact ⟨g y, show d.M w' base ok (f (g y)) cs' by rw [hfg]; exact h1, by show m (f (g y)) = m (f x); rw [hfg]; exact h2⟩
/-- An element of a row of its own: what its cells hold. -/
theorem R_at {α : Type} {d : Kd α} {e : Nat} {w : World} {base : Nat} {ok : Nat → Prop} {g n c : Nat} {xs : List α} (h : d.R e w base ok (.slice (some ⟨g, 0, none⟩) n c) xs) (i : Nat) (hi : i < xs.length) : ∃ cs, ∃ cur : Array Value, d.M w base ok xs[i] cs ∧ (∀ (j : Nat) u, cs[j]? = some u → w.cell? ⟨g, i * d.sz + j, none⟩ = some u) ∧ w.heap[g]? = some (.cells cur e (0, 0)) ∧ ok g ∧ base ≤ g := by
  obtain ⟨h0, inner, ⟨hl, ho⟩, hr⟩ := h
  rcases ho with ⟨he, _⟩ | ⟨g2, cap, cur, he, hg, hh, hnc, hcm, hcs, htk⟩
  · exact absurd he (by simp)
  · injection he with e1 e2 e3
    injection e1 with e1
    injection e1 with e1
    subst e1
    refine ⟨_, cur, d.M_mono (fun _ hk => hk.1) (hr.2 i xs[i] (List.getElem?_eq_getElem hi)), fun j u hu => ?_, hh, h0 g (by simp [Value.ownBlock]), hg⟩
    rw [blk_cell hh, ← Array.getElem?_toList]
    have hj : j < d.sz := by
      have := (List.getElem?_eq_some_iff.1 hu).1
      rw [List.length_take] at this
      omega
    rw [List.getElem?_take_of_lt hj, List.getElem?_drop, ← htk] at hu
    have hlt := (List.getElem?_eq_some_iff.1 hu).1
    rw [List.length_take] at hlt
    rw [List.getElem?_take_of_lt (by omega)] at hu
    exact hu
end Go.Proofs.Ytijmhelacmjggaa.P
namespace Go.Proofs.Ytijmhelacmjggaa.P
set_option linter.unusedVariables false
set_option linter.unusedSimpArgs false
open Go.RowKit Go.Proofs.YtijmhelacmjggaaW.PrintWords Go.Proofs.YtijmhelacmjggaaW.PrintLast Go.Proofs.YtijmhelacmjggaaW.PrintMore Go.Proofs.YtijmhelacmjggaaEv
def nm_Span (x : S103) : Nat := 1 + 1
theorem one_Span (x : S103) : 1 ≤ nm_Span x := by
  unfold nm_Span
  omega
theorem keeps_Span : Keeps k103 nm_Span := keeps_iso (keeps_pair (keeps_int _) (keeps_int _)) _ (fun y => ⟨y.1, y.2⟩) (fun _ => rfl)
set_option maxHeartbeats 8000000 in
set_option maxRecDepth 100000 in
theorem markSpanS_walk (P_ : Nat → Prop) (u : Value) (l0 : List S103) (a1 : Int) (n : Nat) (hn : sumN nm_Span l0 = n) (h0 : 0 ≤ a1) (h1 : a1 + n ≤ 9000000000000000000) (w0 w : World) (hB : Below w0.heap.size w0 w) (ho0 : Kd.R k103 103 w w0.heap.size P_ u l0) :
    Calls Try.prog 23 #[u, .int .i64 a1] w fun e w' => e = .returned (.int .i64 (a1 + n)) ∧ Like w w' ∧ Below w0.heap.size w0 w' ∧ Kept w w' P_ := by
  have hlen := sumN_len nm_Span one_Span l0
  obtain ⟨A, c, rfl⟩ := Kd.R_slice ho0
  have HO := Aside0.mk ho0
  have HB := Aside0.mk hB
  clear ho0 hB
  go_enter Try.func23, Try.ntmps23
  go_wp2
  go_loopg [1, 5] l0.length (fun gg v1 v5 w' => ∃ kk : Nat, kk ≤ l0.length ∧ l0.length - kk ≤ gg ∧ v1 = .int .i64 (a1 + (sumN nm_Span (l0.take kk) : Nat)) ∧ v5 = .int .i64 kk ∧ Aside0 (Like w w') ∧ Aside0 (Below w0.heap.size w0 w') ∧ Aside0 (Kept w w' P_))
  case atStart => exact ⟨0, Nat.zero_le _, by omega, by simp [sumN], rfl, ⟨Like.refl _⟩, HB, ⟨Kept.refl _ _⟩⟩
  case round =>
    obtain ⟨kk, hkk, hg, rfl, rfl, HW, HB2, HK⟩ := hrel
    clear HB
    by_cases hlt : kk < l0.length
    · have hltz : (kk : Int) < (l0.length : Int) := by omega
      obtain ⟨ls, hR, hm⟩ := R_like keeps_Span HO.out HW.out
      have hlen2 : ls.length = l0.length := by simpa using congrArg List.length hm
      obtain ⟨g, cap, hv, hgw, _, _⟩ := Kd.R_form hR (by omega)
      have hA : A = some ⟨g, 0, none⟩ := by injection hv
      subst hA
      obtain ⟨cs, cur, hM, hcc, hG, hP, _⟩ := R_at hR kk (by omega)
      have hmk : nm_Span ls[kk] = nm_Span l0[kk] := by
        have := congrArg (fun q => q[kk]?) hm
        simp only [List.getElem?_map] at this
        rw [List.getElem?_eq_getElem (by omega), List.getElem?_eq_getElem hlt] at this
        simpa using this
      have hcnt := sumN_take nm_Span l0 kk hlt
      have hcle := sumN_le nm_Span l0 (kk + 1)
      rw [← hmk] at hcnt
      obtain ⟨x, hxe⟩ : ∃ x, x = ls[kk] := ⟨_, rfl⟩
      rw [← hxe] at hM hcnt
      clear hxe hmk
      obtain rfl := k103_openM hM
      have hx0 : wr.cell? ⟨g, kk * 2, none⟩ = some (.int .i64 x.f0) := hcc 0 _ rfl
      have hx1 : wr.cell? ⟨g, kk * 2 + 1, none⟩ = some (.int .i64 x.f1) := hcc 1 _ rfl
      have X0 := Aside0.mk hx0
      have X1 := Aside0.mk hx1
      have HG := Aside0.mk hG
      have HP := Aside0.mk hP
      have HL := Aside0.mk (Like.refl wr)
      obtain ⟨K, hK⟩ : ∃ K : Int, a1 + (sumN nm_Span (l0.take kk) : Nat) = K := ⟨_, rfl⟩
      have hmx : nm_Span x = 1 + 1 := rfl
      rw [hmx] at hcnt
      clear hmx
      have hK0 : 0 ≤ K := by omega
      have hK1 : K + 1 + 1 = a1 + (sumN nm_Span (l0.take (kk + 1)) : Nat) := by omega
      have hK2 : K + 1 + 1 ≤ 9000000000000000000 := by omega
      rw [hK]
      clear hcc hM hG hP hv hm hR hcnt hcle hx0 hx1
      have qw0 : IntKind.i64.wrap (K + 1) = K + 1 := by rw [i64_w]; exact wrap_id (by omega) (by omega)
      have qw1 : IntKind.i64.wrap (K + 1 + 1) = K + 1 + 1 := by rw [i64_w]; exact wrap_id (by omega) (by omega)
      have T1 : Aside0 True := ⟨trivial⟩
      have T2 : Aside0 True := ⟨trivial⟩
      obtain ⟨y0, hc0, hf0⟩ := like_int HL.out HG.out X0.out
      go_wp2_with (first | ((with_reducible refine gate_store (t := 2) (p := 16) rfl ?_); clear T1; refine store_event (t := 2) (p := 16) (v := ?vo_w10) (w1 := (wr.setCell ⟨g, kk * 2, none⟩ (.int .i64 (K)))) ?hg ?ho ?hn ?hr ?_; (case ho => rfl); (case hg => rfl); (case hn => rfl); (case hr => first | (go_simp; done) | (go_simp; rfl)); intro w10 hw; replace HL := Aside0.mk (show Like wr w10 from (by rw [hw]; exact Like.put_int HL.out HG.out X0.out)); replace HB2 := Aside0.mk (show Below w0.heap.size w0 w10 from (by rw [hw]; exact below_set HB2.out hgw)); replace HK := Aside0.mk (show Kept w w10 P_ from (by rw [hw]; exact Kept.setCell HK.out (.inl HP.out) _)); clear hw hc0 hf0; obtain ⟨y1, hc1, hf1⟩ := like_int HL.out HG.out X1.out) | ((with_reducible refine gate_store (t := 2) (p := 23) rfl ?_); clear T2; refine store_event (t := 2) (p := 23) (v := ?vo_w11) (w1 := (w10.setCell ⟨g, kk * 2 + 1, none⟩ (.int .i64 (K + 1)))) ?hg ?ho ?hn ?hr ?_; (case ho => rfl); (case hg => rfl); (case hn => rfl); (case hr => first | (go_simp; done) | (go_simp; rfl)); intro w11 hw; replace HL := Aside0.mk (show Like wr w11 from (by rw [hw]; exact Like.put_int HL.out HG.out X1.out)); replace HB2 := Aside0.mk (show Below w0.heap.size w0 w11 from (by rw [hw]; exact below_set HB2.out hgw)); replace HK := Aside0.mk (show Kept w w11 P_ from (by rw [hw]; exact Kept.setCell HK.out (.inl HP.out) _)); clear hw hc1 hf1))
      go_roundg (l0.length - (kk + 1))
      case measure => omega
      case rel => exact ⟨kk + 1, by omega, by omega, by (first | (congr 1; omega) | (congr 1; done) | (congr 2; omega)), by go_num, ⟨HW.out.trans HL.out⟩, ⟨HB2.out⟩, ⟨HK.out⟩⟩
    · have hltz : ¬ (kk : Int) < (l0.length : Int) := by omega
      have hk : kk = l0.length := by omega
      subst hk
      rw [List.take_length, hn]
      go_wp2
      go_ret
      exact ⟨rfl, HW.out, HB2.out, HK.out⟩
set_option maxHeartbeats 8000000 in
set_option maxRecDepth 100000 in
theorem markInt64S_walk (P_ : Nat → Prop) (u : Value) (l0 : List Int) (a1 : Int) (n : Nat) (hn : sumN (fun _ => 1) l0 = n) (h0 : 0 ≤ a1) (h1 : a1 + n ≤ 9000000000000000000) (w0 w : World) (hB : Below w0.heap.size w0 w) (ho0 : Kd.R (Kd.int .i64) 2 w w0.heap.size P_ u l0) :
    Calls Try.prog 42 #[u, .int .i64 a1] w fun e w' => e = .returned (.int .i64 (a1 + n)) ∧ Like w w' ∧ Below w0.heap.size w0 w' ∧ Kept w w' P_ := by
  have hlen := sumN_len (fun _ => 1) (fun _ => Nat.le_refl _) l0
  obtain ⟨A, c, rfl⟩ := Kd.R_slice ho0
  have HO := Aside0.mk ho0
  have HB := Aside0.mk hB
  clear ho0 hB
  go_enter Try.func42, Try.ntmps42
  go_wp2
  go_loopg [1, 5] l0.length (fun gg v1 v5 w' => ∃ kk : Nat, kk ≤ l0.length ∧ l0.length - kk ≤ gg ∧ v1 = .int .i64 (a1 + (sumN (fun _ => 1) (l0.take kk) : Nat)) ∧ v5 = .int .i64 kk ∧ Aside0 (Like w w') ∧ Aside0 (Below w0.heap.size w0 w') ∧ Aside0 (Kept w w' P_))
  case atStart => exact ⟨0, Nat.zero_le _, by omega, by simp [sumN], rfl, ⟨Like.refl _⟩, HB, ⟨Kept.refl _ _⟩⟩
  case round =>
    obtain ⟨kk, hkk, hg, rfl, rfl, HW, HB2, HK⟩ := hrel
    clear HB
    by_cases hlt : kk < l0.length
    · have hltz : (kk : Int) < (l0.length : Int) := by omega
      obtain ⟨ls, hR, hm⟩ := R_like (keeps_int .i64) HO.out HW.out
      have hlen2 : ls.length = l0.length := by simpa using congrArg List.length hm
      obtain ⟨g, cap, hv, hgw, _, _⟩ := Kd.R_form hR (by omega)
      have hA : A = some ⟨g, 0, none⟩ := by injection hv
      subst hA
      obtain ⟨cs, cur, hM, hcc, hG, hP, _⟩ := R_at hR kk (by omega)
      have hcnt := sumN_take (fun _ => 1) l0 kk hlt
      have hcle := sumN_le (fun _ => 1) l0 (kk + 1)
      obtain ⟨x, hxe⟩ : ∃ x, x = ls[kk] := ⟨_, rfl⟩
      rw [← hxe] at hM
      clear hxe
      have hM : cs = [.int .i64 x] := hM
      subst hM
      have hx0 := hcc 0 _ rfl
      rw [show kk * (Kd.int .i64).sz + 0 = kk from Nat.mul_one kk] at hx0
      have X0 := Aside0.mk hx0
      have HG := Aside0.mk hG
      have HP := Aside0.mk hP
      have HL := Aside0.mk (Like.refl wr)
      obtain ⟨K, hK⟩ : ∃ K : Int, a1 + (sumN (fun _ => 1) (l0.take kk) : Nat) = K := ⟨_, rfl⟩
      have hK0 : 0 ≤ K := by omega
      have hK1 : K + 1 = a1 + (sumN (fun _ => 1) (l0.take (kk + 1)) : Nat) := by omega
      have hK2 : K + 1 ≤ 9000000000000000000 := by omega
      rw [hK]
      clear hcc hG hP hv hm hR hcnt hcle hx0
      have qw0 : IntKind.i64.wrap (K + 1) = K + 1 := by rw [i64_w]; exact wrap_id (by omega) (by omega)
      have T1 : Aside0 True := ⟨trivial⟩
      obtain ⟨y0, hc0, hf0⟩ := like_int HL.out HG.out X0.out
      go_wp2_with ((with_reducible refine gate_store (t := 2) (p := 15) rfl ?_); clear T1; refine store_event (t := 2) (p := 15) (v := ?vo_w10) (w1 := (wr.setCell ⟨g, kk, none⟩ (.int .i64 (K)))) ?hg ?ho ?hn ?hr ?_; (case ho => rfl); (case hg => rfl); (case hn => rfl); (case hr => first | (go_simp; done) | (go_simp; rfl)); intro w10 hw; replace HL := Aside0.mk (show Like wr w10 from (by rw [hw]; exact Like.put_int HL.out HG.out X0.out)); replace HB2 := Aside0.mk (show Below w0.heap.size w0 w10 from (by rw [hw]; exact below_set HB2.out hgw)); replace HK := Aside0.mk (show Kept w w10 P_ from (by rw [hw]; exact Kept.setCell HK.out (.inl HP.out) _)); clear hw hc0 hf0)
      go_roundg (l0.length - (kk + 1))
      case measure => omega
      case rel => exact ⟨kk + 1, by omega, by omega, by (first | (congr 1; omega) | (congr 1; done) | (congr 2; omega)), by go_num, ⟨HW.out.trans HL.out⟩, ⟨HB2.out⟩, ⟨HK.out⟩⟩
    · have hltz : ¬ (kk : Int) < (l0.length : Int) := by omega
      have hk : kk = l0.length := by omega
      subst hk
      rw [List.take_length, hn]
      go_wp2
      go_ret
      exact ⟨rfl, HW.out, HB2.out, HK.out⟩
def nm_RNode (x : S156) : Nat := 1 + (sumN nm_Span x.f1 + (sumN (fun _ => 1) x.f2 + (1 + 1)))
theorem one_RNode (x : S156) : 1 ≤ nm_RNode x := by
  unfold nm_RNode
  omega
theorem keeps_RNode : Keeps k156 nm_RNode := keeps_iso (keeps_pair (keeps_int _) (keeps_pair (keeps_slice keeps_Span _) (keeps_pair (keeps_slice (keeps_int .i64) _) (keeps_pair (keeps_int _) (keeps_int _))))) _ (fun y => ⟨y.1, y.2.1, y.2.2.1, y.2.2.2.1, y.2.2.2.2⟩) (fun _ => rfl)
set_option maxHeartbeats 8000000 in
set_option maxRecDepth 100000 in
theorem markRNodeS_walk (P_ : Nat → Prop) (u : Value) (l0 : List S156) (a1 : Int) (n : Nat) (hn : sumN nm_RNode l0 = n) (h0 : 0 ≤ a1) (h1 : a1 + n ≤ 9000000000000000000) (w0 w : World) (hB : Below w0.heap.size w0 w) (ho0 : Kd.R k156 156 w w0.heap.size P_ u l0) :
    Calls Try.prog 73 #[u, .int .i64 a1] w fun e w' => e = .returned (.int .i64 (a1 + n)) ∧ Like w w' ∧ Below w0.heap.size w0 w' ∧ Kept w w' P_ := by
  have hlen := sumN_len nm_RNode one_RNode l0
  obtain ⟨A, c, rfl⟩ := Kd.R_slice ho0
  have HO := Aside0.mk ho0
  have HB := Aside0.mk hB
  clear ho0 hB
  go_enter Try.func73, Try.ntmps73
  go_wp2
  go_loopg [1, 5] l0.length (fun gg v1 v5 w' => ∃ kk : Nat, kk ≤ l0.length ∧ l0.length - kk ≤ gg ∧ v1 = .int .i64 (a1 + (sumN nm_RNode (l0.take kk) : Nat)) ∧ v5 = .int .i64 kk ∧ Aside0 (Like w w') ∧ Aside0 (Below w0.heap.size w0 w') ∧ Aside0 (Kept w w' P_))
  case atStart => exact ⟨0, Nat.zero_le _, by omega, by simp [sumN], rfl, ⟨Like.refl _⟩, HB, ⟨Kept.refl _ _⟩⟩
  case round =>
    obtain ⟨kk, hkk, hg, rfl, rfl, HW, HB2, HK⟩ := hrel
    clear HB
    by_cases hlt : kk < l0.length
    · have hltz : (kk : Int) < (l0.length : Int) := by omega
      obtain ⟨ls, hR, hm⟩ := R_like keeps_RNode HO.out HW.out
      have hlen2 : ls.length = l0.length := by simpa using congrArg List.length hm
      obtain ⟨g, cap, hv, hgw, _, _⟩ := Kd.R_form hR (by omega)
      have hA : A = some ⟨g, 0, none⟩ := by injection hv
      subst hA
      obtain ⟨cs, cur, hM, hcc, hG, hP, _⟩ := R_at hR kk (by omega)
      have hmk : nm_RNode ls[kk] = nm_RNode l0[kk] := by
        have := congrArg (fun q => q[kk]?) hm
        simp only [List.getElem?_map] at this
        rw [List.getElem?_eq_getElem (by omega), List.getElem?_eq_getElem hlt] at this
        simpa using this
      have hcnt := sumN_take nm_RNode l0 kk hlt
      have hcle := sumN_le nm_RNode l0 (kk + 1)
      rw [← hmk] at hcnt
      obtain ⟨x, hxe⟩ : ∃ x, x = ls[kk] := ⟨_, rfl⟩
      rw [← hxe] at hM hcnt
      clear hxe hmk
      obtain ⟨v1, v2, rfl, hR1, hR2⟩ := k156_openM hM
      obtain ⟨A1, c1, rfl⟩ := Kd.R_slice hR1
      obtain ⟨A2, c2, rfl⟩ := Kd.R_slice hR2
      have hx0 : wr.cell? ⟨g, kk * 5, none⟩ = some (.int .i64 x.f0) := hcc 0 _ rfl
      have hx1 : wr.cell? ⟨g, kk * 5 + 1, none⟩ = some (.slice A1 x.f1.length c1) := hcc 1 _ rfl
      have hx2 : wr.cell? ⟨g, kk * 5 + 2, none⟩ = some (.slice A2 x.f2.length c2) := hcc 2 _ rfl
      have hx3 : wr.cell? ⟨g, kk * 5 + 3, none⟩ = some (.int .i64 x.f3) := hcc 3 _ rfl
      have hx4 : wr.cell? ⟨g, kk * 5 + 4, none⟩ = some (.int .i64 x.f4) := hcc 4 _ rfl
      have X0 := Aside0.mk hx0
      have X1 := Aside0.mk hx1
      have X2 := Aside0.mk hx2
      have X3 := Aside0.mk hx3
      have X4 := Aside0.mk hx4
      have HR1 := Aside0.mk hR1
      obtain ⟨n1, hn1⟩ : ∃ n_ : Nat, sumN nm_Span x.f1 = n_ := ⟨_, rfl⟩
      have HR2 := Aside0.mk hR2
      obtain ⟨n2, hn2⟩ : ∃ n_ : Nat, sumN (fun _ => 1) x.f2 = n_ := ⟨_, rfl⟩
      have HG := Aside0.mk hG
      have HP := Aside0.mk hP
      have HL := Aside0.mk (Like.refl wr)
      obtain ⟨K, hK⟩ : ∃ K : Int, a1 + (sumN nm_RNode (l0.take kk) : Nat) = K := ⟨_, rfl⟩
      have hmx : nm_RNode x = 1 + (sumN nm_Span x.f1 + (sumN (fun _ => 1) x.f2 + (1 + 1))) := rfl
      rw [hmx] at hcnt
      clear hmx
      rw [hn1, hn2] at hcnt
      have hK0 : 0 ≤ K := by omega
      have hK1 : K + 1 + (n1 : Int) + (n2 : Int) + 1 + 1 = a1 + (sumN nm_RNode (l0.take (kk + 1)) : Nat) := by omega
      have hK2 : K + 1 + (n1 : Int) + (n2 : Int) + 1 + 1 ≤ 9000000000000000000 := by omega
      rw [hK]
      clear hcc hM hG hP hv hm hR hcnt hcle hx0 hx1 hx2 hx3 hx4 hR1 hR2
      have qw0 : IntKind.i64.wrap (K + 1) = K + 1 := by rw [i64_w]; exact wrap_id (by omega) (by omega)
      have qw3 : IntKind.i64.wrap (K + 1 + (n1 : Int) + (n2 : Int) + 1) = K + 1 + (n1 : Int) + (n2 : Int) + 1 := by rw [i64_w]; exact wrap_id (by omega) (by omega)
      have qw4 : IntKind.i64.wrap (K + 1 + (n1 : Int) + (n2 : Int) + 1 + 1) = K + 1 + (n1 : Int) + (n2 : Int) + 1 + 1 := by rw [i64_w]; exact wrap_id (by omega) (by omega)
      have T1 : Aside0 True := ⟨trivial⟩
      have T2 : Aside0 True := ⟨trivial⟩
      have T3 : Aside0 True := ⟨trivial⟩
      have T4 : Aside0 True := ⟨trivial⟩
      have T5 : Aside0 True := ⟨trivial⟩
      obtain ⟨y0, hc0, hf0⟩ := like_int HL.out HG.out X0.out
      go_wp2_with (first | ((with_reducible refine gate_store (t := 2) (p := 16) rfl ?_); clear T1; refine store_event (t := 2) (p := 16) (v := ?vo_w10) (w1 := (wr.setCell ⟨g, kk * 5, none⟩ (.int .i64 (K)))) ?hg ?ho ?hn ?hr ?_; (case ho => rfl); (case hg => rfl); (case hn => rfl); (case hr => first | (go_simp; done) | (go_simp; rfl)); intro w10 hw; replace HL := Aside0.mk (show Like wr w10 from (by rw [hw]; exact Like.put_int HL.out HG.out X0.out)); replace HB2 := Aside0.mk (show Below w0.heap.size w0 w10 from (by rw [hw]; exact below_set HB2.out hgw)); replace HK := Aside0.mk (show Kept w w10 P_ from (by rw [hw]; exact Kept.setCell HK.out (.inl HP.out) _)); clear hw hc0 hf0; have hc1 := like_slice HL.out HG.out X1.out) | (go_at_call 23; clear T2; obtain ⟨ys, hRy, hmy⟩ := R_like keeps_Span HR1.out HL.out; refine (markSpanS_walk P_ _ ys (K + 1) n1 ((sumN_map _ _ _ hmy).trans hn1) (by omega) (by omega) w0 _ HB2.out hRy).mono ?_; rintro e w11 ⟨rfl, hL_, hB3, hK3⟩; replace HL := Aside0.mk (HL.out.trans hL_); replace HB2 := Aside0.mk hB3; replace HK := Aside0.mk (HK.out.then_ hK3 (fun k hk => .inl hk)); clear hRy hmy hL_ hB3 hK3 hc1; have hc2 := like_slice HL.out HG.out X2.out) | (go_at_call 42; clear T3; obtain ⟨ys, hRy, hmy⟩ := R_like (keeps_int .i64) HR2.out HL.out; refine (markInt64S_walk P_ _ ys (K + 1 + (n1 : Int)) n2 ((sumN_map _ _ _ hmy).trans hn2) (by omega) (by omega) w0 _ HB2.out hRy).mono ?_; rintro e w12 ⟨rfl, hL_, hB3, hK3⟩; replace HL := Aside0.mk (HL.out.trans hL_); replace HB2 := Aside0.mk hB3; replace HK := Aside0.mk (HK.out.then_ hK3 (fun k hk => .inl hk)); clear hRy hmy hL_ hB3 hK3 hc2; obtain ⟨y3, hc3, hf3⟩ := like_int HL.out HG.out X3.out) | ((with_reducible refine gate_store (t := 2) (p := 37) rfl ?_); clear T4; refine store_event (t := 2) (p := 37) (v := ?vo_w13) (w1 := (w12.setCell ⟨g, kk * 5 + 3, none⟩ (.int .i64 (K + 1 + (n1 : Int) + (n2 : Int))))) ?hg ?ho ?hn ?hr ?_; (case ho => rfl); (case hg => rfl); (case hn => rfl); (case hr => first | (go_simp; done) | (go_simp; rfl)); intro w13 hw; replace HL := Aside0.mk (show Like wr w13 from (by rw [hw]; exact Like.put_int HL.out HG.out X3.out)); replace HB2 := Aside0.mk (show Below w0.heap.size w0 w13 from (by rw [hw]; exact below_set HB2.out hgw)); replace HK := Aside0.mk (show Kept w w13 P_ from (by rw [hw]; exact Kept.setCell HK.out (.inl HP.out) _)); clear hw hc3 hf3; obtain ⟨y4, hc4, hf4⟩ := like_int HL.out HG.out X4.out) | ((with_reducible refine gate_store (t := 2) (p := 44) rfl ?_); clear T5; refine store_event (t := 2) (p := 44) (v := ?vo_w14) (w1 := (w13.setCell ⟨g, kk * 5 + 4, none⟩ (.int .i64 (K + 1 + (n1 : Int) + (n2 : Int) + 1)))) ?hg ?ho ?hn ?hr ?_; (case ho => rfl); (case hg => rfl); (case hn => rfl); (case hr => first | (go_simp; done) | (go_simp; rfl)); intro w14 hw; replace HL := Aside0.mk (show Like wr w14 from (by rw [hw]; exact Like.put_int HL.out HG.out X4.out)); replace HB2 := Aside0.mk (show Below w0.heap.size w0 w14 from (by rw [hw]; exact below_set HB2.out hgw)); replace HK := Aside0.mk (show Kept w w14 P_ from (by rw [hw]; exact Kept.setCell HK.out (.inl HP.out) _)); clear hw hc4 hf4))
      go_roundg (l0.length - (kk + 1))
      case measure => omega
      case rel => exact ⟨kk + 1, by omega, by omega, by (first | (congr 1; omega) | (congr 1; done) | (congr 2; omega)), by go_num, ⟨HW.out.trans HL.out⟩, ⟨HB2.out⟩, ⟨HK.out⟩⟩
    · have hltz : ¬ (kk : Int) < (l0.length : Int) := by omega
      have hk : kk = l0.length := by omega
      subst hk
      rw [List.take_length, hn]
      go_wp2
      go_ret
      exact ⟨rfl, HW.out, HB2.out, HK.out⟩
def nm_Rule (x : S113) : Nat := 1 + (sumN nm_RNode x.f1.f0 + (1 + (1 + 1)))
theorem one_Rule (x : S113) : 1 ≤ nm_Rule x := by
  unfold nm_Rule
  omega
theorem keeps_Rule : Keeps k113 nm_Rule := keeps_iso (keeps_pair keeps_string (keeps_pair (keeps_iso (keeps_slice keeps_RNode _) (fun x : S29 => x.f0) (fun y => ⟨y⟩) (fun _ => rfl)) (keeps_pair keeps_bool (keeps_pair (keeps_int _) keeps_string)))) _ (fun y => ⟨y.1, y.2.1, y.2.2.1, y.2.2.2.1, y.2.2.2.2⟩) (fun _ => rfl)
set_option maxHeartbeats 8000000 in
set_option maxRecDepth 100000 in
theorem markRuleS_walk (P_ : Nat → Prop) (u : Value) (l0 : List S113) (a1 : Int) (n : Nat) (hn : sumN nm_Rule l0 = n) (h0 : 0 ≤ a1) (h1 : a1 + n ≤ 9000000000000000000) (w0 w : World) (hB : Below w0.heap.size w0 w) (ho0 : Kd.R k113 113 w w0.heap.size P_ u l0) :
    Calls Try.prog 135 #[u, .int .i64 a1] w fun e w' => e = .returned (.int .i64 (a1 + n)) ∧ Like w w' ∧ Below w0.heap.size w0 w' ∧ Kept w w' P_ := by
  have hlen := sumN_len nm_Rule one_Rule l0
  obtain ⟨A, c, rfl⟩ := Kd.R_slice ho0
  have HO := Aside0.mk ho0
  have HB := Aside0.mk hB
  clear ho0 hB
  go_enter Try.func135, Try.ntmps135
  go_wp2
  go_loopg [1, 5] l0.length (fun gg v1 v5 w' => ∃ kk : Nat, kk ≤ l0.length ∧ l0.length - kk ≤ gg ∧ v1 = .int .i64 (a1 + (sumN nm_Rule (l0.take kk) : Nat)) ∧ v5 = .int .i64 kk ∧ Aside0 (Like w w') ∧ Aside0 (Below w0.heap.size w0 w') ∧ Aside0 (Kept w w' P_))
  case atStart => exact ⟨0, Nat.zero_le _, by omega, by simp [sumN], rfl, ⟨Like.refl _⟩, HB, ⟨Kept.refl _ _⟩⟩
  case round =>
    obtain ⟨kk, hkk, hg, rfl, rfl, HW, HB2, HK⟩ := hrel
    clear HB
    by_cases hlt : kk < l0.length
    · have hltz : (kk : Int) < (l0.length : Int) := by omega
      obtain ⟨ls, hR, hm⟩ := R_like keeps_Rule HO.out HW.out
      have hlen2 : ls.length = l0.length := by simpa using congrArg List.length hm
      obtain ⟨g, cap, hv, hgw, _, _⟩ := Kd.R_form hR (by omega)
      have hA : A = some ⟨g, 0, none⟩ := by injection hv
      subst hA
      obtain ⟨cs, cur, hM, hcc, hG, hP, _⟩ := R_at hR kk (by omega)
      have hmk : nm_Rule ls[kk] = nm_Rule l0[kk] := by
        have := congrArg (fun q => q[kk]?) hm
        simp only [List.getElem?_map] at this
        rw [List.getElem?_eq_getElem (by omega), List.getElem?_eq_getElem hlt] at this
        simpa using this
      have hcnt := sumN_take nm_Rule l0 kk hlt
      have hcle := sumN_le nm_Rule l0 (kk + 1)
      rw [← hmk] at hcnt
      obtain ⟨x, hxe⟩ : ∃ x, x = ls[kk] := ⟨_, rfl⟩
      rw [← hxe] at hM hcnt
      clear hxe hmk
      obtain ⟨v1, rfl, hR1⟩ := k113_openM hM
      obtain ⟨A1, c1, rfl⟩ := Kd.R_slice hR1
      have hx0 : wr.cell? ⟨g, kk * 5, none⟩ = some (.string x.f0) := hcc 0 _ rfl
      have hx1 : wr.cell? ⟨g, kk * 5 + 1, none⟩ = some (.slice A1 x.f1.f0.length c1) := hcc 1 _ rfl
      have hx2 : wr.cell? ⟨g, kk * 5 + 2, none⟩ = some (.bool x.f2) := hcc 2 _ rfl
      have hx3 : wr.cell? ⟨g, kk * 5 + 3, none⟩ = some (.int .i64 x.f3) := hcc 3 _ rfl
      have hx4 : wr.cell? ⟨g, kk * 5 + 4, none⟩ = some (.string x.f4) := hcc 4 _ rfl
      have X0 := Aside0.mk hx0
      have X1 := Aside0.mk hx1
      have X2 := Aside0.mk hx2
      have X3 := Aside0.mk hx3
      have X4 := Aside0.mk hx4
      have HR1 := Aside0.mk hR1
      obtain ⟨n1, hn1⟩ : ∃ n_ : Nat, sumN nm_RNode x.f1.f0 = n_ := ⟨_, rfl⟩
      have HG := Aside0.mk hG
      have HP := Aside0.mk hP
      have HL := Aside0.mk (Like.refl wr)
      obtain ⟨K, hK⟩ : ∃ K : Int, a1 + (sumN nm_Rule (l0.take kk) : Nat) = K := ⟨_, rfl⟩
      have hmx : nm_Rule x = 1 + (sumN nm_RNode x.f1.f0 + (1 + (1 + 1))) := rfl
      rw [hmx] at hcnt
      clear hmx
      rw [hn1] at hcnt
      have hK0 : 0 ≤ K := by omega
      have hK1 : K + 1 + (n1 : Int) + 1 + 1 + 1 = a1 + (sumN nm_Rule (l0.take (kk + 1)) : Nat) := by omega
      have hK2 : K + 1 + (n1 : Int) + 1 + 1 + 1 ≤ 9000000000000000000 := by omega
      rw [hK]
      clear hcc hM hG hP hv hm hR hcnt hcle hx0 hx1 hx2 hx3 hx4 hR1
      have qw0 : IntKind.i64.wrap (K + 1) = K + 1 := by rw [i64_w]; exact wrap_id (by omega) (by omega)
      have qw2 : IntKind.i64.wrap (K + 1 + (n1 : Int) + 1) = K + 1 + (n1 : Int) + 1 := by rw [i64_w]; exact wrap_id (by omega) (by omega)
      have qw3 : IntKind.i64.wrap (K + 1 + (n1 : Int) + 1 + 1) = K + 1 + (n1 : Int) + 1 + 1 := by rw [i64_w]; exact wrap_id (by omega) (by omega)
      have qw4 : IntKind.i64.wrap (K + 1 + (n1 : Int) + 1 + 1 + 1) = K + 1 + (n1 : Int) + 1 + 1 + 1 := by rw [i64_w]; exact wrap_id (by omega) (by omega)
      obtain ⟨kt0, st0, ht0⟩ := markText_ok (K) (by omega) (by omega)
      have HT0 := Aside0.mk ht0
      clear ht0
      obtain ⟨kt4, st4, ht4⟩ := markText_ok (K + 1 + (n1 : Int) + 1 + 1) (by omega) (by omega)
      have HT4 := Aside0.mk ht4
      clear ht4
      have T1 : Aside0 True := ⟨trivial⟩
      have T2 : Aside0 True := ⟨trivial⟩
      have T3 : Aside0 True := ⟨trivial⟩
      have T4 : Aside0 True := ⟨trivial⟩
      have T5 : Aside0 True := ⟨trivial⟩
      have T6 : Aside0 True := ⟨trivial⟩
      have T7 : Aside0 True := ⟨trivial⟩
      go_wp2_with (first | (go_at_call 99; clear T1; refine (laws_markText.calls kt0 (K) st0 _ HT0.out).mono ?_; rintro e w10 ⟨rfl, hb⟩; replace HL := Aside0.mk (HL.out.below hb); replace HB2 := Aside0.mk (below_step HB2.out hb); replace HK := Aside0.mk (HK.out.below hb); clear hb; obtain ⟨y0, hc0, hf0⟩ := like_string HL.out HG.out X0.out) | ((with_reducible refine gate_store (t := 9) (p := 17) rfl ?_); clear T2; refine store_event (t := 9) (p := 17) (v := ?vo_w11) (w1 := (w10.setCell ⟨g, kk * 5, none⟩ (.string st0))) ?hg ?ho ?hn ?hr ?_; (case ho => rfl); (case hg => rfl); (case hn => rfl); (case hr => first | (go_simp; done) | (go_simp; rfl)); intro w11 hw; replace HL := Aside0.mk (show Like wr w11 from (by rw [hw]; exact Like.put_string HL.out HG.out X0.out)); replace HB2 := Aside0.mk (show Below w0.heap.size w0 w11 from (by rw [hw]; exact below_set HB2.out hgw)); replace HK := Aside0.mk (show Kept w w11 P_ from (by rw [hw]; exact Kept.setCell HK.out (.inl HP.out) _)); clear hw hc0 hf0; have hc1 := like_slice HL.out HG.out X1.out) | (go_at_call 73; clear T3; obtain ⟨ys, hRy, hmy⟩ := R_like keeps_RNode HR1.out HL.out; refine (markRNodeS_walk P_ _ ys (K + 1) n1 ((sumN_map _ _ _ hmy).trans hn1) (by omega) (by omega) w0 _ HB2.out hRy).mono ?_; rintro e w12 ⟨rfl, hL_, hB3, hK3⟩; replace HL := Aside0.mk (HL.out.trans hL_); replace HB2 := Aside0.mk hB3; replace HK := Aside0.mk (HK.out.then_ hK3 (fun k hk => .inl hk)); clear hRy hmy hL_ hB3 hK3 hc1; obtain ⟨y2, hc2, hf2⟩ := like_bool HL.out HG.out X2.out) | ((with_reducible refine gate_store (t := 4) (p := 34) rfl ?_); clear T4; refine store_event (t := 4) (p := 34) (v := ?vo_w13) (w1 := ?w1q) ?hg ?ho ?hn ?hr ?_; (case ho => rfl); (case hg => rfl); (case hn => rfl); (case hr => first | (go_simp; done) | (go_simp; rfl)); intro w13 hw; replace HL := Aside0.mk (show Like wr w13 from (by rw [hw]; exact Like.put_bool HL.out HG.out X2.out)); replace HB2 := Aside0.mk (show Below w0.heap.size w0 w13 from (by rw [hw]; exact below_set HB2.out hgw)); replace HK := Aside0.mk (show Kept w w13 P_ from (by rw [hw]; exact Kept.setCell HK.out (.inl HP.out) _)); clear hw hc2 hf2; obtain ⟨y3, hc3, hf3⟩ := like_int HL.out HG.out X3.out) | ((with_reducible refine gate_store (t := 2) (p := 41) rfl ?_); clear T5; refine store_event (t := 2) (p := 41) (v := ?vo_w14) (w1 := (w13.setCell ⟨g, kk * 5 + 3, none⟩ (.int .i64 (K + 1 + (n1 : Int) + 1)))) ?hg ?ho ?hn ?hr ?_; (case ho => rfl); (case hg => rfl); (case hn => rfl); (case hr => first | (go_simp; done) | (go_simp; rfl)); intro w14 hw; replace HL := Aside0.mk (show Like wr w14 from (by rw [hw]; exact Like.put_int HL.out HG.out X3.out)); replace HB2 := Aside0.mk (show Below w0.heap.size w0 w14 from (by rw [hw]; exact below_set HB2.out hgw)); replace HK := Aside0.mk (show Kept w w14 P_ from (by rw [hw]; exact Kept.setCell HK.out (.inl HP.out) _)); clear hw hc3 hf3) | (go_at_call 99; clear T6; refine (laws_markText.calls kt4 (K + 1 + (n1 : Int) + 1 + 1) st4 _ HT4.out).mono ?_; rintro e w15 ⟨rfl, hb⟩; replace HL := Aside0.mk (HL.out.below hb); replace HB2 := Aside0.mk (below_step HB2.out hb); replace HK := Aside0.mk (HK.out.below hb); clear hb; obtain ⟨y4, hc4, hf4⟩ := like_string HL.out HG.out X4.out) | ((with_reducible refine gate_store (t := 9) (p := 49) rfl ?_); clear T7; refine store_event (t := 9) (p := 49) (v := ?vo_w16) (w1 := (w15.setCell ⟨g, kk * 5 + 4, none⟩ (.string st4))) ?hg ?ho ?hn ?hr ?_; (case ho => rfl); (case hg => rfl); (case hn => rfl); (case hr => first | (go_simp; done) | (go_simp; rfl)); intro w16 hw; replace HL := Aside0.mk (show Like wr w16 from (by rw [hw]; exact Like.put_string HL.out HG.out X4.out)); replace HB2 := Aside0.mk (show Below w0.heap.size w0 w16 from (by rw [hw]; exact below_set HB2.out hgw)); replace HK := Aside0.mk (show Kept w w16 P_ from (by rw [hw]; exact Kept.setCell HK.out (.inl HP.out) _)); clear hw hc4 hf4))
      go_roundg (l0.length - (kk + 1))
      case measure => omega
      case rel => exact ⟨kk + 1, by omega, by omega, by (first | (congr 1; omega) | (congr 1; done) | (congr 2; omega)), by go_num, ⟨HW.out.trans HL.out⟩, ⟨HB2.out⟩, ⟨HK.out⟩⟩
    · have hltz : ¬ (kk : Int) < (l0.length : Int) := by omega
      have hk : kk = l0.length := by omega
      subst hk
      rw [List.take_length, hn]
      go_wp2
      go_ret
      exact ⟨rfl, HW.out, HB2.out, HK.out⟩
def nm_Mode (x : S108) : Nat := 1 + sumN nm_Rule x.f1
theorem one_Mode (x : S108) : 1 ≤ nm_Mode x := by
  unfold nm_Mode
  omega
theorem keeps_Mode : Keeps k108 nm_Mode := keeps_iso (keeps_pair keeps_string (keeps_slice keeps_Rule _)) _ (fun y => ⟨y.1, y.2⟩) (fun _ => rfl)
set_option maxHeartbeats 8000000 in
set_option maxRecDepth 100000 in
theorem markModeS_walk (P_ : Nat → Prop) (u : Value) (l0 : List S108) (a1 : Int) (n : Nat) (hn : sumN nm_Mode l0 = n) (h0 : 0 ≤ a1) (h1 : a1 + n ≤ 9000000000000000000) (w0 w : World) (hB : Below w0.heap.size w0 w) (ho0 : Kd.R k108 108 w w0.heap.size P_ u l0) :
    Calls Try.prog 96 #[u, .int .i64 a1] w fun e w' => e = .returned (.int .i64 (a1 + n)) ∧ Like w w' ∧ Below w0.heap.size w0 w' ∧ Kept w w' P_ := by
  have hlen := sumN_len nm_Mode one_Mode l0
  obtain ⟨A, c, rfl⟩ := Kd.R_slice ho0
  have HO := Aside0.mk ho0
  have HB := Aside0.mk hB
  clear ho0 hB
  go_enter Try.func96, Try.ntmps96
  go_wp2
  go_loopg [1, 5] l0.length (fun gg v1 v5 w' => ∃ kk : Nat, kk ≤ l0.length ∧ l0.length - kk ≤ gg ∧ v1 = .int .i64 (a1 + (sumN nm_Mode (l0.take kk) : Nat)) ∧ v5 = .int .i64 kk ∧ Aside0 (Like w w') ∧ Aside0 (Below w0.heap.size w0 w') ∧ Aside0 (Kept w w' P_))
  case atStart => exact ⟨0, Nat.zero_le _, by omega, by simp [sumN], rfl, ⟨Like.refl _⟩, HB, ⟨Kept.refl _ _⟩⟩
  case round =>
    obtain ⟨kk, hkk, hg, rfl, rfl, HW, HB2, HK⟩ := hrel
    clear HB
    by_cases hlt : kk < l0.length
    · have hltz : (kk : Int) < (l0.length : Int) := by omega
      obtain ⟨ls, hR, hm⟩ := R_like keeps_Mode HO.out HW.out
      have hlen2 : ls.length = l0.length := by simpa using congrArg List.length hm
      obtain ⟨g, cap, hv, hgw, _, _⟩ := Kd.R_form hR (by omega)
      have hA : A = some ⟨g, 0, none⟩ := by injection hv
      subst hA
      obtain ⟨cs, cur, hM, hcc, hG, hP, _⟩ := R_at hR kk (by omega)
      have hmk : nm_Mode ls[kk] = nm_Mode l0[kk] := by
        have := congrArg (fun q => q[kk]?) hm
        simp only [List.getElem?_map] at this
        rw [List.getElem?_eq_getElem (by omega), List.getElem?_eq_getElem hlt] at this
        simpa using this
      have hcnt := sumN_take nm_Mode l0 kk hlt
      have hcle := sumN_le nm_Mode l0 (kk + 1)
      rw [← hmk] at hcnt
      obtain ⟨x, hxe⟩ : ∃ x, x = ls[kk] := ⟨_, rfl⟩
      rw [← hxe] at hM hcnt
      clear hxe hmk
      obtain ⟨v1, rfl, hR1⟩ := k108_openM hM
      obtain ⟨A1, c1, rfl⟩ := Kd.R_slice hR1
      have hx0 : wr.cell? ⟨g, kk * 2, none⟩ = some (.string x.f0) := hcc 0 _ rfl
      have hx1 : wr.cell? ⟨g, kk * 2 + 1, none⟩ = some (.slice A1 x.f1.length c1) := hcc 1 _ rfl
      have X0 := Aside0.mk hx0
      have X1 := Aside0.mk hx1
      have HR1 := Aside0.mk hR1
      obtain ⟨n1, hn1⟩ : ∃ n_ : Nat, sumN nm_Rule x.f1 = n_ := ⟨_, rfl⟩
      have HG := Aside0.mk hG
      have HP := Aside0.mk hP
      have HL := Aside0.mk (Like.refl wr)
      obtain ⟨K, hK⟩ : ∃ K : Int, a1 + (sumN nm_Mode (l0.take kk) : Nat) = K := ⟨_, rfl⟩
      have hmx : nm_Mode x = 1 + sumN nm_Rule x.f1 := rfl
      rw [hmx] at hcnt
      clear hmx
      rw [hn1] at hcnt
      have hK0 : 0 ≤ K := by omega
      have hK1 : K + 1 + (n1 : Int) = a1 + (sumN nm_Mode (l0.take (kk + 1)) : Nat) := by omega
      have hK2 : K + 1 + (n1 : Int) ≤ 9000000000000000000 := by omega
      rw [hK]
      clear hcc hM hG hP hv hm hR hcnt hcle hx0 hx1 hR1
      have qw0 : IntKind.i64.wrap (K + 1) = K + 1 := by rw [i64_w]; exact wrap_id (by omega) (by omega)
      obtain ⟨kt0, st0, ht0⟩ := markText_ok (K) (by omega) (by omega)
      have HT0 := Aside0.mk ht0
      clear ht0
      have T1 : Aside0 True := ⟨trivial⟩
      have T2 : Aside0 True := ⟨trivial⟩
      have T3 : Aside0 True := ⟨trivial⟩
      go_wp2_with (first | (go_at_call 99; clear T1; refine (laws_markText.calls kt0 (K) st0 _ HT0.out).mono ?_; rintro e w10 ⟨rfl, hb⟩; replace HL := Aside0.mk (HL.out.below hb); replace HB2 := Aside0.mk (below_step HB2.out hb); replace HK := Aside0.mk (HK.out.below hb); clear hb; obtain ⟨y0, hc0, hf0⟩ := like_string HL.out HG.out X0.out) | ((with_reducible refine gate_store (t := 9) (p := 17) rfl ?_); clear T2; refine store_event (t := 9) (p := 17) (v := ?vo_w11) (w1 := (w10.setCell ⟨g, kk * 2, none⟩ (.string st0))) ?hg ?ho ?hn ?hr ?_; (case ho => rfl); (case hg => rfl); (case hn => rfl); (case hr => first | (go_simp; done) | (go_simp; rfl)); intro w11 hw; replace HL := Aside0.mk (show Like wr w11 from (by rw [hw]; exact Like.put_string HL.out HG.out X0.out)); replace HB2 := Aside0.mk (show Below w0.heap.size w0 w11 from (by rw [hw]; exact below_set HB2.out hgw)); replace HK := Aside0.mk (show Kept w w11 P_ from (by rw [hw]; exact Kept.setCell HK.out (.inl HP.out) _)); clear hw hc0 hf0; have hc1 := like_slice HL.out HG.out X1.out) | (go_at_call 135; clear T3; obtain ⟨ys, hRy, hmy⟩ := R_like keeps_Rule HR1.out HL.out; refine (markRuleS_walk P_ _ ys (K + 1) n1 ((sumN_map _ _ _ hmy).trans hn1) (by omega) (by omega) w0 _ HB2.out hRy).mono ?_; rintro e w12 ⟨rfl, hL_, hB3, hK3⟩; replace HL := Aside0.mk (HL.out.trans hL_); replace HB2 := Aside0.mk hB3; replace HK := Aside0.mk (HK.out.then_ hK3 (fun k hk => .inl hk)); clear hRy hmy hL_ hB3 hK3 hc1))
      go_roundg (l0.length - (kk + 1))
      case measure => omega
      case rel => exact ⟨kk + 1, by omega, by omega, by (first | (congr 1; omega) | (congr 1; done) | (congr 2; omega)), by go_num, ⟨HW.out.trans HL.out⟩, ⟨HB2.out⟩, ⟨HK.out⟩⟩
    · have hltz : ¬ (kk : Int) < (l0.length : Int) := by omega
      have hk : kk = l0.length := by omega
      subst hk
      rw [List.take_length, hn]
      go_wp2
      go_ret
      exact ⟨rfl, HW.out, HB2.out, HK.out⟩
end Go.Proofs.Ytijmhelacmjggaa.P
namespace Go.Proofs.Ytijmhelacmjggaa.P
set_option linter.unusedVariables false
open Go.RowKit Go.Proofs.YtijmhelacmjggaaW.PrintWords Go.Proofs.YtijmhelacmjggaaW.PrintLast Go.Proofs.YtijmhelacmjggaaW.PrintMore Go.Proofs.YtijmhelacmjggaaEv
set_option maxHeartbeats 8000000 in
theorem markGrammar_walk (P_ : Nat → Prop) (A : Option Addr) (q c : Nat) (l0 : List S108) (a1 : Int) (n : Nat) (hn : sumN nm_Mode l0 = n) (h0 : 0 ≤ a1) (h1 : a1 + n ≤ 9000000000000000000) (w0 w : World) (hB : Below w0.heap.size w0 w) (ho0 : Kd.R k108 108 w w0.heap.size P_ (.slice A q c) l0) :
    Calls Try.prog 41 #[.agg #[.slice A q c], .int .i64 a1] w fun e w' => e = .returned (.int .i64 (a1 + n)) ∧ Below w0.heap.size w0 w' ∧ Kept w w' P_ := by
  have HO := Aside0.mk ho0
  have HB := Aside0.mk hB
  clear ho0 hB
  go_enter Try.func41, Try.ntmps41
  go_wp2_with fail
  refine (markModeS_walk P_ _ l0 a1 n hn h0 h1 w0 _ ?hb ?ho).mono ?_
  case hb => repeat (first | exact HB.out | apply below_alloc | apply pw_below_drewN | apply below_drew1)
  case ho => (with_reducible repeat (first | apply Kd.R_alloc | apply Kd.R_drewN | apply Kd.R_drew)); exact HO.out
  rintro e w1 ⟨rfl, _, hB2, hK⟩
  have HB2 := Aside0.mk hB2
  have HK : Aside0 (Kept w w1 P_) := ⟨Kept.then_ (by repeat (first | exact Kept.refl _ _ | apply Kept.alloc | apply Kept.drewN | apply Kept.drew)) hK (fun k hk => .inl hk)⟩
  clear hB2 hK
  go_wp2_with fail
  go_ret
  exact ⟨rfl, HB2.out, HK.out⟩
end Go.Proofs.Ytijmhelacmjggaa.P
namespace Go.Proofs.Ytijmhelacmjggaa.P
open Go.RowKit Go.Proofs.YtijmhelacmjggaaW.PrintWords Go.Proofs.YtijmhelacmjggaaW.PrintLast Go.Proofs.YtijmhelacmjggaaEv
set_option linter.unusedVariables false
set_option linter.unusedSimpArgs false
theorem sumN_few {α β : Type} (m : β → Nat) (f : α → β) (v : α → Nat) (c : Nat) (h : ∀ x, m (f x) ≤ c + c * v x) : ∀ l : List α, sumN m (l.map f) ≤ c * (l.length + ws v l)
  | [] => by simp [sumN]
  | x :: xs => by
    have h1 := sumN_few m f v c h xs
    have h2 := h x
    simp only [List.map_cons, sumN, List.length_cons, ws]
    have e : c * (xs.length + 1 + (v x + ws v xs)) = c * (xs.length + ws v xs) + (c + c * v x) := by
      simp only [Nat.mul_add, Nat.mul_one]
      omega
    omega
theorem sumN_one {α : Type} : ∀ l : List α, sumN (fun _ => 1) l = l.length
  | [] => rfl
  | x :: xs => by simp only [sumN, sumN_one xs, List.length_cons]; omega
theorem sumN_span : ∀ l : List S103, sumN nm_Span l = 2 * l.length
  | [] => rfl
  | x :: xs => by simp only [sumN, sumN_span xs, List.length_cons, nm_Span]; omega
theorem nm_RNode_few (x : S152) : nm_RNode (cRNode x) ≤ 3 + 3 * wRNode x := by
  have e : nm_RNode (cRNode x) = 1 + (sumN nm_Span (x.f1.map cSpan) + (sumN (fun _ => 1) x.f2 + (1 + 1))) := rfl
  have e2 : wRNode x = x.f1.length + x.f2.length := rfl
  rw [e, e2, sumN_one, sumN_span, List.length_map]
  omega
theorem nm_Rule_few (x : S218) : nm_Rule (cRule x) ≤ 4 + 4 * wRule x := by
  have e : nm_Rule (cRule x) = 1 + (sumN nm_RNode (x.f1.f0.map cRNode) + (1 + (1 + 1))) := rfl
  have e2 : wRule x = x.f0.size + (x.f1.f0.length + ws wRNode x.f1.f0) + x.f4.size := rfl
  have h := sumN_few nm_RNode cRNode wRNode 3 nm_RNode_few x.f1.f0
  omega
theorem nm_Mode_few (x : S171) : nm_Mode (cMode x) ≤ 4 + 4 * wMode x := by
  have e : nm_Mode (cMode x) = 1 + sumN nm_Rule (x.f1.map cRule) := rfl
  have e2 : wMode x = x.f0.size + (x.f1.length + ws wRule x.f1) := rfl
  have h := sumN_few nm_Rule cRule wRule 4 nm_Rule_few x.f1
  omega
theorem nm_few (l : List S171) (h : l.length + ws wMode l ≤ 1048576) : sumN nm_Mode (l.map cMode) ≤ 4194304 := by
  have := sumN_few nm_Mode cMode wMode 4 nm_Mode_few l
  omega
end Go.Proofs.Ytijmhelacmjggaa.P
