/- The law FnExactGrammarOk holds for every call: part 2 of 6 of the proof (walks of functions, and what they answer). Conditions: none beyond what the given row says. -/
import Derived.Test.YtijmhelacmjggaaMFnExactGrammarOk0
import Derived.Shelf.Abstract
import Derived.Lib.Hide
-- Made by wip/gen/pp.py of this session over the kit's print of the loaded program: a function, and the contract of its walk. Lean checks it.
namespace Go.Proofs.Ytijmhelacmjggaa.P
open Go.RowKit Go.Proofs.YtijmhelacmjggaaW.PrintWords Go.Proofs.YtijmhelacmjggaaW.PrintLast Go.Proofs.YtijmhelacmjggaaW.PrintMore
attribute [local go_sem] max2_int min2_int max_two min_two max_three min_three max_four min_four   -- for this text's walks alone
set_option linter.unusedVariables false
set_option linter.unusedSimpArgs false

/-! ### spec_l1Name: function 75 -/
mutual
def spec_l1Name.j0 : Nat → ByteArray → Bool → Option (Bool)
 | 0, _, _ => none
 | k + 1, x0, x16 => if x16 = true then (some false) else (spec_l1Name.l0 k x0 0)
def spec_l1Name.l0 : Nat → ByteArray → Int → Option (Bool)
 | 0, _, _ => none
 | k + 1, x0, x3 => if x3 < (x0.size : Int) then (if 0 ≤ x3 then ((spec_l1Digit.f (bt x0 x3)).bind fun t102 => (if t102 = true then (spec_l1Name.l0 k x0 (wrap64 (x3 + 1))) else (if (bt x0 x3) < 97 then (some false) else (if (bt x0 x3) > 122 then (some false) else (spec_l1Name.l0 k x0 (wrap64 (x3 + 1))))))) else (none)) else (some true)
end
def spec_l1Name.f (k : Nat) (a0 : ByteArray) : Option (Bool) := if (a0.size : Int) < 1 then (spec_l1Name.j0 k a0 true) else (if (a0.size : Int) > 12 then (spec_l1Name.j0 k a0 true) else (if 0 < (a0.size : Int) then ((spec_l1Digit.f (bt a0 0)).bind fun t101 => (spec_l1Name.j0 k a0 t101)) else (none)))
theorem spec_l1Name.mono_l : ∀ k, (∀ y0 y1, LeO (spec_l1Name.j0 k y0 y1) (spec_l1Name.j0 (k + 1) y0 y1)) ∧ (∀ y0 y1, LeO (spec_l1Name.l0 k y0 y1) (spec_l1Name.l0 (k + 1) y0 y1))
 | 0 => ⟨fun _ _ r h => by simp [spec_l1Name.j0] at h, fun _ _ r h => by simp [spec_l1Name.l0] at h⟩
 | k + 1 => by
  obtain ⟨ih0, ih1⟩ := spec_l1Name.mono_l k
  refine ⟨?_, ?_⟩
  ·intro y0 y1
   unfold spec_l1Name.j0
   repeat' first
   | (with_reducible exact ih0 _ _)
   | (with_reducible exact ih1 _ _)
   | (with_reducible exact LeO.refl _)
   | (with_reducible exact LeO.none _)
   | (with_reducible refine LeO.ite ?_ ?_)
   | (with_reducible refine LeO.bind ?_ (fun _ => ?_))
   | exact ih0 _ _
   | exact ih1 _ _
   | exact LeO.none _
   | refine LeO.ite ?_ ?_
   | refine LeO.bind ?_ (fun _ => ?_)
  ·intro y0 y1
   unfold spec_l1Name.l0
   repeat' first
   | (with_reducible exact ih0 _ _)
   | (with_reducible exact ih1 _ _)
   | (with_reducible exact LeO.refl _)
   | (with_reducible exact LeO.none _)
   | (with_reducible refine LeO.ite ?_ ?_)
   | (with_reducible refine LeO.bind ?_ (fun _ => ?_))
   | exact ih0 _ _
   | exact ih1 _ _
   | exact LeO.none _
   | refine LeO.ite ?_ ?_
   | refine LeO.bind ?_ (fun _ => ?_)
theorem spec_l1Name.mono : ∀ a0 k, LeO (spec_l1Name.f k a0) (spec_l1Name.f (k + 1) a0) := by
 intro a0 k
 obtain ⟨ih0, ih1⟩ := spec_l1Name.mono_l k
 unfold spec_l1Name.f
 repeat' first
   | (with_reducible exact ih0 _ _)
   | (with_reducible exact ih1 _ _)
   | (with_reducible exact LeO.refl _)
   | (with_reducible exact LeO.none _)
   | (with_reducible refine LeO.ite ?_ ?_)
   | (with_reducible refine LeO.bind ?_ (fun _ => ?_))
   | exact ih0 _ _
   | exact ih1 _ _
   | exact LeO.none _
   | refine LeO.ite ?_ ?_
   | refine LeO.bind ?_ (fun _ => ?_)
set_option maxHeartbeats 8000000 in
set_option maxRecDepth 100000 in
theorem spec_l1Name.calls (k : Nat) (a0 : ByteArray) (r : Bool) (w : World) (h : spec_l1Name.f k a0 = some r) :
  Calls Try.prog 75 #[.string a0] w fun e w' => e = .returned (.bool r) ∧ Drawn0 w w' := by
 have H : (if (a0.size : Int) < 1 then (spec_l1Name.j0 k a0 true) else (if (a0.size : Int) > 12 then (spec_l1Name.j0 k a0 true) else (if 0 < (a0.size : Int) then ((spec_l1Digit.f (bt a0 0)).bind fun t101 => (spec_l1Name.j0 k a0 t101)) else (none)))) = some r := h
 clear h
 have HC2 := Aside0.mk H
 clear H
 go_enter Try.func75, Try.ntmps75
 go_upto_region 1 with (fail)
 go_cut [16] (fun v16 wc => ∃ (kq : Nat) (x16_1 : Bool), v16 = .bool x16_1 ∧ Aside0 (spec_l1Name.j0 kq a0 x16_1 = some r) ∧ Aside0 (kq ≤ k) ∧ Drawn0 w wc)
 case first =>
  have H := HC2.out
  clear HC2
  by_cases c3 : (a0.size : Int) < 1
  ·rw [if_pos c3] at H
   have c3b0 : decide ((a0.size : Int) < 1) = true := decide_eq_true c3
   have c3b1 : decide (a0.size < 1) = true := decide_eq_true (by omega)
   clear c3
   (first | rw [c3b0] | (simp only [i64_w, i32_w]; rw [c3b0]) | skip)
   have H' := Aside0.mk H
   clear H
   go_wp2
   go_meet
   case rel => exact ⟨_, (true), rs_, H', ⟨by first | omega | exact Nat.le_refl _⟩, by repeat (first | exact Drawn0.refl _ | apply Drawn0.step)⟩
  ·rw [if_neg c3] at H
   have c3b0 : decide ((a0.size : Int) < 1) = false := decide_eq_false c3
   have c3b1 : decide (a0.size < 1) = false := decide_eq_false (by omega)
   clear c3
   (first | rw [c3b0] | (simp only [i64_w, i32_w]; rw [c3b0]) | skip)
   by_cases c4 : (a0.size : Int) > 12
   ·rw [if_pos c4] at H
    have c4b0 : decide (12 < (a0.size : Int)) = true := decide_eq_true c4
    have c4b1 : decide (12 < a0.size) = true := decide_eq_true (by omega)
    clear c4
    have H' := Aside0.mk H
    clear H
    go_wp2
    go_meet
    case rel => exact ⟨_, (true), rs_, H', ⟨by first | omega | exact Nat.le_refl _⟩, by repeat (first | exact Drawn0.refl _ | apply Drawn0.step)⟩
   ·rw [if_neg c4] at H
    have c4b0 : decide (12 < (a0.size : Int)) = false := decide_eq_false c4
    have c4b1 : decide (12 < a0.size) = false := decide_eq_false (by omega)
    clear c4
    by_cases c5 : 0 < (a0.size : Int)
    ·rw [if_pos c5] at H
     have c5b0 : decide (0 < (a0.size : Int)) = true := decide_eq_true c5
     have c5b1 : decide (0 < a0.size) = true := decide_eq_true (by omega)
     clear c5
     replace H := Option.bind_eq_some_iff.mp H
     obtain ⟨t101, A70, H⟩ := H
     replace H : (spec_l1Name.j0 k a0 t101) = some r := H
     have A7 := Aside0.mk A70
     clear A70
     have H' := Aside0.mk H
     clear H
     have p6 : 0 ≤ (0 : Int) := (by omega)
     have q6 : 0 < a0.size := (by have : (0 : Int) < (a0.size : Int) := of_decide_eq_true as_; omega)
     have hx6 : ∀ h : 0 < a0.size, ((a0[0]'h).toNat : Int) = bt a0 0 := bt_at a0 0
     clear p6
     have qi6 : (0 < (a0.size : Int)) = True := eq_true (of_decide_eq_true as_)
     replace q6 := eq_true q6
     go_wp2_with (first | (go_at_call 126; (with_reducible refine (spec_l1Digit.calls (bt a0 0) t101 _ A7.out).mono ?_); rintro e w' ⟨rfl, ⟨nd, rfl⟩⟩))
     go_meet
     case rel => exact ⟨_, (t101), rs_, H', ⟨by first | omega | exact Nat.le_refl _⟩, by repeat (first | exact Drawn0.refl _ | apply Drawn0.step)⟩
    ·rw [if_neg c5] at H
     exact absurd H (by simp)
 case rest =>
  clear HC2
  try clear p2
  try clear c3
  try clear c3b0
  try clear c3b1
  try clear c4
  try clear c4b0
  try clear c4b1
  try clear c5
  try clear c5b0
  try clear c5b1
  try clear p6
  try clear q6
  try clear hx6
  try clear qi6
  try clear c7
  try clear p6
  try clear q6
  obtain ⟨kq, x16_1, rfl, HA, HJ1, ⟨mc1, rfl⟩⟩ := hcut
  cases kq with
  | zero => exact absurd HA.out (by simp [spec_l1Name.j0])
  | succ kj1 =>
   have H := HA.out
   clear HA
   simp only [spec_l1Name.j0] at H
   by_cases c8 : x16_1 = true
   ·subst c8
    have H1 : (some false) = some r := by rw [if_pos rfl] at H; exact H
    clear H
    have H := H1
    clear H1
    obtain rfl := Option.some.inj H
    go_wp2
    go_ret
    exact ⟨by first | rfl | (simp; done) | (simp [*]; done), by repeat (first | exact Drawn0.refl _ | apply Drawn0.step)⟩
   ·replace c8 := Bool.eq_false_iff.mpr c8
    subst c8
    have H1 : (spec_l1Name.l0 kj1 a0 0) = some r := by rw [if_neg (show ¬ (false = true) by decide)] at H; exact H
    clear H
    have H := H1
    clear H1
    have H' := Aside0.mk H
    clear H
    go_wp2
    go_loopg [3] kj1 (fun kq v3 w' => ∃ (x3_2 : Int), v3 = .int .i64 x3_2 ∧ Aside0 (spec_l1Name.l0 kq a0 x3_2 = some r) ∧ Aside0 (kq ≤ kj1) ∧ Drawn0 w w')
    case atStart => exact ⟨(0), rs_, H', ⟨Nat.le_refl _⟩, by repeat (first | exact Drawn0.refl _ | apply Drawn0.step)⟩
    case round =>
     clear H'
     try clear c1
     try clear p2
     try clear c3
     try clear c3b0
     try clear c3b1
     try clear c4
     try clear c4b0
     try clear c4b1
     try clear c5
     try clear c5b0
     try clear c5b1
     try clear p6
     try clear q6
     try clear hx6
     try clear qi6
     try clear c7
     try clear c8
     try clear p2
     try clear p6
     try clear q6
     obtain ⟨x3_2, rfl, HA, HK2, ⟨m2, rfl⟩⟩ := hrel
     cases gk with
     | zero => exact absurd HA.out (by simp [spec_l1Name.l0])
     | succ k2 =>
      have H := HA.out
      clear HA
      simp only [spec_l1Name.l0] at H
      by_cases c9 : x3_2 < (a0.size : Int)
      ·rw [if_pos c9] at H
       have c9b0 : decide (x3_2 < (a0.size : Int)) = true := decide_eq_true c9
       clear c9
       by_cases c10 : 0 ≤ x3_2
       ·rw [if_pos c10] at H
        have c10b0 : decide (0 ≤ x3_2) = true := decide_eq_true c10
        clear c10
        replace H := Option.bind_eq_some_iff.mp H
        obtain ⟨t102, A120, H⟩ := H
        replace H : (if t102 = true then (spec_l1Name.l0 k2 a0 (wrap64 (x3_2 + 1))) else (if (bt a0 x3_2) < 97 then (some false) else (if (bt a0 x3_2) > 122 then (some false) else (spec_l1Name.l0 k2 a0 (wrap64 (x3_2 + 1)))))) = some r := H
        have A12 := Aside0.mk A120
        clear A120
        by_cases c13 : t102 = true
        ·subst c13
         have H1 : (spec_l1Name.l0 k2 a0 (wrap64 (x3_2 + 1))) = some r := by rw [if_pos rfl] at H; exact H
         clear H
         have H := H1
         clear H1
         have H' := Aside0.mk H
         clear H
         have p11 : 0 ≤ (x3_2 : Int) := of_decide_eq_true as_
         have q11 : x3_2 < (a0.size : Int) := of_decide_eq_true as_
         have hx11 := bt_at a0 x3_2
         replace p11 := eq_true p11
         replace q11 := eq_true q11
         go_wp2_with (first | ((with_reducible refine gate_callee (f := 126) rfl ?_); refine gl_ (some 26) rfl rfl Try.func126 #[.int .u8 (bt a0 x3_2)] ?_; (with_reducible refine (spec_l1Digit.calls (bt a0 x3_2) true _ A12.out).mono ?_); rintro e w' ⟨rfl, ⟨nd, rfl⟩⟩; refine ⟨_, rfl, ?_⟩))
         go_roundg k2
         case measure => have := HJ1.out; have := HK2.out; omega
         case rel => exact ⟨(wrap64 (x3_2 + 1)), rs_, H', ⟨by have := HJ1.out; have := HK2.out; omega⟩, by repeat (first | exact Drawn0.refl _ | apply Drawn0.step)⟩
        ·replace c13 := Bool.eq_false_iff.mpr c13
         subst c13
         have H1 : (if (bt a0 x3_2) < 97 then (some false) else (if (bt a0 x3_2) > 122 then (some false) else (spec_l1Name.l0 k2 a0 (wrap64 (x3_2 + 1))))) = some r := by rw [if_neg (show ¬ (false = true) by decide)] at H; exact H
         clear H
         have H := H1
         clear H1
         by_cases c15 : (bt a0 x3_2) < 97
         ·rw [if_pos c15] at H
          have c15b0 : decide ((bt a0 x3_2) < 97) = true := decide_eq_true c15
          clear c15
          obtain rfl := Option.some.inj H
          have p11 : 0 ≤ (x3_2 : Int) := of_decide_eq_true as_
          have q11 : x3_2 < (a0.size : Int) := of_decide_eq_true as_
          have hx11 := bt_at a0 x3_2
          replace p11 := eq_true p11
          replace q11 := eq_true q11
          go_wp2_with (first | ((with_reducible refine gate_callee (f := 126) rfl ?_); refine gl_ (some 26) rfl rfl Try.func126 #[.int .u8 (bt a0 x3_2)] ?_; (with_reducible refine (spec_l1Digit.calls (bt a0 x3_2) false _ A12.out).mono ?_); rintro e w' ⟨rfl, ⟨nd, rfl⟩⟩; refine ⟨_, rfl, ?_⟩; have p14 : 0 ≤ (x3_2 : Int) := of_decide_eq_true as_; have q14 : x3_2 < (a0.size : Int) := of_decide_eq_true as_; have hx14 := bt_at a0 x3_2; replace p14 := eq_true p14; replace q14 := eq_true q14))
          go_ret
          exact ⟨by first | rfl | (simp; done) | (simp [*]; done), by repeat (first | exact Drawn0.refl _ | apply Drawn0.step)⟩
         ·rw [if_neg c15] at H
          have c15b0 : decide ((bt a0 x3_2) < 97) = false := decide_eq_false c15
          clear c15
          by_cases c17 : (bt a0 x3_2) > 122
          ·rw [if_pos c17] at H
           have c17b0 : decide (122 < (bt a0 x3_2)) = true := decide_eq_true c17
           clear c17
           obtain rfl := Option.some.inj H
           have p11 : 0 ≤ (x3_2 : Int) := of_decide_eq_true as_
           have q11 : x3_2 < (a0.size : Int) := of_decide_eq_true as_
           have hx11 := bt_at a0 x3_2
           replace p11 := eq_true p11
           replace q11 := eq_true q11
           go_wp2_with (first | ((with_reducible refine gate_callee (f := 126) rfl ?_); refine gl_ (some 26) rfl rfl Try.func126 #[.int .u8 (bt a0 x3_2)] ?_; (with_reducible refine (spec_l1Digit.calls (bt a0 x3_2) false _ A12.out).mono ?_); rintro e w' ⟨rfl, ⟨nd, rfl⟩⟩; refine ⟨_, rfl, ?_⟩; have p14 : 0 ≤ (x3_2 : Int) := of_decide_eq_true as_; have q14 : x3_2 < (a0.size : Int) := of_decide_eq_true as_; have hx14 := bt_at a0 x3_2; replace p14 := eq_true p14; replace q14 := eq_true q14; have p16 : 0 ≤ (x3_2 : Int) := of_decide_eq_true as_; have q16 : x3_2 < (a0.size : Int) := of_decide_eq_true as_; have hx16 := bt_at a0 x3_2; replace p16 := eq_true p16; replace q16 := eq_true q16))
           go_ret
           exact ⟨by first | rfl | (simp; done) | (simp [*]; done), by repeat (first | exact Drawn0.refl _ | apply Drawn0.step)⟩
          ·rw [if_neg c17] at H
           have c17b0 : decide (122 < (bt a0 x3_2)) = false := decide_eq_false c17
           clear c17
           have H' := Aside0.mk H
           clear H
           have p11 : 0 ≤ (x3_2 : Int) := of_decide_eq_true as_
           have q11 : x3_2 < (a0.size : Int) := of_decide_eq_true as_
           have hx11 := bt_at a0 x3_2
           replace p11 := eq_true p11
           replace q11 := eq_true q11
           go_wp2_with (first | ((with_reducible refine gate_callee (f := 126) rfl ?_); refine gl_ (some 26) rfl rfl Try.func126 #[.int .u8 (bt a0 x3_2)] ?_; (with_reducible refine (spec_l1Digit.calls (bt a0 x3_2) false _ A12.out).mono ?_); rintro e w' ⟨rfl, ⟨nd, rfl⟩⟩; refine ⟨_, rfl, ?_⟩; have p14 : 0 ≤ (x3_2 : Int) := of_decide_eq_true as_; have q14 : x3_2 < (a0.size : Int) := of_decide_eq_true as_; have hx14 := bt_at a0 x3_2; replace p14 := eq_true p14; replace q14 := eq_true q14; have p16 : 0 ≤ (x3_2 : Int) := of_decide_eq_true as_; have q16 : x3_2 < (a0.size : Int) := of_decide_eq_true as_; have hx16 := bt_at a0 x3_2; replace p16 := eq_true p16; replace q16 := eq_true q16))
           go_roundg k2
           case measure => have := HJ1.out; have := HK2.out; omega
           case rel => exact ⟨(wrap64 (x3_2 + 1)), rs_, H', ⟨by have := HJ1.out; have := HK2.out; omega⟩, by repeat (first | exact Drawn0.refl _ | apply Drawn0.step)⟩
       ·rw [if_neg c10] at H
        exact absurd H (by simp)
      ·rw [if_neg c9] at H
       have c9b0 : decide (x3_2 < (a0.size : Int)) = false := decide_eq_false c9
       clear c9
       obtain rfl := Option.some.inj H
       go_wp2
       go_ret
       exact ⟨by first | rfl | (simp; done) | (simp [*]; done), by repeat (first | exact Drawn0.refl _ | apply Drawn0.step)⟩

end Go.Proofs.Ytijmhelacmjggaa.P
-- Made by wip/gen/pp.py of this session over the kit's print of the loaded program: a function, and the contract of its walk. Lean checks it.
namespace Go.Proofs.Ytijmhelacmjggaa.P
open Go.RowKit Go.Proofs.YtijmhelacmjggaaW.PrintWords Go.Proofs.YtijmhelacmjggaaW.PrintLast Go.Proofs.YtijmhelacmjggaaW.PrintMore
attribute [local go_sem] max2_int min2_int max_two min_two max_three min_three max_four min_four   -- for this text's walks alone
set_option linter.unusedVariables false
set_option linter.unusedSimpArgs false

/-! ### spec_ModeAt: function 76 -/
def spec_ModeAt.l0 : Nat → ByteArray → Int → List (S108) → Option (Int)
 | 0, _, _, _ => none
 | k + 1, x1, x5, x102000 => if x5 < (x102000.length : Int) then (if 0 ≤ x5 then (if ((rd_T108 x102000 x5).f0).toList = x1.toList then (some x5) else (spec_ModeAt.l0 k x1 (wrap64 (x5 + 1)) x102000)) else (none)) else (some (-1))
def spec_ModeAt.f (k : Nat) (l0_0 : List (S108)) (a1 : ByteArray) : Option (Int) := spec_ModeAt.l0 k a1 0 l0_0
theorem spec_ModeAt.mono_l : ∀ k, (∀ y0 y1 y2, LeO (spec_ModeAt.l0 k y0 y1 y2) (spec_ModeAt.l0 (k + 1) y0 y1 y2))
 | 0 => fun _ _ _ r h => by simp [spec_ModeAt.l0] at h
 | k + 1 => by
  have ih0 := spec_ModeAt.mono_l k
  ·intro y0 y1 y2
   unfold spec_ModeAt.l0
   repeat' first
   | (with_reducible exact ih0 _ _ _)
   | (with_reducible exact LeO.refl _)
   | (with_reducible exact LeO.none _)
   | (with_reducible refine LeO.ite ?_ ?_)
   | (with_reducible refine LeO.bind ?_ (fun _ => ?_))
   | exact ih0 _ _ _
   | exact LeO.none _
   | refine LeO.ite ?_ ?_
   | refine LeO.bind ?_ (fun _ => ?_)
theorem spec_ModeAt.mono : ∀ a0 a1 k, LeO (spec_ModeAt.f k a0 a1) (spec_ModeAt.f (k + 1) a0 a1) := by
 intro a0 a1 k
 have ih0 := spec_ModeAt.mono_l k
 unfold spec_ModeAt.f
 repeat' first
   | (with_reducible exact ih0 _ _ _)
   | (with_reducible exact LeO.refl _)
   | (with_reducible exact LeO.none _)
   | (with_reducible refine LeO.ite ?_ ?_)
   | (with_reducible refine LeO.bind ?_ (fun _ => ?_))
   | exact ih0 _ _ _
   | exact LeO.none _
   | refine LeO.ite ?_ ?_
   | refine LeO.bind ?_ (fun _ => ?_)
set_option maxHeartbeats 8000000 in
set_option maxRecDepth 100000 in
theorem spec_ModeAt.calls (k : Nat) (A0_0 : Option Addr) (c0_0 : Nat) (l0_0 : List (S108)) (a1 : ByteArray) (r : Int) (w : World) (hr0_0 : Kd.C k108 w A0_0 l0_0.length l0_0) (hc0_0 : l0_0.length ≤ c0_0) (h : spec_ModeAt.f k l0_0 a1 = some r) :
  Calls Try.prog 76 #[.agg #[.slice A0_0 l0_0.length c0_0], .string a1] w fun e w' => e = .returned (.int .i64 r) ∧ Below w.heap.size w w' := by
 have hu46 := Try.underlying46
 have HR0_0 := Aside0.mk hr0_0
 have HC0_0 := Aside0.mk hc0_0
 clear hr0_0 hc0_0
 have HB := Aside0.mk (Below.refl w.heap.size w)
 have H : (spec_ModeAt.l0 k a1 0 l0_0) = some r := h
 clear h
 have H' := Aside0.mk H
 clear H
 go_enter Try.func76, Try.ntmps76
 go_wp2_with (first | ((with_reducible refine gate_dst (N := 2) rfl ?_); refine box_event ?hg (N := 2) ?hd (cs := #[.slice A0_0 l0_0.length c0_0]) (t := 46) ?hr ?_; (case hd => rfl); (case hg => rfl); (case hr => first | (go_simp; done) | (go_simp; rfl)); intro gb101 hg w3 hbox hb; have n0_ := Aside0.mk (below_step (be_ HB.out) hb); have n1_ := Aside0.mk (hbox); have n2_ := Aside0.mk ((by rw [hg]; exact (below_size (be_ HB.out)) : w.heap.size ≤ gb101)); have n3_ := Aside0.mk ((by rw [hg]; exact (below_size (be_ HB.out)) : w.heap.size ≤ gb101)); clear HB; have HB := n0_; have BK101 := n1_; have GW101 := n2_; have GE101 := n3_; clear n0_ n1_ n2_ n3_; clear hb hbox hg))
 go_loopg [5] k (fun kq v5 w' => ∃ (x5_1 : Int), v5 = .int .i64 x5_1 ∧ Aside0 (spec_ModeAt.l0 kq a1 x5_1 l0_0 = some r) ∧ Aside0 (kq ≤ k) ∧ Aside0 (w'.heap[gb101]? = some (.cells #[(.slice A0_0 l0_0.length c0_0)] 46 (0, 0))) ∧ Aside0 (Below w.heap.size w w'))
 case atStart => exact ⟨(0), rs_, H', ⟨Nat.le_refl _⟩, ⟨bk_ BK101.out⟩, ⟨be1_ HB.out GE101.out⟩⟩
 case round =>
  clear H'
  try clear p2
  obtain ⟨x5_1, rfl, HA, HK1, BK101, HB⟩ := hrel
  cases gk with
  | zero => exact absurd HA.out (by simp [spec_ModeAt.l0])
  | succ k1 =>
   have H := HA.out
   clear HA
   simp only [spec_ModeAt.l0] at H
   by_cases c4 : x5_1 < (l0_0.length : Int)
   ·rw [if_pos c4] at H
    have c4b0 : decide (x5_1 < (l0_0.length : Int)) = true := decide_eq_true c4
    clear c4
    by_cases c5 : 0 ≤ x5_1
    ·rw [if_pos c5] at H
     have c5b0 : decide (0 ≤ x5_1) = true := decide_eq_true c5
     clear c5
     by_cases c6 : ((rd_T108 l0_0 x5_1).f0).toList = a1.toList
     ·rw [if_pos c6] at H
      have c6b0 : (((rd_T108 l0_0 x5_1).f0).toList == a1.toList) = true := beq_iff_eq.mpr c6
      have c6b1 : (((rd_T108 l0_0 x5_1).f0).toList != a1.toList) = false := bne_eq_false_iff_eq.mpr c6
      clear c6
      obtain rfl := Option.some.inj H
      have hcz7_0 : wr.cell? ⟨gb101, 0, none⟩ = some (.slice A0_0 l0_0.length c0_0) := (blk_cell BK101.out 0).trans rfl
      have hfz7_0 := blk_frozen BK101.out 0
      have p102 : 0 ≤ (x5_1 : Int) := of_decide_eq_true as_
      have q102 : x5_1 < (l0_0.length : Int) := of_decide_eq_true as_
      obtain ⟨ad102, A102_1, c102_1, e102, hx102_0, hx102_1, hl102_1, hi102_1⟩ := at_T108 HR0_0.out x5_1 p102 q102
      cases e102
      replace hx102_0 := mv_ HB.out hx102_0
      replace hx102_1 := mv_ HB.out hx102_1
      have HR102_1 := Aside0.mk hi102_1
      have HC102_1 := Aside0.mk hl102_1
      clear hi102_1 hl102_1
      replace p102 := eq_true p102
      replace q102 := eq_true q102
      go_wp2
      go_ret
      exact ⟨rt_, be1_ HB.out GE101.out⟩
     ·rw [if_neg c6] at H
      have c6b0 : (((rd_T108 l0_0 x5_1).f0).toList == a1.toList) = false := beq_eq_false_iff_ne.mpr c6
      have c6b1 : (((rd_T108 l0_0 x5_1).f0).toList != a1.toList) = true := bne_iff_ne.mpr c6
      have H' := Aside0.mk H
      clear H
      have hcz8_0 : wr.cell? ⟨gb101, 0, none⟩ = some (.slice A0_0 l0_0.length c0_0) := (blk_cell BK101.out 0).trans rfl
      have hfz8_0 := blk_frozen BK101.out 0
      have p102 : 0 ≤ (x5_1 : Int) := of_decide_eq_true as_
      have q102 : x5_1 < (l0_0.length : Int) := of_decide_eq_true as_
      obtain ⟨ad102, A102_1, c102_1, e102, hx102_0, hx102_1, hl102_1, hi102_1⟩ := at_T108 HR0_0.out x5_1 p102 q102
      cases e102
      replace hx102_0 := mv_ HB.out hx102_0
      replace hx102_1 := mv_ HB.out hx102_1
      have HR102_1 := Aside0.mk hi102_1
      have HC102_1 := Aside0.mk hl102_1
      clear hi102_1 hl102_1
      replace p102 := eq_true p102
      replace q102 := eq_true q102
      go_wp2
      go_roundg k1
      case measure => have := HK1.out; omega
      case rel => exact ⟨(wrap64 (x5_1 + 1)), rs_, H', ⟨by have := HK1.out; omega⟩, ⟨bk_ BK101.out⟩, ⟨be1_ HB.out GE101.out⟩⟩
    ·rw [if_neg c5] at H
     exact absurd H (by simp)
   ·rw [if_neg c4] at H
    have c4b0 : decide (x5_1 < (l0_0.length : Int)) = false := decide_eq_false c4
    clear c4
    obtain rfl := Option.some.inj H
    have hcz9_0 : wr.cell? ⟨gb101, 0, none⟩ = some (.slice A0_0 l0_0.length c0_0) := (blk_cell BK101.out 0).trans rfl
    have hfz9_0 := blk_frozen BK101.out 0
    go_wp2
    go_ret
    exact ⟨rt_, be1_ HB.out GE101.out⟩

end Go.Proofs.Ytijmhelacmjggaa.P
-- Made by wip/gen/pp.py of this session over the kit's print of the loaded program: a function, and the contract of its walk. Lean checks it.
namespace Go.Proofs.Ytijmhelacmjggaa.P
open Go.RowKit Go.Proofs.YtijmhelacmjggaaW.PrintWords Go.Proofs.YtijmhelacmjggaaW.PrintLast Go.Proofs.YtijmhelacmjggaaW.PrintMore
attribute [local go_sem] max2_int min2_int max_two min_two max_three min_three max_four min_four   -- for this text's walks alone
set_option linter.unusedVariables false
set_option linter.unusedSimpArgs false

/-! ### spec_l1In: function 89 -/
def spec_l1In.f (a0 : Int) (a1 : Int) (a2 : Int) : Option (Bool) := if a0 ≥ a1 then (some (decide (a0 ≤ a2))) else (some false)
set_option maxHeartbeats 8000000 in
set_option maxRecDepth 100000 in
theorem spec_l1In.calls (a0 : Int) (a1 : Int) (a2 : Int) (r : Bool) (w : World) (h : spec_l1In.f a0 a1 a2 = some r) :
  Calls Try.prog 89 #[.int .i64 a0, .int .i64 a1, .int .i64 a2] w fun e w' => e = .returned (.bool r) ∧ Drawn0 w w' := by
 have H : (if a0 ≥ a1 then (some (decide (a0 ≤ a2))) else (some false)) = some r := h
 clear h
 by_cases c4 : a0 ≥ a1
 ·rw [if_pos c4] at H
  have c4b0 : decide (a1 ≤ a0) = true := decide_eq_true c4
  clear c4
  obtain rfl := Option.some.inj H
  go_enter Try.func89, Try.ntmps89
  go_wp2
  go_ret
  exact ⟨by first | rfl | (simp; done) | (simp [*]; done), by repeat (first | exact Drawn0.refl _ | apply Drawn0.step)⟩
 ·rw [if_neg c4] at H
  have c4b0 : decide (a1 ≤ a0) = false := decide_eq_false c4
  clear c4
  obtain rfl := Option.some.inj H
  go_enter Try.func89, Try.ntmps89
  go_wp2
  go_ret
  exact ⟨by first | rfl | (simp; done) | (simp [*]; done), by repeat (first | exact Drawn0.refl _ | apply Drawn0.step)⟩

end Go.Proofs.Ytijmhelacmjggaa.P
-- Made by wip/gen/pp.py of this session over the kit's print of the loaded program: a function, and the contract of its walk. Lean checks it.
namespace Go.Proofs.Ytijmhelacmjggaa.P
open Go.RowKit Go.Proofs.YtijmhelacmjggaaW.PrintWords Go.Proofs.YtijmhelacmjggaaW.PrintLast Go.Proofs.YtijmhelacmjggaaW.PrintMore
attribute [local go_sem] max2_int min2_int max_two min_two max_three min_three max_four min_four   -- for this text's walks alone
set_option linter.unusedVariables false
set_option linter.unusedSimpArgs false

/-! ### spec_ClassOk: function 141 -/
def spec_ClassOk.l0 : Nat → List (S103) → Int → Option (Bool)
 | 0, _, _ => none
 | k + 1, x0, x3 => if x3 < (x0.length : Int) then (if 0 ≤ x3 then ((spec_l1In.f ((rd_T103 x0 x3).f0) 0 255).bind fun t102 => (if t102 = true then ((spec_l1In.f ((rd_T103 x0 x3).f1) ((rd_T103 x0 x3).f0) 255).bind fun t105 => (if t105 = true then (if x3 > 0 then (if 0 ≤ (wrap64 (x3 - 1)) then (if (wrap64 (x3 - 1)) < (x0.length : Int) then (if ((rd_T103 x0 x3).f0) < (wrap64 (((rd_T103 x0 (wrap64 (x3 - 1))).f1) + 2)) then (some false) else (spec_ClassOk.l0 k x0 (wrap64 (x3 + 1)))) else (none)) else (none)) else (spec_ClassOk.l0 k x0 (wrap64 (x3 + 1)))) else (some false))) else (some false))) else (none)) else (some true)
def spec_ClassOk.f (k : Nat) (l0 : List (S103)) : Option (Bool) := if (l0.length : Int) > 128 then (some false) else (spec_ClassOk.l0 k l0 0)
theorem spec_ClassOk.mono_l : ∀ k, (∀ y0 y1, LeO (spec_ClassOk.l0 k y0 y1) (spec_ClassOk.l0 (k + 1) y0 y1))
 | 0 => fun _ _ r h => by simp [spec_ClassOk.l0] at h
 | k + 1 => by
  have ih0 := spec_ClassOk.mono_l k
  ·intro y0 y1
   unfold spec_ClassOk.l0
   repeat' first
   | (with_reducible exact ih0 _ _)
   | (with_reducible exact LeO.refl _)
   | (with_reducible exact LeO.none _)
   | (with_reducible refine LeO.ite ?_ ?_)
   | (with_reducible refine LeO.bind ?_ (fun _ => ?_))
   | exact ih0 _ _
   | exact LeO.none _
   | refine LeO.ite ?_ ?_
   | refine LeO.bind ?_ (fun _ => ?_)
theorem spec_ClassOk.mono : ∀ a0 k, LeO (spec_ClassOk.f k a0) (spec_ClassOk.f (k + 1) a0) := by
 intro a0 k
 have ih0 := spec_ClassOk.mono_l k
 unfold spec_ClassOk.f
 repeat' first
   | (with_reducible exact ih0 _ _)
   | (with_reducible exact LeO.refl _)
   | (with_reducible exact LeO.none _)
   | (with_reducible refine LeO.ite ?_ ?_)
   | (with_reducible refine LeO.bind ?_ (fun _ => ?_))
   | exact ih0 _ _
   | exact LeO.none _
   | refine LeO.ite ?_ ?_
   | refine LeO.bind ?_ (fun _ => ?_)
def spec_ClassOk.T6 : Bool × List (List Nat × List Nat) := (true, [([], []), ([], []), ([0, 1], [0, 1]), ([2], [2]), ([3], [3]), ([4], [4]), ([5], [5]), ([6, 5], [6]), ([7], [7]), ([7], [7]), ([8, 9, 7], [7, 8, 9]), ([10, 7], [7, 10]), ([11, 7], [7, 11]), ([7], [7]), ([7], [7]), ([13, 14, 7], [7, 13, 14]), ([15, 7], [7, 15]), ([16, 7], [7, 16]), ([12, 17, 7, 7], [7, 12, 17]), ([18, 7], [7, 18]), ([7, 19], [7, 19]), ([20, 18], [20]), ([21], [21]), ([22, 21], [21, 22]), ([23, 21, 21], [21, 23]), ([24], [24]), ([24], [24]), ([25, 26, 24], [24, 25, 26]), ([27, 24], [24, 27]), ([28, 24], [24, 28]), ([24], [24]), ([24], [24]), ([31, 24], [24, 31]), ([30, 32, 24], [24, 30, 32]), ([33, 24], [24, 33]), ([34, 24], [24, 34]), ([35, 24], [24, 35]), ([29, 36, 24], [24, 29, 36]), ([24, 37, 21], [21, 24, 37]), ([21, 38], [21, 38])])
def spec_ClassOk.B6 : List Nat := [0, 0, 3, 7, 15, 31, 63, 127, 255, 255, 1023, 2047, 4095, 255, 255, 24831, 57599, 123135, 262143, 524287, 1048575, 2097151, 4194303, 8388607, 16777215, 33554431, 33554431, 134217727, 268435455, 536870911, 33554431, 33554431, 2181038079, 7549747199, 16139681791, 33319550975, 67679289343, 137438953471, 274877906943, 549755813887]
theorem spec_ClassOk.tab6 : rtab .any (opsOf Try.f141 6) = spec_ClassOk.T6 := by kernel_rfl
theorem spec_ClassOk.bits6 : waitsOk spec_ClassOk.T6.2 spec_ClassOk.B6 = true := by kernel_rfl
set_option maxHeartbeats 8000000 in
set_option maxRecDepth 100000 in
theorem spec_ClassOk.calls (k : Nat) (A0 : Option Addr) (c0 : Nat) (l0 : List (S103)) (r : Bool) (w : World) (hr0 : Kd.C k103 w A0 l0.length l0) (hc0 : l0.length ≤ c0) (h : spec_ClassOk.f k l0 = some r) :
  Calls Try.prog 141 #[.slice A0 l0.length c0] w fun e w' => e = .returned (.bool r) ∧ Below w.heap.size w w' := by
 have HR0 := Aside0.mk hr0
 have HC0 := Aside0.mk hc0
 clear hr0 hc0
 have HB := Aside0.mk (Below.refl w.heap.size w)
 have H : (if (l0.length : Int) > 128 then (some false) else (spec_ClassOk.l0 k l0 0)) = some r := h
 clear h
 by_cases c2 : (l0.length : Int) > 128
 ·rw [if_pos c2] at H
  have c2b0 : decide (128 < (l0.length : Int)) = true := decide_eq_true c2
  have c2b1 : decide (128 < l0.length) = true := decide_eq_true (by omega)
  clear c2
  obtain rfl := Option.some.inj H
  go_enter Try.func141, Try.ntmps141
  go_wp2
  go_ret
  exact ⟨rt_, be_ HB.out⟩
 ·rw [if_neg c2] at H
  have c2b0 : decide (128 < (l0.length : Int)) = false := decide_eq_false c2
  have c2b1 : decide (128 < l0.length) = false := decide_eq_false (by omega)
  clear c2
  have H' := Aside0.mk H
  clear H
  go_enter Try.func141, Try.ntmps141
  go_wp2
  go_loopg [3] k (fun kq v3 w' => ∃ (x3_1 : Int), v3 = .int .i64 x3_1 ∧ Aside0 (spec_ClassOk.l0 kq l0 x3_1 = some r) ∧ Aside0 (kq ≤ k) ∧ Aside0 (Below w.heap.size w w'))
  case atStart => exact ⟨(0), rs_, H', ⟨Nat.le_refl _⟩, ⟨be_ HB.out⟩⟩
  case round =>
   clear H'
   try clear c1
   try clear c2
   try clear c2b0
   try clear c2b1
   try clear p2
   obtain ⟨x3_1, rfl, HA, HK1, HB⟩ := hrel
   cases gk with
   | zero => exact absurd HA.out (by simp [spec_ClassOk.l0])
   | succ k1 =>
    have H := HA.out
    clear HA
    simp only [spec_ClassOk.l0] at H
    by_cases c3 : x3_1 < (l0.length : Int)
    ·rw [if_pos c3] at H
     have c3b0 : decide (x3_1 < (l0.length : Int)) = true := decide_eq_true c3
     clear c3
     by_cases c4 : 0 ≤ x3_1
     ·rw [if_pos c4] at H
      have c4b0 : decide (0 ≤ x3_1) = true := decide_eq_true c4
      clear c4
      replace H := Option.bind_eq_some_iff.mp H
      obtain ⟨t102, A50, H⟩ := H
      replace H : (if t102 = true then ((spec_l1In.f ((rd_T103 l0 x3_1).f1) ((rd_T103 l0 x3_1).f0) 255).bind fun t105 => (if t105 = true then (if x3_1 > 0 then (if 0 ≤ (wrap64 (x3_1 - 1)) then (if (wrap64 (x3_1 - 1)) < (l0.length : Int) then (if ((rd_T103 l0 x3_1).f0) < (wrap64 (((rd_T103 l0 (wrap64 (x3_1 - 1))).f1) + 2)) then (some false) else (spec_ClassOk.l0 k1 l0 (wrap64 (x3_1 + 1)))) else (none)) else (none)) else (spec_ClassOk.l0 k1 l0 (wrap64 (x3_1 + 1)))) else (some false))) else (some false)) = some r := H
      have A5 := Aside0.mk A50
      clear A50
      by_cases c6 : t102 = true
      ·subst c6
       have H1 : ((spec_l1In.f ((rd_T103 l0 x3_1).f1) ((rd_T103 l0 x3_1).f0) 255).bind fun t105 => (if t105 = true then (if x3_1 > 0 then (if 0 ≤ (wrap64 (x3_1 - 1)) then (if (wrap64 (x3_1 - 1)) < (l0.length : Int) then (if ((rd_T103 l0 x3_1).f0) < (wrap64 (((rd_T103 l0 (wrap64 (x3_1 - 1))).f1) + 2)) then (some false) else (spec_ClassOk.l0 k1 l0 (wrap64 (x3_1 + 1)))) else (none)) else (none)) else (spec_ClassOk.l0 k1 l0 (wrap64 (x3_1 + 1)))) else (some false))) = some r := by rw [if_pos rfl] at H; exact H
       clear H
       have H := H1
       clear H1
       replace H := Option.bind_eq_some_iff.mp H
       obtain ⟨t105, A70, H⟩ := H
       replace H : (if t105 = true then (if x3_1 > 0 then (if 0 ≤ (wrap64 (x3_1 - 1)) then (if (wrap64 (x3_1 - 1)) < (l0.length : Int) then (if ((rd_T103 l0 x3_1).f0) < (wrap64 (((rd_T103 l0 (wrap64 (x3_1 - 1))).f1) + 2)) then (some false) else (spec_ClassOk.l0 k1 l0 (wrap64 (x3_1 + 1)))) else (none)) else (none)) else (spec_ClassOk.l0 k1 l0 (wrap64 (x3_1 + 1)))) else (some false)) = some r := H
       have A7 := Aside0.mk A70
       clear A70
       by_cases c8 : t105 = true
       ·subst c8
        have H1 : (if x3_1 > 0 then (if 0 ≤ (wrap64 (x3_1 - 1)) then (if (wrap64 (x3_1 - 1)) < (l0.length : Int) then (if ((rd_T103 l0 x3_1).f0) < (wrap64 (((rd_T103 l0 (wrap64 (x3_1 - 1))).f1) + 2)) then (some false) else (spec_ClassOk.l0 k1 l0 (wrap64 (x3_1 + 1)))) else (none)) else (none)) else (spec_ClassOk.l0 k1 l0 (wrap64 (x3_1 + 1)))) = some r := by rw [if_pos rfl] at H; exact H
        clear H
        have H := H1
        clear H1
        by_cases c9 : x3_1 > 0
        ·rw [if_pos c9] at H
         have c9b0 : decide (0 < x3_1) = true := decide_eq_true c9
         clear c9
         obtain ⟨ji10, hji10⟩ : ∃ j_ : Int, (wrap64 (x3_1 - 1)) = j_ := ⟨_, rfl⟩
         replace H : (if 0 ≤ (ji10) then (if (ji10) < (l0.length : Int) then (if ((rd_T103 l0 x3_1).f0) < (wrap64 (((rd_T103 l0 (ji10)).f1) + 2)) then (some false) else (spec_ClassOk.l0 k1 l0 (wrap64 (x3_1 + 1)))) else (none)) else (none)) = some r := by first | (rw [hji10] at H; exact H) | (simp only [hji10] at H ⊢; exact H)
         (try rw [hji10] at A5)
         (try rw [hji10] at A7)
         have hji10w : (IntKind.i64.wrap (x3_1 - 1)) = ji10 := (i64_w _).trans hji10
         by_cases c11 : 0 ≤ (ji10)
         ·rw [if_pos c11] at H
          have c11b0 : decide (0 ≤ (ji10)) = true := decide_eq_true c11
          clear c11
          by_cases c12 : (ji10) < (l0.length : Int)
          ·rw [if_pos c12] at H
           have c12b0 : decide ((ji10) < (l0.length : Int)) = true := decide_eq_true c12
           clear c12
           by_cases c13 : ((rd_T103 l0 x3_1).f0) < (wrap64 (((rd_T103 l0 (ji10)).f1) + 2))
           ·rw [if_pos c13] at H
            have c13b0 : decide (((rd_T103 l0 x3_1).f0) < (wrap64 (((rd_T103 l0 (ji10)).f1) + 2))) = true := decide_eq_true c13
            clear c13
            obtain rfl := Option.some.inj H
            try go_wp2
            have n0_ := Aside0.mk (below_drew1 HB.out)
            clear HB
            have HB := n0_
            clear n0_
            have p101 : 0 ≤ (x3_1 : Int) := of_decide_eq_true as_
            have q101 : x3_1 < (l0.length : Int) := of_decide_eq_true as_
            obtain ⟨ad101, e101, hx101_0, hx101_1⟩ := at_T103 HR0.out x3_1 p101 q101
            have hw101_1 := hx101_1
            have hw101_0 := hx101_0
            cases e101
            replace hx101_0 := mv_ HB.out hx101_0
            replace hx101_1 := mv_ HB.out hx101_1
            replace p101 := eq_true p101
            replace q101 := eq_true q101
            have p103 : 0 ≤ (x3_1 : Int) := of_decide_eq_true as_
            have q103 : x3_1 < (l0.length : Int) := of_decide_eq_true as_
            obtain ⟨ad103, e103, hx103_0, hx103_1⟩ := at_T103 HR0.out x3_1 p103 q103
            have hw103_1 := hx103_1
            have hw103_0 := hx103_0
            obtain rfl : ad101 = ad103 := (by injection e103)
            replace hx103_0 := mv_ HB.out hx103_0
            replace hx103_1 := mv_ HB.out hx103_1
            replace p103 := eq_true p103
            replace q103 := eq_true q103
            have p104 : 0 ≤ (x3_1 : Int) := of_decide_eq_true as_
            have q104 : x3_1 < (l0.length : Int) := of_decide_eq_true as_
            obtain ⟨ad104, e104, hx104_0, hx104_1⟩ := at_T103 HR0.out x3_1 p104 q104
            have hw104_1 := hx104_1
            have hw104_0 := hx104_0
            obtain rfl : ad101 = ad104 := (by injection e104)
            replace hx104_0 := mv_ HB.out hx104_0
            replace hx104_1 := mv_ HB.out hx104_1
            replace p104 := eq_true p104
            replace q104 := eq_true q104
            have p106 : 0 ≤ (x3_1 : Int) := of_decide_eq_true as_
            have q106 : x3_1 < (l0.length : Int) := of_decide_eq_true as_
            obtain ⟨ad106, e106, hx106_0, hx106_1⟩ := at_T103 HR0.out x3_1 p106 q106
            have hw106_1 := hx106_1
            have hw106_0 := hx106_0
            obtain rfl : ad101 = ad106 := (by injection e106)
            replace hx106_0 := mv_ HB.out hx106_0
            replace hx106_1 := mv_ HB.out hx106_1
            replace p106 := eq_true p106
            replace q106 := eq_true q106
            have p107 : 0 ≤ ((ji10) : Int) := of_decide_eq_true as_
            have q107 : (ji10) < (l0.length : Int) := of_decide_eq_true as_
            obtain ⟨ad107, e107, hx107_0, hx107_1⟩ := at_T103 HR0.out (ji10) p107 q107
            have hw107_1 := hx107_1
            have hw107_0 := hx107_0
            obtain rfl : ad101 = ad107 := (by injection e107)
            replace hx107_0 := mv_ HB.out hx107_0
            replace hx107_1 := mv_ HB.out hx107_1
            replace p107 := eq_true p107
            replace q107 := eq_true q107
            refine start_ (n := 40) (S := fun w' => w'.cell? (ad101.add ((x3_1).toNat * 2)) = some (.int .i64 ((rd_T103 l0 x3_1).f0)) ∧ w'.cell? ⟨(ad101.add ((x3_1).toNat * 2)).block, (ad101.add ((x3_1).toNat * 2)).off + 1, none⟩ = some (.int .i64 ((rd_T103 l0 x3_1).f1)) ∧ w'.cell? (ad101.add ((x3_1).toNat * 2)) = some (.int .i64 ((rd_T103 l0 x3_1).f0)) ∧ w'.cell? ⟨(ad101.add ((x3_1).toNat * 2)).block, (ad101.add ((x3_1).toNat * 2)).off + 1, none⟩ = some (.int .i64 ((rd_T103 l0 x3_1).f1)) ∧ w'.cell? (ad101.add ((x3_1).toNat * 2)) = some (.int .i64 ((rd_T103 l0 x3_1).f0)) ∧ w'.cell? ⟨(ad101.add ((x3_1).toNat * 2)).block, (ad101.add ((x3_1).toNat * 2)).off + 1, none⟩ = some (.int .i64 ((rd_T103 l0 x3_1).f1)) ∧ w'.cell? (ad101.add ((x3_1).toNat * 2)) = some (.int .i64 ((rd_T103 l0 x3_1).f0)) ∧ w'.cell? ⟨(ad101.add ((x3_1).toNat * 2)).block, (ad101.add ((x3_1).toNat * 2)).off + 1, none⟩ = some (.int .i64 ((rd_T103 l0 x3_1).f1)) ∧ w'.cell? (ad101.add (((ji10)).toNat * 2)) = some (.int .i64 ((rd_T103 l0 (ji10)).f0)) ∧ w'.cell? ⟨(ad101.add (((ji10)).toNat * 2)).block, (ad101.add (((ji10)).toNat * 2)).off + 1, none⟩ = some (.int .i64 ((rd_T103 l0 (ji10)).f1))) (ds := []) #[false, false, false, false, false, false, false, false, false, false, false, false, false, false, false, false, false, false, false, false, false, false, false, false, false, false, false, false, false, false, false, false, false, false, false, false, false, false, false, false] (by kernel_rfl) rfl rfl ⟨(mv_ HB.out hw101_0), (mv_ HB.out hw101_1), (mv_ HB.out hw103_0), (mv_ HB.out hw103_1), (mv_ HB.out hw104_0), (mv_ HB.out hw104_1), (mv_ HB.out hw106_0), (mv_ HB.out hw106_1), (mv_ HB.out hw107_0), (mv_ HB.out hw107_1)⟩ (fun hHeld => ?_); refine with_tabW spec_ClassOk.tab6 spec_ClassOk.bits6 (fun HT_ HW_ => ?_)
            generalize wr.drew = w14 at HB hx101_0 hx101_1 hx103_0 hx103_1 hx104_0 hx104_1 hx106_0 hx106_1 hx107_0 hx107_1 hHeld ⊢
            refine pu_ 0 (some 13) (bb 40 1) HT_.out ?_
            refine pu_ 1 (some 14) (bb 40 3) HT_.out ?_
            refine pu_ 2 (some 15) (bb 40 7) HT_.out ?_
            refine pu_ 3 (some 16) (bb 40 15) HT_.out ?_
            refine ta_ 4 (some 17) (bb 40 31) HT_.out HW_.out hHeld ?_
            refine one_ (i := 5) (N := some 18) (bb 40 63) rfl rfl (one_of HT_.out (by kernel_rfl)) (by decide) (fun K hK => ?_)
            refine gs_ Try.func89 #[.int .i64 ((rd_T103 l0 x3_1).f0), .int .i64 0, .int .i64 255] ?_
            with_reducible refine (spec_l1In.calls ((rd_T103 l0 x3_1).f0) 0 255 true _ A5.out).mono ?_
            rintro e w' ⟨rfl, ⟨nd, rfl⟩⟩
            refine ⟨_, rfl, ?_⟩
            refine hK.out _ _ ⟨(mv_ HB.out hw101_0), (mv_ HB.out hw101_1), (mv_ HB.out hw103_0), (mv_ HB.out hw103_1), (mv_ HB.out hw104_0), (mv_ HB.out hw104_1), (mv_ HB.out hw106_0), (mv_ HB.out hw106_1), (mv_ HB.out hw107_0), (mv_ HB.out hw107_1)⟩ (fun hHeld => ?_)
            clear hK K
            refine no_ (some 18) ?_
            refine pu_ 6 (some 19) (bb 40 127) HT_.out ?_
            refine pu_ 7 (some 20) (bb 40 255) HT_.out ?_
            refine pu_ 8 (some 21) (bb 40 511) HT_.out ?_
            refine pu_ 9 (some 22) (bb 40 1023) HT_.out ?_
            refine pu_ 10 (some 23) (bb 40 2047) HT_.out ?_
            refine pu_ 11 (some 24) (bb 40 4095) HT_.out ?_
            refine pu_ 13 (some 26) (bb 40 12287) HT_.out ?_
            refine pu_ 14 (some 27) (bb 40 28671) HT_.out ?_
            refine pu_ 15 (some 28) (bb 40 61439) HT_.out ?_
            refine pu_ 16 (some 29) (bb 40 126975) HT_.out ?_
            refine ta_ 12 (some 25) (bb 40 131071) HT_.out HW_.out hHeld ?_
            refine ta_ 17 (some 30) (bb 40 262143) HT_.out HW_.out hHeld ?_
            refine one_ (i := 18) (N := some 31) (bb 40 524287) rfl rfl (one_of HT_.out (by kernel_rfl)) (by decide) (fun K hK => ?_)
            refine gs_ Try.func89 #[.int .i64 ((rd_T103 l0 x3_1).f1), .int .i64 ((rd_T103 l0 x3_1).f0), .int .i64 255] ?_
            with_reducible refine (spec_l1In.calls ((rd_T103 l0 x3_1).f1) ((rd_T103 l0 x3_1).f0) 255 true _ A7.out).mono ?_
            rintro e w' ⟨rfl, ⟨nd, rfl⟩⟩
            refine ⟨_, rfl, ?_⟩
            refine hK.out _ _ ⟨(mv_ HB.out hw101_0), (mv_ HB.out hw101_1), (mv_ HB.out hw103_0), (mv_ HB.out hw103_1), (mv_ HB.out hw104_0), (mv_ HB.out hw104_1), (mv_ HB.out hw106_0), (mv_ HB.out hw106_1), (mv_ HB.out hw107_0), (mv_ HB.out hw107_1)⟩ (fun hHeld => ?_)
            clear hK K
            refine no_ (some 31) ?_
            refine pu_ 19 (some 32) (bb 40 1048575) HT_.out ?_
            refine pu_ 20 (some 33) (bb 40 2097151) HT_.out ?_
            refine pu_ 21 (some 34) (bb 40 4194303) HT_.out ?_
            refine pu_ 22 (some 35) (bb 40 8388607) HT_.out ?_
            refine pu_ 23 (some 36) (bb 40 16777215) HT_.out ?_
            refine pu_ 24 (some 37) (bb 40 33554431) HT_.out ?_
            refine pu_ 25 (some 38) (bb 40 67108863) HT_.out ?_
            refine pu_ 26 (some 39) (bb 40 134217727) HT_.out ?_
            refine pu_ 27 (some 40) (bb 40 268435455) HT_.out ?_
            refine pu_ 28 (some 41) (bb 40 536870911) HT_.out ?_
            refine pu_ 30 (some 43) (bb 40 1610612735) HT_.out ?_
            refine pu_ 31 (some 44) (bb 40 3758096383) HT_.out ?_
            refine pu_ 32 (some 45) (bb 40 8053063679) HT_.out ?_
            refine pu_ 33 (some 46) (bb 40 16642998271) HT_.out ?_
            refine pu_ 34 (some 47) (bb 40 33822867455) HT_.out ?_
            refine ta_ 29 (some 42) (bb 40 34359738367) HT_.out HW_.out hHeld ?_
            refine ta_ 35 (some 48) (bb 40 68719476735) HT_.out HW_.out hHeld ?_
            refine pu_ 36 (some 49) (bb 40 137438953471) HT_.out ?_
            refine pu_ 37 (some 50) (bb 40 274877906943) HT_.out ?_
            refine pu_ 38 (some 51) (bb 40 549755813887) HT_.out ?_
            refine pu_ 39 (some 52) (bb 40 1099511627775) HT_.out ?_
            refine done_ (done_of HT_.out (by kernel_rfl)) ?_
            try go_wp2
            go_ret
            exact ⟨by first | rfl | (simp [errW_none, errW_some] <;> rfl) | (simp only [← hji10]; first | rfl | (simp [errW_none, errW_some] <;> rfl)) | (simp [*, errW_none, errW_some] <;> rfl), be_ HB.out⟩
           ·rw [if_neg c13] at H
            have c13b0 : decide (((rd_T103 l0 x3_1).f0) < (wrap64 (((rd_T103 l0 (ji10)).f1) + 2))) = false := decide_eq_false c13
            clear c13
            have H' := Aside0.mk H
            clear H
            try go_wp2
            have n0_ := Aside0.mk (below_drew1 HB.out)
            clear HB
            have HB := n0_
            clear n0_
            have p101 : 0 ≤ (x3_1 : Int) := of_decide_eq_true as_
            have q101 : x3_1 < (l0.length : Int) := of_decide_eq_true as_
            obtain ⟨ad101, e101, hx101_0, hx101_1⟩ := at_T103 HR0.out x3_1 p101 q101
            have hw101_1 := hx101_1
            have hw101_0 := hx101_0
            cases e101
            replace hx101_0 := mv_ HB.out hx101_0
            replace hx101_1 := mv_ HB.out hx101_1
            replace p101 := eq_true p101
            replace q101 := eq_true q101
            have p103 : 0 ≤ (x3_1 : Int) := of_decide_eq_true as_
            have q103 : x3_1 < (l0.length : Int) := of_decide_eq_true as_
            obtain ⟨ad103, e103, hx103_0, hx103_1⟩ := at_T103 HR0.out x3_1 p103 q103
            have hw103_1 := hx103_1
            have hw103_0 := hx103_0
            obtain rfl : ad101 = ad103 := (by injection e103)
            replace hx103_0 := mv_ HB.out hx103_0
            replace hx103_1 := mv_ HB.out hx103_1
            replace p103 := eq_true p103
            replace q103 := eq_true q103
            have p104 : 0 ≤ (x3_1 : Int) := of_decide_eq_true as_
            have q104 : x3_1 < (l0.length : Int) := of_decide_eq_true as_
            obtain ⟨ad104, e104, hx104_0, hx104_1⟩ := at_T103 HR0.out x3_1 p104 q104
            have hw104_1 := hx104_1
            have hw104_0 := hx104_0
            obtain rfl : ad101 = ad104 := (by injection e104)
            replace hx104_0 := mv_ HB.out hx104_0
            replace hx104_1 := mv_ HB.out hx104_1
            replace p104 := eq_true p104
            replace q104 := eq_true q104
            have p106 : 0 ≤ (x3_1 : Int) := of_decide_eq_true as_
            have q106 : x3_1 < (l0.length : Int) := of_decide_eq_true as_
            obtain ⟨ad106, e106, hx106_0, hx106_1⟩ := at_T103 HR0.out x3_1 p106 q106
            have hw106_1 := hx106_1
            have hw106_0 := hx106_0
            obtain rfl : ad101 = ad106 := (by injection e106)
            replace hx106_0 := mv_ HB.out hx106_0
            replace hx106_1 := mv_ HB.out hx106_1
            replace p106 := eq_true p106
            replace q106 := eq_true q106
            have p107 : 0 ≤ ((ji10) : Int) := of_decide_eq_true as_
            have q107 : (ji10) < (l0.length : Int) := of_decide_eq_true as_
            obtain ⟨ad107, e107, hx107_0, hx107_1⟩ := at_T103 HR0.out (ji10) p107 q107
            have hw107_1 := hx107_1
            have hw107_0 := hx107_0
            obtain rfl : ad101 = ad107 := (by injection e107)
            replace hx107_0 := mv_ HB.out hx107_0
            replace hx107_1 := mv_ HB.out hx107_1
            replace p107 := eq_true p107
            replace q107 := eq_true q107
            refine start_ (n := 40) (S := fun w' => w'.cell? (ad101.add ((x3_1).toNat * 2)) = some (.int .i64 ((rd_T103 l0 x3_1).f0)) ∧ w'.cell? ⟨(ad101.add ((x3_1).toNat * 2)).block, (ad101.add ((x3_1).toNat * 2)).off + 1, none⟩ = some (.int .i64 ((rd_T103 l0 x3_1).f1)) ∧ w'.cell? (ad101.add ((x3_1).toNat * 2)) = some (.int .i64 ((rd_T103 l0 x3_1).f0)) ∧ w'.cell? ⟨(ad101.add ((x3_1).toNat * 2)).block, (ad101.add ((x3_1).toNat * 2)).off + 1, none⟩ = some (.int .i64 ((rd_T103 l0 x3_1).f1)) ∧ w'.cell? (ad101.add ((x3_1).toNat * 2)) = some (.int .i64 ((rd_T103 l0 x3_1).f0)) ∧ w'.cell? ⟨(ad101.add ((x3_1).toNat * 2)).block, (ad101.add ((x3_1).toNat * 2)).off + 1, none⟩ = some (.int .i64 ((rd_T103 l0 x3_1).f1)) ∧ w'.cell? (ad101.add ((x3_1).toNat * 2)) = some (.int .i64 ((rd_T103 l0 x3_1).f0)) ∧ w'.cell? ⟨(ad101.add ((x3_1).toNat * 2)).block, (ad101.add ((x3_1).toNat * 2)).off + 1, none⟩ = some (.int .i64 ((rd_T103 l0 x3_1).f1)) ∧ w'.cell? (ad101.add (((ji10)).toNat * 2)) = some (.int .i64 ((rd_T103 l0 (ji10)).f0)) ∧ w'.cell? ⟨(ad101.add (((ji10)).toNat * 2)).block, (ad101.add (((ji10)).toNat * 2)).off + 1, none⟩ = some (.int .i64 ((rd_T103 l0 (ji10)).f1))) (ds := []) #[false, false, false, false, false, false, false, false, false, false, false, false, false, false, false, false, false, false, false, false, false, false, false, false, false, false, false, false, false, false, false, false, false, false, false, false, false, false, false, false] (by kernel_rfl) rfl rfl ⟨(mv_ HB.out hw101_0), (mv_ HB.out hw101_1), (mv_ HB.out hw103_0), (mv_ HB.out hw103_1), (mv_ HB.out hw104_0), (mv_ HB.out hw104_1), (mv_ HB.out hw106_0), (mv_ HB.out hw106_1), (mv_ HB.out hw107_0), (mv_ HB.out hw107_1)⟩ (fun hHeld => ?_); refine with_tabW spec_ClassOk.tab6 spec_ClassOk.bits6 (fun HT_ HW_ => ?_)
            generalize wr.drew = w15 at HB hx101_0 hx101_1 hx103_0 hx103_1 hx104_0 hx104_1 hx106_0 hx106_1 hx107_0 hx107_1 hHeld ⊢
            refine pu_ 0 (some 13) (bb 40 1) HT_.out ?_
            refine pu_ 1 (some 14) (bb 40 3) HT_.out ?_
            refine pu_ 2 (some 15) (bb 40 7) HT_.out ?_
            refine pu_ 3 (some 16) (bb 40 15) HT_.out ?_
            refine ta_ 4 (some 17) (bb 40 31) HT_.out HW_.out hHeld ?_
            refine one_ (i := 5) (N := some 18) (bb 40 63) rfl rfl (one_of HT_.out (by kernel_rfl)) (by decide) (fun K hK => ?_)
            refine gs_ Try.func89 #[.int .i64 ((rd_T103 l0 x3_1).f0), .int .i64 0, .int .i64 255] ?_
            with_reducible refine (spec_l1In.calls ((rd_T103 l0 x3_1).f0) 0 255 true _ A5.out).mono ?_
            rintro e w' ⟨rfl, ⟨nd, rfl⟩⟩
            refine ⟨_, rfl, ?_⟩
            refine hK.out _ _ ⟨(mv_ HB.out hw101_0), (mv_ HB.out hw101_1), (mv_ HB.out hw103_0), (mv_ HB.out hw103_1), (mv_ HB.out hw104_0), (mv_ HB.out hw104_1), (mv_ HB.out hw106_0), (mv_ HB.out hw106_1), (mv_ HB.out hw107_0), (mv_ HB.out hw107_1)⟩ (fun hHeld => ?_)
            clear hK K
            refine no_ (some 18) ?_
            refine pu_ 6 (some 19) (bb 40 127) HT_.out ?_
            refine pu_ 7 (some 20) (bb 40 255) HT_.out ?_
            refine pu_ 8 (some 21) (bb 40 511) HT_.out ?_
            refine pu_ 9 (some 22) (bb 40 1023) HT_.out ?_
            refine pu_ 10 (some 23) (bb 40 2047) HT_.out ?_
            refine pu_ 11 (some 24) (bb 40 4095) HT_.out ?_
            refine pu_ 13 (some 26) (bb 40 12287) HT_.out ?_
            refine pu_ 14 (some 27) (bb 40 28671) HT_.out ?_
            refine pu_ 15 (some 28) (bb 40 61439) HT_.out ?_
            refine pu_ 16 (some 29) (bb 40 126975) HT_.out ?_
            refine ta_ 12 (some 25) (bb 40 131071) HT_.out HW_.out hHeld ?_
            refine ta_ 17 (some 30) (bb 40 262143) HT_.out HW_.out hHeld ?_
            refine one_ (i := 18) (N := some 31) (bb 40 524287) rfl rfl (one_of HT_.out (by kernel_rfl)) (by decide) (fun K hK => ?_)
            refine gs_ Try.func89 #[.int .i64 ((rd_T103 l0 x3_1).f1), .int .i64 ((rd_T103 l0 x3_1).f0), .int .i64 255] ?_
            with_reducible refine (spec_l1In.calls ((rd_T103 l0 x3_1).f1) ((rd_T103 l0 x3_1).f0) 255 true _ A7.out).mono ?_
            rintro e w' ⟨rfl, ⟨nd, rfl⟩⟩
            refine ⟨_, rfl, ?_⟩
            refine hK.out _ _ ⟨(mv_ HB.out hw101_0), (mv_ HB.out hw101_1), (mv_ HB.out hw103_0), (mv_ HB.out hw103_1), (mv_ HB.out hw104_0), (mv_ HB.out hw104_1), (mv_ HB.out hw106_0), (mv_ HB.out hw106_1), (mv_ HB.out hw107_0), (mv_ HB.out hw107_1)⟩ (fun hHeld => ?_)
            clear hK K
            refine no_ (some 31) ?_
            refine pu_ 19 (some 32) (bb 40 1048575) HT_.out ?_
            refine pu_ 20 (some 33) (bb 40 2097151) HT_.out ?_
            refine pu_ 21 (some 34) (bb 40 4194303) HT_.out ?_
            refine pu_ 22 (some 35) (bb 40 8388607) HT_.out ?_
            refine pu_ 23 (some 36) (bb 40 16777215) HT_.out ?_
            refine pu_ 24 (some 37) (bb 40 33554431) HT_.out ?_
            refine pu_ 25 (some 38) (bb 40 67108863) HT_.out ?_
            refine pu_ 26 (some 39) (bb 40 134217727) HT_.out ?_
            refine pu_ 27 (some 40) (bb 40 268435455) HT_.out ?_
            refine pu_ 28 (some 41) (bb 40 536870911) HT_.out ?_
            refine pu_ 30 (some 43) (bb 40 1610612735) HT_.out ?_
            refine pu_ 31 (some 44) (bb 40 3758096383) HT_.out ?_
            refine pu_ 32 (some 45) (bb 40 8053063679) HT_.out ?_
            refine pu_ 33 (some 46) (bb 40 16642998271) HT_.out ?_
            refine pu_ 34 (some 47) (bb 40 33822867455) HT_.out ?_
            refine ta_ 29 (some 42) (bb 40 34359738367) HT_.out HW_.out hHeld ?_
            refine ta_ 35 (some 48) (bb 40 68719476735) HT_.out HW_.out hHeld ?_
            refine pu_ 36 (some 49) (bb 40 137438953471) HT_.out ?_
            refine pu_ 37 (some 50) (bb 40 274877906943) HT_.out ?_
            refine pu_ 38 (some 51) (bb 40 549755813887) HT_.out ?_
            refine pu_ 39 (some 52) (bb 40 1099511627775) HT_.out ?_
            refine done_ (done_of HT_.out (by kernel_rfl)) ?_
            try go_wp2
            go_roundg k1
            case measure => have := HK1.out; omega
            case rel => exact ⟨(wrap64 (x3_1 + 1)), rs_, H', ⟨by have := HK1.out; omega⟩, ⟨be_ HB.out⟩⟩
          ·rw [if_neg c12] at H
           exact absurd H (by simp)
         ·rw [if_neg c11] at H
          exact absurd H (by simp)
        ·rw [if_neg c9] at H
         have c9b0 : decide (0 < x3_1) = false := decide_eq_false c9
         clear c9
         have H' := Aside0.mk H
         clear H
         try go_wp2
         have n0_ := Aside0.mk (below_drew1 HB.out)
         clear HB
         have HB := n0_
         clear n0_
         have p101 : 0 ≤ (x3_1 : Int) := of_decide_eq_true as_
         have q101 : x3_1 < (l0.length : Int) := of_decide_eq_true as_
         obtain ⟨ad101, e101, hx101_0, hx101_1⟩ := at_T103 HR0.out x3_1 p101 q101
         have hw101_1 := hx101_1
         have hw101_0 := hx101_0
         cases e101
         replace hx101_0 := mv_ HB.out hx101_0
         replace hx101_1 := mv_ HB.out hx101_1
         replace p101 := eq_true p101
         replace q101 := eq_true q101
         have p103 : 0 ≤ (x3_1 : Int) := of_decide_eq_true as_
         have q103 : x3_1 < (l0.length : Int) := of_decide_eq_true as_
         obtain ⟨ad103, e103, hx103_0, hx103_1⟩ := at_T103 HR0.out x3_1 p103 q103
         have hw103_1 := hx103_1
         have hw103_0 := hx103_0
         obtain rfl : ad101 = ad103 := (by injection e103)
         replace hx103_0 := mv_ HB.out hx103_0
         replace hx103_1 := mv_ HB.out hx103_1
         replace p103 := eq_true p103
         replace q103 := eq_true q103
         have p104 : 0 ≤ (x3_1 : Int) := of_decide_eq_true as_
         have q104 : x3_1 < (l0.length : Int) := of_decide_eq_true as_
         obtain ⟨ad104, e104, hx104_0, hx104_1⟩ := at_T103 HR0.out x3_1 p104 q104
         have hw104_1 := hx104_1
         have hw104_0 := hx104_0
         obtain rfl : ad101 = ad104 := (by injection e104)
         replace hx104_0 := mv_ HB.out hx104_0
         replace hx104_1 := mv_ HB.out hx104_1
         replace p104 := eq_true p104
         replace q104 := eq_true q104
         refine start_ (n := 40) (S := fun w' => w'.cell? (ad101.add ((x3_1).toNat * 2)) = some (.int .i64 ((rd_T103 l0 x3_1).f0)) ∧ w'.cell? ⟨(ad101.add ((x3_1).toNat * 2)).block, (ad101.add ((x3_1).toNat * 2)).off + 1, none⟩ = some (.int .i64 ((rd_T103 l0 x3_1).f1)) ∧ w'.cell? (ad101.add ((x3_1).toNat * 2)) = some (.int .i64 ((rd_T103 l0 x3_1).f0)) ∧ w'.cell? ⟨(ad101.add ((x3_1).toNat * 2)).block, (ad101.add ((x3_1).toNat * 2)).off + 1, none⟩ = some (.int .i64 ((rd_T103 l0 x3_1).f1)) ∧ w'.cell? (ad101.add ((x3_1).toNat * 2)) = some (.int .i64 ((rd_T103 l0 x3_1).f0)) ∧ w'.cell? ⟨(ad101.add ((x3_1).toNat * 2)).block, (ad101.add ((x3_1).toNat * 2)).off + 1, none⟩ = some (.int .i64 ((rd_T103 l0 x3_1).f1))) (ds := []) #[false, false, false, false, false, false, false, false, false, false, false, false, false, false, false, false, false, false, false, false, false, false, false, false, false, false, false, false, false, false, false, false, false, false, false, false, false, false, false, false] (by kernel_rfl) rfl rfl ⟨(mv_ HB.out hw101_0), (mv_ HB.out hw101_1), (mv_ HB.out hw103_0), (mv_ HB.out hw103_1), (mv_ HB.out hw104_0), (mv_ HB.out hw104_1)⟩ (fun hHeld => ?_); refine with_tabW spec_ClassOk.tab6 spec_ClassOk.bits6 (fun HT_ HW_ => ?_)
         generalize wr.drew = w16 at HB hx101_0 hx101_1 hx103_0 hx103_1 hx104_0 hx104_1 hHeld ⊢
         refine pu_ 0 (some 13) (bb 40 1) HT_.out ?_
         refine pu_ 1 (some 14) (bb 40 3) HT_.out ?_
         refine pu_ 2 (some 15) (bb 40 7) HT_.out ?_
         refine pu_ 3 (some 16) (bb 40 15) HT_.out ?_
         refine ta_ 4 (some 17) (bb 40 31) HT_.out HW_.out hHeld ?_
         refine one_ (i := 5) (N := some 18) (bb 40 63) rfl rfl (one_of HT_.out (by kernel_rfl)) (by decide) (fun K hK => ?_)
         refine gs_ Try.func89 #[.int .i64 ((rd_T103 l0 x3_1).f0), .int .i64 0, .int .i64 255] ?_
         with_reducible refine (spec_l1In.calls ((rd_T103 l0 x3_1).f0) 0 255 true _ A5.out).mono ?_
         rintro e w' ⟨rfl, ⟨nd, rfl⟩⟩
         refine ⟨_, rfl, ?_⟩
         refine hK.out _ _ ⟨(mv_ HB.out hw101_0), (mv_ HB.out hw101_1), (mv_ HB.out hw103_0), (mv_ HB.out hw103_1), (mv_ HB.out hw104_0), (mv_ HB.out hw104_1)⟩ (fun hHeld => ?_)
         clear hK K
         refine no_ (some 18) ?_
         refine pu_ 6 (some 19) (bb 40 127) HT_.out ?_
         refine pu_ 7 (some 20) (bb 40 255) HT_.out ?_
         refine pu_ 8 (some 21) (bb 40 511) HT_.out ?_
         refine pu_ 9 (some 22) (bb 40 1023) HT_.out ?_
         refine pu_ 10 (some 23) (bb 40 2047) HT_.out ?_
         refine pu_ 11 (some 24) (bb 40 4095) HT_.out ?_
         refine pu_ 13 (some 26) (bb 40 12287) HT_.out ?_
         refine pu_ 14 (some 27) (bb 40 28671) HT_.out ?_
         refine pu_ 15 (some 28) (bb 40 61439) HT_.out ?_
         refine pu_ 16 (some 29) (bb 40 126975) HT_.out ?_
         refine ta_ 12 (some 25) (bb 40 131071) HT_.out HW_.out hHeld ?_
         refine ta_ 17 (some 30) (bb 40 262143) HT_.out HW_.out hHeld ?_
         refine one_ (i := 18) (N := some 31) (bb 40 524287) rfl rfl (one_of HT_.out (by kernel_rfl)) (by decide) (fun K hK => ?_)
         refine gs_ Try.func89 #[.int .i64 ((rd_T103 l0 x3_1).f1), .int .i64 ((rd_T103 l0 x3_1).f0), .int .i64 255] ?_
         with_reducible refine (spec_l1In.calls ((rd_T103 l0 x3_1).f1) ((rd_T103 l0 x3_1).f0) 255 true _ A7.out).mono ?_
         rintro e w' ⟨rfl, ⟨nd, rfl⟩⟩
         refine ⟨_, rfl, ?_⟩
         refine hK.out _ _ ⟨(mv_ HB.out hw101_0), (mv_ HB.out hw101_1), (mv_ HB.out hw103_0), (mv_ HB.out hw103_1), (mv_ HB.out hw104_0), (mv_ HB.out hw104_1)⟩ (fun hHeld => ?_)
         clear hK K
         refine no_ (some 31) ?_
         refine pu_ 19 (some 32) (bb 40 1048575) HT_.out ?_
         refine pu_ 20 (some 33) (bb 40 2097151) HT_.out ?_
         refine pu_ 21 (some 34) (bb 40 4194303) HT_.out ?_
         refine pu_ 22 (some 35) (bb 40 8388607) HT_.out ?_
         refine pu_ 23 (some 36) (bb 40 16777215) HT_.out ?_
         refine pu_ 24 (some 37) (bb 40 33554431) HT_.out ?_
         refine pw_ 25 (some 38) (bb 40 67108863) HT_.out ?_
         refine pw_ 26 (some 39) (bb 40 134217727) HT_.out ?_
         refine pw_ 27 (some 40) (bb 40 268435455) HT_.out ?_
         refine pw_ 28 (some 41) (bb 40 536870911) HT_.out ?_
         refine pw_ 29 (some 42) (bb 40 1073741823) HT_.out ?_
         refine pw_ 30 (some 43) (bb 40 2147483647) HT_.out ?_
         refine pw_ 31 (some 44) (bb 40 4294967295) HT_.out ?_
         refine pw_ 32 (some 45) (bb 40 8589934591) HT_.out ?_
         refine pw_ 33 (some 46) (bb 40 17179869183) HT_.out ?_
         refine pw_ 34 (some 47) (bb 40 34359738367) HT_.out ?_
         refine pw_ 35 (some 48) (bb 40 68719476735) HT_.out ?_
         refine pw_ 36 (some 49) (bb 40 137438953471) HT_.out ?_
         refine pw_ 37 (some 50) (bb 40 274877906943) HT_.out ?_
         refine pu_ 38 (some 51) (bb 40 549755813887) HT_.out ?_
         refine pu_ 39 (some 52) (bb 40 1099511627775) HT_.out ?_
         refine done_ (done_of HT_.out (by kernel_rfl)) ?_
         try go_wp2
         go_roundg k1
         case measure => have := HK1.out; omega
         case rel => exact ⟨(wrap64 (x3_1 + 1)), rs_, H', ⟨by have := HK1.out; omega⟩, ⟨be_ HB.out⟩⟩
       ·replace c8 := Bool.eq_false_iff.mpr c8
        subst c8
        have H1 : (some false) = some r := by rw [if_neg (show ¬ (false = true) by decide)] at H; exact H
        clear H
        have H := H1
        clear H1
        obtain rfl := Option.some.inj H
        try go_wp2
        have n0_ := Aside0.mk (below_drew1 HB.out)
        clear HB
        have HB := n0_
        clear n0_
        have p101 : 0 ≤ (x3_1 : Int) := of_decide_eq_true as_
        have q101 : x3_1 < (l0.length : Int) := of_decide_eq_true as_
        obtain ⟨ad101, e101, hx101_0, hx101_1⟩ := at_T103 HR0.out x3_1 p101 q101
        have hw101_1 := hx101_1
        have hw101_0 := hx101_0
        cases e101
        replace hx101_0 := mv_ HB.out hx101_0
        replace hx101_1 := mv_ HB.out hx101_1
        replace p101 := eq_true p101
        replace q101 := eq_true q101
        have p103 : 0 ≤ (x3_1 : Int) := of_decide_eq_true as_
        have q103 : x3_1 < (l0.length : Int) := of_decide_eq_true as_
        obtain ⟨ad103, e103, hx103_0, hx103_1⟩ := at_T103 HR0.out x3_1 p103 q103
        have hw103_1 := hx103_1
        have hw103_0 := hx103_0
        obtain rfl : ad101 = ad103 := (by injection e103)
        replace hx103_0 := mv_ HB.out hx103_0
        replace hx103_1 := mv_ HB.out hx103_1
        replace p103 := eq_true p103
        replace q103 := eq_true q103
        have p104 : 0 ≤ (x3_1 : Int) := of_decide_eq_true as_
        have q104 : x3_1 < (l0.length : Int) := of_decide_eq_true as_
        obtain ⟨ad104, e104, hx104_0, hx104_1⟩ := at_T103 HR0.out x3_1 p104 q104
        have hw104_1 := hx104_1
        have hw104_0 := hx104_0
        obtain rfl : ad101 = ad104 := (by injection e104)
        replace hx104_0 := mv_ HB.out hx104_0
        replace hx104_1 := mv_ HB.out hx104_1
        replace p104 := eq_true p104
        replace q104 := eq_true q104
        refine start_ (n := 40) (S := fun w' => w'.cell? (ad101.add ((x3_1).toNat * 2)) = some (.int .i64 ((rd_T103 l0 x3_1).f0)) ∧ w'.cell? ⟨(ad101.add ((x3_1).toNat * 2)).block, (ad101.add ((x3_1).toNat * 2)).off + 1, none⟩ = some (.int .i64 ((rd_T103 l0 x3_1).f1)) ∧ w'.cell? (ad101.add ((x3_1).toNat * 2)) = some (.int .i64 ((rd_T103 l0 x3_1).f0)) ∧ w'.cell? ⟨(ad101.add ((x3_1).toNat * 2)).block, (ad101.add ((x3_1).toNat * 2)).off + 1, none⟩ = some (.int .i64 ((rd_T103 l0 x3_1).f1)) ∧ w'.cell? (ad101.add ((x3_1).toNat * 2)) = some (.int .i64 ((rd_T103 l0 x3_1).f0)) ∧ w'.cell? ⟨(ad101.add ((x3_1).toNat * 2)).block, (ad101.add ((x3_1).toNat * 2)).off + 1, none⟩ = some (.int .i64 ((rd_T103 l0 x3_1).f1))) (ds := []) #[false, false, false, false, false, false, false, false, false, false, false, false, false, false, false, false, false, false, false, false, false, false, false, false, false, false, false, false, false, false, false, false, false, false, false, false, false, false, false, false] (by kernel_rfl) rfl rfl ⟨(mv_ HB.out hw101_0), (mv_ HB.out hw101_1), (mv_ HB.out hw103_0), (mv_ HB.out hw103_1), (mv_ HB.out hw104_0), (mv_ HB.out hw104_1)⟩ (fun hHeld => ?_); refine with_tabW spec_ClassOk.tab6 spec_ClassOk.bits6 (fun HT_ HW_ => ?_)
        generalize wr.drew = w17 at HB hx101_0 hx101_1 hx103_0 hx103_1 hx104_0 hx104_1 hHeld ⊢
        refine pu_ 0 (some 13) (bb 40 1) HT_.out ?_
        refine pu_ 1 (some 14) (bb 40 3) HT_.out ?_
        refine pu_ 2 (some 15) (bb 40 7) HT_.out ?_
        refine pu_ 3 (some 16) (bb 40 15) HT_.out ?_
        refine ta_ 4 (some 17) (bb 40 31) HT_.out HW_.out hHeld ?_
        refine one_ (i := 5) (N := some 18) (bb 40 63) rfl rfl (one_of HT_.out (by kernel_rfl)) (by decide) (fun K hK => ?_)
        refine gs_ Try.func89 #[.int .i64 ((rd_T103 l0 x3_1).f0), .int .i64 0, .int .i64 255] ?_
        with_reducible refine (spec_l1In.calls ((rd_T103 l0 x3_1).f0) 0 255 true _ A5.out).mono ?_
        rintro e w' ⟨rfl, ⟨nd, rfl⟩⟩
        refine ⟨_, rfl, ?_⟩
        refine hK.out _ _ ⟨(mv_ HB.out hw101_0), (mv_ HB.out hw101_1), (mv_ HB.out hw103_0), (mv_ HB.out hw103_1), (mv_ HB.out hw104_0), (mv_ HB.out hw104_1)⟩ (fun hHeld => ?_)
        clear hK K
        refine no_ (some 18) ?_
        refine pu_ 6 (some 19) (bb 40 127) HT_.out ?_
        refine pu_ 7 (some 20) (bb 40 255) HT_.out ?_
        refine pu_ 8 (some 21) (bb 40 511) HT_.out ?_
        refine pu_ 9 (some 22) (bb 40 1023) HT_.out ?_
        refine pu_ 10 (some 23) (bb 40 2047) HT_.out ?_
        refine pu_ 11 (some 24) (bb 40 4095) HT_.out ?_
        refine pu_ 13 (some 26) (bb 40 12287) HT_.out ?_
        refine pu_ 14 (some 27) (bb 40 28671) HT_.out ?_
        refine pu_ 15 (some 28) (bb 40 61439) HT_.out ?_
        refine pu_ 16 (some 29) (bb 40 126975) HT_.out ?_
        refine ta_ 12 (some 25) (bb 40 131071) HT_.out HW_.out hHeld ?_
        refine ta_ 17 (some 30) (bb 40 262143) HT_.out HW_.out hHeld ?_
        refine one_ (i := 18) (N := some 31) (bb 40 524287) rfl rfl (one_of HT_.out (by kernel_rfl)) (by decide) (fun K hK => ?_)
        refine gs_ Try.func89 #[.int .i64 ((rd_T103 l0 x3_1).f1), .int .i64 ((rd_T103 l0 x3_1).f0), .int .i64 255] ?_
        with_reducible refine (spec_l1In.calls ((rd_T103 l0 x3_1).f1) ((rd_T103 l0 x3_1).f0) 255 false _ A7.out).mono ?_
        rintro e w' ⟨rfl, ⟨nd, rfl⟩⟩
        refine ⟨_, rfl, ?_⟩
        refine hK.out _ _ ⟨(mv_ HB.out hw101_0), (mv_ HB.out hw101_1), (mv_ HB.out hw103_0), (mv_ HB.out hw103_1), (mv_ HB.out hw104_0), (mv_ HB.out hw104_1)⟩ (fun hHeld => ?_)
        clear hK K
        refine no_ (some 31) ?_
        refine pu_ 19 (some 32) (bb 40 1048575) HT_.out ?_
        refine pu_ 20 (some 33) (bb 40 2097151) HT_.out ?_
        refine pu_ 21 (some 34) (bb 40 4194303) HT_.out ?_
        refine pw_ 22 (some 35) (bb 40 8388607) HT_.out ?_
        refine pw_ 23 (some 36) (bb 40 16777215) HT_.out ?_
        refine pw_ 24 (some 37) (bb 40 33554431) HT_.out ?_
        refine pw_ 25 (some 38) (bb 40 67108863) HT_.out ?_
        refine pw_ 26 (some 39) (bb 40 134217727) HT_.out ?_
        refine pw_ 27 (some 40) (bb 40 268435455) HT_.out ?_
        refine pw_ 28 (some 41) (bb 40 536870911) HT_.out ?_
        refine pw_ 29 (some 42) (bb 40 1073741823) HT_.out ?_
        refine pw_ 30 (some 43) (bb 40 2147483647) HT_.out ?_
        refine pw_ 31 (some 44) (bb 40 4294967295) HT_.out ?_
        refine pw_ 32 (some 45) (bb 40 8589934591) HT_.out ?_
        refine pw_ 33 (some 46) (bb 40 17179869183) HT_.out ?_
        refine pw_ 34 (some 47) (bb 40 34359738367) HT_.out ?_
        refine pw_ 35 (some 48) (bb 40 68719476735) HT_.out ?_
        refine pw_ 36 (some 49) (bb 40 137438953471) HT_.out ?_
        refine pw_ 37 (some 50) (bb 40 274877906943) HT_.out ?_
        refine pw_ 38 (some 51) (bb 40 549755813887) HT_.out ?_
        refine pu_ 39 (some 52) (bb 40 1099511627775) HT_.out ?_
        refine done_ (done_of HT_.out (by kernel_rfl)) ?_
        try go_wp2
        go_ret
        exact ⟨rt_, be_ HB.out⟩
      ·replace c6 := Bool.eq_false_iff.mpr c6
       subst c6
       have H1 : (some false) = some r := by rw [if_neg (show ¬ (false = true) by decide)] at H; exact H
       clear H
       have H := H1
       clear H1
       obtain rfl := Option.some.inj H
       try go_wp2
       have n0_ := Aside0.mk (below_drew1 HB.out)
       clear HB
       have HB := n0_
       clear n0_
       have p101 : 0 ≤ (x3_1 : Int) := of_decide_eq_true as_
       have q101 : x3_1 < (l0.length : Int) := of_decide_eq_true as_
       obtain ⟨ad101, e101, hx101_0, hx101_1⟩ := at_T103 HR0.out x3_1 p101 q101
       have hw101_1 := hx101_1
       have hw101_0 := hx101_0
       cases e101
       replace hx101_0 := mv_ HB.out hx101_0
       replace hx101_1 := mv_ HB.out hx101_1
       replace p101 := eq_true p101
       replace q101 := eq_true q101
       refine start_ (n := 40) (S := fun w' => w'.cell? (ad101.add ((x3_1).toNat * 2)) = some (.int .i64 ((rd_T103 l0 x3_1).f0)) ∧ w'.cell? ⟨(ad101.add ((x3_1).toNat * 2)).block, (ad101.add ((x3_1).toNat * 2)).off + 1, none⟩ = some (.int .i64 ((rd_T103 l0 x3_1).f1))) (ds := []) #[false, false, false, false, false, false, false, false, false, false, false, false, false, false, false, false, false, false, false, false, false, false, false, false, false, false, false, false, false, false, false, false, false, false, false, false, false, false, false, false] (by kernel_rfl) rfl rfl ⟨(mv_ HB.out hw101_0), (mv_ HB.out hw101_1)⟩ (fun hHeld => ?_); refine with_tabW spec_ClassOk.tab6 spec_ClassOk.bits6 (fun HT_ HW_ => ?_)
       generalize wr.drew = w18 at HB hx101_0 hx101_1 hHeld ⊢
       refine pu_ 0 (some 13) (bb 40 1) HT_.out ?_
       refine pu_ 1 (some 14) (bb 40 3) HT_.out ?_
       refine pu_ 2 (some 15) (bb 40 7) HT_.out ?_
       refine pu_ 3 (some 16) (bb 40 15) HT_.out ?_
       refine ta_ 4 (some 17) (bb 40 31) HT_.out HW_.out hHeld ?_
       refine one_ (i := 5) (N := some 18) (bb 40 63) rfl rfl (one_of HT_.out (by kernel_rfl)) (by decide) (fun K hK => ?_)
       refine gs_ Try.func89 #[.int .i64 ((rd_T103 l0 x3_1).f0), .int .i64 0, .int .i64 255] ?_
       with_reducible refine (spec_l1In.calls ((rd_T103 l0 x3_1).f0) 0 255 false _ A5.out).mono ?_
       rintro e w' ⟨rfl, ⟨nd, rfl⟩⟩
       refine ⟨_, rfl, ?_⟩
       refine hK.out _ _ ⟨(mv_ HB.out hw101_0), (mv_ HB.out hw101_1)⟩ (fun hHeld => ?_)
       clear hK K
       refine no_ (some 18) ?_
       refine pu_ 6 (some 19) (bb 40 127) HT_.out ?_
       refine pu_ 7 (some 20) (bb 40 255) HT_.out ?_
       refine pw_ 8 (some 21) (bb 40 511) HT_.out ?_
       refine pw_ 9 (some 22) (bb 40 1023) HT_.out ?_
       refine pw_ 10 (some 23) (bb 40 2047) HT_.out ?_
       refine pw_ 11 (some 24) (bb 40 4095) HT_.out ?_
       refine pw_ 12 (some 25) (bb 40 8191) HT_.out ?_
       refine pw_ 13 (some 26) (bb 40 16383) HT_.out ?_
       refine pw_ 14 (some 27) (bb 40 32767) HT_.out ?_
       refine pw_ 15 (some 28) (bb 40 65535) HT_.out ?_
       refine pw_ 16 (some 29) (bb 40 131071) HT_.out ?_
       refine pw_ 17 (some 30) (bb 40 262143) HT_.out ?_
       refine pw_ 18 (some 31) (bb 40 524287) HT_.out ?_
       refine pw_ 19 (some 32) (bb 40 1048575) HT_.out ?_
       refine pu_ 20 (some 33) (bb 40 2097151) HT_.out ?_
       refine pu_ 21 (some 34) (bb 40 4194303) HT_.out ?_
       refine pw_ 22 (some 35) (bb 40 8388607) HT_.out ?_
       refine pw_ 23 (some 36) (bb 40 16777215) HT_.out ?_
       refine pw_ 24 (some 37) (bb 40 33554431) HT_.out ?_
       refine pw_ 25 (some 38) (bb 40 67108863) HT_.out ?_
       refine pw_ 26 (some 39) (bb 40 134217727) HT_.out ?_
       refine pw_ 27 (some 40) (bb 40 268435455) HT_.out ?_
       refine pw_ 28 (some 41) (bb 40 536870911) HT_.out ?_
       refine pw_ 29 (some 42) (bb 40 1073741823) HT_.out ?_
       refine pw_ 30 (some 43) (bb 40 2147483647) HT_.out ?_
       refine pw_ 31 (some 44) (bb 40 4294967295) HT_.out ?_
       refine pw_ 32 (some 45) (bb 40 8589934591) HT_.out ?_
       refine pw_ 33 (some 46) (bb 40 17179869183) HT_.out ?_
       refine pw_ 34 (some 47) (bb 40 34359738367) HT_.out ?_
       refine pw_ 35 (some 48) (bb 40 68719476735) HT_.out ?_
       refine pw_ 36 (some 49) (bb 40 137438953471) HT_.out ?_
       refine pw_ 37 (some 50) (bb 40 274877906943) HT_.out ?_
       refine pw_ 38 (some 51) (bb 40 549755813887) HT_.out ?_
       refine pu_ 39 (some 52) (bb 40 1099511627775) HT_.out ?_
       refine done_ (done_of HT_.out (by kernel_rfl)) ?_
       try go_wp2
       go_ret
       exact ⟨rt_, be_ HB.out⟩
     ·rw [if_neg c4] at H
      exact absurd H (by simp)
    ·rw [if_neg c3] at H
     have c3b0 : decide (x3_1 < (l0.length : Int)) = false := decide_eq_false c3
     clear c3
     obtain rfl := Option.some.inj H
     go_wp2
     go_ret
     exact ⟨rt_, be_ HB.out⟩

end Go.Proofs.Ytijmhelacmjggaa.P
-- Made by wip/gen/pp.py of this session over the kit's print of the loaded program: a function, and the contract of its walk. Lean checks it.
namespace Go.Proofs.Ytijmhelacmjggaa.P
open Go.RowKit Go.Proofs.YtijmhelacmjggaaW.PrintWords Go.Proofs.YtijmhelacmjggaaW.PrintLast Go.Proofs.YtijmhelacmjggaaW.PrintMore
attribute [local go_sem] max2_int min2_int max_two min_two max_three min_three max_four min_four   -- for this text's walks alone
set_option linter.unusedVariables false
set_option linter.unusedSimpArgs false

/-! ### spec_l3Kids: function 150 -/
def spec_l3Kids.j0 : Nat → Int → Bool → Option (Int)
 | 0, _, _ => none
 | k + 1, x3, x4 => if x4 = true then (some 2) else (if x3 = 5 then (some 1) else (if x3 = 6 then (some 1) else (if x3 = 7 then (some 1) else (if x3 = 8 then (some 1) else (some 0)))))
def spec_l3Kids.f (k : Nat) (a0 : Int) : Option (Int) := if a0 = 3 then (spec_l3Kids.j0 k a0 (a0 == 3)) else (spec_l3Kids.j0 k a0 (a0 == 4))
theorem spec_l3Kids.mono_l : ∀ k, (∀ y0 y1, LeO (spec_l3Kids.j0 k y0 y1) (spec_l3Kids.j0 (k + 1) y0 y1))
 | 0 => fun _ _ r h => by simp [spec_l3Kids.j0] at h
 | k + 1 => by
  have ih0 := spec_l3Kids.mono_l k
  ·intro y0 y1
   unfold spec_l3Kids.j0
   repeat' first
   | (with_reducible exact ih0 _ _)
   | (with_reducible exact LeO.refl _)
   | (with_reducible exact LeO.none _)
   | (with_reducible refine LeO.ite ?_ ?_)
   | (with_reducible refine LeO.bind ?_ (fun _ => ?_))
   | exact ih0 _ _
   | exact LeO.none _
   | refine LeO.ite ?_ ?_
   | refine LeO.bind ?_ (fun _ => ?_)
theorem spec_l3Kids.mono : ∀ a0 k, LeO (spec_l3Kids.f k a0) (spec_l3Kids.f (k + 1) a0) := by
 intro a0 k
 have ih0 := spec_l3Kids.mono_l k
 unfold spec_l3Kids.f
 repeat' first
   | (with_reducible exact ih0 _ _)
   | (with_reducible exact LeO.refl _)
   | (with_reducible exact LeO.none _)
   | (with_reducible refine LeO.ite ?_ ?_)
   | (with_reducible refine LeO.bind ?_ (fun _ => ?_))
   | exact ih0 _ _
   | exact LeO.none _
   | refine LeO.ite ?_ ?_
   | refine LeO.bind ?_ (fun _ => ?_)
set_option maxHeartbeats 8000000 in
set_option maxRecDepth 100000 in
theorem spec_l3Kids.calls (k : Nat) (a0 : Int) (r : Int) (w : World) (h : spec_l3Kids.f k a0 = some r) :
  Calls Try.prog 150 #[.int .i64 a0] w fun e w' => e = .returned (.int .i64 r) ∧ Drawn0 w w' := by
 have H : (if a0 = 3 then (spec_l3Kids.j0 k a0 (a0 == 3)) else (spec_l3Kids.j0 k a0 (a0 == 4))) = some r := h
 clear h
 have HC2 := Aside0.mk H
 clear H
 go_enter Try.func150, Try.ntmps150
 go_upto_if 4 with (fail)
 go_cut [4] (fun v4 wc => ∃ (kq : Nat) (x4_1 : Bool), v4 = .bool x4_1 ∧ Aside0 (spec_l3Kids.j0 kq a0 x4_1 = some r) ∧ Aside0 (kq ≤ k) ∧ Drawn0 w wc)
 case first =>
  have H := HC2.out
  clear HC2
  by_cases c3 : a0 = 3
  ·rw [if_pos c3] at H
   have c3b0 : (a0 == 3) = true := beq_iff_eq.mpr c3
   have c3b1 : (a0 != 3) = false := bne_eq_false_iff_eq.mpr c3
   clear c3
   (first | rw [c3b0] | (simp only [i64_w, i32_w]; rw [c3b0]) | skip)
   have H' := Aside0.mk H
   clear H
   go_wp2
   go_meet
   case rel => exact ⟨_, ((a0 == 3)), rs_, H', ⟨by first | omega | exact Nat.le_refl _⟩, by repeat (first | exact Drawn0.refl _ | apply Drawn0.step)⟩
  ·rw [if_neg c3] at H
   have c3b0 : (a0 == 3) = false := beq_eq_false_iff_ne.mpr c3
   have c3b1 : (a0 != 3) = true := bne_iff_ne.mpr c3
   (first | rw [c3b0] | (simp only [i64_w, i32_w]; rw [c3b0]) | skip)
   have H' := Aside0.mk H
   clear H
   go_wp2
   go_meet
   case rel => exact ⟨_, ((a0 == 4)), rs_, H', ⟨by first | omega | exact Nat.le_refl _⟩, by repeat (first | exact Drawn0.refl _ | apply Drawn0.step)⟩
 case rest =>
  clear HC2
  try clear c1
  try clear p2
  try clear c3
  try clear c3b0
  try clear c3b1
  obtain ⟨kq, x4_1, rfl, HA, HJ1, ⟨mc1, rfl⟩⟩ := hcut
  cases kq with
  | zero => exact absurd HA.out (by simp [spec_l3Kids.j0])
  | succ kj1 =>
   have H := HA.out
   clear HA
   simp only [spec_l3Kids.j0] at H
   by_cases c4 : x4_1 = true
   ·subst c4
    have H1 : (some 2) = some r := by rw [if_pos rfl] at H; exact H
    clear H
    have H := H1
    clear H1
    obtain rfl := Option.some.inj H
    go_wp2
    go_ret
    exact ⟨by first | rfl | (simp; done) | (simp [*]; done), by repeat (first | exact Drawn0.refl _ | apply Drawn0.step)⟩
   ·replace c4 := Bool.eq_false_iff.mpr c4
    subst c4
    have H1 : (if a0 = 5 then (some 1) else (if a0 = 6 then (some 1) else (if a0 = 7 then (some 1) else (if a0 = 8 then (some 1) else (some 0))))) = some r := by rw [if_neg (show ¬ (false = true) by decide)] at H; exact H
    clear H
    have H := H1
    clear H1
    by_cases c5 : a0 = 5
    ·rw [if_pos c5] at H
     have c5b0 : (a0 == 5) = true := beq_iff_eq.mpr c5
     have c5b1 : (a0 != 5) = false := bne_eq_false_iff_eq.mpr c5
     clear c5
     obtain rfl := Option.some.inj H
     go_wp2
     go_ret
     exact ⟨by first | rfl | (simp; done) | (simp [*]; done), by repeat (first | exact Drawn0.refl _ | apply Drawn0.step)⟩
    ·rw [if_neg c5] at H
     have c5b0 : (a0 == 5) = false := beq_eq_false_iff_ne.mpr c5
     have c5b1 : (a0 != 5) = true := bne_iff_ne.mpr c5
     by_cases c6 : a0 = 6
     ·rw [if_pos c6] at H
      have c6b0 : (a0 == 6) = true := beq_iff_eq.mpr c6
      have c6b1 : (a0 != 6) = false := bne_eq_false_iff_eq.mpr c6
      clear c6
      obtain rfl := Option.some.inj H
      go_wp2
      go_ret
      exact ⟨by first | rfl | (simp; done) | (simp [*]; done), by repeat (first | exact Drawn0.refl _ | apply Drawn0.step)⟩
     ·rw [if_neg c6] at H
      have c6b0 : (a0 == 6) = false := beq_eq_false_iff_ne.mpr c6
      have c6b1 : (a0 != 6) = true := bne_iff_ne.mpr c6
      by_cases c7 : a0 = 7
      ·rw [if_pos c7] at H
       have c7b0 : (a0 == 7) = true := beq_iff_eq.mpr c7
       have c7b1 : (a0 != 7) = false := bne_eq_false_iff_eq.mpr c7
       clear c7
       obtain rfl := Option.some.inj H
       go_wp2
       go_ret
       exact ⟨by first | rfl | (simp; done) | (simp [*]; done), by repeat (first | exact Drawn0.refl _ | apply Drawn0.step)⟩
      ·rw [if_neg c7] at H
       have c7b0 : (a0 == 7) = false := beq_eq_false_iff_ne.mpr c7
       have c7b1 : (a0 != 7) = true := bne_iff_ne.mpr c7
       by_cases c8 : a0 = 8
       ·rw [if_pos c8] at H
        have c8b0 : (a0 == 8) = true := beq_iff_eq.mpr c8
        have c8b1 : (a0 != 8) = false := bne_eq_false_iff_eq.mpr c8
        clear c8
        obtain rfl := Option.some.inj H
        go_wp2
        go_ret
        exact ⟨by first | rfl | (simp; done) | (simp [*]; done), by repeat (first | exact Drawn0.refl _ | apply Drawn0.step)⟩
       ·rw [if_neg c8] at H
        have c8b0 : (a0 == 8) = false := beq_eq_false_iff_ne.mpr c8
        have c8b1 : (a0 != 8) = true := bne_iff_ne.mpr c8
        obtain rfl := Option.some.inj H
        go_wp2
        go_ret
        exact ⟨by first | rfl | (simp; done) | (simp [*]; done), by repeat (first | exact Drawn0.refl _ | apply Drawn0.step)⟩

end Go.Proofs.Ytijmhelacmjggaa.P
-- Made by wip/gen/pp.py of this session over the kit's print of the loaded program: a function, and the contract of its walk. Lean checks it.
namespace Go.Proofs.Ytijmhelacmjggaa.P
open Go.RowKit Go.Proofs.YtijmhelacmjggaaW.PrintWords Go.Proofs.YtijmhelacmjggaaW.PrintLast Go.Proofs.YtijmhelacmjggaaW.PrintMore
attribute [local go_sem] max2_int min2_int max_two min_two max_three min_three max_four min_four   -- for this text's walks alone
set_option linter.unusedVariables false
set_option linter.unusedSimpArgs false

/-! ### spec_l3Node: function 116 -/
mutual
def spec_l3Node.j0 : Nat → Int → Bool → Int → List (S103) → List Int → Int → Int → Option (Bool)
 | 0, _, _, _, _, _, _, _ => none
 | k + 1, x1, x18, x102000, x102001, x102002, x102003, x102004 => if x18 = true then (some false) else (spec_l3Node.l0 k x1 0 x102000 x102001 x102002 x102003 x102004)
def spec_l3Node.l0 : Nat → Int → Int → Int → List (S103) → List Int → Int → Int → Option (Bool)
 | 0, _, _, _, _, _, _, _ => none
 | k + 1, x1, x5, x102000, x102001, x102002, x102003, x102004 => if x5 < (x102002.length : Int) then (if 0 ≤ x5 then ((spec_l1In.f (rd x102002 x5) 0 (wrap64 (x1 - 1))).bind fun t105 => (if t105 = true then (spec_l3Node.l0 k x1 (wrap64 (x5 + 1)) x102000 x102001 x102002 x102003 x102004) else (some false))) else (none)) else (if x102000 = 2 then ((spec_ClassOk.f k x102001).bind fun t106 => (if t106 = true then (if (x102001.length : Int) = 0 then (spec_l3Node.j2 k true x102000 x102001 x102002 x102003 x102004) else (spec_l3Node.j2 k false x102000 x102001 x102002 x102003 x102004)) else (spec_l3Node.j2 k true x102000 x102001 x102002 x102003 x102004))) else (spec_l3Node.j2 k (decide ((x102001.length : Int) > 0)) x102000 x102001 x102002 x102003 x102004))
def spec_l3Node.j2 : Nat → Bool → Int → List (S103) → List Int → Int → Int → Option (Bool)
 | 0, _, _, _, _, _, _ => none
 | k + 1, x60, x102000, x102001, x102002, x102003, x102004 => if x60 = true then (some false) else (if x102000 = 8 then ((spec_l1In.f x102003 0 30).bind fun t107 => (if t107 = true then (if x102004 = (-1) then (some true) else ((spec_l1In.f x102004 (mx 1 x102003) 30).bind fun t108 => (some t108))) else (some false))) else (if x102003 = 0 then (some (x102004 == 0)) else (some false)))
end
def spec_l3Node.f (k : Nat) (a0_0 : Int) (l0_1 : List (S103)) (l0_2 : List Int) (a0_3 : Int) (a0_4 : Int) (a1 : Int) : Option (Bool) := (spec_l1In.f a0_0 1 8).bind fun t102 => (if t102 = true then ((spec_l3Kids.f k a0_0).bind fun t103 => (spec_l3Node.j0 k a1 ((l0_2.length : Int) != t103) a0_0 l0_1 l0_2 a0_3 a0_4)) else (spec_l3Node.j0 k a1 true a0_0 l0_1 l0_2 a0_3 a0_4))
theorem spec_l3Node.mono_l : ∀ k, (∀ y0 y1 y2 y3 y4 y5 y6, LeO (spec_l3Node.j0 k y0 y1 y2 y3 y4 y5 y6) (spec_l3Node.j0 (k + 1) y0 y1 y2 y3 y4 y5 y6)) ∧ (∀ y0 y1 y2 y3 y4 y5 y6, LeO (spec_l3Node.l0 k y0 y1 y2 y3 y4 y5 y6) (spec_l3Node.l0 (k + 1) y0 y1 y2 y3 y4 y5 y6)) ∧ (∀ y0 y1 y2 y3 y4 y5, LeO (spec_l3Node.j2 k y0 y1 y2 y3 y4 y5) (spec_l3Node.j2 (k + 1) y0 y1 y2 y3 y4 y5))
 | 0 => ⟨fun _ _ _ _ _ _ _ r h => by simp [spec_l3Node.j0] at h, fun _ _ _ _ _ _ _ r h => by simp [spec_l3Node.l0] at h, fun _ _ _ _ _ _ r h => by simp [spec_l3Node.j2] at h⟩
 | k + 1 => by
  obtain ⟨ih0, ih1, ih2⟩ := spec_l3Node.mono_l k
  refine ⟨?_, ?_, ?_⟩
  ·intro y0 y1 y2 y3 y4 y5 y6
   unfold spec_l3Node.j0
   repeat' first
   | (with_reducible exact ih0 _ _ _ _ _ _ _)
   | (with_reducible exact ih1 _ _ _ _ _ _ _)
   | (with_reducible exact ih2 _ _ _ _ _ _)
   | (with_reducible exact spec_ClassOk.mono _ _)
   | (with_reducible exact spec_l3Kids.mono _ _)
   | (with_reducible exact LeO.refl _)
   | (with_reducible exact LeO.none _)
   | (with_reducible refine LeO.ite ?_ ?_)
   | (with_reducible refine LeO.bind ?_ (fun _ => ?_))
   | exact ih0 _ _ _ _ _ _ _
   | exact ih1 _ _ _ _ _ _ _
   | exact ih2 _ _ _ _ _ _
   | exact spec_ClassOk.mono _ _
   | exact spec_l3Kids.mono _ _
   | exact LeO.none _
   | refine LeO.ite ?_ ?_
   | refine LeO.bind ?_ (fun _ => ?_)
  ·intro y0 y1 y2 y3 y4 y5 y6
   unfold spec_l3Node.l0
   repeat' first
   | (with_reducible exact ih0 _ _ _ _ _ _ _)
   | (with_reducible exact ih1 _ _ _ _ _ _ _)
   | (with_reducible exact ih2 _ _ _ _ _ _)
   | (with_reducible exact spec_ClassOk.mono _ _)
   | (with_reducible exact spec_l3Kids.mono _ _)
   | (with_reducible exact LeO.refl _)
   | (with_reducible exact LeO.none _)
   | (with_reducible refine LeO.ite ?_ ?_)
   | (with_reducible refine LeO.bind ?_ (fun _ => ?_))
   | exact ih0 _ _ _ _ _ _ _
   | exact ih1 _ _ _ _ _ _ _
   | exact ih2 _ _ _ _ _ _
   | exact spec_ClassOk.mono _ _
   | exact spec_l3Kids.mono _ _
   | exact LeO.none _
   | refine LeO.ite ?_ ?_
   | refine LeO.bind ?_ (fun _ => ?_)
  ·intro y0 y1 y2 y3 y4 y5
   unfold spec_l3Node.j2
   repeat' first
   | (with_reducible exact ih0 _ _ _ _ _ _ _)
   | (with_reducible exact ih1 _ _ _ _ _ _ _)
   | (with_reducible exact ih2 _ _ _ _ _ _)
   | (with_reducible exact spec_ClassOk.mono _ _)
   | (with_reducible exact spec_l3Kids.mono _ _)
   | (with_reducible exact LeO.refl _)
   | (with_reducible exact LeO.none _)
   | (with_reducible refine LeO.ite ?_ ?_)
   | (with_reducible refine LeO.bind ?_ (fun _ => ?_))
   | exact ih0 _ _ _ _ _ _ _
   | exact ih1 _ _ _ _ _ _ _
   | exact ih2 _ _ _ _ _ _
   | exact spec_ClassOk.mono _ _
   | exact spec_l3Kids.mono _ _
   | exact LeO.none _
   | refine LeO.ite ?_ ?_
   | refine LeO.bind ?_ (fun _ => ?_)
theorem spec_l3Node.mono : ∀ a0 a1 a2 a3 a4 a5 k, LeO (spec_l3Node.f k a0 a1 a2 a3 a4 a5) (spec_l3Node.f (k + 1) a0 a1 a2 a3 a4 a5) := by
 intro a0 a1 a2 a3 a4 a5 k
 obtain ⟨ih0, ih1, ih2⟩ := spec_l3Node.mono_l k
 unfold spec_l3Node.f
 repeat' first
   | (with_reducible exact ih0 _ _ _ _ _ _ _)
   | (with_reducible exact ih1 _ _ _ _ _ _ _)
   | (with_reducible exact ih2 _ _ _ _ _ _)
   | (with_reducible exact spec_ClassOk.mono _ _)
   | (with_reducible exact spec_l3Kids.mono _ _)
   | (with_reducible exact LeO.refl _)
   | (with_reducible exact LeO.none _)
   | (with_reducible refine LeO.ite ?_ ?_)
   | (with_reducible refine LeO.bind ?_ (fun _ => ?_))
   | exact ih0 _ _ _ _ _ _ _
   | exact ih1 _ _ _ _ _ _ _
   | exact ih2 _ _ _ _ _ _
   | exact spec_ClassOk.mono _ _
   | exact spec_l3Kids.mono _ _
   | exact LeO.none _
   | refine LeO.ite ?_ ?_
   | refine LeO.bind ?_ (fun _ => ?_)
set_option maxHeartbeats 8000000 in
set_option maxRecDepth 100000 in
theorem spec_l3Node.calls (k : Nat) (a0_0 : Int) (A0_1 : Option Addr) (c0_1 : Nat) (l0_1 : List (S103)) (A0_2 : Option Addr) (c0_2 : Nat) (l0_2 : List Int) (a0_3 : Int) (a0_4 : Int) (a1 : Int) (r : Bool) (w : World) (hr0_1 : Kd.C k103 w A0_1 l0_1.length l0_1) (hc0_1 : l0_1.length ≤ c0_1) (hr0_2 : Kd.C (Kd.int .i64) w A0_2 l0_2.length l0_2) (hc0_2 : l0_2.length ≤ c0_2) (h : spec_l3Node.f k a0_0 l0_1 l0_2 a0_3 a0_4 a1 = some r) :
  Calls Try.prog 116 #[.agg #[.int .i64 a0_0, .slice A0_1 l0_1.length c0_1, .slice A0_2 l0_2.length c0_2, .int .i64 a0_3, .int .i64 a0_4], .int .i64 a1] w fun e w' => e = .returned (.bool r) ∧ Below w.heap.size w w' := by
 have hu156 := Try.underlying156
 have HR0_1 := Aside0.mk hr0_1
 have HC0_1 := Aside0.mk hc0_1
 clear hr0_1 hc0_1
 have HR0_2 := Aside0.mk hr0_2
 have HC0_2 := Aside0.mk hc0_2
 clear hr0_2 hc0_2
 have HB := Aside0.mk (Below.refl w.heap.size w)
 have H : ((spec_l1In.f a0_0 1 8).bind fun t102 => (if t102 = true then ((spec_l3Kids.f k a0_0).bind fun t103 => (spec_l3Node.j0 k a1 ((l0_2.length : Int) != t103) a0_0 l0_1 l0_2 a0_3 a0_4)) else (spec_l3Node.j0 k a1 true a0_0 l0_1 l0_2 a0_3 a0_4))) = some r := h
 clear h
 have HC3 := Aside0.mk H
 clear H
 go_enter Try.func116, Try.ntmps116
 go_upto_region 1 with (((with_reducible refine gate_dst (N := 2) rfl ?_); (try (refine gate_guard (by rfl) ?_; dsimp only)); refine box_event ?hg (N := 2) ?hd (cs := #[.int .i64 a0_0, .slice A0_1 l0_1.length c0_1, .slice A0_2 l0_2.length c0_2, .int .i64 a0_3, .int .i64 a0_4]) (t := 156) ?hr ?_; (case hd => rfl); (case hg => rfl); (case hr => first | (go_simp; done) | (go_simp; rfl)); intro gb101 hg w4 hbox hb; have n0_ := Aside0.mk (below_step (be_ HB.out) hb); have n1_ := Aside0.mk (hbox); have n2_ := Aside0.mk ((by rw [hg]; exact (below_size (be_ HB.out)) : w.heap.size ≤ gb101)); have n3_ := Aside0.mk ((by rw [hg]; exact (below_size (be_ HB.out)) : w.heap.size ≤ gb101)); clear HB; have HB := n0_; have BK101 := n1_; have GW101 := n2_; have GE101 := n3_; clear n0_ n1_ n2_ n3_; clear hb hbox hg))
 repeat (go_quiet (fail); go_upto_region 1 with (fail))
 (try simp only [Act.put, List.setIfInBounds_toArray, List.set_cons_zero, List.set_cons_succ])
 go_cut [18] (fun v18 wc => ∃ (kq : Nat) (x18_2 : Bool), v18 = .bool x18_2 ∧ Aside0 (spec_l3Node.j0 kq a1 x18_2 a0_0 l0_1 l0_2 a0_3 a0_4 = some r) ∧ Aside0 (kq ≤ k) ∧ Aside0 (wc.heap[gb101]? = some (.cells #[.int .i64 a0_0, (.slice A0_1 l0_1.length c0_1), (.slice A0_2 l0_2.length c0_2), .int .i64 a0_3, .int .i64 a0_4] 156 (0, 0))) ∧ Aside0 (Below w.heap.size w wc))
 case first =>
  have H := HC3.out
  clear HC3
  replace H := Option.bind_eq_some_iff.mp H
  obtain ⟨t102, A50, H⟩ := H
  replace H : (if t102 = true then ((spec_l3Kids.f k a0_0).bind fun t103 => (spec_l3Node.j0 k a1 ((l0_2.length : Int) != t103) a0_0 l0_1 l0_2 a0_3 a0_4)) else (spec_l3Node.j0 k a1 true a0_0 l0_1 l0_2 a0_3 a0_4)) = some r := H
  have A5 := Aside0.mk A50
  clear A50
  by_cases c6 : t102 = true
  ·subst c6
   have H1 : ((spec_l3Kids.f k a0_0).bind fun t103 => (spec_l3Node.j0 k a1 ((l0_2.length : Int) != t103) a0_0 l0_1 l0_2 a0_3 a0_4)) = some r := by rw [if_pos rfl] at H; exact H
   clear H
   have H := H1
   clear H1
   replace H := Option.bind_eq_some_iff.mp H
   obtain ⟨t103, A70, H⟩ := H
   replace H : (spec_l3Node.j0 k a1 ((l0_2.length : Int) != t103) a0_0 l0_1 l0_2 a0_3 a0_4) = some r := H
   have A7 := Aside0.mk A70
   clear A70
   have H' := Aside0.mk H
   clear H
   have hcz8_0 : w4.cell? ⟨gb101, 0, none⟩ = some (.int .i64 a0_0) := (blk_cell BK101.out 0).trans rfl
   have hcz8_1 : w4.cell? ⟨gb101, 1, none⟩ = some (.slice A0_1 l0_1.length c0_1) := (blk_cell BK101.out 1).trans rfl
   have hcz8_2 : w4.cell? ⟨gb101, 2, none⟩ = some (.slice A0_2 l0_2.length c0_2) := (blk_cell BK101.out 2).trans rfl
   have hcz8_3 : w4.cell? ⟨gb101, 3, none⟩ = some (.int .i64 a0_3) := (blk_cell BK101.out 3).trans rfl
   have hcz8_4 : w4.cell? ⟨gb101, 4, none⟩ = some (.int .i64 a0_4) := (blk_cell BK101.out 4).trans rfl
   have hfz8_0 := blk_frozen BK101.out 0
   have hfz8_1 := blk_frozen BK101.out 1
   have hfz8_2 := blk_frozen BK101.out 2
   have hfz8_3 := blk_frozen BK101.out 3
   have hfz8_4 := blk_frozen BK101.out 4
   go_wp2_with (fail)
   repeat (go_quiet (first | (go_at_call 89; (with_reducible refine (spec_l1In.calls a0_0 1 8 true _ A5.out).mono ?_); rintro e w' ⟨rfl, ⟨nd, rfl⟩⟩; (try first | exact ⟨rfl, _, World.drewN_drewN _ _ _⟩ | exact ⟨rfl, _, Eq.trans (World.drewN_drewN _ _ _) (congrArg (World.drewN _) (Nat.add_assoc _ _ _))⟩)) | (go_at_call 150; (with_reducible refine (spec_l3Kids.calls k a0_0 t103 _ A7.out).mono ?_); rintro e w' ⟨rfl, ⟨nd, rfl⟩⟩; (try first | exact ⟨rfl, _, World.drewN_drewN _ _ _⟩ | exact ⟨rfl, _, Eq.trans (World.drewN_drewN _ _ _) (congrArg (World.drewN _) (Nat.add_assoc _ _ _))⟩))); try go_wp2_with (fail))
   go_meet
   case rel => exact ⟨_, (((l0_2.length : Int) != t103)), rs_, H', ⟨by first | omega | exact Nat.le_refl _⟩, ⟨bk_ BK101.out⟩, ⟨be1_ HB.out GE101.out⟩⟩
  ·replace c6 := Bool.eq_false_iff.mpr c6
   subst c6
   have H1 : (spec_l3Node.j0 k a1 true a0_0 l0_1 l0_2 a0_3 a0_4) = some r := by rw [if_neg (show ¬ (false = true) by decide)] at H; exact H
   clear H
   have H := H1
   clear H1
   have H' := Aside0.mk H
   clear H
   have hcz9_0 : w4.cell? ⟨gb101, 0, none⟩ = some (.int .i64 a0_0) := (blk_cell BK101.out 0).trans rfl
   have hcz9_1 : w4.cell? ⟨gb101, 1, none⟩ = some (.slice A0_1 l0_1.length c0_1) := (blk_cell BK101.out 1).trans rfl
   have hcz9_2 : w4.cell? ⟨gb101, 2, none⟩ = some (.slice A0_2 l0_2.length c0_2) := (blk_cell BK101.out 2).trans rfl
   have hcz9_3 : w4.cell? ⟨gb101, 3, none⟩ = some (.int .i64 a0_3) := (blk_cell BK101.out 3).trans rfl
   have hcz9_4 : w4.cell? ⟨gb101, 4, none⟩ = some (.int .i64 a0_4) := (blk_cell BK101.out 4).trans rfl
   have hfz9_0 := blk_frozen BK101.out 0
   have hfz9_1 := blk_frozen BK101.out 1
   have hfz9_2 := blk_frozen BK101.out 2
   have hfz9_3 := blk_frozen BK101.out 3
   have hfz9_4 := blk_frozen BK101.out 4
   go_wp2_with (fail)
   repeat (go_quiet ((go_at_call 89; (with_reducible refine (spec_l1In.calls a0_0 1 8 false _ A5.out).mono ?_); rintro e w' ⟨rfl, ⟨nd, rfl⟩⟩; (try first | exact ⟨rfl, _, World.drewN_drewN _ _ _⟩ | exact ⟨rfl, _, Eq.trans (World.drewN_drewN _ _ _) (congrArg (World.drewN _) (Nat.add_assoc _ _ _))⟩))); try go_wp2_with (fail))
   go_meet
   case rel => exact ⟨_, (true), rs_, H', ⟨by first | omega | exact Nat.le_refl _⟩, ⟨bk_ BK101.out⟩, ⟨be1_ HB.out GE101.out⟩⟩
 case rest =>
  clear HC3
  try clear c1
  try clear p2
  try clear c6
  try clear hcz8_0
  try clear hcz8_1
  try clear hcz8_2
  try clear hcz8_3
  try clear hcz8_4
  try clear hcz9_0
  try clear hcz9_1
  try clear hcz9_2
  try clear hcz9_3
  try clear hcz9_4
  try clear hfz8_0
  try clear hfz8_1
  try clear hfz8_2
  try clear hfz8_3
  try clear hfz8_4
  try clear hfz9_0
  try clear hfz9_1
  try clear hfz9_2
  try clear hfz9_3
  try clear hfz9_4
  obtain ⟨kq, x18_2, rfl, HA, HJ2, BK101, HB⟩ := hcut
  cases kq with
  | zero => exact absurd HA.out (by simp [spec_l3Node.j0])
  | succ kj2 =>
   have H := HA.out
   clear HA
   simp only [spec_l3Node.j0] at H
   by_cases c10 : x18_2 = true
   ·subst c10
    have H1 : (some false) = some r := by rw [if_pos rfl] at H; exact H
    clear H
    have H := H1
    clear H1
    obtain rfl := Option.some.inj H
    go_wp2
    repeat (go_quiet (fail); try go_wp2)
    go_ret
    exact ⟨rt_, be1_ HB.out GE101.out⟩
   ·replace c10 := Bool.eq_false_iff.mpr c10
    subst c10
    have H1 : (spec_l3Node.l0 kj2 a1 0 a0_0 l0_1 l0_2 a0_3 a0_4) = some r := by rw [if_neg (show ¬ (false = true) by decide)] at H; exact H
    clear H
    have H := H1
    clear H1
    have H' := Aside0.mk H
    clear H
    go_wp2
    repeat (go_quiet (fail); try go_wp2)
    go_loopg [5] kj2 (fun kq v5 w' => ∃ (x5_2 : Int), v5 = .int .i64 x5_2 ∧ Aside0 (spec_l3Node.l0 kq a1 x5_2 a0_0 l0_1 l0_2 a0_3 a0_4 = some r) ∧ Aside0 (kq ≤ kj2) ∧ Aside0 (w'.heap[gb101]? = some (.cells #[.int .i64 a0_0, (.slice A0_1 l0_1.length c0_1), (.slice A0_2 l0_2.length c0_2), .int .i64 a0_3, .int .i64 a0_4] 156 (0, 0))) ∧ Aside0 (Below w.heap.size w w'))
    case atStart => exact ⟨(0), rs_, H', ⟨Nat.le_refl _⟩, ⟨bk_ BK101.out⟩, ⟨be1_ HB.out GE101.out⟩⟩
    case round =>
     clear H'
     try clear c1
     try clear p2
     try clear c6
     try clear c10
     try clear hcz8_0
     try clear hcz8_1
     try clear hcz8_2
     try clear hcz8_3
     try clear hcz8_4
     try clear hcz9_0
     try clear hcz9_1
     try clear hcz9_2
     try clear hcz9_3
     try clear hcz9_4
     try clear hfz8_0
     try clear hfz8_1
     try clear hfz8_2
     try clear hfz8_3
     try clear hfz8_4
     try clear hfz9_0
     try clear hfz9_1
     try clear hfz9_2
     try clear hfz9_3
     try clear hfz9_4
     try clear p2
     obtain ⟨x5_2, rfl, HA, HK2, BK101, HB⟩ := hrel
     cases gk with
     | zero => exact absurd HA.out (by simp [spec_l3Node.l0])
     | succ k2 =>
      have H := HA.out
      clear HA
      simp only [spec_l3Node.l0] at H
      by_cases c11 : x5_2 < (l0_2.length : Int)
      ·rw [if_pos c11] at H
       have c11b0 : decide (x5_2 < (l0_2.length : Int)) = true := decide_eq_true c11
       clear c11
       by_cases c12 : 0 ≤ x5_2
       ·rw [if_pos c12] at H
        have c12b0 : decide (0 ≤ x5_2) = true := decide_eq_true c12
        clear c12
        replace H := Option.bind_eq_some_iff.mp H
        obtain ⟨t105, A130, H⟩ := H
        replace H : (if t105 = true then (spec_l3Node.l0 k2 a1 (wrap64 (x5_2 + 1)) a0_0 l0_1 l0_2 a0_3 a0_4) else (some false)) = some r := H
        have A13 := Aside0.mk A130
        clear A130
        by_cases c14 : t105 = true
        ·subst c14
         have H1 : (spec_l3Node.l0 k2 a1 (wrap64 (x5_2 + 1)) a0_0 l0_1 l0_2 a0_3 a0_4) = some r := by rw [if_pos rfl] at H; exact H
         clear H
         have H := H1
         clear H1
         have H' := Aside0.mk H
         clear H
         have hcz15_0 : wr.cell? ⟨gb101, 0, none⟩ = some (.int .i64 a0_0) := (blk_cell BK101.out 0).trans rfl
         have hcz15_1 : wr.cell? ⟨gb101, 1, none⟩ = some (.slice A0_1 l0_1.length c0_1) := (blk_cell BK101.out 1).trans rfl
         have hcz15_2 : wr.cell? ⟨gb101, 2, none⟩ = some (.slice A0_2 l0_2.length c0_2) := (blk_cell BK101.out 2).trans rfl
         have hcz15_3 : wr.cell? ⟨gb101, 3, none⟩ = some (.int .i64 a0_3) := (blk_cell BK101.out 3).trans rfl
         have hcz15_4 : wr.cell? ⟨gb101, 4, none⟩ = some (.int .i64 a0_4) := (blk_cell BK101.out 4).trans rfl
         have hfz15_0 := blk_frozen BK101.out 0
         have hfz15_1 := blk_frozen BK101.out 1
         have hfz15_2 := blk_frozen BK101.out 2
         have hfz15_3 := blk_frozen BK101.out 3
         have hfz15_4 := blk_frozen BK101.out 4
         have p104 : 0 ≤ (x5_2 : Int) := of_decide_eq_true as_
         have q104 : x5_2 < (l0_2.length : Int) := of_decide_eq_true as_
         obtain ⟨ad104, e104, hx104_0⟩ := Kd.at_int HR0_2.out x5_2 p104 q104
         cases e104
         replace hx104_0 := mv_ HB.out hx104_0
         replace p104 := eq_true p104
         replace q104 := eq_true q104
         go_wp2_with ((go_at_call 89; (with_reducible refine (spec_l1In.calls (rd l0_2 x5_2) 0 (wrap64 (a1 - 1)) true _ A13.out).mono ?_); rintro e w' ⟨rfl, ⟨nd, rfl⟩⟩; (try first | exact ⟨rfl, _, World.drewN_drewN _ _ _⟩ | exact ⟨rfl, _, Eq.trans (World.drewN_drewN _ _ _) (congrArg (World.drewN _) (Nat.add_assoc _ _ _))⟩)))
         repeat (go_quiet (fail); try go_wp2_with (fail))
         go_roundg k2
         case measure => have := HJ2.out; have := HK2.out; omega
         case rel => exact ⟨(wrap64 (x5_2 + 1)), rs_, H', ⟨by have := HJ2.out; have := HK2.out; omega⟩, ⟨bk_ BK101.out⟩, ⟨be1_ HB.out GE101.out⟩⟩
        ·replace c14 := Bool.eq_false_iff.mpr c14
         subst c14
         have H1 : (some false) = some r := by rw [if_neg (show ¬ (false = true) by decide)] at H; exact H
         clear H
         have H := H1
         clear H1
         obtain rfl := Option.some.inj H
         have hcz16_0 : wr.cell? ⟨gb101, 0, none⟩ = some (.int .i64 a0_0) := (blk_cell BK101.out 0).trans rfl
         have hcz16_1 : wr.cell? ⟨gb101, 1, none⟩ = some (.slice A0_1 l0_1.length c0_1) := (blk_cell BK101.out 1).trans rfl
         have hcz16_2 : wr.cell? ⟨gb101, 2, none⟩ = some (.slice A0_2 l0_2.length c0_2) := (blk_cell BK101.out 2).trans rfl
         have hcz16_3 : wr.cell? ⟨gb101, 3, none⟩ = some (.int .i64 a0_3) := (blk_cell BK101.out 3).trans rfl
         have hcz16_4 : wr.cell? ⟨gb101, 4, none⟩ = some (.int .i64 a0_4) := (blk_cell BK101.out 4).trans rfl
         have hfz16_0 := blk_frozen BK101.out 0
         have hfz16_1 := blk_frozen BK101.out 1
         have hfz16_2 := blk_frozen BK101.out 2
         have hfz16_3 := blk_frozen BK101.out 3
         have hfz16_4 := blk_frozen BK101.out 4
         have p104 : 0 ≤ (x5_2 : Int) := of_decide_eq_true as_
         have q104 : x5_2 < (l0_2.length : Int) := of_decide_eq_true as_
         obtain ⟨ad104, e104, hx104_0⟩ := Kd.at_int HR0_2.out x5_2 p104 q104
         cases e104
         replace hx104_0 := mv_ HB.out hx104_0
         replace p104 := eq_true p104
         replace q104 := eq_true q104
         go_wp2_with ((go_at_call 89; (with_reducible refine (spec_l1In.calls (rd l0_2 x5_2) 0 (wrap64 (a1 - 1)) false _ A13.out).mono ?_); rintro e w' ⟨rfl, ⟨nd, rfl⟩⟩; (try first | exact ⟨rfl, _, World.drewN_drewN _ _ _⟩ | exact ⟨rfl, _, Eq.trans (World.drewN_drewN _ _ _) (congrArg (World.drewN _) (Nat.add_assoc _ _ _))⟩)))
         repeat (go_quiet (fail); try go_wp2_with (fail))
         go_ret
         exact ⟨rt_, be1_ HB.out GE101.out⟩
       ·rw [if_neg c12] at H
        exact absurd H (by simp)
      ·rw [if_neg c11] at H
       have c11b0 : decide (x5_2 < (l0_2.length : Int)) = false := decide_eq_false c11
       clear c11
       have HC17 := Aside0.mk H
       clear H
       have hcz18_0 : wr.cell? ⟨gb101, 0, none⟩ = some (.int .i64 a0_0) := (blk_cell BK101.out 0).trans rfl
       have hcz18_1 : wr.cell? ⟨gb101, 1, none⟩ = some (.slice A0_1 l0_1.length c0_1) := (blk_cell BK101.out 1).trans rfl
       have hcz18_2 : wr.cell? ⟨gb101, 2, none⟩ = some (.slice A0_2 l0_2.length c0_2) := (blk_cell BK101.out 2).trans rfl
       have hcz18_3 : wr.cell? ⟨gb101, 3, none⟩ = some (.int .i64 a0_3) := (blk_cell BK101.out 3).trans rfl
       have hcz18_4 : wr.cell? ⟨gb101, 4, none⟩ = some (.int .i64 a0_4) := (blk_cell BK101.out 4).trans rfl
       have hfz18_0 := blk_frozen BK101.out 0
       have hfz18_1 := blk_frozen BK101.out 1
       have hfz18_2 := blk_frozen BK101.out 2
       have hfz18_3 := blk_frozen BK101.out 3
       have hfz18_4 := blk_frozen BK101.out 4
       go_upto_region 8 with (fail)
       repeat (go_quiet (fail); go_upto_region 8 with (fail))
       go_cut [60] (fun v60 wc => ∃ (kq : Nat) (x60_16 : Bool), v60 = .bool x60_16 ∧ Aside0 (spec_l3Node.j2 kq x60_16 a0_0 l0_1 l0_2 a0_3 a0_4 = some r) ∧ Aside0 (kq ≤ k2) ∧ Aside0 (wc.heap[gb101]? = some (.cells #[.int .i64 a0_0, (.slice A0_1 l0_1.length c0_1), (.slice A0_2 l0_2.length c0_2), .int .i64 a0_3, .int .i64 a0_4] 156 (0, 0))) ∧ Aside0 (Below w.heap.size w wc))
       case first =>
        have H := HC17.out
        clear HC17
        by_cases c19 : a0_0 = 2
        ·rw [if_pos c19] at H
         have c19b0 : (a0_0 == 2) = true := beq_iff_eq.mpr c19
         have c19b1 : (a0_0 != 2) = false := bne_eq_false_iff_eq.mpr c19
         clear c19
         (first | rw [c19b0] | (simp only [i64_w, i32_w]; rw [c19b0]) | skip)
         replace H := Option.bind_eq_some_iff.mp H
         obtain ⟨t106, A200, H⟩ := H
         replace H : (if t106 = true then (if (l0_1.length : Int) = 0 then (spec_l3Node.j2 k2 true a0_0 l0_1 l0_2 a0_3 a0_4) else (spec_l3Node.j2 k2 false a0_0 l0_1 l0_2 a0_3 a0_4)) else (spec_l3Node.j2 k2 true a0_0 l0_1 l0_2 a0_3 a0_4)) = some r := H
         have A20 := Aside0.mk A200
         clear A200
         by_cases c21 : t106 = true
         ·subst c21
          have H1 : (if (l0_1.length : Int) = 0 then (spec_l3Node.j2 k2 true a0_0 l0_1 l0_2 a0_3 a0_4) else (spec_l3Node.j2 k2 false a0_0 l0_1 l0_2 a0_3 a0_4)) = some r := by rw [if_pos rfl] at H; exact H
          clear H
          have H := H1
          clear H1
          by_cases c22 : (l0_1.length : Int) = 0
          ·rw [if_pos c22] at H
           have c22b0 : ((l0_1.length : Int) == 0) = true := beq_iff_eq.mpr c22
           have c22b1 : ((l0_1.length : Int) != 0) = false := bne_eq_false_iff_eq.mpr c22
           clear c22
           have H' := Aside0.mk H
           clear H
           have hcz23_0 : wr.cell? ⟨gb101, 0, none⟩ = some (.int .i64 a0_0) := (blk_cell BK101.out 0).trans rfl
           have hcz23_1 : wr.cell? ⟨gb101, 1, none⟩ = some (.slice A0_1 l0_1.length c0_1) := (blk_cell BK101.out 1).trans rfl
           have hcz23_2 : wr.cell? ⟨gb101, 2, none⟩ = some (.slice A0_2 l0_2.length c0_2) := (blk_cell BK101.out 2).trans rfl
           have hcz23_3 : wr.cell? ⟨gb101, 3, none⟩ = some (.int .i64 a0_3) := (blk_cell BK101.out 3).trans rfl
           have hcz23_4 : wr.cell? ⟨gb101, 4, none⟩ = some (.int .i64 a0_4) := (blk_cell BK101.out 4).trans rfl
           have hfz23_0 := blk_frozen BK101.out 0
           have hfz23_1 := blk_frozen BK101.out 1
           have hfz23_2 := blk_frozen BK101.out 2
           have hfz23_3 := blk_frozen BK101.out 3
           have hfz23_4 := blk_frozen BK101.out 4
           go_wp2_with ((go_at_call 141; (with_reducible refine (spec_ClassOk.calls k2 _ _ l0_1 true _ ?side1 ?side2 A20.out).mono ?_); (case side1 => repeat (first | exact (Kd.C_below HR0_1.out HB.out) | (with_reducible refine Kd.C_alloc ?_ _) | (with_reducible refine Kd.C_drewN ?_ _) | (with_reducible refine Kd.C_drew ?_))); (case side2 => exact HC0_1.out); rintro e w24 ⟨rfl, hb⟩; have n0_ := Aside0.mk (blk_below (g := gb101) (o := .cells #[.int .i64 a0_0, .slice A0_1 l0_1.length c0_1, .slice A0_2 l0_2.length c0_2, .int .i64 a0_3, .int .i64 a0_4] 156 (0, 0)) (bk_ BK101.out) hb); have n1_ := Aside0.mk (below_step (be1_ HB.out GE101.out) hb); clear BK101; clear HB; have BK101 := n0_; have HB := n1_; clear n0_ n1_; (try clear hb); (try clear hb2); (try clear hk); (try clear hi); have hcz25_0 : w24.cell? ⟨gb101, 0, none⟩ = some (.int .i64 a0_0) := (blk_cell BK101.out 0).trans rfl; have hcz25_1 : w24.cell? ⟨gb101, 1, none⟩ = some (.slice A0_1 l0_1.length c0_1) := (blk_cell BK101.out 1).trans rfl; have hcz25_2 : w24.cell? ⟨gb101, 2, none⟩ = some (.slice A0_2 l0_2.length c0_2) := (blk_cell BK101.out 2).trans rfl; have hcz25_3 : w24.cell? ⟨gb101, 3, none⟩ = some (.int .i64 a0_3) := (blk_cell BK101.out 3).trans rfl; have hcz25_4 : w24.cell? ⟨gb101, 4, none⟩ = some (.int .i64 a0_4) := (blk_cell BK101.out 4).trans rfl; have hfz25_0 := blk_frozen BK101.out 0; have hfz25_1 := blk_frozen BK101.out 1; have hfz25_2 := blk_frozen BK101.out 2; have hfz25_3 := blk_frozen BK101.out 3; have hfz25_4 := blk_frozen BK101.out 4))
           repeat (go_quiet (fail); try go_wp2_with (fail))
           go_meet
           case rel => exact ⟨_, (true), rs_, H', ⟨by have := HJ2.out; have := HK2.out; first | omega | exact Nat.le_refl _⟩, ⟨bk_ BK101.out⟩, ⟨be1_ HB.out GE101.out⟩⟩
          ·rw [if_neg c22] at H
           have c22b0 : ((l0_1.length : Int) == 0) = false := beq_eq_false_iff_ne.mpr c22
           have c22b1 : ((l0_1.length : Int) != 0) = true := bne_iff_ne.mpr c22
           have c22b2 : ¬ (l0_1 = []) := fun h_ => c22 (by rw [h_]; rfl)
           have H' := Aside0.mk H
           clear H
           have hcz26_0 : wr.cell? ⟨gb101, 0, none⟩ = some (.int .i64 a0_0) := (blk_cell BK101.out 0).trans rfl
           have hcz26_1 : wr.cell? ⟨gb101, 1, none⟩ = some (.slice A0_1 l0_1.length c0_1) := (blk_cell BK101.out 1).trans rfl
           have hcz26_2 : wr.cell? ⟨gb101, 2, none⟩ = some (.slice A0_2 l0_2.length c0_2) := (blk_cell BK101.out 2).trans rfl
           have hcz26_3 : wr.cell? ⟨gb101, 3, none⟩ = some (.int .i64 a0_3) := (blk_cell BK101.out 3).trans rfl
           have hcz26_4 : wr.cell? ⟨gb101, 4, none⟩ = some (.int .i64 a0_4) := (blk_cell BK101.out 4).trans rfl
           have hfz26_0 := blk_frozen BK101.out 0
           have hfz26_1 := blk_frozen BK101.out 1
           have hfz26_2 := blk_frozen BK101.out 2
           have hfz26_3 := blk_frozen BK101.out 3
           have hfz26_4 := blk_frozen BK101.out 4
           go_wp2_with ((go_at_call 141; (with_reducible refine (spec_ClassOk.calls k2 _ _ l0_1 true _ ?side1 ?side2 A20.out).mono ?_); (case side1 => repeat (first | exact (Kd.C_below HR0_1.out HB.out) | (with_reducible refine Kd.C_alloc ?_ _) | (with_reducible refine Kd.C_drewN ?_ _) | (with_reducible refine Kd.C_drew ?_))); (case side2 => exact HC0_1.out); rintro e w27 ⟨rfl, hb⟩; have n0_ := Aside0.mk (blk_below (g := gb101) (o := .cells #[.int .i64 a0_0, .slice A0_1 l0_1.length c0_1, .slice A0_2 l0_2.length c0_2, .int .i64 a0_3, .int .i64 a0_4] 156 (0, 0)) (bk_ BK101.out) hb); have n1_ := Aside0.mk (below_step (be1_ HB.out GE101.out) hb); clear BK101; clear HB; have BK101 := n0_; have HB := n1_; clear n0_ n1_; (try clear hb); (try clear hb2); (try clear hk); (try clear hi); have hcz28_0 : w27.cell? ⟨gb101, 0, none⟩ = some (.int .i64 a0_0) := (blk_cell BK101.out 0).trans rfl; have hcz28_1 : w27.cell? ⟨gb101, 1, none⟩ = some (.slice A0_1 l0_1.length c0_1) := (blk_cell BK101.out 1).trans rfl; have hcz28_2 : w27.cell? ⟨gb101, 2, none⟩ = some (.slice A0_2 l0_2.length c0_2) := (blk_cell BK101.out 2).trans rfl; have hcz28_3 : w27.cell? ⟨gb101, 3, none⟩ = some (.int .i64 a0_3) := (blk_cell BK101.out 3).trans rfl; have hcz28_4 : w27.cell? ⟨gb101, 4, none⟩ = some (.int .i64 a0_4) := (blk_cell BK101.out 4).trans rfl; have hfz28_0 := blk_frozen BK101.out 0; have hfz28_1 := blk_frozen BK101.out 1; have hfz28_2 := blk_frozen BK101.out 2; have hfz28_3 := blk_frozen BK101.out 3; have hfz28_4 := blk_frozen BK101.out 4))
           repeat (go_quiet (fail); try go_wp2_with (fail))
           go_meet
           case rel => exact ⟨_, (false), rs_, H', ⟨by have := HJ2.out; have := HK2.out; first | omega | exact Nat.le_refl _⟩, ⟨bk_ BK101.out⟩, ⟨be1_ HB.out GE101.out⟩⟩
         ·replace c21 := Bool.eq_false_iff.mpr c21
          subst c21
          have H1 : (spec_l3Node.j2 k2 true a0_0 l0_1 l0_2 a0_3 a0_4) = some r := by rw [if_neg (show ¬ (false = true) by decide)] at H; exact H
          clear H
          have H := H1
          clear H1
          have H' := Aside0.mk H
          clear H
          have hcz29_0 : wr.cell? ⟨gb101, 0, none⟩ = some (.int .i64 a0_0) := (blk_cell BK101.out 0).trans rfl
          have hcz29_1 : wr.cell? ⟨gb101, 1, none⟩ = some (.slice A0_1 l0_1.length c0_1) := (blk_cell BK101.out 1).trans rfl
          have hcz29_2 : wr.cell? ⟨gb101, 2, none⟩ = some (.slice A0_2 l0_2.length c0_2) := (blk_cell BK101.out 2).trans rfl
          have hcz29_3 : wr.cell? ⟨gb101, 3, none⟩ = some (.int .i64 a0_3) := (blk_cell BK101.out 3).trans rfl
          have hcz29_4 : wr.cell? ⟨gb101, 4, none⟩ = some (.int .i64 a0_4) := (blk_cell BK101.out 4).trans rfl
          have hfz29_0 := blk_frozen BK101.out 0
          have hfz29_1 := blk_frozen BK101.out 1
          have hfz29_2 := blk_frozen BK101.out 2
          have hfz29_3 := blk_frozen BK101.out 3
          have hfz29_4 := blk_frozen BK101.out 4
          go_wp2_with ((go_at_call 141; (with_reducible refine (spec_ClassOk.calls k2 _ _ l0_1 false _ ?side1 ?side2 A20.out).mono ?_); (case side1 => repeat (first | exact (Kd.C_below HR0_1.out HB.out) | (with_reducible refine Kd.C_alloc ?_ _) | (with_reducible refine Kd.C_drewN ?_ _) | (with_reducible refine Kd.C_drew ?_))); (case side2 => exact HC0_1.out); rintro e w30 ⟨rfl, hb⟩; have n0_ := Aside0.mk (blk_below (g := gb101) (o := .cells #[.int .i64 a0_0, .slice A0_1 l0_1.length c0_1, .slice A0_2 l0_2.length c0_2, .int .i64 a0_3, .int .i64 a0_4] 156 (0, 0)) (bk_ BK101.out) hb); have n1_ := Aside0.mk (below_step (be1_ HB.out GE101.out) hb); clear BK101; clear HB; have BK101 := n0_; have HB := n1_; clear n0_ n1_; (try clear hb); (try clear hb2); (try clear hk); (try clear hi)))
          repeat (go_quiet (fail); try go_wp2_with (fail))
          go_meet
          case rel => exact ⟨_, (true), rs_, H', ⟨by have := HJ2.out; have := HK2.out; first | omega | exact Nat.le_refl _⟩, ⟨bk_ BK101.out⟩, ⟨be1_ HB.out GE101.out⟩⟩
        ·rw [if_neg c19] at H
         have c19b0 : (a0_0 == 2) = false := beq_eq_false_iff_ne.mpr c19
         have c19b1 : (a0_0 != 2) = true := bne_iff_ne.mpr c19
         (first | rw [c19b0] | (simp only [i64_w, i32_w]; rw [c19b0]) | skip)
         have H' := Aside0.mk H
         clear H
         have hcz31_0 : wr.cell? ⟨gb101, 0, none⟩ = some (.int .i64 a0_0) := (blk_cell BK101.out 0).trans rfl
         have hcz31_1 : wr.cell? ⟨gb101, 1, none⟩ = some (.slice A0_1 l0_1.length c0_1) := (blk_cell BK101.out 1).trans rfl
         have hcz31_2 : wr.cell? ⟨gb101, 2, none⟩ = some (.slice A0_2 l0_2.length c0_2) := (blk_cell BK101.out 2).trans rfl
         have hcz31_3 : wr.cell? ⟨gb101, 3, none⟩ = some (.int .i64 a0_3) := (blk_cell BK101.out 3).trans rfl
         have hcz31_4 : wr.cell? ⟨gb101, 4, none⟩ = some (.int .i64 a0_4) := (blk_cell BK101.out 4).trans rfl
         have hfz31_0 := blk_frozen BK101.out 0
         have hfz31_1 := blk_frozen BK101.out 1
         have hfz31_2 := blk_frozen BK101.out 2
         have hfz31_3 := blk_frozen BK101.out 3
         have hfz31_4 := blk_frozen BK101.out 4
         go_wp2
         repeat (go_quiet (fail); try go_wp2)
         go_meet
         case rel => exact ⟨_, (decide ((l0_1.length : Int) > 0)), rs_, H', ⟨by have := HJ2.out; have := HK2.out; first | omega | exact Nat.le_refl _⟩, ⟨bk_ BK101.out⟩, ⟨be1_ HB.out GE101.out⟩⟩
       case rest =>
        clear HC17
        try clear c1
        try clear p1
        try clear q1
        try clear hx1
        try clear c2
        try clear p2
        try clear c6
        try clear p6
        try clear c10
        try clear p10
        try clear q10
        try clear hx10
        try clear c11
        try clear c11b0
        try clear c12
        try clear c12b0
        try clear c14
        try clear c19
        try clear c19b0
        try clear c19b1
        try clear c21
        try clear c22
        try clear c22b0
        try clear c22b1
        try clear c22b2
        try clear hcz15_0
        try clear hcz15_1
        try clear hcz15_2
        try clear hcz15_3
        try clear hcz15_4
        try clear hcz16_0
        try clear hcz16_1
        try clear hcz16_2
        try clear hcz16_3
        try clear hcz16_4
        try clear hcz18_0
        try clear hcz18_1
        try clear hcz18_2
        try clear hcz18_3
        try clear hcz18_4
        try clear hcz23_0
        try clear hcz23_1
        try clear hcz23_2
        try clear hcz23_3
        try clear hcz23_4
        try clear hcz25_0
        try clear hcz25_1
        try clear hcz25_2
        try clear hcz25_3
        try clear hcz25_4
        try clear hcz26_0
        try clear hcz26_1
        try clear hcz26_2
        try clear hcz26_3
        try clear hcz26_4
        try clear hcz28_0
        try clear hcz28_1
        try clear hcz28_2
        try clear hcz28_3
        try clear hcz28_4
        try clear hcz29_0
        try clear hcz29_1
        try clear hcz29_2
        try clear hcz29_3
        try clear hcz29_4
        try clear hcz31_0
        try clear hcz31_1
        try clear hcz31_2
        try clear hcz31_3
        try clear hcz31_4
        try clear hcz8_0
        try clear hcz8_1
        try clear hcz8_2
        try clear hcz8_3
        try clear hcz8_4
        try clear hcz9_0
        try clear hcz9_1
        try clear hcz9_2
        try clear hcz9_3
        try clear hcz9_4
        try clear hfz15_0
        try clear hfz15_1
        try clear hfz15_2
        try clear hfz15_3
        try clear hfz15_4
        try clear hfz16_0
        try clear hfz16_1
        try clear hfz16_2
        try clear hfz16_3
        try clear hfz16_4
        try clear hfz18_0
        try clear hfz18_1
        try clear hfz18_2
        try clear hfz18_3
        try clear hfz18_4
        try clear hfz23_0
        try clear hfz23_1
        try clear hfz23_2
        try clear hfz23_3
        try clear hfz23_4
        try clear hfz25_0
        try clear hfz25_1
        try clear hfz25_2
        try clear hfz25_3
        try clear hfz25_4
        try clear hfz26_0
        try clear hfz26_1
        try clear hfz26_2
        try clear hfz26_3
        try clear hfz26_4
        try clear hfz28_0
        try clear hfz28_1
        try clear hfz28_2
        try clear hfz28_3
        try clear hfz28_4
        try clear hfz29_0
        try clear hfz29_1
        try clear hfz29_2
        try clear hfz29_3
        try clear hfz29_4
        try clear hfz31_0
        try clear hfz31_1
        try clear hfz31_2
        try clear hfz31_3
        try clear hfz31_4
        try clear hfz8_0
        try clear hfz8_1
        try clear hfz8_2
        try clear hfz8_3
        try clear hfz8_4
        try clear hfz9_0
        try clear hfz9_1
        try clear hfz9_2
        try clear hfz9_3
        try clear hfz9_4
        try clear hx104_0
        try clear p104
        try clear p2
        try clear q104
        obtain ⟨kq, x60_16, rfl, HA, HJ16, BK101, HB⟩ := hcut
        cases kq with
        | zero => exact absurd HA.out (by simp [spec_l3Node.j2])
        | succ kj16 =>
         have H := HA.out
         clear HA
         simp only [spec_l3Node.j2] at H
         by_cases c32 : x60_16 = true
         ·subst c32
          have H1 : (some false) = some r := by rw [if_pos rfl] at H; exact H
          clear H
          have H := H1
          clear H1
          obtain rfl := Option.some.inj H
          go_wp2
          repeat (go_quiet (fail); try go_wp2)
          go_ret
          exact ⟨rt_, be1_ HB.out GE101.out⟩
         ·replace c32 := Bool.eq_false_iff.mpr c32
          subst c32
          have H1 : (if a0_0 = 8 then ((spec_l1In.f a0_3 0 30).bind fun t107 => (if t107 = true then (if a0_4 = (-1) then (some true) else ((spec_l1In.f a0_4 (mx 1 a0_3) 30).bind fun t108 => (some t108))) else (some false))) else (if a0_3 = 0 then (some (a0_4 == 0)) else (some false))) = some r := by rw [if_neg (show ¬ (false = true) by decide)] at H; exact H
          clear H
          have H := H1
          clear H1
          by_cases c33 : a0_0 = 8
          ·rw [if_pos c33] at H
           have c33b0 : (a0_0 == 8) = true := beq_iff_eq.mpr c33
           have c33b1 : (a0_0 != 8) = false := bne_eq_false_iff_eq.mpr c33
           clear c33
           replace H := Option.bind_eq_some_iff.mp H
           obtain ⟨t107, A340, H⟩ := H
           replace H : (if t107 = true then (if a0_4 = (-1) then (some true) else ((spec_l1In.f a0_4 (mx 1 a0_3) 30).bind fun t108 => (some t108))) else (some false)) = some r := H
           have A34 := Aside0.mk A340
           clear A340
           by_cases c35 : t107 = true
           ·subst c35
            have H1 : (if a0_4 = (-1) then (some true) else ((spec_l1In.f a0_4 (mx 1 a0_3) 30).bind fun t108 => (some t108))) = some r := by rw [if_pos rfl] at H; exact H
            clear H
            have H := H1
            clear H1
            by_cases c36 : a0_4 = (-1)
            ·rw [if_pos c36] at H
             have c36b0 : (a0_4 == (-1)) = true := beq_iff_eq.mpr c36
             have c36b1 : (a0_4 != (-1)) = false := bne_eq_false_iff_eq.mpr c36
             clear c36
             obtain rfl := Option.some.inj H
             have hcz37_0 : wc.cell? ⟨gb101, 0, none⟩ = some (.int .i64 a0_0) := (blk_cell BK101.out 0).trans rfl
             have hcz37_1 : wc.cell? ⟨gb101, 1, none⟩ = some (.slice A0_1 l0_1.length c0_1) := (blk_cell BK101.out 1).trans rfl
             have hcz37_2 : wc.cell? ⟨gb101, 2, none⟩ = some (.slice A0_2 l0_2.length c0_2) := (blk_cell BK101.out 2).trans rfl
             have hcz37_3 : wc.cell? ⟨gb101, 3, none⟩ = some (.int .i64 a0_3) := (blk_cell BK101.out 3).trans rfl
             have hcz37_4 : wc.cell? ⟨gb101, 4, none⟩ = some (.int .i64 a0_4) := (blk_cell BK101.out 4).trans rfl
             have hfz37_0 := blk_frozen BK101.out 0
             have hfz37_1 := blk_frozen BK101.out 1
             have hfz37_2 := blk_frozen BK101.out 2
             have hfz37_3 := blk_frozen BK101.out 3
             have hfz37_4 := blk_frozen BK101.out 4
             go_wp2_with ((go_at_call 89; (with_reducible refine (spec_l1In.calls a0_3 0 30 true _ A34.out).mono ?_); rintro e w' ⟨rfl, ⟨nd, rfl⟩⟩; (try first | exact ⟨rfl, _, World.drewN_drewN _ _ _⟩ | exact ⟨rfl, _, Eq.trans (World.drewN_drewN _ _ _) (congrArg (World.drewN _) (Nat.add_assoc _ _ _))⟩)))
             repeat (go_quiet (fail); try go_wp2_with (fail))
             go_ret
             exact ⟨rt_, be1_ HB.out GE101.out⟩
            ·rw [if_neg c36] at H
             have c36b0 : (a0_4 == (-1)) = false := beq_eq_false_iff_ne.mpr c36
             have c36b1 : (a0_4 != (-1)) = true := bne_iff_ne.mpr c36
             obtain ⟨ji38, hji38⟩ : ∃ j_ : Int, (mx 1 a0_3) = j_ := ⟨_, rfl⟩
             replace H : ((spec_l1In.f a0_4 (ji38) 30).bind fun t108 => (some t108)) = some r := by first | (rw [hji38] at H; exact H) | (simp only [hji38] at H ⊢; exact H)
             (try rw [hji38] at A34)
             have hji38_ : (if 1 < a0_3 then a0_3 else 1) = ji38 := hji38
             replace H := Option.bind_eq_some_iff.mp H
             obtain ⟨t108, A390, H⟩ := H
             replace H : (some t108) = some r := H
             have A39 := Aside0.mk A390
             clear A390
             obtain rfl := Option.some.inj H
             have hcz40_0 : wc.cell? ⟨gb101, 0, none⟩ = some (.int .i64 a0_0) := (blk_cell BK101.out 0).trans rfl
             have hcz40_1 : wc.cell? ⟨gb101, 1, none⟩ = some (.slice A0_1 l0_1.length c0_1) := (blk_cell BK101.out 1).trans rfl
             have hcz40_2 : wc.cell? ⟨gb101, 2, none⟩ = some (.slice A0_2 l0_2.length c0_2) := (blk_cell BK101.out 2).trans rfl
             have hcz40_3 : wc.cell? ⟨gb101, 3, none⟩ = some (.int .i64 a0_3) := (blk_cell BK101.out 3).trans rfl
             have hcz40_4 : wc.cell? ⟨gb101, 4, none⟩ = some (.int .i64 a0_4) := (blk_cell BK101.out 4).trans rfl
             have hfz40_0 := blk_frozen BK101.out 0
             have hfz40_1 := blk_frozen BK101.out 1
             have hfz40_2 := blk_frozen BK101.out 2
             have hfz40_3 := blk_frozen BK101.out 3
             have hfz40_4 := blk_frozen BK101.out 4
             go_wp2_with (first | (go_at_call 89; (with_reducible refine (spec_l1In.calls a0_3 0 30 true _ A34.out).mono ?_); rintro e w' ⟨rfl, ⟨nd, rfl⟩⟩; (try first | exact ⟨rfl, _, World.drewN_drewN _ _ _⟩ | exact ⟨rfl, _, Eq.trans (World.drewN_drewN _ _ _) (congrArg (World.drewN _) (Nat.add_assoc _ _ _))⟩)) | (go_at_call 89; (with_reducible refine (spec_l1In.calls a0_4 ji38 30 t108 _ A39.out).mono ?_); rintro e w' ⟨rfl, ⟨nd, rfl⟩⟩; (try first | exact ⟨rfl, _, World.drewN_drewN _ _ _⟩ | exact ⟨rfl, _, Eq.trans (World.drewN_drewN _ _ _) (congrArg (World.drewN _) (Nat.add_assoc _ _ _))⟩)))
             repeat (go_quiet (fail); try go_wp2_with (fail))
             go_ret
             exact ⟨by first | rfl | (simp [errW_none, errW_some] <;> rfl) | (simp only [← hji38]; first | rfl | (simp [errW_none, errW_some] <;> rfl)) | (simp [*, errW_none, errW_some] <;> rfl), be1_ HB.out GE101.out⟩
           ·replace c35 := Bool.eq_false_iff.mpr c35
            subst c35
            have H1 : (some false) = some r := by rw [if_neg (show ¬ (false = true) by decide)] at H; exact H
            clear H
            have H := H1
            clear H1
            obtain rfl := Option.some.inj H
            have hcz41_0 : wc.cell? ⟨gb101, 0, none⟩ = some (.int .i64 a0_0) := (blk_cell BK101.out 0).trans rfl
            have hcz41_1 : wc.cell? ⟨gb101, 1, none⟩ = some (.slice A0_1 l0_1.length c0_1) := (blk_cell BK101.out 1).trans rfl
            have hcz41_2 : wc.cell? ⟨gb101, 2, none⟩ = some (.slice A0_2 l0_2.length c0_2) := (blk_cell BK101.out 2).trans rfl
            have hcz41_3 : wc.cell? ⟨gb101, 3, none⟩ = some (.int .i64 a0_3) := (blk_cell BK101.out 3).trans rfl
            have hcz41_4 : wc.cell? ⟨gb101, 4, none⟩ = some (.int .i64 a0_4) := (blk_cell BK101.out 4).trans rfl
            have hfz41_0 := blk_frozen BK101.out 0
            have hfz41_1 := blk_frozen BK101.out 1
            have hfz41_2 := blk_frozen BK101.out 2
            have hfz41_3 := blk_frozen BK101.out 3
            have hfz41_4 := blk_frozen BK101.out 4
            go_wp2_with ((go_at_call 89; (with_reducible refine (spec_l1In.calls a0_3 0 30 false _ A34.out).mono ?_); rintro e w' ⟨rfl, ⟨nd, rfl⟩⟩; (try first | exact ⟨rfl, _, World.drewN_drewN _ _ _⟩ | exact ⟨rfl, _, Eq.trans (World.drewN_drewN _ _ _) (congrArg (World.drewN _) (Nat.add_assoc _ _ _))⟩)))
            repeat (go_quiet (fail); try go_wp2_with (fail))
            go_ret
            exact ⟨rt_, be1_ HB.out GE101.out⟩
          ·rw [if_neg c33] at H
           have c33b0 : (a0_0 == 8) = false := beq_eq_false_iff_ne.mpr c33
           have c33b1 : (a0_0 != 8) = true := bne_iff_ne.mpr c33
           by_cases c42 : a0_3 = 0
           ·rw [if_pos c42] at H
            have c42b0 : (a0_3 == 0) = true := beq_iff_eq.mpr c42
            have c42b1 : (a0_3 != 0) = false := bne_eq_false_iff_eq.mpr c42
            clear c42
            obtain rfl := Option.some.inj H
            have hcz43_0 : wc.cell? ⟨gb101, 0, none⟩ = some (.int .i64 a0_0) := (blk_cell BK101.out 0).trans rfl
            have hcz43_1 : wc.cell? ⟨gb101, 1, none⟩ = some (.slice A0_1 l0_1.length c0_1) := (blk_cell BK101.out 1).trans rfl
            have hcz43_2 : wc.cell? ⟨gb101, 2, none⟩ = some (.slice A0_2 l0_2.length c0_2) := (blk_cell BK101.out 2).trans rfl
            have hcz43_3 : wc.cell? ⟨gb101, 3, none⟩ = some (.int .i64 a0_3) := (blk_cell BK101.out 3).trans rfl
            have hcz43_4 : wc.cell? ⟨gb101, 4, none⟩ = some (.int .i64 a0_4) := (blk_cell BK101.out 4).trans rfl
            have hfz43_0 := blk_frozen BK101.out 0
            have hfz43_1 := blk_frozen BK101.out 1
            have hfz43_2 := blk_frozen BK101.out 2
            have hfz43_3 := blk_frozen BK101.out 3
            have hfz43_4 := blk_frozen BK101.out 4
            go_wp2
            repeat (go_quiet (fail); try go_wp2)
            go_ret
            exact ⟨rt_, be1_ HB.out GE101.out⟩
           ·rw [if_neg c42] at H
            have c42b0 : (a0_3 == 0) = false := beq_eq_false_iff_ne.mpr c42
            have c42b1 : (a0_3 != 0) = true := bne_iff_ne.mpr c42
            obtain rfl := Option.some.inj H
            have hcz44_0 : wc.cell? ⟨gb101, 0, none⟩ = some (.int .i64 a0_0) := (blk_cell BK101.out 0).trans rfl
            have hcz44_1 : wc.cell? ⟨gb101, 1, none⟩ = some (.slice A0_1 l0_1.length c0_1) := (blk_cell BK101.out 1).trans rfl
            have hcz44_2 : wc.cell? ⟨gb101, 2, none⟩ = some (.slice A0_2 l0_2.length c0_2) := (blk_cell BK101.out 2).trans rfl
            have hcz44_3 : wc.cell? ⟨gb101, 3, none⟩ = some (.int .i64 a0_3) := (blk_cell BK101.out 3).trans rfl
            have hcz44_4 : wc.cell? ⟨gb101, 4, none⟩ = some (.int .i64 a0_4) := (blk_cell BK101.out 4).trans rfl
            have hfz44_0 := blk_frozen BK101.out 0
            have hfz44_1 := blk_frozen BK101.out 1
            have hfz44_2 := blk_frozen BK101.out 2
            have hfz44_3 := blk_frozen BK101.out 3
            have hfz44_4 := blk_frozen BK101.out 4
            go_wp2
            repeat (go_quiet (fail); try go_wp2)
            go_ret
            exact ⟨rt_, be1_ HB.out GE101.out⟩

end Go.Proofs.Ytijmhelacmjggaa.P
-- Made by wip/gen/pp.py of this session over the kit's print of the loaded program: a function, and the contract of its walk. Lean checks it.
namespace Go.Proofs.Ytijmhelacmjggaa.P
open Go.RowKit Go.Proofs.YtijmhelacmjggaaW.PrintWords Go.Proofs.YtijmhelacmjggaaW.PrintLast Go.Proofs.YtijmhelacmjggaaW.PrintMore
attribute [local go_sem] max2_int min2_int max_two min_two max_three min_three max_four min_four   -- for this text's walks alone
set_option linter.unusedVariables false
set_option linter.unusedSimpArgs false

/-! ### spec_RxOk: function 59 -/
mutual
def spec_RxOk.j0 : Nat → Int → Bool → List (S156) → Option (Bool)
 | 0, _, _, _ => none
 | k + 1, x3, x18, x102000 => if x18 = true then (some false) else (if 0 ≤ x3 then (if (x3 : Int).toNat ≤ 35184372088832 then (spec_RxOk.l0 k x3 (List.replicate (x3 : Int).toNat 0) 0 x102000) else (none)) else (none))
def spec_RxOk.l0 : Nat → Int → List Int → Int → List (S156) → Option (Bool)
 | 0, _, _, _, _ => none
 | k + 1, x3, x4, x5, x102000 => if x5 < x3 then (if 0 ≤ x5 then (if x5 < (x102000.length : Int) then ((spec_l3Node.f k ((rd_T156 x102000 x5).f0) ((rd_T156 x102000 x5).f1) ((rd_T156 x102000 x5).f2) ((rd_T156 x102000 x5).f3) ((rd_T156 x102000 x5).f4) x5).bind fun t106 => (if t106 = true then (spec_RxOk.l1 k x3 x4 x5 0 x102000) else (some false))) else (none)) else (none)) else (if 0 ≤ x3 then (if (x3 : Int).toNat ≤ 35184372088832 then (spec_RxOk.l2 k x3 x4 (List.replicate (x3 : Int).toNat 0) (wrap64 (x3 - 1)) x102000) else (none)) else (none))
def spec_RxOk.l1 : Nat → Int → List Int → Int → Int → List (S156) → Option (Bool)
 | 0, _, _, _, _, _ => none
 | k + 1, x3, x4, x5, x6, x102000 => if 0 ≤ x5 then (if x5 < (x102000.length : Int) then (if x6 < (((rd_T156 x102000 x5).f2).length : Int) then (if 0 ≤ x6 then (if 0 ≤ (rd ((rd_T156 x102000 x5).f2) x6) then (if (rd ((rd_T156 x102000 x5).f2) x6) < (x4.length : Int) then (spec_RxOk.l1 k x3 (x4.set ((rd ((rd_T156 x102000 x5).f2) x6) : Int).toNat (wrap64 ((rd x4 (rd ((rd_T156 x102000 x5).f2) x6)) + 1))) x5 (wrap64 (x6 + 1)) x102000) else (none)) else (none)) else (none)) else (spec_RxOk.l0 k x3 x4 (wrap64 (x5 + 1)) x102000)) else (none)) else (none)
def spec_RxOk.l2 : Nat → Int → List Int → List Int → Int → List (S156) → Option (Bool)
 | 0, _, _, _, _, _ => none
 | k + 1, x3, x4, x7, x8, x102000 => if x8 ≥ 0 then (if x8 < (wrap64 (x3 - 1)) then (if 0 ≤ x8 then (if x8 < (x4.length : Int) then (if (rd x4 x8) = 1 then (if x8 < (x7.length : Int) then (spec_RxOk.j4 k x3 x4 x7 x8 (decide ((rd x7 x8) > 150)) x102000) else (none)) else (spec_RxOk.j4 k x3 x4 x7 x8 true x102000)) else (none)) else (none)) else (if 0 ≤ x8 then (if x8 < (x7.length : Int) then (spec_RxOk.j4 k x3 x4 x7 x8 (decide ((rd x7 x8) > 150)) x102000) else (none)) else (none))) else (some true)
def spec_RxOk.j4 : Nat → Int → List Int → List Int → Int → Bool → List (S156) → Option (Bool)
 | 0, _, _, _, _, _, _ => none
 | k + 1, x3, x4, x7, x8, x84, x102000 => if x84 = true then (some false) else (spec_RxOk.l3 k x3 x4 x7 x8 0 x102000)
def spec_RxOk.l3 : Nat → Int → List Int → List Int → Int → Int → List (S156) → Option (Bool)
 | 0, _, _, _, _, _, _ => none
 | k + 1, x3, x4, x7, x8, x9, x102000 => if 0 ≤ x8 then (if x8 < (x102000.length : Int) then (if x9 < (((rd_T156 x102000 x8).f2).length : Int) then (if 0 ≤ x9 then (if x8 < (x7.length : Int) then (if 0 ≤ (rd ((rd_T156 x102000 x8).f2) x9) then (if (rd ((rd_T156 x102000 x8).f2) x9) < (x7.length : Int) then (spec_RxOk.l3 k x3 x4 (x7.set ((rd ((rd_T156 x102000 x8).f2) x9) : Int).toNat (wrap64 ((rd x7 x8) + 1))) x8 (wrap64 (x9 + 1)) x102000) else (none)) else (none)) else (none)) else (none)) else (spec_RxOk.l2 k x3 x4 x7 (wrap64 (x8 - 1)) x102000)) else (none)) else (none)
end
def spec_RxOk.f (k : Nat) (l0_0 : List (S156)) : Option (Bool) := if (l0_0.length : Int) < 1 then (spec_RxOk.j0 k (l0_0.length : Int) true l0_0) else (spec_RxOk.j0 k (l0_0.length : Int) (decide ((l0_0.length : Int) > 300)) l0_0)
theorem spec_RxOk.mono_l : ∀ k, (∀ y0 y1 y2, LeO (spec_RxOk.j0 k y0 y1 y2) (spec_RxOk.j0 (k + 1) y0 y1 y2)) ∧ (∀ y0 y1 y2 y3, LeO (spec_RxOk.l0 k y0 y1 y2 y3) (spec_RxOk.l0 (k + 1) y0 y1 y2 y3)) ∧ (∀ y0 y1 y2 y3 y4, LeO (spec_RxOk.l1 k y0 y1 y2 y3 y4) (spec_RxOk.l1 (k + 1) y0 y1 y2 y3 y4)) ∧ (∀ y0 y1 y2 y3 y4, LeO (spec_RxOk.l2 k y0 y1 y2 y3 y4) (spec_RxOk.l2 (k + 1) y0 y1 y2 y3 y4)) ∧ (∀ y0 y1 y2 y3 y4 y5, LeO (spec_RxOk.j4 k y0 y1 y2 y3 y4 y5) (spec_RxOk.j4 (k + 1) y0 y1 y2 y3 y4 y5)) ∧ (∀ y0 y1 y2 y3 y4 y5, LeO (spec_RxOk.l3 k y0 y1 y2 y3 y4 y5) (spec_RxOk.l3 (k + 1) y0 y1 y2 y3 y4 y5))
 | 0 => ⟨fun _ _ _ r h => by simp [spec_RxOk.j0] at h, fun _ _ _ _ r h => by simp [spec_RxOk.l0] at h, fun _ _ _ _ _ r h => by simp [spec_RxOk.l1] at h, fun _ _ _ _ _ r h => by simp [spec_RxOk.l2] at h, fun _ _ _ _ _ _ r h => by simp [spec_RxOk.j4] at h, fun _ _ _ _ _ _ r h => by simp [spec_RxOk.l3] at h⟩
 | k + 1 => by
  obtain ⟨ih0, ih1, ih2, ih3, ih4, ih5⟩ := spec_RxOk.mono_l k
  refine ⟨?_, ?_, ?_, ?_, ?_, ?_⟩
  ·intro y0 y1 y2
   unfold spec_RxOk.j0
   repeat' first
   | (with_reducible exact ih0 _ _ _)
   | (with_reducible exact ih1 _ _ _ _)
   | (with_reducible exact ih2 _ _ _ _ _)
   | (with_reducible exact ih3 _ _ _ _ _)
   | (with_reducible exact ih4 _ _ _ _ _ _)
   | (with_reducible exact ih5 _ _ _ _ _ _)
   | (with_reducible exact spec_l3Node.mono _ _ _ _ _ _ _)
   | (with_reducible exact LeO.refl _)
   | (with_reducible exact LeO.none _)
   | (with_reducible refine LeO.ite ?_ ?_)
   | (with_reducible refine LeO.bind ?_ (fun _ => ?_))
   | exact ih0 _ _ _
   | exact ih1 _ _ _ _
   | exact ih2 _ _ _ _ _
   | exact ih3 _ _ _ _ _
   | exact ih4 _ _ _ _ _ _
   | exact ih5 _ _ _ _ _ _
   | exact spec_l3Node.mono _ _ _ _ _ _ _
   | exact LeO.none _
   | refine LeO.ite ?_ ?_
   | refine LeO.bind ?_ (fun _ => ?_)
  ·intro y0 y1 y2 y3
   unfold spec_RxOk.l0
   repeat' first
   | (with_reducible exact ih0 _ _ _)
   | (with_reducible exact ih1 _ _ _ _)
   | (with_reducible exact ih2 _ _ _ _ _)
   | (with_reducible exact ih3 _ _ _ _ _)
   | (with_reducible exact ih4 _ _ _ _ _ _)
   | (with_reducible exact ih5 _ _ _ _ _ _)
   | (with_reducible exact spec_l3Node.mono _ _ _ _ _ _ _)
   | (with_reducible exact LeO.refl _)
   | (with_reducible exact LeO.none _)
   | (with_reducible refine LeO.ite ?_ ?_)
   | (with_reducible refine LeO.bind ?_ (fun _ => ?_))
   | exact ih0 _ _ _
   | exact ih1 _ _ _ _
   | exact ih2 _ _ _ _ _
   | exact ih3 _ _ _ _ _
   | exact ih4 _ _ _ _ _ _
   | exact ih5 _ _ _ _ _ _
   | exact spec_l3Node.mono _ _ _ _ _ _ _
   | exact LeO.none _
   | refine LeO.ite ?_ ?_
   | refine LeO.bind ?_ (fun _ => ?_)
  ·intro y0 y1 y2 y3 y4
   unfold spec_RxOk.l1
   repeat' first
   | (with_reducible exact ih0 _ _ _)
   | (with_reducible exact ih1 _ _ _ _)
   | (with_reducible exact ih2 _ _ _ _ _)
   | (with_reducible exact ih3 _ _ _ _ _)
   | (with_reducible exact ih4 _ _ _ _ _ _)
   | (with_reducible exact ih5 _ _ _ _ _ _)
   | (with_reducible exact spec_l3Node.mono _ _ _ _ _ _ _)
   | (with_reducible exact LeO.refl _)
   | (with_reducible exact LeO.none _)
   | (with_reducible refine LeO.ite ?_ ?_)
   | (with_reducible refine LeO.bind ?_ (fun _ => ?_))
   | exact ih0 _ _ _
   | exact ih1 _ _ _ _
   | exact ih2 _ _ _ _ _
   | exact ih3 _ _ _ _ _
   | exact ih4 _ _ _ _ _ _
   | exact ih5 _ _ _ _ _ _
   | exact spec_l3Node.mono _ _ _ _ _ _ _
   | exact LeO.none _
   | refine LeO.ite ?_ ?_
   | refine LeO.bind ?_ (fun _ => ?_)
  ·intro y0 y1 y2 y3 y4
   unfold spec_RxOk.l2
   repeat' first
   | (with_reducible exact ih0 _ _ _)
   | (with_reducible exact ih1 _ _ _ _)
   | (with_reducible exact ih2 _ _ _ _ _)
   | (with_reducible exact ih3 _ _ _ _ _)
   | (with_reducible exact ih4 _ _ _ _ _ _)
   | (with_reducible exact ih5 _ _ _ _ _ _)
   | (with_reducible exact spec_l3Node.mono _ _ _ _ _ _ _)
   | (with_reducible exact LeO.refl _)
   | (with_reducible exact LeO.none _)
   | (with_reducible refine LeO.ite ?_ ?_)
   | (with_reducible refine LeO.bind ?_ (fun _ => ?_))
   | exact ih0 _ _ _
   | exact ih1 _ _ _ _
   | exact ih2 _ _ _ _ _
   | exact ih3 _ _ _ _ _
   | exact ih4 _ _ _ _ _ _
   | exact ih5 _ _ _ _ _ _
   | exact spec_l3Node.mono _ _ _ _ _ _ _
   | exact LeO.none _
   | refine LeO.ite ?_ ?_
   | refine LeO.bind ?_ (fun _ => ?_)
  ·intro y0 y1 y2 y3 y4 y5
   unfold spec_RxOk.j4
   repeat' first
   | (with_reducible exact ih0 _ _ _)
   | (with_reducible exact ih1 _ _ _ _)
   | (with_reducible exact ih2 _ _ _ _ _)
   | (with_reducible exact ih3 _ _ _ _ _)
   | (with_reducible exact ih4 _ _ _ _ _ _)
   | (with_reducible exact ih5 _ _ _ _ _ _)
   | (with_reducible exact spec_l3Node.mono _ _ _ _ _ _ _)
   | (with_reducible exact LeO.refl _)
   | (with_reducible exact LeO.none _)
   | (with_reducible refine LeO.ite ?_ ?_)
   | (with_reducible refine LeO.bind ?_ (fun _ => ?_))
   | exact ih0 _ _ _
   | exact ih1 _ _ _ _
   | exact ih2 _ _ _ _ _
   | exact ih3 _ _ _ _ _
   | exact ih4 _ _ _ _ _ _
   | exact ih5 _ _ _ _ _ _
   | exact spec_l3Node.mono _ _ _ _ _ _ _
   | exact LeO.none _
   | refine LeO.ite ?_ ?_
   | refine LeO.bind ?_ (fun _ => ?_)
  ·intro y0 y1 y2 y3 y4 y5
   unfold spec_RxOk.l3
   repeat' first
   | (with_reducible exact ih0 _ _ _)
   | (with_reducible exact ih1 _ _ _ _)
   | (with_reducible exact ih2 _ _ _ _ _)
   | (with_reducible exact ih3 _ _ _ _ _)
   | (with_reducible exact ih4 _ _ _ _ _ _)
   | (with_reducible exact ih5 _ _ _ _ _ _)
   | (with_reducible exact spec_l3Node.mono _ _ _ _ _ _ _)
   | (with_reducible exact LeO.refl _)
   | (with_reducible exact LeO.none _)
   | (with_reducible refine LeO.ite ?_ ?_)
   | (with_reducible refine LeO.bind ?_ (fun _ => ?_))
   | exact ih0 _ _ _
   | exact ih1 _ _ _ _
   | exact ih2 _ _ _ _ _
   | exact ih3 _ _ _ _ _
   | exact ih4 _ _ _ _ _ _
   | exact ih5 _ _ _ _ _ _
   | exact spec_l3Node.mono _ _ _ _ _ _ _
   | exact LeO.none _
   | refine LeO.ite ?_ ?_
   | refine LeO.bind ?_ (fun _ => ?_)
theorem spec_RxOk.mono : ∀ a0 k, LeO (spec_RxOk.f k a0) (spec_RxOk.f (k + 1) a0) := by
 intro a0 k
 obtain ⟨ih0, ih1, ih2, ih3, ih4, ih5⟩ := spec_RxOk.mono_l k
 unfold spec_RxOk.f
 repeat' first
   | (with_reducible exact ih0 _ _ _)
   | (with_reducible exact ih1 _ _ _ _)
   | (with_reducible exact ih2 _ _ _ _ _)
   | (with_reducible exact ih3 _ _ _ _ _)
   | (with_reducible exact ih4 _ _ _ _ _ _)
   | (with_reducible exact ih5 _ _ _ _ _ _)
   | (with_reducible exact spec_l3Node.mono _ _ _ _ _ _ _)
   | (with_reducible exact LeO.refl _)
   | (with_reducible exact LeO.none _)
   | (with_reducible refine LeO.ite ?_ ?_)
   | (with_reducible refine LeO.bind ?_ (fun _ => ?_))
   | exact ih0 _ _ _
   | exact ih1 _ _ _ _
   | exact ih2 _ _ _ _ _
   | exact ih3 _ _ _ _ _
   | exact ih4 _ _ _ _ _ _
   | exact ih5 _ _ _ _ _ _
   | exact spec_l3Node.mono _ _ _ _ _ _ _
   | exact LeO.none _
   | refine LeO.ite ?_ ?_
   | refine LeO.bind ?_ (fun _ => ?_)
def spec_RxOk.T23 : Bool × List (List Nat × List Nat) := (true, [([], []), ([], []), ([1], [1]), ([], []), ([2, 3], [2, 3]), ([4], [4]), ([5], [5]), ([], []), ([6, 7], [6, 7]), ([8], [8]), ([], []), ([], []), ([10, 11], [10, 11]), ([12], [12]), ([13], [13]), ([0, 9, 0, 1, 2, 3, 4, 5, 6, 7, 8, 9, 10, 11, 12, 13, 14], [0, 9]), ([15, 14, 0, 1, 2, 3, 4, 5, 6, 7, 8, 9, 10, 11, 12, 13, 14], [14, 15])])
def spec_RxOk.B23 : List Nat := [0, 0, 2, 0, 14, 30, 62, 0, 254, 510, 0, 0, 3072, 7168, 15360, 32767, 65535]
theorem spec_RxOk.tab23 : rtab .any (opsOf Try.f59 23) = spec_RxOk.T23 := by kernel_rfl
theorem spec_RxOk.bits23 : waitsOk spec_RxOk.T23.2 spec_RxOk.B23 = true := by kernel_rfl
set_option maxHeartbeats 8000000 in
set_option maxRecDepth 100000 in
theorem spec_RxOk.calls (k : Nat) (A0_0 : Option Addr) (c0_0 : Nat) (l0_0 : List (S156)) (r : Bool) (w : World) (hr0_0 : Kd.C k156 w A0_0 l0_0.length l0_0) (hc0_0 : l0_0.length ≤ c0_0) (h : spec_RxOk.f k l0_0 = some r) :
  Calls Try.prog 59 #[.agg #[.slice A0_0 l0_0.length c0_0]] w fun e w' => e = .returned (.bool r) ∧ Below w.heap.size w w' := by
 have hu29 := Try.underlying29
 have hu156 := Try.underlying156
 have HR0_0 := Aside0.mk hr0_0
 have HC0_0 := Aside0.mk hc0_0
 clear hr0_0 hc0_0
 have HB := Aside0.mk (Below.refl w.heap.size w)
 have H : (if (l0_0.length : Int) < 1 then (spec_RxOk.j0 k (l0_0.length : Int) true l0_0) else (spec_RxOk.j0 k (l0_0.length : Int) (decide ((l0_0.length : Int) > 300)) l0_0)) = some r := h
 clear h
 have HC2 := Aside0.mk H
 clear H
 go_enter Try.func59, Try.ntmps59
 go_upto_region 2 with (((with_reducible refine gate_dst (N := 1) rfl ?_); refine box_event ?hg (N := 1) ?hd (cs := #[.slice A0_0 l0_0.length c0_0]) (t := 29) ?hr ?_; (case hd => rfl); (case hg => rfl); (case hr => first | (go_simp; done) | (go_simp; rfl)); intro gb101 hg w3 hbox hb; have n0_ := Aside0.mk (below_step (be_ HB.out) hb); have n1_ := Aside0.mk (hbox); have n2_ := Aside0.mk ((by rw [hg]; exact (below_size (be_ HB.out)) : w.heap.size ≤ gb101)); have n3_ := Aside0.mk ((by rw [hg]; exact (below_size (be_ HB.out)) : w.heap.size ≤ gb101)); clear HB; have HB := n0_; have BK101 := n1_; have GW101 := n2_; have GE101 := n3_; clear n0_ n1_ n2_ n3_; clear hb hbox hg; have hcz4_0 : w3.cell? ⟨gb101, 0, none⟩ = some (.slice A0_0 l0_0.length c0_0) := (blk_cell BK101.out 0).trans rfl; have hfz4_0 := blk_frozen BK101.out 0))
 (try simp only [Act.put, List.setIfInBounds_toArray, List.set_cons_zero, List.set_cons_succ])
 go_cut [18] (fun v18 wc => ∃ (kq : Nat) (x18_1 : Bool), v18 = .bool x18_1 ∧ Aside0 (spec_RxOk.j0 kq (l0_0.length : Int) x18_1 l0_0 = some r) ∧ Aside0 (kq ≤ k) ∧ Aside0 (wc.heap[gb101]? = some (.cells #[(.slice A0_0 l0_0.length c0_0)] 29 (0, 0))) ∧ Aside0 (Below w.heap.size w wc))
 case first =>
  have H := HC2.out
  clear HC2
  by_cases c5 : (l0_0.length : Int) < 1
  ·rw [if_pos c5] at H
   have c5b0 : decide ((l0_0.length : Int) < 1) = true := decide_eq_true c5
   have c5b1 : decide (l0_0.length < 1) = true := decide_eq_true (by omega)
   clear c5
   (first | rw [c5b0] | (simp only [i64_w, i32_w]; rw [c5b0]) | skip)
   have H' := Aside0.mk H
   clear H
   go_wp2
   go_meet
   case rel => exact ⟨_, (true), rs_, H', ⟨by first | omega | exact Nat.le_refl _⟩, ⟨bk_ BK101.out⟩, ⟨be1_ HB.out GE101.out⟩⟩
  ·rw [if_neg c5] at H
   have c5b0 : decide ((l0_0.length : Int) < 1) = false := decide_eq_false c5
   have c5b1 : decide (l0_0.length < 1) = false := decide_eq_false (by omega)
   clear c5
   (first | rw [c5b0] | (simp only [i64_w, i32_w]; rw [c5b0]) | skip)
   have H' := Aside0.mk H
   clear H
   go_wp2
   go_meet
   case rel => exact ⟨_, (decide ((l0_0.length : Int) > 300)), rs_, H', ⟨by first | omega | exact Nat.le_refl _⟩, ⟨bk_ BK101.out⟩, ⟨be1_ HB.out GE101.out⟩⟩
 case rest =>
  clear HC2
  try clear p2
  try clear c5
  try clear c5b0
  try clear c5b1
  try clear hcz4_0
  try clear hfz4_0
  obtain ⟨kq, x18_1, rfl, HA, HJ1, BK101, HB⟩ := hcut
  cases kq with
  | zero => exact absurd HA.out (by simp [spec_RxOk.j0])
  | succ kj1 =>
   have H := HA.out
   clear HA
   simp only [spec_RxOk.j0] at H
   by_cases c6 : x18_1 = true
   ·subst c6
    have H1 : (some false) = some r := by rw [if_pos rfl] at H; exact H
    clear H
    have H := H1
    clear H1
    obtain rfl := Option.some.inj H
    go_wp2
    go_ret
    exact ⟨rt_, be1_ HB.out GE101.out⟩
   ·replace c6 := Bool.eq_false_iff.mpr c6
    subst c6
    have H1 : (if 0 ≤ (l0_0.length : Int) then (if ((l0_0.length : Int) : Int).toNat ≤ 35184372088832 then (spec_RxOk.l0 kj1 (l0_0.length : Int) (List.replicate ((l0_0.length : Int) : Int).toNat 0) 0 l0_0) else (none)) else (none)) = some r := by rw [if_neg (show ¬ (false = true) by decide)] at H; exact H
    clear H
    have H := H1
    clear H1
    by_cases c7 : 0 ≤ (l0_0.length : Int)
    ·rw [if_pos c7] at H
     have c7b0 := eq_true c7
     have c7b1 : decide (0 ≤ (l0_0.length : Int)) = true := decide_eq_true c7
     clear c7
     by_cases c8 : ((l0_0.length : Int) : Int).toNat ≤ 35184372088832
     ·rw [if_pos c8] at H
      have c8b0 := eq_true c8
      have c8b1 : decide (((l0_0.length : Int) : Int).toNat ≤ 35184372088832) = true := decide_eq_true c8
      clear c8
      obtain ⟨y102, hy102⟩ : ∃ y_ : List Int, y_ = (List.replicate ((l0_0.length : Int) : Int).toNat 0) := ⟨_, rfl⟩
      replace H : (spec_RxOk.l0 kj1 (l0_0.length : Int) y102 0 l0_0) = some r := by first | (rw [hy102]; with_reducible exact H) | (have H2_ := (Option.bind_some _ _).symm.trans H; rw [hy102]; with_reducible exact H2_) | (have H2_ := (Option.bind_some _ _).symm.trans H; with_reducible exact H2_) | with_reducible exact H | (rw [hy102]; exact H) | exact H
      have Ny102 := Aside0.mk hy102
      clear hy102
      have H' := Aside0.mk H
      clear H
      go_wp2_with (((with_reducible refine gate_dst (N := 20) rfl ?_); refine Kd.R_make (Kd.int .i64) _ 3 rfl (N := 20) rfl 153 _ _ rfl (l0_0.length : Int) rfl rfl Try.underlying153 (.int .i64 0) 8 info3 rfl (by decide) (by omega) 0 (ok := fun _ => True) (okp := fun _ => True) rfl (fun _ hk => hk) trivial (of_decide_eq_true as_) (Nat.le_trans (Nat.mul_le_mul_right _ (of_decide_eq_true as_ : (l0_0.length : Int).toNat ≤ 35184372088832)) (by omega)) (Below.refl _ _) (Nat.le_refl _) ?_; intro v103 w9 ho10 hb hg_ hnew_; clear hg_ hnew_; (first | rw [← Ny102.out] at ho10 | (simp only [Int.reduceToNat] at ho10; rw [← Ny102.out] at ho10)); have n0_ := Aside0.mk (Kd.R_lower ho10 (below_size (be1_ HB.out GE101.out))); have n1_ := Aside0.mk (blk_below (g := gb101) (o := .cells #[.slice A0_0 l0_0.length c0_0] 29 (0, 0)) (bk_ BK101.out) hb); have n2_ := Aside0.mk (below_step (be1_ HB.out GE101.out) hb); clear BK101; clear HB; have HO104 := n0_; have BK101 := n1_; have HB := n2_; clear n0_ n1_ n2_; clear hb ho10))
      go_loopg [5] kj1 (fun kq v5 w' => ∃ (x4_2 : List Int) (x5_2 : Int), v5 = .int .i64 x5_2 ∧ Aside0 (spec_RxOk.l0 kq (l0_0.length : Int) x4_2 x5_2 l0_0 = some r) ∧ Aside0 (kq ≤ kj1) ∧ Aside0 (Kd.R (Kd.int .i64) 3 w' w.heap.size (fun _ => True) v103 x4_2) ∧ Aside0 (w'.heap[gb101]? = some (.cells #[(.slice A0_0 l0_0.length c0_0)] 29 (0, 0))) ∧ Aside0 (Below w.heap.size w w'))
      case atStart => exact ⟨(y102), (0), rs_, H', ⟨Nat.le_refl _⟩, ⟨by (with_reducible repeat (first | apply Kd.R_alloc | apply Kd.R_drewN | apply Kd.R_drew)); exact HO104.out⟩, ⟨bk_ BK101.out⟩, ⟨be1_ HB.out GE101.out⟩⟩
      case round =>
       clear H'
       try clear p2
       try clear c5
       try clear c5b0
       try clear c5b1
       try clear c6
       try clear c7
       try clear c7b0
       try clear c7b1
       try clear c8
       try clear c8b0
       try clear c8b1
       try clear hcz4_0
       try clear hfz4_0
       try clear p2
       obtain ⟨x4_2, x5_2, rfl, HA, HK2, HO_4, BK101, HB⟩ := hrel
       cases gk with
       | zero => exact absurd HA.out (by simp [spec_RxOk.l0])
       | succ k2 =>
        have H := HA.out
        clear HA
        simp only [spec_RxOk.l0] at H
        by_cases c11 : x5_2 < (l0_0.length : Int)
        ·rw [if_pos c11] at H
         have c11b0 : decide (x5_2 < (l0_0.length : Int)) = true := decide_eq_true c11
         clear c11
         by_cases c12 : 0 ≤ x5_2
         ·rw [if_pos c12] at H
          have c12b0 : decide (0 ≤ x5_2) = true := decide_eq_true c12
          clear c12
          by_cases c13 : x5_2 < (l0_0.length : Int)
          ·rw [if_pos c13] at H
           have c13b0 : decide (x5_2 < (l0_0.length : Int)) = true := decide_eq_true c13
           clear c13
           replace H := Option.bind_eq_some_iff.mp H
           obtain ⟨t106, A140, H⟩ := H
           replace H : (if t106 = true then (spec_RxOk.l1 k2 (l0_0.length : Int) x4_2 x5_2 0 l0_0) else (some false)) = some r := H
           have A14 := Aside0.mk A140
           clear A140
           by_cases c15 : t106 = true
           ·subst c15
            have H1 : (spec_RxOk.l1 k2 (l0_0.length : Int) x4_2 x5_2 0 l0_0) = some r := by rw [if_pos rfl] at H; exact H
            clear H
            have H := H1
            clear H1
            have H' := Aside0.mk H
            clear H
            have hcz16_0 : wr.cell? ⟨gb101, 0, none⟩ = some (.slice A0_0 l0_0.length c0_0) := (blk_cell BK101.out 0).trans rfl
            have hfz16_0 := blk_frozen BK101.out 0
            have p105 : 0 ≤ (x5_2 : Int) := of_decide_eq_true as_
            have q105 : x5_2 < (l0_0.length : Int) := of_decide_eq_true as_
            obtain ⟨ad105, A105_1, c105_1, A105_2, c105_2, e105, hx105_0, hx105_1, hx105_2, hx105_3, hx105_4, hl105_1, hi105_1, hl105_2, hi105_2⟩ := at_T156 HR0_0.out x5_2 p105 q105
            cases e105
            replace hx105_0 := mv_ HB.out hx105_0
            replace hx105_1 := mv_ HB.out hx105_1
            replace hx105_2 := mv_ HB.out hx105_2
            replace hx105_3 := mv_ HB.out hx105_3
            replace hx105_4 := mv_ HB.out hx105_4
            have HR105_1 := Aside0.mk hi105_1
            have HC105_1 := Aside0.mk hl105_1
            clear hi105_1 hl105_1
            have HR105_2 := Aside0.mk hi105_2
            have HC105_2 := Aside0.mk hl105_2
            clear hi105_2 hl105_2
            replace p105 := eq_true p105
            replace q105 := eq_true q105
            go_wp2_with (((with_reducible refine gate_callee (f := 116) rfl ?_); refine gl_ (some 32) rfl rfl Try.func116 #[.agg #[.int .i64 ((rd_T156 l0_0 x5_2).f0), .slice A105_1 ((rd_T156 l0_0 x5_2).f1).length c105_1, .slice A105_2 ((rd_T156 l0_0 x5_2).f2).length c105_2, .int .i64 ((rd_T156 l0_0 x5_2).f3), .int .i64 ((rd_T156 l0_0 x5_2).f4)], .int .i64 x5_2] ?_; (with_reducible refine (spec_l3Node.calls k2 ((rd_T156 l0_0 x5_2).f0) _ _ ((rd_T156 l0_0 x5_2).f1) _ _ ((rd_T156 l0_0 x5_2).f2) ((rd_T156 l0_0 x5_2).f3) ((rd_T156 l0_0 x5_2).f4) x5_2 true _ ?side1 ?side2 ?side3 ?side4 A14.out).mono ?_); (case side1 => repeat (first | exact (Kd.C_below HR105_1.out HB.out) | (with_reducible refine Kd.C_alloc ?_ _) | (with_reducible refine Kd.C_drewN ?_ _) | (with_reducible refine Kd.C_drew ?_))); (case side2 => exact HC105_1.out); (case side3 => repeat (first | exact (Kd.C_below HR105_2.out HB.out) | (with_reducible refine Kd.C_alloc ?_ _) | (with_reducible refine Kd.C_drewN ?_ _) | (with_reducible refine Kd.C_drew ?_))); (case side4 => exact HC105_2.out); rintro e w17 ⟨rfl, hb⟩; refine ⟨_, rfl, ?_⟩; have n0_ := Aside0.mk (Kd.R_below (by (with_reducible repeat (first | apply Kd.R_alloc | apply Kd.R_drewN | apply Kd.R_drew)); exact HO_4.out) hb); have n1_ := Aside0.mk (blk_below (g := gb101) (o := .cells #[.slice (some ad105) l0_0.length c0_0] 29 (0, 0)) (bk_ BK101.out) hb); have n2_ := Aside0.mk (below_step (be1_ HB.out GE101.out) hb); clear HO_4; clear BK101; clear HB; have HO_4 := n0_; have BK101 := n1_; have HB := n2_; clear n0_ n1_ n2_; (try clear hb); (try clear hb2); (try clear hk); (try clear hi)))
            go_loopg [6] k2 (fun kq v6 w' => ∃ (x4_3 : List Int) (x6_3 : Int), v6 = .int .i64 x6_3 ∧ Aside0 (spec_RxOk.l1 kq (l0_0.length : Int) x4_3 x5_2 x6_3 l0_0 = some r) ∧ Aside0 (kq ≤ k2) ∧ Aside0 (Kd.R (Kd.int .i64) 3 w' w.heap.size (fun _ => True) v103 x4_3) ∧ Aside0 (w'.heap[gb101]? = some (.cells #[(.slice (some ad105) l0_0.length c0_0)] 29 (0, 0))) ∧ Aside0 (Below w.heap.size w w'))
            case atStart => exact ⟨(x4_2), (0), rs_, H', ⟨Nat.le_refl _⟩, ⟨by (with_reducible repeat (first | apply Kd.R_alloc | apply Kd.R_drewN | apply Kd.R_drew)); exact HO_4.out⟩, ⟨bk_ BK101.out⟩, ⟨be1_ HB.out GE101.out⟩⟩
            case round =>
             clear H'
             try clear c1
             try clear p1
             try clear q1
             try clear hx1
             try clear p2
             try clear c5
             try clear c5b0
             try clear c5b1
             try clear c6
             try clear c7
             try clear c7b0
             try clear c7b1
             try clear c8
             try clear c8b0
             try clear c8b1
             try clear c10
             try clear p10
             try clear q10
             try clear hx10
             try clear c11
             try clear c11b0
             try clear c12
             try clear c12b0
             try clear c13
             try clear c13b0
             try clear c15
             try clear hcz16_0
             try clear hcz4_0
             try clear hfz16_0
             try clear hfz4_0
             try clear hx105_0
             try clear hx105_1
             try clear hx105_2
             try clear hx105_3
             try clear hx105_4
             try clear p105
             try clear p2
             try clear q105
             obtain ⟨x4_3, x6_3, rfl, HA, HK3, HO_4, BK101, HB⟩ := hrel
             cases gk with
             | zero => exact absurd HA.out (by simp [spec_RxOk.l1])
             | succ k3 =>
              have H := HA.out
              clear HA
              simp only [spec_RxOk.l1] at H
              by_cases c18 : 0 ≤ x5_2
              ·rw [if_pos c18] at H
               have c18b0 : decide (0 ≤ x5_2) = true := decide_eq_true c18
               clear c18
               by_cases c19 : x5_2 < (l0_0.length : Int)
               ·rw [if_pos c19] at H
                have c19b0 : decide (x5_2 < (l0_0.length : Int)) = true := decide_eq_true c19
                clear c19
                by_cases c20 : x6_3 < (((rd_T156 l0_0 x5_2).f2).length : Int)
                ·rw [if_pos c20] at H
                 have c20b0 : decide (x6_3 < (((rd_T156 l0_0 x5_2).f2).length : Int)) = true := decide_eq_true c20
                 clear c20
                 by_cases c21 : 0 ≤ x6_3
                 ·rw [if_pos c21] at H
                  have c21b0 : decide (0 ≤ x6_3) = true := decide_eq_true c21
                  clear c21
                  by_cases c22 : 0 ≤ (rd ((rd_T156 l0_0 x5_2).f2) x6_3)
                  ·rw [if_pos c22] at H
                   have c22b0 : decide (0 ≤ (rd ((rd_T156 l0_0 x5_2).f2) x6_3)) = true := decide_eq_true c22
                   clear c22
                   by_cases c23 : (rd ((rd_T156 l0_0 x5_2).f2) x6_3) < (x4_3.length : Int)
                   ·rw [if_pos c23] at H
                    have c23b0 : decide ((rd ((rd_T156 l0_0 x5_2).f2) x6_3) < (x4_3.length : Int)) = true := decide_eq_true c23
                    clear c23
                    obtain ⟨y111, hy111⟩ : ∃ y_ : List Int, y_ = (x4_3.set ((rd ((rd_T156 l0_0 x5_2).f2) x6_3) : Int).toNat (wrap64 ((rd x4_3 (rd ((rd_T156 l0_0 x5_2).f2) x6_3)) + 1))) := ⟨_, rfl⟩
                    replace H : (spec_RxOk.l1 k3 (l0_0.length : Int) y111 x5_2 (wrap64 (x6_3 + 1)) l0_0) = some r := by first | (rw [hy111]; with_reducible exact H) | (have H2_ := (Option.bind_some _ _).symm.trans H; rw [hy111]; with_reducible exact H2_) | (have H2_ := (Option.bind_some _ _).symm.trans H; with_reducible exact H2_) | with_reducible exact H | (rw [hy111]; exact H) | exact H
                    have Ny111 := Aside0.mk hy111
                    clear hy111
                    have H' := Aside0.mk H
                    clear H
                    have hcz25_0 : wr.cell? ⟨gb101, 0, none⟩ = some (.slice (some ad105) l0_0.length c0_0) := (blk_cell BK101.out 0).trans rfl
                    have hfz25_0 := blk_frozen BK101.out 0
                    have p107 : 0 ≤ (x5_2 : Int) := of_decide_eq_true as_
                    have q107 : x5_2 < (l0_0.length : Int) := of_decide_eq_true as_
                    obtain ⟨ad107, A107_1, c107_1, A107_2, c107_2, e107, hx107_0, hx107_1, hx107_2, hx107_3, hx107_4, hl107_1, hi107_1, hl107_2, hi107_2⟩ := at_T156 HR0_0.out x5_2 p107 q107
                    obtain rfl : ad105 = ad107 := (by injection e107)
                    replace hx107_0 := mv_ HB.out hx107_0
                    replace hx107_1 := mv_ HB.out hx107_1
                    replace hx107_2 := mv_ HB.out hx107_2
                    replace hx107_3 := mv_ HB.out hx107_3
                    replace hx107_4 := mv_ HB.out hx107_4
                    have HR107_1 := Aside0.mk hi107_1
                    have HC107_1 := Aside0.mk hl107_1
                    clear hi107_1 hl107_1
                    have HR107_2 := Aside0.mk hi107_2
                    have HC107_2 := Aside0.mk hl107_2
                    clear hi107_2 hl107_2
                    replace p107 := eq_true p107
                    replace q107 := eq_true q107
                    have p108 : 0 ≤ (x5_2 : Int) := of_decide_eq_true as_
                    have q108 : x5_2 < (l0_0.length : Int) := of_decide_eq_true as_
                    obtain ⟨ad108, A108_1, c108_1, A108_2, c108_2, e108, hx108_0, hx108_1, hx108_2, hx108_3, hx108_4, hl108_1, hi108_1, hl108_2, hi108_2⟩ := at_T156 HR0_0.out x5_2 p108 q108
                    obtain rfl : ad105 = ad108 := (by injection e108)
                    replace hx108_0 := mv_ HB.out hx108_0
                    replace hx108_1 := mv_ HB.out hx108_1
                    replace hx108_2 := mv_ HB.out hx108_2
                    replace hx108_3 := mv_ HB.out hx108_3
                    replace hx108_4 := mv_ HB.out hx108_4
                    have HR108_1 := Aside0.mk hi108_1
                    have HC108_1 := Aside0.mk hl108_1
                    clear hi108_1 hl108_1
                    have HR108_2 := Aside0.mk hi108_2
                    have HC108_2 := Aside0.mk hl108_2
                    clear hi108_2 hl108_2
                    replace p108 := eq_true p108
                    replace q108 := eq_true q108
                    have ea_ := Option.some.inj (hx107_1.symm.trans hx108_1)
                    injection ea_ with ea_ en_ ec_
                    subst ea_
                    subst ec_
                    clear en_
                    have ea_ := Option.some.inj (hx107_2.symm.trans hx108_2)
                    injection ea_ with ea_ en_ ec_
                    subst ea_
                    subst ec_
                    clear en_
                    have p109 : 0 ≤ (x6_3 : Int) := of_decide_eq_true as_
                    have q109 : x6_3 < (((rd_T156 l0_0 x5_2).f2).length : Int) := of_decide_eq_true as_
                    obtain ⟨ad109, e109, hx109_0⟩ := Kd.at_int HR108_2.out x6_3 p109 q109
                    cases e109
                    replace hx109_0 := mv_ HB.out hx109_0
                    replace p109 := eq_true p109
                    replace q109 := eq_true q109
                    obtain ⟨Ao26, co26, eo26⟩ := Kd.R_slice HO_4.out
                    subst eo26
                    have p110 : 0 ≤ ((rd ((rd_T156 l0_0 x5_2).f2) x6_3) : Int) := of_decide_eq_true as_
                    have q110 : (rd ((rd_T156 l0_0 x5_2).f2) x6_3) < (x4_3.length : Int) := of_decide_eq_true as_
                    obtain ⟨ad110, e110, hx110_0⟩ := Kd.at_int (Kd.R_reads' HO_4.out).2.2 (rd ((rd_T156 l0_0 x5_2).f2) x6_3) p110 q110
                    cases e110
                    replace p110 := eq_true p110
                    replace q110 := eq_true q110
                    have p24 : 0 ≤ ((rd ((rd_T156 l0_0 x5_2).f2) x6_3) : Int) := of_decide_eq_true as_
                    have q24 : ((rd ((rd_T156 l0_0 x5_2).f2) x6_3) : Int) < ((x4_3.length : Int) : Int) := of_decide_eq_true as_
                    obtain ⟨go24, co24, eo24, gb24, gl24, cl24, HG24⟩ := Kd.R_form HO_4.out (by omega)
                    (first | cases eo24 | (injection eo24 with ea_ en_ ec_; (first | subst ea_ | (injection ea_ with ea_; subst ea_)); subst ec_; clear en_))
                    have GB24 := Aside0.mk gb24
                    have GG24 := Aside0.mk HG24
                    clear gb24 gl24 HG24
                    (first | simp only [add_plain] at hx110_0 | skip)
                    obtain ⟨hx24_0, hf24_0⟩ := Kd.R_celln 0 HO_4.out ((rd ((rd_T156 l0_0 x5_2).f2) x6_3) : Int) p24 q24
                    replace p24 := eq_true p24
                    replace q24 := eq_true q24
                    have HP27 := Kd.R_putg HO_4.out ((rd ((rd_T156 l0_0 x5_2).f2) x6_3) : Int) (wrap64 ((rd x4_3 (rd ((rd_T156 l0_0 x5_2).f2) x6_3)) + 1))
                    go_wp2_with (((with_reducible refine gate_store (t := 3) (p := 58) rfl ?_); refine store_event (t := 3) (p := 58) (v := ?vo_w28) (w1 := (wr.setCell ⟨go24, ((rd ((rd_T156 l0_0 x5_2).f2) x6_3) : Int).toNat, none⟩ (.int .i64 (wrap64 ((rd x4_3 (rd ((rd_T156 l0_0 x5_2).f2) x6_3)) + 1))))) ?hg ?ho ?hn ?hr ?_; (case ho => rfl); (case hg => rfl); (case hn => rfl); (case hr => first | (go_simp; done) | (go_simp; rfl)); intro w28 hw; have hg : wr.grownBy w28 (some go24) := (by rw [hw]; exact HP27.2); have hp_ : Kd.R (Kd.int .i64) 3 w28 w.heap.size (fun _ => True) (.slice (some ⟨go24, 0, none⟩) x4_3.length co26) y111 := (by rw [hw, Ny111.out]; exact HP27.1); clear HP27; have n0_ := Aside0.mk (hp_); have n1_ := Aside0.mk (blk_grown (g := gb101) (o := .cells #[.slice (some ad105) l0_0.length c0_0] 29 (0, 0)) (bk_ BK101.out) hg (Kd.R_ne HO_4.out BK101.out (by decide))); have n2_ := Aside0.mk ((by rw [hw]; exact below_set (HB.out) GB24.out : Below w.heap.size w w28)); clear HO_4; clear BK101; clear HB; have HO_4 := n0_; have BK101 := n1_; have HB := n2_; clear n0_ n1_ n2_; clear hg hw hp_))
                    go_roundg k3
                    case measure => have := HJ1.out; have := HK2.out; have := HK3.out; omega
                    case rel => exact ⟨(y111), (wrap64 (x6_3 + 1)), rs_, H', ⟨by have := HJ1.out; have := HK2.out; have := HK3.out; omega⟩, ⟨by (with_reducible repeat (first | apply Kd.R_alloc | apply Kd.R_drewN | apply Kd.R_drew)); exact HO_4.out⟩, ⟨bk_ BK101.out⟩, ⟨be1_ HB.out GE101.out⟩⟩
                   ·rw [if_neg c23] at H
                    exact absurd H (by simp)
                  ·rw [if_neg c22] at H
                   exact absurd H (by simp)
                 ·rw [if_neg c21] at H
                  exact absurd H (by simp)
                ·rw [if_neg c20] at H
                 have c20b0 : decide (x6_3 < (((rd_T156 l0_0 x5_2).f2).length : Int)) = false := decide_eq_false c20
                 clear c20
                 have H' := Aside0.mk H
                 clear H
                 have hcz29_0 : wr.cell? ⟨gb101, 0, none⟩ = some (.slice (some ad105) l0_0.length c0_0) := (blk_cell BK101.out 0).trans rfl
                 have hfz29_0 := blk_frozen BK101.out 0
                 have p107 : 0 ≤ (x5_2 : Int) := of_decide_eq_true as_
                 have q107 : x5_2 < (l0_0.length : Int) := of_decide_eq_true as_
                 obtain ⟨ad107, A107_1, c107_1, A107_2, c107_2, e107, hx107_0, hx107_1, hx107_2, hx107_3, hx107_4, hl107_1, hi107_1, hl107_2, hi107_2⟩ := at_T156 HR0_0.out x5_2 p107 q107
                 obtain rfl : ad105 = ad107 := (by injection e107)
                 replace hx107_0 := mv_ HB.out hx107_0
                 replace hx107_1 := mv_ HB.out hx107_1
                 replace hx107_2 := mv_ HB.out hx107_2
                 replace hx107_3 := mv_ HB.out hx107_3
                 replace hx107_4 := mv_ HB.out hx107_4
                 have HR107_1 := Aside0.mk hi107_1
                 have HC107_1 := Aside0.mk hl107_1
                 clear hi107_1 hl107_1
                 have HR107_2 := Aside0.mk hi107_2
                 have HC107_2 := Aside0.mk hl107_2
                 clear hi107_2 hl107_2
                 replace p107 := eq_true p107
                 replace q107 := eq_true q107
                 go_wp2
                 go_roundg k3
                 case measure => have := HJ1.out; have := HK2.out; have := HK3.out; omega
                 case rel => exact ⟨(x4_3), (wrap64 (x5_2 + 1)), rs_, H', ⟨by have := HJ1.out; have := HK2.out; have := HK3.out; omega⟩, ⟨by (with_reducible repeat (first | apply Kd.R_alloc | apply Kd.R_drewN | apply Kd.R_drew)); exact HO_4.out⟩, ⟨bk_ BK101.out⟩, ⟨be1_ HB.out GE101.out⟩⟩
               ·rw [if_neg c19] at H
                exact absurd H (by simp)
              ·rw [if_neg c18] at H
               exact absurd H (by simp)
           ·replace c15 := Bool.eq_false_iff.mpr c15
            subst c15
            have H1 : (some false) = some r := by rw [if_neg (show ¬ (false = true) by decide)] at H; exact H
            clear H
            have H := H1
            clear H1
            obtain rfl := Option.some.inj H
            have hcz30_0 : wr.cell? ⟨gb101, 0, none⟩ = some (.slice A0_0 l0_0.length c0_0) := (blk_cell BK101.out 0).trans rfl
            have hfz30_0 := blk_frozen BK101.out 0
            have p105 : 0 ≤ (x5_2 : Int) := of_decide_eq_true as_
            have q105 : x5_2 < (l0_0.length : Int) := of_decide_eq_true as_
            obtain ⟨ad105, A105_1, c105_1, A105_2, c105_2, e105, hx105_0, hx105_1, hx105_2, hx105_3, hx105_4, hl105_1, hi105_1, hl105_2, hi105_2⟩ := at_T156 HR0_0.out x5_2 p105 q105
            cases e105
            replace hx105_0 := mv_ HB.out hx105_0
            replace hx105_1 := mv_ HB.out hx105_1
            replace hx105_2 := mv_ HB.out hx105_2
            replace hx105_3 := mv_ HB.out hx105_3
            replace hx105_4 := mv_ HB.out hx105_4
            have HR105_1 := Aside0.mk hi105_1
            have HC105_1 := Aside0.mk hl105_1
            clear hi105_1 hl105_1
            have HR105_2 := Aside0.mk hi105_2
            have HC105_2 := Aside0.mk hl105_2
            clear hi105_2 hl105_2
            replace p105 := eq_true p105
            replace q105 := eq_true q105
            go_wp2_with (((with_reducible refine gate_callee (f := 116) rfl ?_); refine gl_ (some 32) rfl rfl Try.func116 #[.agg #[.int .i64 ((rd_T156 l0_0 x5_2).f0), .slice A105_1 ((rd_T156 l0_0 x5_2).f1).length c105_1, .slice A105_2 ((rd_T156 l0_0 x5_2).f2).length c105_2, .int .i64 ((rd_T156 l0_0 x5_2).f3), .int .i64 ((rd_T156 l0_0 x5_2).f4)], .int .i64 x5_2] ?_; (with_reducible refine (spec_l3Node.calls k2 ((rd_T156 l0_0 x5_2).f0) _ _ ((rd_T156 l0_0 x5_2).f1) _ _ ((rd_T156 l0_0 x5_2).f2) ((rd_T156 l0_0 x5_2).f3) ((rd_T156 l0_0 x5_2).f4) x5_2 false _ ?side1 ?side2 ?side3 ?side4 A14.out).mono ?_); (case side1 => repeat (first | exact (Kd.C_below HR105_1.out HB.out) | (with_reducible refine Kd.C_alloc ?_ _) | (with_reducible refine Kd.C_drewN ?_ _) | (with_reducible refine Kd.C_drew ?_))); (case side2 => exact HC105_1.out); (case side3 => repeat (first | exact (Kd.C_below HR105_2.out HB.out) | (with_reducible refine Kd.C_alloc ?_ _) | (with_reducible refine Kd.C_drewN ?_ _) | (with_reducible refine Kd.C_drew ?_))); (case side4 => exact HC105_2.out); rintro e w31 ⟨rfl, hb⟩; refine ⟨_, rfl, ?_⟩; have n0_ := Aside0.mk (Kd.R_below (by (with_reducible repeat (first | apply Kd.R_alloc | apply Kd.R_drewN | apply Kd.R_drew)); exact HO_4.out) hb); have n1_ := Aside0.mk (blk_below (g := gb101) (o := .cells #[.slice (some ad105) l0_0.length c0_0] 29 (0, 0)) (bk_ BK101.out) hb); have n2_ := Aside0.mk (below_step (be1_ HB.out GE101.out) hb); clear HO_4; clear BK101; clear HB; have HO_4 := n0_; have BK101 := n1_; have HB := n2_; clear n0_ n1_ n2_; (try clear hb); (try clear hb2); (try clear hk); (try clear hi)))
            go_ret
            exact ⟨rt_, be1_ HB.out GE101.out⟩
          ·rw [if_neg c13] at H
           exact absurd H (by simp)
         ·rw [if_neg c12] at H
          exact absurd H (by simp)
        ·rw [if_neg c11] at H
         have c11b0 : decide (x5_2 < (l0_0.length : Int)) = false := decide_eq_false c11
         clear c11
         by_cases c32 : 0 ≤ (l0_0.length : Int)
         ·rw [if_pos c32] at H
          have c32b0 := eq_true c32
          have c32b1 : decide (0 ≤ (l0_0.length : Int)) = true := decide_eq_true c32
          clear c32
          by_cases c33 : ((l0_0.length : Int) : Int).toNat ≤ 35184372088832
          ·rw [if_pos c33] at H
           have c33b0 := eq_true c33
           have c33b1 : decide (((l0_0.length : Int) : Int).toNat ≤ 35184372088832) = true := decide_eq_true c33
           clear c33
           obtain ⟨y112, hy112⟩ : ∃ y_ : List Int, y_ = (List.replicate ((l0_0.length : Int) : Int).toNat 0) := ⟨_, rfl⟩
           replace H : (spec_RxOk.l2 k2 (l0_0.length : Int) x4_2 y112 (wrap64 ((l0_0.length : Int) - 1)) l0_0) = some r := by first | (rw [hy112]; with_reducible exact H) | (have H2_ := (Option.bind_some _ _).symm.trans H; rw [hy112]; with_reducible exact H2_) | (have H2_ := (Option.bind_some _ _).symm.trans H; with_reducible exact H2_) | with_reducible exact H | (rw [hy112]; exact H) | exact H
           have Ny112 := Aside0.mk hy112
           clear hy112
           have H' := Aside0.mk H
           clear H
           go_wp2_with (((with_reducible refine gate_dst (N := 60) rfl ?_); refine Kd.R_make (Kd.int .i64) _ 3 rfl (N := 60) rfl 153 _ _ rfl (l0_0.length : Int) rfl rfl Try.underlying153 (.int .i64 0) 8 info3 rfl (by decide) (by omega) 0 (ok := fun _ => True) (okp := fun _ => True) rfl (fun _ hk => hk) trivial (of_decide_eq_true as_) (Nat.le_trans (Nat.mul_le_mul_right _ (of_decide_eq_true as_ : (l0_0.length : Int).toNat ≤ 35184372088832)) (by omega)) (Below.refl _ _) (Nat.le_refl _) ?_; intro v113 w34 ho35 hb hg_ hnew_; clear hg_ hnew_; (first | rw [← Ny112.out] at ho35 | (simp only [Int.reduceToNat] at ho35; rw [← Ny112.out] at ho35)); have n0_ := Aside0.mk (Kd.R_elder' (by (with_reducible repeat (first | apply Kd.R_alloc | apply Kd.R_drewN | apply Kd.R_drew)); exact HO_4.out) (Kd.R_base ho35) hb); have n1_ := Aside0.mk (Kd.R_lower (Kd.R_new' ho35 (Kd.R_lt (by (with_reducible repeat (first | apply Kd.R_alloc | apply Kd.R_drewN | apply Kd.R_drew)); exact HO_4.out))) (below_size (be1_ HB.out GE101.out))); have n2_ := Aside0.mk (blk_below (g := gb101) (o := .cells #[.slice A0_0 l0_0.length c0_0] 29 (0, 0)) (bk_ BK101.out) hb); have n3_ := Aside0.mk (below_step (be1_ HB.out GE101.out) hb); clear HO_4; clear BK101; clear HB; have HO_4 := n0_; have HO114 := n1_; have BK101 := n2_; have HB := n3_; clear n0_ n1_ n2_ n3_; clear hb ho35))
           go_loopg [8] k2 (fun kq v8 w' => ∃ (x7_3 : List Int) (x8_3 : Int), v8 = .int .i64 x8_3 ∧ Aside0 (spec_RxOk.l2 kq (l0_0.length : Int) x4_2 x7_3 x8_3 l0_0 = some r) ∧ Aside0 (kq ≤ k2) ∧ Aside0 (Kd.R (Kd.int .i64) 3 w' w.heap.size (fun k_ => some k_ ≠ (v113 : Value).ownBlock) v103 x4_2) ∧ Aside0 (Kd.R (Kd.int .i64) 3 w' w.heap.size (fun k_ => some k_ ≠ (v103 : Value).ownBlock) v113 x7_3) ∧ Aside0 (w'.heap[gb101]? = some (.cells #[(.slice A0_0 l0_0.length c0_0)] 29 (0, 0))) ∧ Aside0 (Below w.heap.size w w'))
           case atStart => exact ⟨(y112), (wrap64 ((l0_0.length : Int) - 1)), rs_, H', ⟨Nat.le_refl _⟩, ⟨by (with_reducible repeat (first | apply Kd.R_alloc | apply Kd.R_drewN | apply Kd.R_drew)); exact Kd.R_mono HO_4.out (fun _ hk => hk.2)⟩, ⟨by (with_reducible repeat (first | apply Kd.R_alloc | apply Kd.R_drewN | apply Kd.R_drew)); exact Kd.R_mono HO114.out (fun _ hk => hk.2)⟩, ⟨bk_ BK101.out⟩, ⟨be1_ HB.out GE101.out⟩⟩
           case round =>
            clear H'
            try clear c1
            try clear p1
            try clear q1
            try clear hx1
            try clear c2
            try clear p2
            try clear q2
            try clear hx2
            try clear hf2
            try clear c3
            try clear c5
            try clear c5b0
            try clear c5b1
            try clear c6
            try clear p6
            try clear c7
            try clear c7b0
            try clear c7b1
            try clear c8
            try clear c8b0
            try clear c8b1
            try clear c10
            try clear p10
            try clear q10
            try clear hx10
            try clear c11
            try clear c11b0
            try clear p11
            try clear q11
            try clear hx11
            try clear c12
            try clear c12b0
            try clear c13
            try clear c13b0
            try clear c15
            try clear c18
            try clear c18b0
            try clear c19
            try clear c19b0
            try clear c20
            try clear c20b0
            try clear c21
            try clear c21b0
            try clear c22
            try clear c22b0
            try clear c23
            try clear c23b0
            try clear p24
            try clear q24
            try clear hx24
            try clear hf24
            try clear c32
            try clear c32b0
            try clear c32b1
            try clear c33
            try clear c33b0
            try clear c33b1
            try clear hcz16_0
            try clear hcz25_0
            try clear hcz29_0
            try clear hcz30_0
            try clear hcz4_0
            try clear hfz16_0
            try clear hfz25_0
            try clear hfz29_0
            try clear hfz30_0
            try clear hfz4_0
            try clear hx105_0
            try clear hx105_1
            try clear hx105_2
            try clear hx105_3
            try clear hx105_4
            try clear hx107_0
            try clear hx107_1
            try clear hx107_2
            try clear hx107_3
            try clear hx107_4
            try clear hx108_0
            try clear hx108_1
            try clear hx108_2
            try clear hx108_3
            try clear hx108_4
            try clear hx109_0
            try clear hx110_0
            try clear hx24_0
            try clear p1
            try clear p10
            try clear p105
            try clear p107
            try clear p108
            try clear p109
            try clear p110
            try clear p2
            try clear p24
            try clear q1
            try clear q10
            try clear q105
            try clear q107
            try clear q108
            try clear q109
            try clear q110
            try clear q24
            obtain ⟨x7_3, x8_3, rfl, HA, HK3, HO_4, HO_7, BK101, HB⟩ := hrel
            cases gk with
            | zero => exact absurd HA.out (by simp [spec_RxOk.l2])
            | succ k3 =>
             have H := HA.out
             clear HA
             simp only [spec_RxOk.l2] at H
             by_cases c36 : x8_3 ≥ 0
             ·rw [if_pos c36] at H
              have c36b0 : decide (0 ≤ x8_3) = true := decide_eq_true c36
              clear c36
              have HC37 := Aside0.mk H
              clear H
              go_upto_region 18 with (fail)
              go_cut [84] (fun v84 wc => ∃ (kq : Nat) (x84_36 : Bool), v84 = .bool x84_36 ∧ Aside0 (spec_RxOk.j4 kq (l0_0.length : Int) x4_2 x7_3 x8_3 x84_36 l0_0 = some r) ∧ Aside0 (kq ≤ k3) ∧ Aside0 (Kd.R (Kd.int .i64) 3 wc w.heap.size (fun k_ => some k_ ≠ (v113 : Value).ownBlock) v103 x4_2) ∧ Aside0 (Kd.R (Kd.int .i64) 3 wc w.heap.size (fun k_ => some k_ ≠ (v103 : Value).ownBlock) v113 x7_3) ∧ Aside0 (wc.heap[gb101]? = some (.cells #[(.slice A0_0 l0_0.length c0_0)] 29 (0, 0))) ∧ Aside0 (Below w.heap.size w wc))
              case first =>
               have H := HC37.out
               clear HC37
               by_cases c38 : x8_3 < (wrap64 ((l0_0.length : Int) - 1))
               ·rw [if_pos c38] at H
                have c38b0 : decide (x8_3 < (wrap64 ((l0_0.length : Int) - 1))) = true := decide_eq_true c38
                clear c38
                (first | rw [c38b0] | (simp only [i64_w, i32_w]; rw [c38b0]) | skip)
                by_cases c39 : 0 ≤ x8_3
                ·rw [if_pos c39] at H
                 have c39b0 : decide (0 ≤ x8_3) = true := decide_eq_true c39
                 clear c39
                 by_cases c40 : x8_3 < (x4_2.length : Int)
                 ·rw [if_pos c40] at H
                  have c40b0 : decide (x8_3 < (x4_2.length : Int)) = true := decide_eq_true c40
                  clear c40
                  by_cases c41 : (rd x4_2 x8_3) = 1
                  ·rw [if_pos c41] at H
                   have c41b0 : ((rd x4_2 x8_3) == 1) = true := beq_iff_eq.mpr c41
                   have c41b1 : ((rd x4_2 x8_3) != 1) = false := bne_eq_false_iff_eq.mpr c41
                   clear c41
                   by_cases c42 : x8_3 < (x7_3.length : Int)
                   ·rw [if_pos c42] at H
                    have c42b0 : decide (x8_3 < (x7_3.length : Int)) = true := decide_eq_true c42
                    clear c42
                    have H' := Aside0.mk H
                    clear H
                    obtain ⟨Ao43, co43, eo43⟩ := Kd.R_slice HO_4.out
                    subst eo43
                    have p115 : 0 ≤ (x8_3 : Int) := of_decide_eq_true as_
                    have q115 : x8_3 < (x4_2.length : Int) := of_decide_eq_true as_
                    obtain ⟨ad115, e115, hx115_0⟩ := Kd.at_int (Kd.R_reads' HO_4.out).2.2 x8_3 p115 q115
                    cases e115
                    replace p115 := eq_true p115
                    replace q115 := eq_true q115
                    obtain ⟨Ao44, co44, eo44⟩ := Kd.R_slice HO_7.out
                    subst eo44
                    have p116 : 0 ≤ (x8_3 : Int) := of_decide_eq_true as_
                    have q116 : x8_3 < (x7_3.length : Int) := of_decide_eq_true as_
                    obtain ⟨ad116, e116, hx116_0⟩ := Kd.at_int (Kd.R_reads' HO_7.out).2.2 x8_3 p116 q116
                    cases e116
                    replace p116 := eq_true p116
                    replace q116 := eq_true q116
                    go_wp2
                    go_meet
                    case rel => exact ⟨_, (decide ((rd x7_3 x8_3) > 150)), rs_, H', ⟨by have := HJ1.out; have := HK2.out; have := HK3.out; first | omega | exact Nat.le_refl _⟩, ⟨by (with_reducible repeat (first | apply Kd.R_alloc | apply Kd.R_drewN | apply Kd.R_drew)); exact HO_4.out⟩, ⟨by (with_reducible repeat (first | apply Kd.R_alloc | apply Kd.R_drewN | apply Kd.R_drew)); exact HO_7.out⟩, ⟨bk_ BK101.out⟩, ⟨be1_ HB.out GE101.out⟩⟩
                   ·rw [if_neg c42] at H
                    exact absurd H (by simp)
                  ·rw [if_neg c41] at H
                   have c41b0 : ((rd x4_2 x8_3) == 1) = false := beq_eq_false_iff_ne.mpr c41
                   have c41b1 : ((rd x4_2 x8_3) != 1) = true := bne_iff_ne.mpr c41
                   have H' := Aside0.mk H
                   clear H
                   obtain ⟨Ao45, co45, eo45⟩ := Kd.R_slice HO_4.out
                   subst eo45
                   have p115 : 0 ≤ (x8_3 : Int) := of_decide_eq_true as_
                   have q115 : x8_3 < (x4_2.length : Int) := of_decide_eq_true as_
                   obtain ⟨ad115, e115, hx115_0⟩ := Kd.at_int (Kd.R_reads' HO_4.out).2.2 x8_3 p115 q115
                   cases e115
                   replace p115 := eq_true p115
                   replace q115 := eq_true q115
                   go_wp2
                   go_meet
                   case rel => exact ⟨_, (true), rs_, H', ⟨by have := HJ1.out; have := HK2.out; have := HK3.out; first | omega | exact Nat.le_refl _⟩, ⟨by (with_reducible repeat (first | apply Kd.R_alloc | apply Kd.R_drewN | apply Kd.R_drew)); exact HO_4.out⟩, ⟨by (with_reducible repeat (first | apply Kd.R_alloc | apply Kd.R_drewN | apply Kd.R_drew)); exact HO_7.out⟩, ⟨bk_ BK101.out⟩, ⟨be1_ HB.out GE101.out⟩⟩
                 ·rw [if_neg c40] at H
                  exact absurd H (by simp)
                ·rw [if_neg c39] at H
                 exact absurd H (by simp)
               ·rw [if_neg c38] at H
                have c38b0 : decide (x8_3 < (wrap64 ((l0_0.length : Int) - 1))) = false := decide_eq_false c38
                clear c38
                (first | rw [c38b0] | (simp only [i64_w, i32_w]; rw [c38b0]) | skip)
                by_cases c46 : 0 ≤ x8_3
                ·rw [if_pos c46] at H
                 have c46b0 : decide (0 ≤ x8_3) = true := decide_eq_true c46
                 clear c46
                 by_cases c47 : x8_3 < (x7_3.length : Int)
                 ·rw [if_pos c47] at H
                  have c47b0 : decide (x8_3 < (x7_3.length : Int)) = true := decide_eq_true c47
                  clear c47
                  have H' := Aside0.mk H
                  clear H
                  obtain ⟨Ao48, co48, eo48⟩ := Kd.R_slice HO_7.out
                  subst eo48
                  have p117 : 0 ≤ (x8_3 : Int) := of_decide_eq_true as_
                  have q117 : x8_3 < (x7_3.length : Int) := of_decide_eq_true as_
                  obtain ⟨ad117, e117, hx117_0⟩ := Kd.at_int (Kd.R_reads' HO_7.out).2.2 x8_3 p117 q117
                  cases e117
                  replace p117 := eq_true p117
                  replace q117 := eq_true q117
                  go_wp2
                  go_meet
                  case rel => exact ⟨_, (decide ((rd x7_3 x8_3) > 150)), rs_, H', ⟨by have := HJ1.out; have := HK2.out; have := HK3.out; first | omega | exact Nat.le_refl _⟩, ⟨by (with_reducible repeat (first | apply Kd.R_alloc | apply Kd.R_drewN | apply Kd.R_drew)); exact HO_4.out⟩, ⟨by (with_reducible repeat (first | apply Kd.R_alloc | apply Kd.R_drewN | apply Kd.R_drew)); exact HO_7.out⟩, ⟨bk_ BK101.out⟩, ⟨be1_ HB.out GE101.out⟩⟩
                 ·rw [if_neg c47] at H
                  exact absurd H (by simp)
                ·rw [if_neg c46] at H
                 exact absurd H (by simp)
              case rest =>
               clear HC37
               try clear c1
               try clear p1
               try clear q1
               try clear hx1
               try clear c2
               try clear p2
               try clear q2
               try clear hx2
               try clear hf2
               try clear c3
               try clear c4
               try clear c5
               try clear c5b0
               try clear c5b1
               try clear c6
               try clear p6
               try clear c7
               try clear c7b0
               try clear c7b1
               try clear c8
               try clear c8b0
               try clear c8b1
               try clear c10
               try clear p10
               try clear q10
               try clear hx10
               try clear c11
               try clear c11b0
               try clear p11
               try clear q11
               try clear hx11
               try clear c12
               try clear c12b0
               try clear c13
               try clear c13b0
               try clear c15
               try clear c18
               try clear c18b0
               try clear c19
               try clear c19b0
               try clear c20
               try clear c20b0
               try clear c21
               try clear c21b0
               try clear c22
               try clear c22b0
               try clear c23
               try clear c23b0
               try clear p24
               try clear q24
               try clear hx24
               try clear hf24
               try clear c32
               try clear c32b0
               try clear c32b1
               try clear c33
               try clear c33b0
               try clear c33b1
               try clear c36
               try clear c36b0
               try clear c38
               try clear c38b0
               try clear c39
               try clear c39b0
               try clear c40
               try clear c40b0
               try clear c41
               try clear c41b0
               try clear c41b1
               try clear c42
               try clear c42b0
               try clear c46
               try clear c46b0
               try clear c47
               try clear c47b0
               try clear hcz16_0
               try clear hcz25_0
               try clear hcz29_0
               try clear hcz30_0
               try clear hcz4_0
               try clear hfz16_0
               try clear hfz25_0
               try clear hfz29_0
               try clear hfz30_0
               try clear hfz4_0
               try clear hx105_0
               try clear hx105_1
               try clear hx105_2
               try clear hx105_3
               try clear hx105_4
               try clear hx107_0
               try clear hx107_1
               try clear hx107_2
               try clear hx107_3
               try clear hx107_4
               try clear hx108_0
               try clear hx108_1
               try clear hx108_2
               try clear hx108_3
               try clear hx108_4
               try clear hx109_0
               try clear hx110_0
               try clear hx115_0
               try clear hx116_0
               try clear hx117_0
               try clear hx24_0
               try clear p1
               try clear p10
               try clear p105
               try clear p107
               try clear p108
               try clear p109
               try clear p11
               try clear p110
               try clear p115
               try clear p116
               try clear p117
               try clear p2
               try clear p24
               try clear p6
               try clear q1
               try clear q10
               try clear q105
               try clear q107
               try clear q108
               try clear q109
               try clear q11
               try clear q110
               try clear q115
               try clear q116
               try clear q117
               try clear q2
               try clear q24
               obtain ⟨kq, x84_36, rfl, HA, HJ36, HO_4, HO_7, BK101, HB⟩ := hcut
               cases kq with
               | zero => exact absurd HA.out (by simp [spec_RxOk.j4])
               | succ kj36 =>
                have H := HA.out
                clear HA
                simp only [spec_RxOk.j4] at H
                by_cases c49 : x84_36 = true
                ·subst c49
                 have H1 : (some false) = some r := by rw [if_pos rfl] at H; exact H
                 clear H
                 have H := H1
                 clear H1
                 obtain rfl := Option.some.inj H
                 go_wp2
                 go_ret
                 exact ⟨rt_, be1_ HB.out GE101.out⟩
                ·replace c49 := Bool.eq_false_iff.mpr c49
                 subst c49
                 have H1 : (spec_RxOk.l3 kj36 (l0_0.length : Int) x4_2 x7_3 x8_3 0 l0_0) = some r := by rw [if_neg (show ¬ (false = true) by decide)] at H; exact H
                 clear H
                 have H := H1
                 clear H1
                 have H' := Aside0.mk H
                 clear H
                 go_wp2
                 go_loopg [9] kj36 (fun kq v9 w' => ∃ (x7_5 : List Int) (x9_5 : Int), v9 = .int .i64 x9_5 ∧ Aside0 (spec_RxOk.l3 kq (l0_0.length : Int) x4_2 x7_5 x8_3 x9_5 l0_0 = some r) ∧ Aside0 (kq ≤ kj36) ∧ Aside0 (Kd.R (Kd.int .i64) 3 w' w.heap.size (fun k_ => some k_ ≠ (v113 : Value).ownBlock) v103 x4_2) ∧ Aside0 (Kd.R (Kd.int .i64) 3 w' w.heap.size (fun k_ => some k_ ≠ (v103 : Value).ownBlock) v113 x7_5) ∧ Aside0 (w'.heap[gb101]? = some (.cells #[(.slice A0_0 l0_0.length c0_0)] 29 (0, 0))) ∧ Aside0 (Below w.heap.size w w'))
                 case atStart => exact ⟨(x7_3), (0), rs_, H', ⟨Nat.le_refl _⟩, ⟨by (with_reducible repeat (first | apply Kd.R_alloc | apply Kd.R_drewN | apply Kd.R_drew)); exact HO_4.out⟩, ⟨by (with_reducible repeat (first | apply Kd.R_alloc | apply Kd.R_drewN | apply Kd.R_drew)); exact HO_7.out⟩, ⟨bk_ BK101.out⟩, ⟨be1_ HB.out GE101.out⟩⟩
                 case round =>
                  clear H'
                  try clear c1
                  try clear p1
                  try clear q1
                  try clear hx1
                  try clear c2
                  try clear p2
                  try clear q2
                  try clear hx2
                  try clear hf2
                  try clear c3
                  try clear c4
                  try clear c5
                  try clear c5b0
                  try clear c5b1
                  try clear c6
                  try clear p6
                  try clear c7
                  try clear c7b0
                  try clear c7b1
                  try clear c8
                  try clear c8b0
                  try clear c8b1
                  try clear c10
                  try clear p10
                  try clear q10
                  try clear hx10
                  try clear c11
                  try clear c11b0
                  try clear p11
                  try clear q11
                  try clear hx11
                  try clear c12
                  try clear c12b0
                  try clear c13
                  try clear c13b0
                  try clear c15
                  try clear c18
                  try clear c18b0
                  try clear c19
                  try clear c19b0
                  try clear c20
                  try clear c20b0
                  try clear c21
                  try clear c21b0
                  try clear c22
                  try clear c22b0
                  try clear c23
                  try clear c23b0
                  try clear p24
                  try clear q24
                  try clear hx24
                  try clear hf24
                  try clear c32
                  try clear c32b0
                  try clear c32b1
                  try clear c33
                  try clear c33b0
                  try clear c33b1
                  try clear c36
                  try clear c36b0
                  try clear c38
                  try clear c38b0
                  try clear c39
                  try clear c39b0
                  try clear c40
                  try clear c40b0
                  try clear c41
                  try clear c41b0
                  try clear c41b1
                  try clear c42
                  try clear c42b0
                  try clear c46
                  try clear c46b0
                  try clear c47
                  try clear c47b0
                  try clear c49
                  try clear hcz16_0
                  try clear hcz25_0
                  try clear hcz29_0
                  try clear hcz30_0
                  try clear hcz4_0
                  try clear hfz16_0
                  try clear hfz25_0
                  try clear hfz29_0
                  try clear hfz30_0
                  try clear hfz4_0
                  try clear hx105_0
                  try clear hx105_1
                  try clear hx105_2
                  try clear hx105_3
                  try clear hx105_4
                  try clear hx107_0
                  try clear hx107_1
                  try clear hx107_2
                  try clear hx107_3
                  try clear hx107_4
                  try clear hx108_0
                  try clear hx108_1
                  try clear hx108_2
                  try clear hx108_3
                  try clear hx108_4
                  try clear hx109_0
                  try clear hx110_0
                  try clear hx115_0
                  try clear hx116_0
                  try clear hx117_0
                  try clear hx24_0
                  try clear p1
                  try clear p10
                  try clear p105
                  try clear p107
                  try clear p108
                  try clear p109
                  try clear p11
                  try clear p110
                  try clear p115
                  try clear p116
                  try clear p117
                  try clear p2
                  try clear p24
                  try clear p6
                  try clear q1
                  try clear q10
                  try clear q105
                  try clear q107
                  try clear q108
                  try clear q109
                  try clear q11
                  try clear q110
                  try clear q115
                  try clear q116
                  try clear q117
                  try clear q2
                  try clear q24
                  obtain ⟨x7_5, x9_5, rfl, HA, HK5, HO_4, HO_7, BK101, HB⟩ := hrel
                  cases gk with
                  | zero => exact absurd HA.out (by simp [spec_RxOk.l3])
                  | succ k5 =>
                   have H := HA.out
                   clear HA
                   simp only [spec_RxOk.l3] at H
                   by_cases c50 : 0 ≤ x8_3
                   ·rw [if_pos c50] at H
                    have c50b0 : decide (0 ≤ x8_3) = true := decide_eq_true c50
                    clear c50
                    by_cases c51 : x8_3 < (l0_0.length : Int)
                    ·rw [if_pos c51] at H
                     have c51b0 : decide (x8_3 < (l0_0.length : Int)) = true := decide_eq_true c51
                     clear c51
                     by_cases c52 : x9_5 < (((rd_T156 l0_0 x8_3).f2).length : Int)
                     ·rw [if_pos c52] at H
                      have c52b0 : decide (x9_5 < (((rd_T156 l0_0 x8_3).f2).length : Int)) = true := decide_eq_true c52
                      clear c52
                      by_cases c53 : 0 ≤ x9_5
                      ·rw [if_pos c53] at H
                       have c53b0 : decide (0 ≤ x9_5) = true := decide_eq_true c53
                       clear c53
                       by_cases c54 : x8_3 < (x7_5.length : Int)
                       ·rw [if_pos c54] at H
                        have c54b0 : decide (x8_3 < (x7_5.length : Int)) = true := decide_eq_true c54
                        clear c54
                        by_cases c55 : 0 ≤ (rd ((rd_T156 l0_0 x8_3).f2) x9_5)
                        ·rw [if_pos c55] at H
                         have c55b0 : decide (0 ≤ (rd ((rd_T156 l0_0 x8_3).f2) x9_5)) = true := decide_eq_true c55
                         clear c55
                         by_cases c56 : (rd ((rd_T156 l0_0 x8_3).f2) x9_5) < (x7_5.length : Int)
                         ·rw [if_pos c56] at H
                          have c56b0 : decide ((rd ((rd_T156 l0_0 x8_3).f2) x9_5) < (x7_5.length : Int)) = true := decide_eq_true c56
                          clear c56
                          obtain ⟨y122, hy122⟩ : ∃ y_ : List Int, y_ = (x7_5.set ((rd ((rd_T156 l0_0 x8_3).f2) x9_5) : Int).toNat (wrap64 ((rd x7_5 x8_3) + 1))) := ⟨_, rfl⟩
                          replace H : (spec_RxOk.l3 k5 (l0_0.length : Int) x4_2 y122 x8_3 (wrap64 (x9_5 + 1)) l0_0) = some r := by first | (rw [hy122]; with_reducible exact H) | (have H2_ := (Option.bind_some _ _).symm.trans H; rw [hy122]; with_reducible exact H2_) | (have H2_ := (Option.bind_some _ _).symm.trans H; with_reducible exact H2_) | with_reducible exact H | (rw [hy122]; exact H) | exact H
                          have Ny122 := Aside0.mk hy122
                          clear hy122
                          have H' := Aside0.mk H
                          clear H
                          have hcz58_0 : wr.cell? ⟨gb101, 0, none⟩ = some (.slice A0_0 l0_0.length c0_0) := (blk_cell BK101.out 0).trans rfl
                          have hfz58_0 := blk_frozen BK101.out 0
                          have p118 : 0 ≤ (x8_3 : Int) := of_decide_eq_true as_
                          have q118 : x8_3 < (l0_0.length : Int) := of_decide_eq_true as_
                          obtain ⟨ad118, A118_1, c118_1, A118_2, c118_2, e118, hx118_0, hx118_1, hx118_2, hx118_3, hx118_4, hl118_1, hi118_1, hl118_2, hi118_2⟩ := at_T156 HR0_0.out x8_3 p118 q118
                          cases e118
                          replace hx118_0 := mv_ HB.out hx118_0
                          replace hx118_1 := mv_ HB.out hx118_1
                          replace hx118_2 := mv_ HB.out hx118_2
                          replace hx118_3 := mv_ HB.out hx118_3
                          replace hx118_4 := mv_ HB.out hx118_4
                          have HR118_1 := Aside0.mk hi118_1
                          have HC118_1 := Aside0.mk hl118_1
                          clear hi118_1 hl118_1
                          have HR118_2 := Aside0.mk hi118_2
                          have HC118_2 := Aside0.mk hl118_2
                          clear hi118_2 hl118_2
                          replace p118 := eq_true p118
                          replace q118 := eq_true q118
                          try go_wp2
                          have n0_ := Aside0.mk (Kd.R_drew HO_4.out)
                          have n1_ := Aside0.mk (Kd.R_drew HO_7.out)
                          have n2_ := Aside0.mk (blk_drew BK101.out)
                          have n3_ := Aside0.mk (below_drew1 HB.out)
                          clear HO_4
                          clear HO_7
                          clear BK101
                          clear HB
                          have HO_4 := n0_
                          have HO_7 := n1_
                          have BK101 := n2_
                          have HB := n3_
                          clear n0_ n1_ n2_ n3_
                          have p119 : 0 ≤ (x8_3 : Int) := of_decide_eq_true as_
                          have q119 : x8_3 < (l0_0.length : Int) := of_decide_eq_true as_
                          obtain ⟨ad119, A119_1, c119_1, A119_2, c119_2, e119, hx119_0, hx119_1, hx119_2, hx119_3, hx119_4, hl119_1, hi119_1, hl119_2, hi119_2⟩ := at_T156 HR0_0.out x8_3 p119 q119
                          have hw119_4 := hx119_4
                          have hw119_3 := hx119_3
                          have hw119_2 := hx119_2
                          have hw119_1 := hx119_1
                          have hw119_0 := hx119_0
                          obtain rfl : ad118 = ad119 := (by injection e119)
                          replace hx119_0 := mv_ HB.out hx119_0
                          replace hx119_1 := mv_ HB.out hx119_1
                          replace hx119_2 := mv_ HB.out hx119_2
                          replace hx119_3 := mv_ HB.out hx119_3
                          replace hx119_4 := mv_ HB.out hx119_4
                          have HR119_1 := Aside0.mk hi119_1
                          have HC119_1 := Aside0.mk hl119_1
                          clear hi119_1 hl119_1
                          have HR119_2 := Aside0.mk hi119_2
                          have HC119_2 := Aside0.mk hl119_2
                          clear hi119_2 hl119_2
                          replace p119 := eq_true p119
                          replace q119 := eq_true q119
                          have p120 : 0 ≤ (x9_5 : Int) := of_decide_eq_true as_
                          have q120 : x9_5 < (((rd_T156 l0_0 x8_3).f2).length : Int) := of_decide_eq_true as_
                          obtain ⟨ad120, e120, hx120_0⟩ := Kd.at_int HR119_2.out x9_5 p120 q120
                          have hw120_0 := hx120_0
                          cases e120
                          replace hx120_0 := mv_ HB.out hx120_0
                          replace p120 := eq_true p120
                          replace q120 := eq_true q120
                          obtain ⟨Ao60, co60, eo60⟩ := Kd.R_slice HO_7.out
                          (first | subst eo60 | (injection eo60 with f1_ f2_ f3_; have f4_ := f1_.symm; have f5_ := f3_.symm; clear f1_ f2_ f3_; subst f4_; subst f5_))
                          have p121 : 0 ≤ (x8_3 : Int) := of_decide_eq_true as_
                          have q121 : x8_3 < (x7_5.length : Int) := of_decide_eq_true as_
                          obtain ⟨ad121, e121, hx121_0⟩ := Kd.at_int (Kd.R_reads' HO_7.out).2.2 x8_3 p121 q121
                          cases e121
                          replace p121 := eq_true p121
                          replace q121 := eq_true q121
                          have p57 : 0 ≤ ((rd ((rd_T156 l0_0 x8_3).f2) x9_5) : Int) := of_decide_eq_true as_
                          have q57 : ((rd ((rd_T156 l0_0 x8_3).f2) x9_5) : Int) < ((x7_5.length : Int) : Int) := of_decide_eq_true as_
                          obtain ⟨go57, co57, eo57, gb57, gl57, cl57, HG57⟩ := Kd.R_form HO_7.out (by omega)
                          (first | cases eo57 | (injection eo57 with ea_ en_ ec_; (first | subst ea_ | (injection ea_ with ea_; subst ea_)); subst ec_; clear en_))
                          have GB57 := Aside0.mk gb57
                          have GG57 := Aside0.mk HG57
                          clear gb57 gl57 HG57
                          (first | simp only [add_plain] at hx121_0 | skip)
                          obtain ⟨hx57_0, hf57_0⟩ := Kd.R_celln 0 HO_7.out ((rd ((rd_T156 l0_0 x8_3).f2) x9_5) : Int) p57 q57
                          replace p57 := eq_true p57
                          replace q57 := eq_true q57
                          have HP61 := Kd.R_putn HO_7.out ((rd ((rd_T156 l0_0 x8_3).f2) x9_5) : Int) (wrap64 ((rd x7_5 x8_3) + 1))
                          rw [← Ny122.out] at HP61
                          have HQ61 := Aside0.mk HP61
                          clear HP61
                          refine start_ (n := 17) (S := fun w' => w'.cell? ⟨gb101, 0, none⟩ = some (.slice (some ad118) l0_0.length c0_0) ∧ w'.cell? (ad118.add ((x8_3).toNat * 5)) = some (.int .i64 ((rd_T156 l0_0 x8_3).f0)) ∧ w'.cell? ⟨(ad118.add ((x8_3).toNat * 5)).block, (ad118.add ((x8_3).toNat * 5)).off + 1, none⟩ = some (.slice A119_1 ((rd_T156 l0_0 x8_3).f1).length c119_1) ∧ w'.cell? ⟨(ad118.add ((x8_3).toNat * 5)).block, (ad118.add ((x8_3).toNat * 5)).off + 2, none⟩ = some (.slice (some ad120) ((rd_T156 l0_0 x8_3).f2).length c119_2) ∧ w'.cell? ⟨(ad118.add ((x8_3).toNat * 5)).block, (ad118.add ((x8_3).toNat * 5)).off + 3, none⟩ = some (.int .i64 ((rd_T156 l0_0 x8_3).f3)) ∧ w'.cell? ⟨(ad118.add ((x8_3).toNat * 5)).block, (ad118.add ((x8_3).toNat * 5)).off + 4, none⟩ = some (.int .i64 ((rd_T156 l0_0 x8_3).f4)) ∧ w'.cell? (ad120.add (x9_5).toNat) = some (.int .i64 (rd ((rd_T156 l0_0 x8_3).f2) x9_5)) ∧ w'.cell? ⟨go57, (x8_3).toNat, none⟩ = some (.int .i64 (rd x7_5 x8_3))) (ds := [16]) #[false, false, false, false, false, false, false, false, false, false, false, false, false, false, false, false, false] (by kernel_rfl) rfl rfl ⟨(blk_cell BK101.out 0).trans rfl, (mv_ HB.out hw119_0), (mv_ HB.out hw119_1), (mv_ HB.out hw119_2), (mv_ HB.out hw119_3), (mv_ HB.out hw119_4), (mv_ HB.out hw120_0), hx121_0⟩ (fun hHeld => ?_); refine with_tabW spec_RxOk.tab23 spec_RxOk.bits23 (fun HT_ HW_ => ?_)
                          generalize wr.drew = w59 at HO_4 HO_7 BK101 HB GG57 HQ61 HR119_1 HR119_2 hf57_0 hx119_0 hx119_1 hx119_2 hx119_3 hx119_4 hx120_0 hx121_0 hx57_0 hHeld ⊢
                          refine pu_ 0 (some 96) (bb 17 1) HT_.out ?_
                          refine pu_ 1 (some 97) (bb 17 3) HT_.out ?_
                          refine pu_ 3 (some 99) (bb 17 11) HT_.out ?_
                          refine pu_ 7 (some 103) (bb 17 139) HT_.out ?_
                          refine pu_ 10 (some 106) (bb 17 1163) HT_.out ?_
                          refine pu_ 11 (some 107) (bb 17 3211) HT_.out ?_
                          refine pu_ 12 (some 108) (bb 17 7307) HT_.out ?_
                          refine ta_ 2 (some 98) (bb 17 7311) HT_.out HW_.out hHeld ?_
                          refine pu_ 4 (some 100) (bb 17 7327) HT_.out ?_
                          refine pu_ 5 (some 101) (bb 17 7359) HT_.out ?_
                          refine ta_ 6 (some 102) (bb 17 7423) HT_.out HW_.out hHeld ?_
                          refine pu_ 8 (some 104) (bb 17 7679) HT_.out ?_
                          refine ta_ 9 (some 105) (bb 17 8191) HT_.out HW_.out hHeld ?_
                          refine ta_ 13 (some 109) (bb 17 16383) HT_.out HW_.out hHeld ?_
                          refine pu_ 14 (some 110) (bb 17 32767) HT_.out ?_
                          refine pu_ 15 (some 111) (bb 17 65535) HT_.out ?_
                          refine last_ (i := 16) (N := none) (bb 17 131071) rfl rfl (one_of HT_.out (by kernel_rfl)) (by decide) (fun K hK => ?_)
                          refine skip_ (w1 := ?_) (by rfl) rfl ?_ ?_
                          rotate_left
                          ·go_simp
                           rfl
                          refine hK.out _ _ ?_
                          clear hK K
                          refine done_ (done_of HT_.out (by kernel_rfl)) ?_
                          try go_wp2
                          go_roundg k5
                          case measure => have := HJ1.out; have := HK2.out; have := HK3.out; have := HJ36.out; have := HK5.out; omega
                          case rel => exact ⟨(y122), (wrap64 (x9_5 + 1)), rs_, H', ⟨by have := HJ1.out; have := HK2.out; have := HK3.out; have := HJ36.out; have := HK5.out; omega⟩, ⟨by (with_reducible repeat (first | apply Kd.R_alloc | apply Kd.R_drewN | apply Kd.R_drew)); exact Kd.R_mono (Kd.R_far (p := ⟨go57, ((rd ((rd_T156 l0_0 x8_3).f2) x9_5) : Int).toNat, none⟩) (Kd.R_mono HO_4.out (fun k_ hk => (⟨hk, fun e_ => hk (by rw [e_]; rfl)⟩ : _ ∧ k_ ≠ go57))) (fun _ hk => hk.2) (.int .i64 (wrap64 ((rd x7_5 x8_3) + 1)))) (fun _ hk => hk.1)⟩, ⟨by (with_reducible repeat (first | apply Kd.R_alloc | apply Kd.R_drewN | apply Kd.R_drew)); exact HQ61.out⟩, ⟨by (with_reducible repeat (first | refine blk_drewN ?_ _ | refine blk_drew ?_ | refine blk_alloc ?_ _)); refine blk_far ?_ (by have h_ := Kd.R_ne HO_7.out BK101.out (by decide); intro e_; exact h_ (by rw [e_]; rfl)) _; (with_reducible repeat (first | refine blk_drewN ?_ _ | refine blk_drew ?_ | refine blk_alloc ?_ _)); exact BK101.out⟩, ⟨be2_ HB.out GB57.out GE101.out⟩⟩
                         ·rw [if_neg c56] at H
                          exact absurd H (by simp)
                        ·rw [if_neg c55] at H
                         exact absurd H (by simp)
                       ·rw [if_neg c54] at H
                        exact absurd H (by simp)
                      ·rw [if_neg c53] at H
                       exact absurd H (by simp)
                     ·rw [if_neg c52] at H
                      have c52b0 : decide (x9_5 < (((rd_T156 l0_0 x8_3).f2).length : Int)) = false := decide_eq_false c52
                      clear c52
                      have H' := Aside0.mk H
                      clear H
                      have hcz62_0 : wr.cell? ⟨gb101, 0, none⟩ = some (.slice A0_0 l0_0.length c0_0) := (blk_cell BK101.out 0).trans rfl
                      have hfz62_0 := blk_frozen BK101.out 0
                      have p118 : 0 ≤ (x8_3 : Int) := of_decide_eq_true as_
                      have q118 : x8_3 < (l0_0.length : Int) := of_decide_eq_true as_
                      obtain ⟨ad118, A118_1, c118_1, A118_2, c118_2, e118, hx118_0, hx118_1, hx118_2, hx118_3, hx118_4, hl118_1, hi118_1, hl118_2, hi118_2⟩ := at_T156 HR0_0.out x8_3 p118 q118
                      cases e118
                      replace hx118_0 := mv_ HB.out hx118_0
                      replace hx118_1 := mv_ HB.out hx118_1
                      replace hx118_2 := mv_ HB.out hx118_2
                      replace hx118_3 := mv_ HB.out hx118_3
                      replace hx118_4 := mv_ HB.out hx118_4
                      have HR118_1 := Aside0.mk hi118_1
                      have HC118_1 := Aside0.mk hl118_1
                      clear hi118_1 hl118_1
                      have HR118_2 := Aside0.mk hi118_2
                      have HC118_2 := Aside0.mk hl118_2
                      clear hi118_2 hl118_2
                      replace p118 := eq_true p118
                      replace q118 := eq_true q118
                      go_wp2
                      go_roundg k5
                      case measure => have := HJ1.out; have := HK2.out; have := HK3.out; have := HJ36.out; have := HK5.out; omega
                      case rel => exact ⟨(x7_5), (wrap64 (x8_3 - 1)), rs_, H', ⟨by have := HJ1.out; have := HK2.out; have := HK3.out; have := HJ36.out; have := HK5.out; omega⟩, ⟨by (with_reducible repeat (first | apply Kd.R_alloc | apply Kd.R_drewN | apply Kd.R_drew)); exact HO_4.out⟩, ⟨by (with_reducible repeat (first | apply Kd.R_alloc | apply Kd.R_drewN | apply Kd.R_drew)); exact HO_7.out⟩, ⟨bk_ BK101.out⟩, ⟨be1_ HB.out GE101.out⟩⟩
                    ·rw [if_neg c51] at H
                     exact absurd H (by simp)
                   ·rw [if_neg c50] at H
                    exact absurd H (by simp)
             ·rw [if_neg c36] at H
              have c36b0 : decide (0 ≤ x8_3) = false := decide_eq_false c36
              clear c36
              obtain rfl := Option.some.inj H
              go_wp2
              go_ret
              exact ⟨rt_, be1_ HB.out GE101.out⟩
          ·rw [if_neg c33] at H
           exact absurd H (by simp)
         ·rw [if_neg c32] at H
          exact absurd H (by simp)
     ·rw [if_neg c8] at H
      exact absurd H (by simp)
    ·rw [if_neg c7] at H
     exact absurd H (by simp)

end Go.Proofs.Ytijmhelacmjggaa.P
-- The kit's printed words Ev, cut down by wip/gen/pack.py to what this proof reaches.
namespace Go.Proofs.YtijmhelacmjggaaEv
open Go.RowKit Go.Proofs.YtijmhelacmjggaaW.PrintWords
set_option linter.unusedVariables false
set_option linter.unusedSimpArgs false
theorem ev_ite {α : Type} {c : Prop} [Decidable c] {a b : Nat → Option α} {r : α} : Ev (fun k => if c then a k else b k) r ↔ (if c then Ev a r else Ev b r) := by
  by_cases h : c <;> simp [h]
theorem ev_some {α : Type} {a r : α} : Ev (fun _ => some a) r ↔ a = r := by
  constructor
  · rintro ⟨K, h⟩
    exact Option.some.inj (h K (Nat.le_refl _))
  · rintro rfl
    exact ⟨0, fun _ _ => rfl⟩
theorem ev_succ {α : Type} {g : Nat → Option α} {r : α} : Ev g r ↔ Ev (fun k => g (k + 1)) r := by
  constructor
  · rintro ⟨K, h⟩
    exact ⟨K, fun k hk => h (k + 1) (by omega)⟩
  · rintro ⟨K, h⟩
    refine ⟨K + 1, fun k hk => ?_⟩
    obtain ⟨m, rfl⟩ : ∃ m, k = m + 1 := ⟨k - 1, by omega⟩
    exact h m (by omega)
theorem ev_bind {α β : Type} {g : Nat → Option α} {f : Nat → α → Option β} {a : α} {r : β} (h : Ev g a) : Ev (fun k => (g k).bind (f k)) r ↔ Ev (fun k => f k a) r := by
  obtain ⟨K, hK⟩ := h
  constructor
  · rintro ⟨M, hM⟩
    refine ⟨max K M, fun k hk => ?_⟩
    have h1 : (g k).bind (f k) = some r := hM k (by omega)
    rw [hK k (by omega)] at h1
    exact h1
  · rintro ⟨M, hM⟩
    refine ⟨max K M, fun k hk => ?_⟩
    show (g k).bind (f k) = some r
    rw [hK k (by omega)]
    exact hM k (by omega)
theorem ev_get {α : Type} {g : Nat → Option α} {r : α} (h : Ev g r) : ∃ k, g k = some r := by
  obtain ⟨K, h⟩ := h
  exact ⟨K, h K (Nat.le_refl _)⟩
theorem ev_congr {α : Type} {g : Nat → Option α} {r s : α} (h : Ev g r) (e : r = s) : Ev g s := e ▸ h
theorem wrap_id {x : Int} (h0 : -9223372036854775808 ≤ x) (h1 : x ≤ 9223372036854775807) : wrap64 x = x := by
  unfold wrap64
  omega
theorem wrap_succ {n m : Nat} (h : n < m) (hm : m ≤ 9223372036854775807) : wrap64 ((n : Int) + 1) = ((n + 1 : Nat) : Int) := by
  rw [wrap_id (by omega) (by omega)]
  omega
theorem maxLen_le : maxLen ≤ 9223372036854775807 := by unfold maxLen; omega
theorem drop_cons {α : Type} (l : List α) (d : α) (i : Nat) (h : i < l.length) : l.drop i = l.getD i d :: l.drop (i + 1) := by
  rw [List.drop_eq_getElem_cons h, List.getD_eq_getElem?_getD, List.getElem?_eq_getElem h]
  rfl
/-- A loop from i = 0 to n whose state is told by i. -/
theorem ev_loop {ρ : Type} (n : Nat) (L : Nat → Nat → Option ρ) (R : Nat → ρ) (hend : Ev (fun k => L k n) (R n)) (hstep : ∀ i, i < n → Ev (fun k => L k (i + 1)) (R (i + 1)) → Ev (fun k => L k i) (R i)) : ∀ i, i ≤ n → Ev (fun k => L k i) (R i) := by
  have key : ∀ d i, i ≤ n → n - i = d → Ev (fun k => L k i) (R i) := by
    intro d
    induction d with
    | zero =>
      intro i hi hd
      have : i = n := by omega
      subst this
      exact hend
    | succ d ih =>
      intro i hi hd
      exact hstep i (by omega) (ih (i + 1) (by omega) (by omega))
  exact fun i hi => key _ i hi rfl
theorem all_drop {α : Type} (l : List α) (d : α) (p : α → Bool) (i : Nat) (h : i < l.length) : (l.drop i).all p = (p (l.getD i d) && (l.drop (i + 1)).all p) := by
  rw [drop_cons l d i h, List.all_cons]
/-- What a copying loop has made after i of its rounds. -/
def upTo {α β : Type} (f : α → β) (z : β) (l : List α) (i : Nat) : List β := (l.take i).map f ++ List.replicate (l.length - i) z
theorem upTo_zero {α β : Type} (f : α → β) (z : β) (l : List α) : upTo f z l 0 = List.replicate l.length z := by simp [upTo]
theorem upTo_all {α β : Type} (f : α → β) (z : β) (l : List α) : upTo f z l l.length = l.map f := by simp [upTo]
theorem upTo_length {α β : Type} (f : α → β) (z : β) (l : List α) (i : Nat) (h : i ≤ l.length) : (upTo f z l i).length = l.length := by
  simp [upTo, List.length_take]
  omega
theorem upTo_set {α β : Type} (f : α → β) (z : β) (l : List α) (d : α) (i : Nat) (h : i < l.length) : (upTo f z l i).set i (f (l.getD i d)) = upTo f z l (i + 1) := by
  unfold upTo
  have hl : ((l.take i).map f).length = i := by simp; omega
  rw [List.set_append, if_neg (by omega), hl, Nat.sub_self]
  have : l.length - i = (l.length - (i + 1)) + 1 := by omega
  rw [this, List.replicate_succ, List.set_cons_zero, List.take_succ_eq_append_getElem h, List.map_append, List.append_assoc, List.getD_eq_getElem?_getD, List.getElem?_eq_getElem h]
  rfl
/-- What holds at the end, and at each place where it holds at the next one, holds at the first. -/
theorem down (n : Nat) (P : Nat → Prop) (h0 : P n) (hs : ∀ i, i < n → P (i + 1) → P i) : ∀ i, i ≤ n → P i := by
  have key : ∀ d i, i ≤ n → n - i = d → P i := by
    intro d
    induction d with
    | zero =>
      intro i hi hd
      have : i = n := by omega
      subst this
      exact h0
    | succ d ih =>
      intro i hi hd
      exact hs i (by omega) (ih (i + 1) (by omega) (by omega))
  exact fun i hi => key _ i hi rfl
/-- The sum of the elements' weights. -/
def ws {α : Type} (w : α → Nat) : List α → Nat
  | [] => 0
  | x :: xs => w x + ws w xs
theorem ws_drop {α : Type} (w : α → Nat) (l : List α) (d : α) (i : Nat) (h : i < l.length) : ws w (l.drop i) = w (l.getD i d) + ws w (l.drop (i + 1)) := by
  rw [drop_cons l d i h]
  rfl
theorem ws_mem {α : Type} (w : α → Nat) : ∀ (l : List α) (x : α), x ∈ l → w x ≤ ws w l
  | y :: ys, x, h => by
    rcases List.mem_cons.1 h with rfl | h
    · simp [ws]
    · have := ws_mem w ys x h
      simp only [ws]
      omega
theorem ws_le {α : Type} (w : α → Nat) (l : List α) (d : α) (i : Nat) (h : i < l.length) : w (l.getD i d) ≤ ws w l := by
  refine ws_mem w l _ ?_
  rw [List.getD_eq_getElem?_getD, List.getElem?_eq_getElem h]
  exact List.getElem_mem _
/-- The first place at which a predicate holds, or -1. -/
def idxP {α : Type} (p : α → Bool) : List α → Int → Int
  | [], _ => -1
  | x :: xs, i => if p x then i else idxP p xs (i + 1)
theorem idxP_ge {α : Type} (p : α → Bool) (xs : List α) : ∀ i : Int, 0 ≤ i → (0 ≤ idxP p xs i ↔ xs.any p = true) := by
  induction xs with
  | nil => intro i _; simp [idxP]
  | cons x xs ih =>
    intro i hi
    unfold idxP
    by_cases h : p x = true
    · simp [h, hi]
    · simp [h, ih (i + 1) (by omega)]
end Go.Proofs.YtijmhelacmjggaaEv
/- The memo of the reference's matching, at the empty text. -/
namespace Go.Proofs.Ytijmhelacmjggaa.P
open Go.RowKit Go.Shelf Go.Proofs.YtijmhelacmjggaaW.PrintWords Go.Proofs.YtijmhelacmjggaaW.PrintLast Go.Proofs.YtijmhelacmjggaaW.PrintMore Go.Proofs.YtijmhelacmjggaaEv
set_option linter.unusedVariables false
set_option linter.unusedSimpArgs false
/-- A row that holds one bool, in a block of its own, not that of the rows' row. -/
def Row (w0 w : World) (gg : Nat) (v : Value) (b : Bool) : Prop := Kd.R Kd.bool 4 w w0.heap.size (fun k => k ≠ gg) v [b]
/-- All blocks stay but that of the rows' row. -/
def MK (gg : Nat) (w w' : World) : Prop := w.heap.size ≤ w'.heap.size ∧ ∀ k, k < w.heap.size → k ≠ gg → w'.heap[k]? = w.heap[k]?
/-- The memo at the empty text: each node's row is empty, or holds what the node answers. -/
def Memo (w0 : World) (gm gg : Nat) (An : Option Addr) (cn : Nat) (nodes : List S156) (tx : ByteArray) (E : Nat → Bool) (w : World) : Prop :=
  ∃ cg cs, w.heap[gm]? = some (.cells #[.slice An nodes.length cn, .string tx, .slice (some ⟨gg, 0, none⟩) nodes.length cg] 164 (0, 0)) ∧ nodes.length ≤ cg ∧ w0.heap.size ≤ gm ∧ w0.heap.size ≤ gg ∧ w.heap[gg]? = some (.cells cs 124 (0, 0)) ∧ ∀ k, k < nodes.length → ∃ v, cs[k]? = some v ∧ (v = .slice none 0 0 ∨ Row w0 w gg v (E k))
section
variable {w0 w w1 w2 : World} {gm gg cn : Nat} {An : Option Addr} {nodes : List S156} {tx : ByteArray} {E : Nat → Bool} {v : Value} {b : Bool}
theorem MK.refl (gg : Nat) (w : World) : MK gg w w := ⟨Nat.le_refl _, fun _ _ _ => rfl⟩
theorem MK.trans (h : MK gg w w1) (h2 : MK gg w1 w2) : MK gg w w2 := ⟨Nat.le_trans h.1 h2.1, fun k hk hg => (h2.2 k (Nat.lt_of_lt_of_le hk h.1) hg).trans (h.2 k hk hg)⟩
theorem MK.below (h : Below w.heap.size w w1) : MK gg w w1 := ⟨h.size, fun k hk _ => h.block k hk⟩
theorem MK.drewN (gg : Nat) (w : World) (n : Nat) : MK gg w (w.drewN n) := ⟨Nat.le_refl _, fun _ _ _ => rfl⟩
theorem Row.keep (h : Row w0 w gg v b) (hk : MK gg w w1) : Row w0 w1 gg v b := Kd.R_step h fun k ho hlt => hk.2 k hlt ho
theorem Memo.below (h : Memo w0 gm gg An cn nodes tx E w) (hb : Below w.heap.size w w1) : Memo w0 gm gg An cn nodes tx E w1 := by
  obtain ⟨cg, cs, h1, h2, h3, h4, h5, h6⟩ := h
  refine ⟨cg, cs, blk_below h1 hb, h2, h3, h4, blk_below h5 hb, fun k hk => ?_⟩
  obtain ⟨v, hv, hr⟩ := h6 k hk
  exact ⟨v, hv, hr.imp id fun h => Row.keep h (MK.below hb)⟩
theorem Memo.ne (h : Memo w0 gm gg An cn nodes tx E w) : gm ≠ gg := by
  obtain ⟨cg, cs, h1, _, _, _, h5, _⟩ := h
  exact blk_ne h1 h5 (by decide)
theorem Memo.head (h : Memo w0 gm gg An cn nodes tx E w) : ∃ cg, w.heap[gm]? = some (.cells #[.slice An nodes.length cn, .string tx, .slice (some ⟨gg, 0, none⟩) nodes.length cg] 164 (0, 0)) ∧ nodes.length ≤ cg ∧ w0.heap.size ≤ gm := by
  obtain ⟨cg, cs, h1, h2, h3, _⟩ := h
  exact ⟨cg, h1, h2, h3⟩
theorem Row.form (h : Row w0 w gg v b) : ∃ g c, v = .slice (some ⟨g, 0, none⟩) 1 c ∧ 1 ≤ c := by
  obtain ⟨g, c, h1, _⟩ := Kd.R_form h (by simp)
  obtain ⟨A, c2, h2, h3, _⟩ := Kd.R_reads h
  subst h1
  injection h2 with _ _ e
  subst e
  exact ⟨g, c, rfl, h3⟩
theorem Row.C {A : Option Addr} {n c : Nat} (h : Row w0 w gg (.slice A n c) b) : Kd.C Kd.bool w A [b].length [b] := (Kd.R_reads' h).2.2
end
/-- What ends answers at a place. -/
def EOK (w0 : World) (gm gg : Nat) (An : Option Addr) (cn : Nat) (nodes : List S156) (tx : ByteArray) (E : Nat → Bool) (at_ : Nat) : Prop := ∀ w, Memo w0 gm gg An cn nodes tx E w → Below w0.heap.size w0 w →
  Calls Try.prog 121 #[.pointer (some ⟨gm, 0, none⟩), .int .i64 (at_ : Int), .int .i64 0] w fun e w' => ∃ v, e = .returned v ∧ Row w0 w' gg v (E at_) ∧ Memo w0 gm gg An cn nodes tx E w' ∧ MK gg w w' ∧ Below w0.heap.size w0 w'
def FOK (w0 : World) (gm gg : Nat) (An : Option Addr) (cn : Nat) (nodes : List S156) (tx : ByteArray) (E : Nat → Bool) (at_ : Nat) : Prop := ∀ w, Memo w0 gm gg An cn nodes tx E w → Below w0.heap.size w0 w →
  Calls Try.prog 157 #[.pointer (some ⟨gm, 0, none⟩), .int .i64 (at_ : Int), .int .i64 0] w fun e w' => ∃ v, e = .returned v ∧ Row w0 w' gg v (E at_) ∧ Memo w0 gm gg An cn nodes tx E w' ∧ MK gg w w' ∧ Below w0.heap.size w0 w'
set_option maxHeartbeats 8000000 in
set_option maxRecDepth 100000 in
theorem ends_of {w0 : World} {gm gg cn : Nat} {An : Option Addr} {nodes : List S156} {tx : ByteArray} {E : Nat → Bool} (ht : tx.size = 0) (hn : nodes.length ≤ 100000) (k : Nat) (hk1 : k < nodes.length) (hf : FOK w0 gm gg An cn nodes tx E k) : EOK w0 gm gg An cn nodes tx E k := by
  intro w hM hB
  have HF := Aside0.mk hf
  have HM := Aside0.mk hM
  have HB := Aside0.mk hB
  have HNE := Aside0.mk (Memo.ne hM)
  obtain ⟨cg, cs, hG, hcg, hgm, hgg, hC, hrow⟩ := hM
  obtain ⟨v, hv, hvr⟩ := hrow k hk1
  have hm1 : w.cell? ⟨gm, 1, none⟩ = some (.string tx) := (blk_cell hG 1).trans rfl
  have hm2 : w.cell? ⟨gm, 2, none⟩ = some (.slice (some ⟨gg, 0, none⟩) nodes.length cg) := (blk_cell hG 2).trans rfl
  have hgk : w.cell? ⟨gg, k, none⟩ = some v := (blk_cell hC k).trans hv
  have hkz : (k : Int) < (nodes.length : Int) := by omega
  have hk0 : (0 : Int) ≤ (k : Int) := by omega
  have HG1 := Aside0.mk hG
  clear hf hB hrow hv
  rcases hvr with rfl | hR
  · clear hC hgm hgg hG
    go_enter Try.func121, Try.ntmps121
    go_wp2_with fail
    have HG2 := Aside0.mk (blk_drew HG1.out)
    have HM1 := Aside0.mk (Memo.below HM.out (below_drew1 (Below.refl _ _)) : Memo w0 gm gg An cn nodes tx E w.drew)
    have HB1 := Aside0.mk (below_drew1 HB.out)
    have HK1 : Aside0 (MK gg w w.drew) := ⟨⟨Nat.le_refl _, fun _ _ _ => rfl⟩⟩
    clear HG1 HM HB hm1 hm2 hgk
    refine start_ (n := 11) (S := fun w' => w'.cell? ⟨gm, 2, none⟩ = some (.slice (some ⟨gg, 0, none⟩) nodes.length cg)) (ds := [10]) #[false, false, false, false, false, false, false, false, false, false, false] (by kernel_rfl) rfl rfl (by exact (blk_cell HG2.out 2).trans rfl) (fun hHeld => ?_)
    generalize hW1 : w.drew = W1 at HG2 HM1 HB1 HK1 hHeld ⊢
    refine pure_ (i := 0) (N := (some 27)) (v := ?_) (a' := ?_) #[true, false, false, false, false, false, false, false, false, false, false] rfl rfl (by kernel_rfl) (fun _ _ _ h => h) (Or.inl ⟨by rfl, ?_⟩) ?_ ?_
    rotate_left
    · intro w'
      go_simp
      with_reducible rfl
    rotate_left
    · simp only [Act.put, List.setIfInBounds_toArray, List.set_cons_zero, List.set_cons_succ, i64_w, i32_w]
      rfl
    refine pure_ (i := 1) (N := (some 28)) (v := ?_) (a' := ?_) #[true, true, false, false, false, false, false, false, false, false, false] rfl rfl (by kernel_rfl) (fun _ _ _ h => h) (Or.inl ⟨by rfl, ?_⟩) ?_ ?_
    rotate_left
    · intro w'
      go_simp
      with_reducible rfl
    rotate_left
    · simp only [Act.put, List.setIfInBounds_toArray, List.set_cons_zero, List.set_cons_succ, i64_w, i32_w]
      rfl
    refine pure_ (i := 2) (N := (some 29)) (v := ?_) (a' := ?_) #[true, true, true, false, false, false, false, false, false, false, false] rfl rfl (by kernel_rfl) (fun _ _ _ h => h) (Or.inl ⟨by rfl, ?_⟩) ?_ ?_
    rotate_left
    · intro w'
      go_simp
      with_reducible rfl
    rotate_left
    · simp only [Act.put, List.setIfInBounds_toArray, List.set_cons_zero, List.set_cons_succ, i64_w, i32_w]
      rfl
    refine pure_ (i := 4) (N := (some 31)) (v := ?_) (a' := ?_) #[true, true, true, false, true, false, false, false, false, false, false] rfl rfl (by kernel_rfl) (fun _ _ _ h => h) (Or.inl ⟨by rfl, ?_⟩) ?_ ?_
    rotate_left
    · intro w'
      go_simp
      with_reducible rfl
    rotate_left
    · simp only [Act.put, List.setIfInBounds_toArray, List.set_cons_zero, List.set_cons_succ, i64_w, i32_w]
      rfl
    refine pure_ (i := 5) (N := (some 32)) (v := ?_) (a' := ?_) #[true, true, true, false, true, true, false, false, false, false, false] rfl rfl (by kernel_rfl) (fun _ _ _ h => h) (Or.inl ⟨by rfl, ?_⟩) ?_ ?_
    rotate_left
    · intro w'
      go_simp
      with_reducible rfl
    rotate_left
    · simp only [Act.put, List.setIfInBounds_toArray, List.set_cons_zero, List.set_cons_succ, i64_w, i32_w]
      rfl
    refine pure_ (i := 6) (N := (some 33)) (v := ?_) (a' := ?_) #[true, true, true, false, true, true, true, false, false, false, false] rfl rfl (by kernel_rfl) (fun _ _ _ h => h) (Or.inl ⟨by rfl, ?_⟩) ?_ ?_
    rotate_left
    · intro w'
      go_simp
      with_reducible rfl
    rotate_left
    · simp only [Act.put, List.setIfInBounds_toArray, List.set_cons_zero, List.set_cons_succ, i64_w, i32_w]
      rfl
    refine pure_ (i := 7) (N := (some 34)) (v := ?_) (a' := ?_) #[true, true, true, false, true, true, true, true, false, false, false] rfl rfl (by kernel_rfl) (fun _ _ _ h => h) (Or.inl ⟨by rfl, ?_⟩) ?_ ?_
    rotate_left
    · intro w'
      go_simp
      with_reducible rfl
    rotate_left
    · simp only [Act.put, List.setIfInBounds_toArray, List.set_cons_zero, List.set_cons_succ, i64_w, i32_w]
      rfl
    refine take_ (i := 3) (N := (some 30)) (v := ?_) (a' := ?_) #[true, true, true, true, true, true, true, true, false, false, false] rfl rfl (by kernel_rfl) (fun _ _ _ h => h) (Or.inl ⟨by rfl, ?_⟩) hHeld ?_ ?_
    rotate_left
    · rintro w' s0
      go_simp
      with_reducible rfl
    rotate_left
    · simp only [Act.put, List.setIfInBounds_toArray, List.set_cons_zero, List.set_cons_succ, i64_w, i32_w]
      rfl
    refine one_ (i := 8) (N := (some 35)) #[true, true, true, true, true, true, true, true, true, false, false] rfl rfl (by kernel_rfl) (by decide) (fun K hK => ?_)
    refine goes_ Try.func157 (by kernel_rfl) rfl #[.pointer (some ⟨gm, 0, none⟩), .int .i64 (k : Int), .int .i64 0] (by rfl) rfl rfl (by (try simp only [List.map_toArray, List.map_cons, List.map_nil]); first | done | rfl) ?_
    refine (HF.out _ HM1.out HB1.out).mono ?_
    rintro e w2 ⟨v2, rfl, hR2, hM2, hK2, hB2⟩
    refine ⟨_, rfl, ?_⟩
    obtain ⟨g2, c2, rfl, hc2⟩ := Row.form hR2
    have hgm2 := (hK2.2 gm (blk_lt HG2.out) HNE.out).trans HG2.out
    refine hK.out _ _ (by exact (blk_cell hgm2 2).trans rfl) (fun hHeld => ?_)
    obtain ⟨cg2, cs2, hG2, hcg2, hgm0, hgg0, hC2, hrow2⟩ := hM2
    obtain ⟨vo, hvo, _⟩ := hrow2 k hk1
    have hx0 : w2.cell? ⟨gg, k, none⟩ = some vo := (blk_cell hC2 k).trans hvo
    have hf0 := blk_frozen hC2 k
    clear hK K
    refine norm_ (a' := ?_) ?_ ?_
    rotate_left
    · show Act.put _ (some 35) _ = _
      simp only [Act.put, List.setIfInBounds_toArray, List.set_cons_zero, List.set_cons_succ, i64_w, i32_w]
      rfl
    refine pure_ (i := 9) (N := (some 36)) (v := ?_) (a' := ?_) #[true, true, true, true, true, true, true, true, true, true, false] rfl rfl (by kernel_rfl) (fun _ _ _ h => h) (Or.inl ⟨by rfl, ?_⟩) ?_ ?_
    rotate_left
    · intro w'
      go_simp
      with_reducible rfl
    rotate_left
    · simp only [Act.put, List.setIfInBounds_toArray, List.set_cons_zero, List.set_cons_succ, i64_w, i32_w]
      rfl
    refine last_ (i := 10) (N := none) #[true, true, true, true, true, true, true, true, true, true, true] rfl rfl (by kernel_rfl) (by decide) (fun K hK => ?_)
    refine skip_ (w1 := ?_) (by rfl) rfl ?_ ?_
    rotate_left
    · go_simp
      rfl
    refine hK.out _ _ ?_
    clear hK K
    refine done_ (by kernel_rfl) ?_
    have hne := HNE.out
    have hM3 : MK gg w2 (w2.setCell ⟨gg, k, none⟩ (.slice (some ⟨g2, 0, none⟩) 1 c2)) := ⟨by simp, fun j _ hj => Below.heap_setCell w2 _ _ j hj⟩
    have hC3 := blk_set hC2 k (.slice (some ⟨g2, 0, none⟩) 1 c2)
    have hG3 := blk_far hG2 (p := ⟨gg, k, none⟩) hne (.slice (some ⟨g2, 0, none⟩) 1 c2)
    have hR3 := Row.keep hR2 hM3
    have hMM : Memo w0 gm gg An cn nodes tx E (w2.setCell ⟨gg, k, none⟩ (.slice (some ⟨g2, 0, none⟩) 1 c2)) := by
      refine ⟨cg2, _, hG3, hcg2, hgm0, hgg0, hC3, fun j hj => ?_⟩
      by_cases e : j = k
      · subst e
        exact ⟨_, by rw [Array.getElem?_setIfInBounds_self_of_lt ((Array.getElem?_eq_some_iff.1 hvo).1)], .inr hR3⟩
      · obtain ⟨v, hv, hr⟩ := hrow2 j hj
        exact ⟨v, by rw [Array.getElem?_setIfInBounds_ne (Ne.symm e)]; exact hv, hr.imp id fun h => Row.keep h hM3⟩
    have hB3 := below_set hB2 hgg0 (j := k) (v := (.slice (some ⟨g2, 0, none⟩) 1 c2))
    have hK3 := HK1.out.trans (hK2.trans hM3)
    have hx2 : (w2.setCell ⟨gg, k, none⟩ (.slice (some ⟨g2, 0, none⟩) 1 c2)).cell? ⟨gm, 2, none⟩ = some (.slice (some ⟨gg, 0, none⟩) nodes.length cg2) := (blk_cell hG3 2).trans rfl
    have hxk : (w2.setCell ⟨gg, k, none⟩ (.slice (some ⟨g2, 0, none⟩) 1 c2)).cell? ⟨gg, k, none⟩ = some (.slice (some ⟨g2, 0, none⟩) 1 c2) := (blk_cell hC3 k).trans (by rw [Array.getElem?_setIfInBounds_self_of_lt ((Array.getElem?_eq_some_iff.1 hvo).1)])
    have HMM := Aside0.mk hMM
    have HR3 := Aside0.mk hR3
    have HB3 := Aside0.mk hB3
    have HK3 := Aside0.mk hK3
    clear hMM hR3 hB3 hK3 hM3 hC3 hG3 hrow2 hC2 hG2 hx0 hf0 hHeld HM1 HB1 HK1 HG2 hgm2 hR2 hK2 hB2 hvo hW1
    generalize w2.setCell ⟨gg, k, none⟩ (.slice (some ⟨g2, 0, none⟩) 1 c2) = w3 at *
    go_wp2_with fail
    go_ret
    exact ⟨_, rfl, HR3.out, HMM.out, HK3.out, HB3.out⟩
  · obtain ⟨g2, c2, rfl, hc2⟩ := Row.form hR
    have HR := Aside0.mk hR
    clear hC hgm hgg hG hR
    go_enter Try.func121, Try.ntmps121
    go_wp2_with fail
    go_ret
    exact ⟨_, rfl, HR.out, HM.out, MK.refl _ _, HB.out⟩
end Go.Proofs.Ytijmhelacmjggaa.P
-- Made by wip/gen/pp.py of this session over the kit's print of the loaded program: a function, and the contract of its walk. Lean checks it.
namespace Go.Proofs.Ytijmhelacmjggaa.P
open Go.RowKit Go.Proofs.YtijmhelacmjggaaW.PrintWords Go.Proofs.YtijmhelacmjggaaW.PrintLast Go.Proofs.YtijmhelacmjggaaW.PrintMore
attribute [local go_sem] max2_int min2_int max_two min_two max_three min_three max_four min_four   -- for this text's walks alone
set_option linter.unusedVariables false
set_option linter.unusedSimpArgs false

/-! ### spec_l4Or: function 171 -/
def spec_l4Or.l0 : Nat → List Bool → List Bool → List Bool → Int → Option (List Bool)
 | 0, _, _, _, _ => none
 | k + 1, x0, x1, x5, x6 => if x6 < (x0.length : Int) then (if 0 ≤ x6 then (if rdOf false x0 x6 = true then (if x5.length < 140737488355328 then (spec_l4Or.l0 k x0 x1 (x5 ++ [true]) (wrap64 (x6 + 1))) else (none)) else (if x6 < (x1.length : Int) then (if x5.length < 140737488355328 then (spec_l4Or.l0 k x0 x1 (x5 ++ [rdOf false x1 x6]) (wrap64 (x6 + 1))) else (none)) else (none))) else (none)) else (some x5)
def spec_l4Or.f (k : Nat) (l0 : List Bool) (l1 : List Bool) : Option (List Bool) := spec_l4Or.l0 k l0 l1 (([] : List Bool)) 0
theorem spec_l4Or.mono_l : ∀ k, (∀ y0 y1 y2 y3, LeO (spec_l4Or.l0 k y0 y1 y2 y3) (spec_l4Or.l0 (k + 1) y0 y1 y2 y3))
 | 0 => fun _ _ _ _ r h => by simp [spec_l4Or.l0] at h
 | k + 1 => by
  have ih0 := spec_l4Or.mono_l k
  ·intro y0 y1 y2 y3
   unfold spec_l4Or.l0
   repeat' first
   | (with_reducible exact ih0 _ _ _ _)
   | (with_reducible exact LeO.refl _)
   | (with_reducible exact LeO.none _)
   | (with_reducible refine LeO.ite ?_ ?_)
   | (with_reducible refine LeO.bind ?_ (fun _ => ?_))
   | exact ih0 _ _ _ _
   | exact LeO.none _
   | refine LeO.ite ?_ ?_
   | refine LeO.bind ?_ (fun _ => ?_)
theorem spec_l4Or.mono : ∀ a0 a1 k, LeO (spec_l4Or.f k a0 a1) (spec_l4Or.f (k + 1) a0 a1) := by
 intro a0 a1 k
 have ih0 := spec_l4Or.mono_l k
 unfold spec_l4Or.f
 repeat' first
   | (with_reducible exact ih0 _ _ _ _)
   | (with_reducible exact LeO.refl _)
   | (with_reducible exact LeO.none _)
   | (with_reducible refine LeO.ite ?_ ?_)
   | (with_reducible refine LeO.bind ?_ (fun _ => ?_))
   | exact ih0 _ _ _ _
   | exact LeO.none _
   | refine LeO.ite ?_ ?_
   | refine LeO.bind ?_ (fun _ => ?_)
set_option maxHeartbeats 8000000 in
set_option maxRecDepth 100000 in
theorem spec_l4Or.calls (k : Nat) (A0 : Option Addr) (c0 : Nat) (l0 : List Bool) (A1 : Option Addr) (c1 : Nat) (l1 : List Bool) (r : List Bool) (w : World) (hr0 : Kd.C Kd.bool w A0 l0.length l0) (hc0 : l0.length ≤ c0) (hr1 : Kd.C Kd.bool w A1 l1.length l1) (hc1 : l1.length ≤ c1) (h : spec_l4Or.f k l0 l1 = some r) :
  Calls Try.prog 171 #[.slice A0 l0.length c0, .slice A1 l1.length c1] w fun e w' => ∃ v0_ : Value, e = .returned (v0_) ∧ Kd.R Kd.bool 4 w' w.heap.size (fun _ => True) v0_ r ∧ Below w.heap.size w w' := by
 have HR0 := Aside0.mk hr0
 have HC0 := Aside0.mk hc0
 clear hr0 hc0
 have HR1 := Aside0.mk hr1
 have HC1 := Aside0.mk hc1
 clear hr1 hc1
 have HB := Aside0.mk (Below.refl w.heap.size w)
 have H : (spec_l4Or.l0 k l0 l1 (([] : List Bool)) 0) = some r := h
 clear h
 obtain ⟨y101, hy101⟩ : ∃ y_ : List Bool, y_ = (([] : List Bool)) := ⟨_, rfl⟩
 replace H : (spec_l4Or.l0 k l0 l1 y101 0) = some r := by first | (rw [hy101]; with_reducible exact H) | (have H2_ := (Option.bind_some _ _).symm.trans H; rw [hy101]; with_reducible exact H2_) | (have H2_ := (Option.bind_some _ _).symm.trans H; with_reducible exact H2_) | with_reducible exact H | (rw [hy101]; exact H) | exact H
 have Ny101 := Aside0.mk hy101
 clear hy101
 have H' := Aside0.mk H
 clear H
 go_enter Try.func171, Try.ntmps171
 go_wp2_with (((with_reducible refine gate_dst (N := 7) rfl ?_); refine Kd.R_lit Kd.bool _ 4 ?hg (N := 7) ?hd (xs := ([] : List Bool)) (inner := []) (ok := fun _ => True) (okp := fun _ => True) ?hr ?hp (fun _ hk => hk) trivial (Below.refl _ _) (Nat.le_refl _) (by simp) ?_; (case hd => rfl); (case hg => rfl); (case hr => first | (go_simp; done) | (go_simp; rfl)); (case hp => exact (Reps.none _ _)); intro v102 w3 ho4 hb hg_ hnew_; clear hg_ hnew_; (first | rw [← Ny101.out] at ho4 | (simp only [Int.reduceToNat] at ho4; rw [← Ny101.out] at ho4)); have n0_ := Aside0.mk (Kd.R_lower ho4 (below_size (be_ HB.out))); have n1_ := Aside0.mk (below_step (be_ HB.out) hb); clear HB; have HO103 := n0_; have HB := n1_; clear n0_ n1_; clear hb ho4))
 go_loopg [5, 6] k (fun kq v5 v6 w' => ∃ (x5_1 : List Bool) (x6_1 : Int), v6 = .int .i64 x6_1 ∧ Aside0 (spec_l4Or.l0 kq l0 l1 x5_1 x6_1 = some r) ∧ Aside0 (kq ≤ k) ∧ Aside0 (Kd.R Kd.bool 4 w' w.heap.size (fun _ => True) v5 x5_1) ∧ Aside0 (Below w.heap.size w w'))
 case atStart => exact ⟨(y101), (0), rs_, H', ⟨Nat.le_refl _⟩, ⟨by (with_reducible repeat (first | apply Kd.R_alloc | apply Kd.R_drewN | apply Kd.R_drew)); exact HO103.out⟩, ⟨be_ HB.out⟩⟩
 case round =>
  clear H'
  try clear c1
  try clear p2
  obtain ⟨x5_1, x6_1, rfl, HA, HK1, HO_5, HB⟩ := hrel
  cases gk with
  | zero => exact absurd HA.out (by simp [spec_l4Or.l0])
  | succ k1 =>
   have H := HA.out
   clear HA
   simp only [spec_l4Or.l0] at H
   by_cases c5 : x6_1 < (l0.length : Int)
   ·rw [if_pos c5] at H
    have c5b0 : decide (x6_1 < (l0.length : Int)) = true := decide_eq_true c5
    clear c5
    by_cases c6 : 0 ≤ x6_1
    ·rw [if_pos c6] at H
     have c6b0 : decide (0 ≤ x6_1) = true := decide_eq_true c6
     clear c6
     obtain ⟨bq7, hbq7⟩ : ∃ b_ : Bool, b_ = (rdOf false l0 x6_1) := ⟨_, rfl⟩
     replace H : (if bq7 = true then (if x5_1.length < 140737488355328 then (spec_l4Or.l0 k1 l0 l1 (x5_1 ++ [true]) (wrap64 (x6_1 + 1))) else (none)) else (if x6_1 < (l1.length : Int) then (if x5_1.length < 140737488355328 then (spec_l4Or.l0 k1 l0 l1 (x5_1 ++ [rdOf false l1 x6_1]) (wrap64 (x6_1 + 1))) else (none)) else (none))) = some r := by rw [← hbq7] at H; exact H
     have Nbq7 := Aside0.mk hbq7
     clear hbq7
     by_cases c8 : bq7 = true
     ·subst c8
      have H1 : (if x5_1.length < 140737488355328 then (spec_l4Or.l0 k1 l0 l1 (x5_1 ++ [true]) (wrap64 (x6_1 + 1))) else (none)) = some r := by rw [if_pos rfl] at H; exact H
      clear H
      have H := H1
      clear H1
      by_cases c9 : x5_1.length < 140737488355328
      ·rw [if_pos c9] at H
       have LMc9 := Aside0.mk c9
       clear c9
       obtain ⟨y105, hy105⟩ : ∃ y_ : List Bool, y_ = (x5_1 ++ [true]) := ⟨_, rfl⟩
       replace H : (spec_l4Or.l0 k1 l0 l1 y105 (wrap64 (x6_1 + 1))) = some r := by first | (rw [hy105]; with_reducible exact H) | (have H2_ := (Option.bind_some _ _).symm.trans H; rw [hy105]; with_reducible exact H2_) | (have H2_ := (Option.bind_some _ _).symm.trans H; with_reducible exact H2_) | with_reducible exact H | (rw [hy105]; exact H) | exact H
       have Ny105 := Aside0.mk hy105
       clear hy105
       have H' := Aside0.mk H
       clear H
       have p104 : 0 ≤ (x6_1 : Int) := of_decide_eq_true as_
       have q104 : x6_1 < (l0.length : Int) := of_decide_eq_true as_
       obtain ⟨ad104, e104, hx104_0⟩ := Kd.at_bool HR0.out x6_1 p104 q104
       (try rw [← Nbq7.out] at hx104_0)
       cases e104
       replace hx104_0 := mv_ HB.out hx104_0
       replace p104 := eq_true p104
       replace q104 := eq_true q104
       go_wp2_with (((with_reducible refine gate_builtin (b := .append) (xs := #[.tmp 14, .tmp 25]) rfl ?_); at_builtin; refine Kd.R_append Kd.bool (w0 := w) w.heap.size rfl (.tmp 14) (.tmp 25) 124 4 (.bool false) 1 rfl Try.underlying124 info4 rfl (by decide) (by omega) u5 x5_1 true [.bool true] (fun _ => True) (fun _ => False) rfl rfl ?aP (fun _ hk => hk.elim) ?aF ?aO ?aB ?aS ?aL ?_; (case aP => exact rfl); (case aB => exact (be_ HB.out)); (case aF => exact (fun _ _ => trivial)); (case aO => exact (by (with_reducible repeat (first | apply Kd.R_alloc | apply Kd.R_drewN | apply Kd.R_drew)); exact HO_5.out)); (case aS => exact (below_size (be_ HB.out))); (case aL => have := LMc9.out; omega); intro v106 w10 ho hb hg hat; rw [← Ny105.out] at ho; have n0_ := Aside0.mk (hb); have n1_ := Aside0.mk (ho); clear HB; clear HO_5; have HB := n0_; have HO107 := n1_; clear n0_ n1_; clear ho hb hg hat))
       go_roundg k1
       case measure => have := HK1.out; omega
       case rel => exact ⟨(y105), (wrap64 (x6_1 + 1)), rs_, H', ⟨by have := HK1.out; omega⟩, ⟨by (with_reducible repeat (first | apply Kd.R_alloc | apply Kd.R_drewN | apply Kd.R_drew)); exact HO107.out⟩, ⟨be_ HB.out⟩⟩
      ·rw [if_neg c9] at H
       exact absurd H (by simp)
     ·replace c8 := Bool.eq_false_iff.mpr c8
      subst c8
      have H1 : (if x6_1 < (l1.length : Int) then (if x5_1.length < 140737488355328 then (spec_l4Or.l0 k1 l0 l1 (x5_1 ++ [rdOf false l1 x6_1]) (wrap64 (x6_1 + 1))) else (none)) else (none)) = some r := by rw [if_neg (show ¬ (false = true) by decide)] at H; exact H
      clear H
      have H := H1
      clear H1
      by_cases c11 : x6_1 < (l1.length : Int)
      ·rw [if_pos c11] at H
       have c11b0 : decide (x6_1 < (l1.length : Int)) = true := decide_eq_true c11
       clear c11
       by_cases c12 : x5_1.length < 140737488355328
       ·rw [if_pos c12] at H
        have LMc12 := Aside0.mk c12
        clear c12
        obtain ⟨y109, hy109⟩ : ∃ y_ : List Bool, y_ = (x5_1 ++ [rdOf false l1 x6_1]) := ⟨_, rfl⟩
        replace H : (spec_l4Or.l0 k1 l0 l1 y109 (wrap64 (x6_1 + 1))) = some r := by first | (rw [hy109]; with_reducible exact H) | (have H2_ := (Option.bind_some _ _).symm.trans H; rw [hy109]; with_reducible exact H2_) | (have H2_ := (Option.bind_some _ _).symm.trans H; with_reducible exact H2_) | with_reducible exact H | (rw [hy109]; exact H) | exact H
        have Ny109 := Aside0.mk hy109
        clear hy109
        have H' := Aside0.mk H
        clear H
        have p104 : 0 ≤ (x6_1 : Int) := of_decide_eq_true as_
        have q104 : x6_1 < (l0.length : Int) := of_decide_eq_true as_
        obtain ⟨ad104, e104, hx104_0⟩ := Kd.at_bool HR0.out x6_1 p104 q104
        (try rw [← Nbq7.out] at hx104_0)
        cases e104
        replace hx104_0 := mv_ HB.out hx104_0
        replace p104 := eq_true p104
        replace q104 := eq_true q104
        have p108 : 0 ≤ (x6_1 : Int) := of_decide_eq_true as_
        have q108 : x6_1 < (l1.length : Int) := of_decide_eq_true as_
        obtain ⟨ad108, e108, hx108_0⟩ := Kd.at_bool HR1.out x6_1 p108 q108
        (try rw [← Nbq7.out] at hx108_0)
        cases e108
        replace hx108_0 := mv_ HB.out hx108_0
        replace p108 := eq_true p108
        replace q108 := eq_true q108
        go_wp2_with (((with_reducible refine gate_builtin (b := .append) (xs := #[.tmp 14, .tmp 25]) rfl ?_); at_builtin; refine Kd.R_append Kd.bool (w0 := w) w.heap.size rfl (.tmp 14) (.tmp 25) 124 4 (.bool false) 1 rfl Try.underlying124 info4 rfl (by decide) (by omega) u5 x5_1 (rdOf false l1 x6_1) [.bool (rdOf false l1 x6_1)] (fun _ => True) (fun _ => False) rfl rfl ?aP (fun _ hk => hk.elim) ?aF ?aO ?aB ?aS ?aL ?_; (case aP => exact rfl); (case aB => exact (be_ HB.out)); (case aF => exact (fun _ _ => trivial)); (case aO => exact (by (with_reducible repeat (first | apply Kd.R_alloc | apply Kd.R_drewN | apply Kd.R_drew)); exact HO_5.out)); (case aS => exact (below_size (be_ HB.out))); (case aL => have := LMc12.out; omega); intro v110 w13 ho hb hg hat; rw [← Ny109.out] at ho; have n0_ := Aside0.mk (hb); have n1_ := Aside0.mk (ho); clear HB; clear HO_5; have HB := n0_; have HO111 := n1_; clear n0_ n1_; clear ho hb hg hat))
        go_roundg k1
        case measure => have := HK1.out; omega
        case rel => exact ⟨(y109), (wrap64 (x6_1 + 1)), rs_, H', ⟨by have := HK1.out; omega⟩, ⟨by (with_reducible repeat (first | apply Kd.R_alloc | apply Kd.R_drewN | apply Kd.R_drew)); exact HO111.out⟩, ⟨be_ HB.out⟩⟩
       ·rw [if_neg c12] at H
        exact absurd H (by simp)
      ·rw [if_neg c11] at H
       exact absurd H (by simp)
    ·rw [if_neg c6] at H
     exact absurd H (by simp)
   ·rw [if_neg c5] at H
    have c5b0 : decide (x6_1 < (l0.length : Int)) = false := decide_eq_false c5
    clear c5
    obtain rfl := Option.some.inj H
    go_wp2
    go_ret
    exact ⟨_, rt_, by (with_reducible repeat (first | apply Kd.R_alloc | apply Kd.R_drewN | apply Kd.R_drew)); exact HO_5.out, be_ HB.out⟩

end Go.Proofs.Ytijmhelacmjggaa.P
/- The walk of the memo's step. -/
namespace Go.Proofs.Ytijmhelacmjggaa.P
open Go.RowKit Go.Shelf Go.Proofs.YtijmhelacmjggaaW.PrintWords Go.Proofs.YtijmhelacmjggaaW.PrintLast Go.Proofs.YtijmhelacmjggaaW.PrintMore Go.Proofs.YtijmhelacmjggaaEv
set_option linter.unusedVariables false
set_option linter.unusedSimpArgs false
theorem Row.new {w0 W w1 : World} {gg : Nat} {v : Value} {b : Bool} (h : Kd.R Kd.bool 4 w1 W.heap.size (fun _ => True) v [b]) (hB : Below w0.heap.size w0 W) (hg : gg < W.heap.size) : Row w0 w1 gg v b :=
  Kd.R_lower (Kd.R_mono (Kd.R_bound h) fun k hk => by have := hk.2.1; omega) hB.size
theorem Row.cell {w0 w : World} {gg g c : Nat} {b : Bool} (h : Row w0 w gg (.slice (some ⟨g, 0, none⟩) 1 c) b) : w.cell? ⟨g, 0, none⟩ = some (.bool b) := by
  obtain ⟨ad, e, hc⟩ := Kd.at_bool (Row.C h) 0 (by omega) (by simp)
  cases e
  exact hc
theorem Row.frozen {w0 w : World} {gg g c : Nat} {b : Bool} (h : Row w0 w gg (.slice (some ⟨g, 0, none⟩) 1 c) b) : w.frozen? ⟨g, 0, none⟩ = false := by
  obtain ⟨cells, hc⟩ := Kd.R_typed h g rfl
  exact blk_frozen hc 0
theorem Memo.gg_lt {w0 w : World} {gm gg cn : Nat} {An : Option Addr} {nodes : List S156} {tx : ByteArray} {E : Nat → Bool} (h : Memo w0 gm gg An cn nodes tx E w) : gg < w.heap.size := by
  obtain ⟨cg, cs, _, _, _, _, h5, _⟩ := h
  exact blk_lt h5
theorem or_one (a b : Bool) : ∃ k, spec_l4Or.f k [a] [b] = some [a || b] := by
  refine ⟨4, ?_⟩
  cases a <;> cases b <;> simp [spec_l4Or.f, spec_l4Or.l0, rdOf, wrap_id]
set_option maxHeartbeats 8000000 in
set_option maxRecDepth 100000 in
theorem step_of {w0 : World} {gm gg cn : Nat} {An : Option Addr} {nodes : List S156} {tx : ByteArray} {E : Nat → Bool} (kid : Nat) (he : EOK w0 gm gg An cn nodes tx E kid) (v : Value) (b : Bool) (w : World) (hM : Memo w0 gm gg An cn nodes tx E w) (hB : Below w0.heap.size w0 w) (hv : Row w0 w gg v b) :
    Calls Try.prog 170 #[.pointer (some ⟨gm, 0, none⟩), .int .i64 (kid : Int), v] w fun e w' => ∃ v', e = .returned v' ∧ Row w0 w' gg v' (b && E kid) ∧ Memo w0 gm gg An cn nodes tx E w' ∧ MK gg w w' ∧ Below w0.heap.size w0 w' := by
  have HE := Aside0.mk he
  have HM := Aside0.mk hM
  have HB := Aside0.mk hB
  have HK := Aside0.mk (MK.refl gg w)
  obtain ⟨g, c, rfl, hc⟩ := Row.form hv
  have HV := Aside0.mk hv
  clear he hM hB hv
  go_enter Try.func170, Try.ntmps170
  go_wp2_with ((with_reducible refine gate_dst (N := 11) rfl ?_); refine Kd.R_make Kd.bool _ 4 rfl (N := 11) rfl 124 _ _ rfl (1 : Int) rfl rfl Try.underlying124 (.bool false) 1 info4 rfl (by decide) (by omega) false (ok := fun _ => True) (okp := fun _ => True) rfl (fun _ hk => hk) trivial (by omega) (by decide) (Below.refl _ _) (Nat.le_refl _) ?_; intro H7v w_ ho hb hg_ hnew_; clear hg_; replace ho : Kd.R Kd.bool 4 w_ _ (fun _ => True) H7v [false] := ho; have H7 := Aside0.mk (Row.new ho HB.out (Memo.gg_lt HM.out)); have nHV := Aside0.mk (Row.keep HV.out (MK.below hb)); clear HV; have HV := nHV; clear nHV; have nM := Aside0.mk (Memo.below HM.out hb); have nB := Aside0.mk (below_step HB.out hb); have nK := Aside0.mk (HK.out.trans (MK.below hb)); clear HM HB HK ho hb hnew_; have HM := nM; have HB := nB; have HK := nK; clear nM nB nK)
  obtain ⟨g7, c7, rfl, hc7⟩ := Row.form H7.out
  go_loopg [7, 8] 2 (fun gk_ v7 v8 wr => ∃ (kk : Nat), v8 = .int .i64 (kk : Int) ∧ kk ≤ 1 ∧ 2 - kk ≤ gk_ ∧ Aside0 (Row w0 wr gg v7 (if kk = 0 then false else b && E kid)) ∧ Aside0 (Row w0 wr gg (.slice (some ⟨g, 0, none⟩) 1 c) b) ∧ Aside0 (Memo w0 gm gg An cn nodes tx E wr) ∧ Aside0 (Below w0.heap.size w0 wr) ∧ Aside0 (MK gg w wr))
  case atStart => exact ⟨0, rfl, by omega, by omega, H7, HV, HM, HB, HK⟩
  case round =>
    clear H7 HV HM HB HK
    obtain ⟨kk, rfl, hkk, hgk, H7, HV, HM, HB, HK⟩ := hrel
    obtain ⟨g8, c8, rfl, hc8⟩ := Row.form H7.out
    have hx0 := Row.cell HV.out
    obtain rfl | rfl : kk = 0 ∨ kk = 1 := by omega
    · cases b with
      | false =>
        go_wp2_with fail
        go_roundg 1
        case measure => omega
        case rel => exact ⟨1, rfl, by omega, by omega, H7, HV, HM, HB, HK⟩
      | true =>
        go_wp2_with (first | (go_at_call 121; refine (HE.out _ HM.out HB.out).mono ?_; rintro e w_ ⟨v_, rfl, hR_, hM_, hK_, hB_⟩; have nH7 := Aside0.mk (Row.keep H7.out hK_); have nHV := Aside0.mk (Row.keep HV.out hK_); clear H7; have H7 := nH7; clear nH7; clear HV; have HV := nHV; clear nHV; obtain ⟨g_, c_, rfl, hc_⟩ := Row.form hR_; have H9 := Aside0.mk hR_; have nK := Aside0.mk (HK.out.trans hK_); clear HM HB HK hR_ hK_; have HM := Aside0.mk hM_; have HB := Aside0.mk hB_; have HK := nK; clear nK hM_ hB_) | (go_at_call 171; obtain ⟨k_, hk_⟩ := or_one false (E kid); refine (spec_l4Or.calls k_ _ _ [false] _ _ [(E kid)] _ _ (Row.C H7.out) (Kd.R_reads' H7.out).2.1 (Row.C H9.out) (Kd.R_reads' H9.out).2.1 hk_).mono ?_; rintro e w_ ⟨H10v, rfl, ho, hb⟩; have H10 := Aside0.mk (Row.new ho HB.out (Memo.gg_lt HM.out)); have nHV := Aside0.mk (Row.keep HV.out (MK.below hb)); clear HV; have HV := nHV; clear nHV; have nM := Aside0.mk (Memo.below HM.out hb); have nB := Aside0.mk (below_step HB.out hb); have nK := Aside0.mk (HK.out.trans (MK.below hb)); clear HM HB HK ho hb hk_; have HM := nM; have HB := nB; have HK := nK; clear nM nB nK))
        go_roundg 1
        case measure => omega
        case rel => exact ⟨1, rfl, by omega, by omega, ⟨by have h := H10.out; simpa using h⟩, HV, HM, HB, HK⟩
    · go_wp2_with fail
      go_ret
      exact ⟨_, rfl, by have h := H7.out; simpa using h, HM.out, HK.out, HB.out⟩
end Go.Proofs.Ytijmhelacmjggaa.P
/- The walk of the memo's again. -/
namespace Go.Proofs.Ytijmhelacmjggaa.P
open Go.RowKit Go.Shelf Go.Proofs.YtijmhelacmjggaaW.PrintWords Go.Proofs.YtijmhelacmjggaaW.PrintLast Go.Proofs.YtijmhelacmjggaaW.PrintMore Go.Proofs.YtijmhelacmjggaaEv
set_option linter.unusedVariables false
set_option linter.unusedSimpArgs false
set_option maxHeartbeats 8000000 in
set_option maxRecDepth 100000 in
theorem again_of {w0 : World} {gm gg cn : Nat} {An : Option Addr} {nodes : List S156} {tx : ByteArray} {E : Nat → Bool} (kid : Nat) (he : EOK w0 gm gg An cn nodes tx E kid) (v : Value) (b : Bool) (w : World) (hM : Memo w0 gm gg An cn nodes tx E w) (hB : Below w0.heap.size w0 w) (hv : Row w0 w gg v b) :
    Calls Try.prog 172 #[.pointer (some ⟨gm, 0, none⟩), .int .i64 (kid : Int), v] w fun e w' => ∃ v', e = .returned v' ∧ Row w0 w' gg v' b ∧ Memo w0 gm gg An cn nodes tx E w' ∧ MK gg w w' ∧ Below w0.heap.size w0 w' := by
  have HE := Aside0.mk he
  have HM := Aside0.mk hM
  have HB := Aside0.mk hB
  have HK := Aside0.mk (MK.refl gg w)
  obtain ⟨g, c, rfl, hc⟩ := Row.form hv
  have HV := Aside0.mk hv
  clear he hM hB hv
  go_enter Try.func172, Try.ntmps172
  go_wp2_with (first | (go_at_call 171; obtain ⟨k_, hk_⟩ := or_one b b; refine (spec_l4Or.calls k_ _ _ [b] _ _ [b] _ _ (Row.C HV.out) (Kd.R_reads' HV.out).2.1 (Row.C HV.out) (Kd.R_reads' HV.out).2.1 hk_).mono ?_; rintro e w_ ⟨H7v, rfl, ho, hb⟩; have H7 := Aside0.mk (Row.new ho HB.out (Memo.gg_lt HM.out)); have nHV := Aside0.mk (Row.keep HV.out (MK.below hb)); clear HV; have HV := nHV; clear nHV; (try rw [Bool.or_self] at H7); have nM := Aside0.mk (Memo.below HM.out hb); have nB := Aside0.mk (below_step HB.out hb); have nK := Aside0.mk (HK.out.trans (MK.below hb)); clear HM HB HK ho hb hk_; have HM := nM; have HB := nB; have HK := nK; clear nM nB nK) | ((with_reducible refine gate_dst (N := 15) rfl ?_); refine Kd.R_make Kd.bool _ 4 rfl (N := 15) rfl 124 _ _ rfl (1 : Int) rfl rfl Try.underlying124 (.bool false) 1 info4 rfl (by decide) (by omega) false (ok := fun _ => True) (okp := fun _ => True) rfl (fun _ hk => hk) trivial (by omega) (by decide) (Below.refl _ _) (Nat.le_refl _) ?_; intro H8v w_ ho hb hg_ hnew_; clear hg_; replace ho : Kd.R Kd.bool 4 w_ _ (fun _ => True) H8v [false] := ho; have H8 := Aside0.mk (Row.new ho HB.out (Memo.gg_lt HM.out)); have H1 : ∃ W1 : World, Memo w0 gm gg An cn nodes tx E W1 ∧ Row w0 W1 gg (.slice (some ⟨g, 0, none⟩) 1 c) b ∧ Row w0 W1 gg H7v b ∧ Below W1.heap.size W1 w_ ∧ (∃ b_, H8v.ownBlock = some b_ ∧ W1.heap.size ≤ b_) ∧ Below w0.heap.size w0 W1 ∧ MK gg w W1 := ⟨_, HM.out, HV.out, H7.out, hb, hnew_, HB.out, HK.out⟩; have nHV := Aside0.mk (Row.keep HV.out (MK.below hb)); have nH7 := Aside0.mk (Row.keep H7.out (MK.below hb)); clear HV; have HV := nHV; clear nHV; clear H7; have H7 := nH7; clear nH7; have nM := Aside0.mk (Memo.below HM.out hb); have nB := Aside0.mk (below_step HB.out hb); have nK := Aside0.mk (HK.out.trans (MK.below hb)); clear HM HB HK ho hb hnew_; have HM := nM; have HB := nB; have HK := nK; clear nM nB nK))
  obtain ⟨W1, hM1, hV1, h71, hb1, ⟨g8', e8, hg8⟩, hB1, hK1⟩ := H1
  obtain ⟨g7, c7, rfl, hc7⟩ := Row.form H7.out
  obtain ⟨g8, c8, rfl, hc8⟩ := Row.form H8.out
  obtain rfl : g8 = g8' := by simpa [Value.ownBlock] using e8
  have HM1 := Aside0.mk hM1
  have HV1 := Aside0.mk hV1
  have H71 := Aside0.mk h71
  have HB1 := Aside0.mk hB1
  have HK1 := Aside0.mk hK1
  have Hb1 := Aside0.mk hb1
  have HG8 := Aside0.mk hg8
  clear hM1 hV1 h71 hB1 hb1 hg8 e8 hK1
  go_loopg [7, 9] 2 (fun gk_ v7 v9 wr => ∃ (kk : Nat), v9 = .int .i64 (kk : Int) ∧ kk ≤ 1 ∧ 2 - kk ≤ gk_ ∧ Aside0 (kk = 0 → v7 = .slice (some ⟨g7, 0, none⟩) 1 c7 ∧ Below W1.heap.size W1 wr ∧ Row w0 wr gg (.slice (some ⟨g8, 0, none⟩) 1 c8) false) ∧ Aside0 (Row w0 wr gg v7 b) ∧ Aside0 (Memo w0 gm gg An cn nodes tx E wr) ∧ Aside0 (Below w0.heap.size w0 wr) ∧ Aside0 (MK gg w wr))
  case atStart => exact ⟨0, rfl, by omega, by omega, ⟨fun _ => ⟨rfl, Hb1.out, H8.out⟩⟩, H7, HM, HB, HK⟩
  case round =>
    clear H7 H8 HV HM HB HK Hb1
    obtain ⟨kk, rfl, hkk, hgk, HZ, H7, HM, HB, HK⟩ := hrel
    obtain rfl | rfl : kk = 0 ∨ kk = 1 := by omega
    · obtain ⟨rfl, hbw, h8⟩ := HZ.out rfl
      have hx7 := Row.cell H7.out
      have hx8 := Row.cell h8
      have hf8 := Row.frozen h8
      have Hbw := Aside0.mk hbw
      have H8 := Aside0.mk h8
      clear HZ hbw h8
      cases b with
      | false =>
        go_wp2_with fail
        go_roundg 1
        case measure => omega
        case rel => exact ⟨1, rfl, by omega, by omega, ⟨fun h => absurd h (by omega)⟩, H7, HM, HB, HK⟩
      | true =>
        go_upto_region 8 with (fail)
        have Hbs := below_set Hbw.out HG8.out (j := 0) (v := .bool true)
        clear H7 HM HB HK Hbw H8 hx7 hx8 hf8
        have HM := Aside0.mk (Memo.below HM1.out Hbs)
        have H7 := Aside0.mk (Row.keep H71.out (MK.below (gg := gg) Hbs))
        have HK := Aside0.mk (HK1.out.trans (MK.below (gg := gg) Hbs))
        have HB := Aside0.mk (below_step HB1.out Hbs)
        clear Hbs
        generalize wr.setCell ⟨g8, 0, none⟩ (.bool true) = w9 at *
        go_wp2_with (first | (go_at_call 121; refine (HE.out _ HM.out HB.out).mono ?_; rintro e w_ ⟨v_, rfl, hR_, hM_, hK_, hB_⟩; have nH7 := Aside0.mk (Row.keep H7.out hK_); clear H7; have H7 := nH7; clear nH7; obtain ⟨g_, c_, rfl, hc_⟩ := Row.form hR_; have H9 := Aside0.mk hR_; have nK := Aside0.mk (HK.out.trans hK_); clear HM HB HK hR_ hK_; have HM := Aside0.mk hM_; have HB := Aside0.mk hB_; have HK := nK; clear nK hM_ hB_) | (go_at_call 171; obtain ⟨k_, hk_⟩ := or_one true (E kid); refine (spec_l4Or.calls k_ _ _ [true] _ _ [(E kid)] _ _ (Row.C H7.out) (Kd.R_reads' H7.out).2.1 (Row.C H9.out) (Kd.R_reads' H9.out).2.1 hk_).mono ?_; rintro e w_ ⟨H10v, rfl, ho, hb⟩; have H10 := Aside0.mk (Row.new ho HB.out (Memo.gg_lt HM.out)); have nM := Aside0.mk (Memo.below HM.out hb); have nB := Aside0.mk (below_step HB.out hb); have nK := Aside0.mk (HK.out.trans (MK.below hb)); clear HM HB HK ho hb hk_; have HM := nM; have HB := nB; have HK := nK; clear nM nB nK))
        go_roundg 1
        case measure => omega
        case rel => exact ⟨1, rfl, by omega, by omega, ⟨fun h => absurd h (by omega)⟩, ⟨by have h := H10.out; simpa using h⟩, HM, HB, HK⟩
    · have hfm := Row.form H7.out
      obtain ⟨g9, c9, rfl, hc9⟩ := hfm
      clear HZ
      go_wp2_with fail
      go_ret
      exact ⟨_, rfl, H7.out, HM.out, HK.out, HB.out⟩
end Go.Proofs.Ytijmhelacmjggaa.P
