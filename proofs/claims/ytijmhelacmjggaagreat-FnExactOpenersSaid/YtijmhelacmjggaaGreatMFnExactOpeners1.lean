/- The law FnExactOpeners holds for every call: part 2 of 6 of the proof (walks of functions, and what they answer). Conditions: none beyond what the given row says. -/
import Derived.Test.YtijmhelacmjggaaGreatMFnExactOpeners0
import Derived.Shelf.Abstract
import Derived.Lib.Hide
set_option maxHeartbeats 16000000
set_option maxRecDepth 100000
namespace Go.Proofs.YtijmhelacmjggaaGreat.P
open Go.RowKit Go.Proofs.YtijmhelacmjggaaGreatW.PrintWords Go.Proofs.YtijmhelacmjggaaGreatW.PrintLast Go.Proofs.YtijmhelacmjggaaGreatW.PrintMore
attribute [local go_sem] max2_int min2_int max_two min_two max_three min_three max_four min_four
set_option linter.unusedVariables false
set_option linter.unusedSimpArgs false
/-! ### laws_toSpanS: function 126 -/
def laws_toSpanS.l0 : Nat → List (S178) → List (S67) → Int → Option ((List (S67)))
 | 0, _, _, _ => none
 | k + 1, x0, x3, x4 => if x4 < (x0.length : Int) then (if 0 ≤ x4 then ((laws_toSpan.f ((rd_T178 x0 x4).f0) ((rd_T178 x0 x4).f1)).bind fun bt105 => (if x4 < (x3.length : Int) then (laws_toSpanS.l0 k x0 (x3.set (x4 : Int).toNat (⟨bt105.1, bt105.2⟩ : S67)) (wrap64 (x4 + 1))) else (none))) else (none)) else (some x3)
def laws_toSpanS.f (k : Nat) (l0 : List (S178)) : Option ((List (S67))) := if 0 ≤ (l0.length : Int) then (if ((l0.length : Int) : Int).toNat ≤ 17592186044416 then (laws_toSpanS.l0 k l0 (List.replicate ((l0.length : Int) : Int).toNat z67) 0) else (none)) else (none)
theorem laws_toSpanS.calls (k : Nat) (A0 : Option Addr) (c0 : Nat) (l0 : List (S178)) (r : List (S67)) (w : World) (hr0 : Kd.C k178 w A0 l0.length l0) (hc0 : l0.length ≤ c0) (h : laws_toSpanS.f k l0 = some r) :
  Calls Tryz.prog 126 #[.slice A0 l0.length c0] w fun e w' => ∃ v0_ : Value, e = .returned (v0_) ∧ Kd.R k67 67 w' w.heap.size (fun _ => True) v0_ r ∧ Below w.heap.size w w' := by
 have hu178 := Tryz.underlying178; have hu67 := Tryz.underlying67; have HR0 := q_ hr0; have HC0 := q_ hc0; clear hr0 hc0; have HB := q_ (Below.refl w.heap.size w)
 have H : (if 0 ≤ (l0.length : Int) then (if ((l0.length : Int) : Int).toNat ≤ 17592186044416 then (laws_toSpanS.l0 k l0 (List.replicate ((l0.length : Int) : Int).toNat z67) 0) else (none)) else (none)) = some r := h
 clear h
 by_cases c2 : 0 ≤ (l0.length : Int)
 ·rw [if_pos c2] at H; have c2b0 := eq_true c2; have c2b1 := dt_ c2; clear c2
  by_cases c3 : ((l0.length : Int) : Int).toNat ≤ 17592186044416
  ·rw [if_pos c3] at H; have c3b0 := eq_true c3; have c3b1 := dt_ c3; clear c3
   obtain ⟨y101, hy101⟩ : ∃ y_ : List (S67), y_ = (List.replicate ((l0.length : Int) : Int).toNat z67) := ⟨_, rfl⟩
   replace H : (laws_toSpanS.l0 k l0 y101 0) = some r := by first | (rw [hy101]; with_reducible exact H) | (have H2_ := (Option.bind_some _ _).symm.trans H; rw [hy101]; with_reducible exact H2_) | (have H2_ := (Option.bind_some _ _).symm.trans H; with_reducible exact H2_) | with_reducible exact H | (rw [hy101]; exact H) | exact H
   have Ny101 := q_ hy101; clear hy101
   have H' := q_ H
   clear H
   go_enter Tryz.func126, Tryz.ntmps126
   go_wp2_with (first | ((with_reducible refine gate_dst (N := 7) rfl ?_); refine Kd.R_make k67 _ 67 rfl (N := 7) rfl 26 _ _ rfl (l0.length : Int) rfl rfl Tryz.underlying26 (.agg #[(.int .i64 0), (.int .i64 0)]) 16 info67 rfl (by decide) (by omega) z67 (ok := fun _ => True) (okp := fun _ => True) (k67_mkM _ _ _ z67 ) (fun _ hk => hk) trivial (of_decide_eq_true as_) (Nat.le_trans (Nat.mul_le_mul_right _ (of_decide_eq_true as_ : (l0.length : Int).toNat ≤ 17592186044416)) (by omega)) (Below.refl _ _) (Nat.le_refl _) ?_; intro v102 w4 ho5 hb hg_ hnew_; clear hg_ hnew_; (first | rw [← Ny101.o] at ho5 | (simp only [Int.reduceToNat] at ho5; rw [← Ny101.o] at ho5)); have HO103 := q_ (Kd.R_lower ho5 (below_size (be_ HB.o))); replace HB := sb_ HB hb; clear hb ho5))
   go_loopg [4] k (fun kq v4 w' => ∃ (x3_1 : List (S67)) (x4_1 : Int), v4 = .int .i64 x4_1 ∧ J0 (laws_toSpanS.l0 kq l0 x3_1 x4_1 = some r) ∧ J0 (kq ≤ k) ∧ J0 (Kd.R k67 67 w' w.heap.size (fun _ => True) v102 x3_1) ∧ J0 (Below w.heap.size w w'))
   case atStart => exact ⟨(y101), (0), rs_, H', ⟨Nat.le_refl _⟩, ⟨ra_ HO103.o⟩, ⟨be_ HB.o⟩⟩
   case round =>
    clear H'; (try clear c2); (try clear c2b0); (try clear c2b1); (try clear c3); (try clear c3b0); (try clear c3b1); obtain ⟨x3_1, x4_1, rfl, HA, HK1, HO_3, HB⟩ := hrel
    cases gk with
    | zero => exact absurd HA.o (by simp [laws_toSpanS.l0])
    | succ k1 =>
     have H := HA.o; clear HA
     simp only [laws_toSpanS.l0] at H
     by_cases c6 : x4_1 < (l0.length : Int)
     ·rw [if_pos c6] at H; have c6b0 := dt_ c6; clear c6
      by_cases c7 : 0 ≤ x4_1
      ·rw [if_pos c7] at H; have c7b0 := dt_ c7; clear c7; replace H := Option.bind_eq_some_iff.mp H
       obtain ⟨⟨t105, t106⟩, A80, H⟩ := H
       replace H : (if x4_1 < (x3_1.length : Int) then (laws_toSpanS.l0 k1 l0 (x3_1.set (x4_1 : Int).toNat (⟨t105, t106⟩ : S67)) (wrap64 (x4_1 + 1))) else (none)) = some r := H
       have A8 := q_ A80; clear A80
       by_cases c9 : x4_1 < (x3_1.length : Int)
       ·rw [if_pos c9] at H; have c9b0 := dt_ c9; clear c9
        obtain ⟨y107, hy107⟩ : ∃ y_ : List (S67), y_ = (x3_1.set (x4_1 : Int).toNat (⟨t105, t106⟩ : S67)) := ⟨_, rfl⟩
        replace H : (laws_toSpanS.l0 k1 l0 y107 (wrap64 (x4_1 + 1))) = some r := by first | (rw [hy107]; with_reducible exact H) | (have H2_ := (Option.bind_some _ _).symm.trans H; rw [hy107]; with_reducible exact H2_) | (have H2_ := (Option.bind_some _ _).symm.trans H; with_reducible exact H2_) | with_reducible exact H | (rw [hy107]; exact H) | exact H
        have Ny107 := q_ hy107; clear hy107
        have H' := q_ H
        clear H
        have p104 : 0 ≤ (x4_1 : Int) := of_decide_eq_true as_
        have q104 : x4_1 < (l0.length : Int) := of_decide_eq_true as_
        obtain ⟨ad104, e104, hx104_0, hx104_1⟩ := at_T178 HR0.o x4_1 p104 q104
        cases e104
        replace hx104_0 := mv_ HB.o hx104_0; replace hx104_1 := mv_ HB.o hx104_1; replace p104 := eq_true p104; replace q104 := eq_true q104
        go_wp2_with (first | ((with_reducible refine gate_callee (f := 129) rfl ?_); refine gl_ (some 20) rfl rfl Tryz.func129 #[.agg #[.int .i64 ((rd_T178 l0 x4_1).f0), .int .i64 ((rd_T178 l0 x4_1).f1)]] ?_; (with_reducible refine (laws_toSpan.calls ((rd_T178 l0 x4_1).f0) ((rd_T178 l0 x4_1).f1) t105 t106 _ A8.o).mono ?_); rintro e w11 ⟨rfl, hb⟩; refine ⟨_, rfl, ?_⟩; replace HO_3 := q_ (Kd.R_below (ra_ HO_3.o) hb); replace HB := sb_ HB hb; (try clear hb); have p10 : 0 ≤ (x4_1 : Int) := of_decide_eq_true as_; have q10 : (x4_1 : Int) < ((x3_1.length : Int) : Int) := of_decide_eq_true as_; obtain ⟨go10, co10, eo10, gb10, gl10, cl10, HG10⟩ := Kd.R_form HO_3.o (by omega); (first | cases eo10 | (injection eo10 with ea_ en_ ec_; (first | subst ea_ | (injection ea_ with ea_; subst ea_)); subst ec_; clear en_)); have GB10 := q_ gb10; have GG10 := q_ HG10; clear gb10 gl10 HG10; obtain ⟨ce10, hcl10, hM10, hcc10, hfr10⟩ := Kd.R_elem HO_3.o z67 (x4_1 : Int) p10 q10; obtain rfl := k67_openM hM10; have hx10_0 : w11.cell? ⟨go10, (x4_1 : Int).toNat * 2, none⟩ = some (.int .i64 ((rd_T67 x3_1 x4_1).f0)) := hcc10 0 _ rfl; have hx10_1 : w11.cell? ⟨go10, (x4_1 : Int).toNat * 2 + 1, none⟩ = some (.int .i64 ((rd_T67 x3_1 x4_1).f1)) := hcc10 1 _ rfl; have hf10_0 : w11.frozen? ⟨go10, (x4_1 : Int).toNat * 2, none⟩ = false := hfr10 0; have hf10_1 : w11.frozen? ⟨go10, (x4_1 : Int).toNat * 2 + 1, none⟩ = false := hfr10 1; clear hcl10 hcc10 hfr10 hM10; replace p10 := eq_true p10; replace q10 := eq_true q10; have HX12 := q_ (show Kd.R k67 67 w11 w.heap.size (fun _ => True) (.slice (some ⟨go10, 0, none⟩) x3_1.length co10) x3_1 from (ra_ HO_3.o)); obtain ⟨ce12, hcl12, hM12, hcc12, hfr12⟩ := Kd.R_elem HX12.o z67 (x4_1 : Int) (of_decide_eq_true as_) (by have h_ : (x4_1 : Int) < ((x3_1.length : Int) : Int) := of_decide_eq_true as_; first | exact h_ | (have e_ := (Kd.R_reads' HO_3.o).1; omega) | simpa using h_); obtain rfl := k67_openM hM12; have HP12 := Kd.R_seg HX12.o (x4_1 : Int) (of_decide_eq_true as_) (by have h_ : (x4_1 : Int) < ((x3_1.length : Int) : Int) := of_decide_eq_true as_; first | exact h_ | (have e_ := (Kd.R_reads' HO_3.o).1; omega) | simpa using h_) (seg := [.int .i64 t105, .int .i64 t106]) (j := 0) hcl12 hcc12 (show 2 ≤ 2 from by decide) (x' := (⟨t105, t106⟩ : S67)) (k67_mkM _ _ _ (⟨t105, t106⟩ : S67) ) (fun _ hk => hk); have hx12_0 := hcc12 0 _ rfl; (try simp only [show (k67).sz = 2 from rfl, Nat.mul_one, Nat.add_zero] at hx12_0); have hf12_0 := hfr12 0; (try simp only [show (k67).sz = 2 from rfl, Nat.mul_one, Nat.add_zero] at hf12_0); have hx12_1 := hcc12 1 _ rfl; (try simp only [show (k67).sz = 2 from rfl, Nat.mul_one, Nat.add_zero] at hx12_1); have hf12_1 := hfr12 1; (try simp only [show (k67).sz = 2 from rfl, Nat.mul_one, Nat.add_zero] at hf12_1); clear hcl12 hcc12 hfr12 hM12) | ((with_reducible refine gate_store (t := 67) (p := 21) rfl ?_); refine store_event (t := 67) (p := 21) (v := ?vo_w13) (w1 := ((w11.setCell ⟨go10, (x4_1 : Int).toNat * 2, none⟩ (.int .i64 t105)).setCell ⟨go10, (x4_1 : Int).toNat * 2 + 1, none⟩ (.int .i64 t106))) ?hg ?ho ?hn ?hr ?_; (case ho => rfl); (case hg => rfl); (case hn => rfl); (case hr => first | (go_simp; done) | (go_simp; rfl)); intro w13 hw; have hg : w11.grownBy w13 (some go10) := (by rw [hw]; exact HP12.2); have hp_ : Kd.R k67 67 w13 w.heap.size (fun _ => True) (.slice (some ⟨go10, 0, none⟩) x3_1.length co10) y107 := (by rw [hw, Ny107.o]; exact HP12.1); clear HP12; replace HO_3 := q_ (hp_); replace HB := q_ ((by rw [hw]; exact below_set (below_set (HB.o) GB10.o) GB10.out : Below w.heap.size w w13)); clear hg hw hp_))
        go_roundg k1
        case measure => have := HK1.o; omega
        case rel => exact ⟨(y107), (wrap64 (x4_1 + 1)), rs_, H', ⟨by have := HK1.o; omega⟩, ⟨ra_ HO_3.o⟩, ⟨be_ HB.o⟩⟩
       ·rw [if_neg c9] at H
        exact absurd H (by simp)
      ·rw [if_neg c7] at H
       exact absurd H (by simp)
     ·rw [if_neg c6] at H; have c6b0 := df_ c6; clear c6; obtain rfl := Option.some.inj H
      go_wp2
      go_ret
      exact ⟨_, rt_, ra_ HO_3.o, be_ HB.o⟩
  ·rw [if_neg c3] at H
   exact absurd H (by simp)
 ·rw [if_neg c2] at H
  exact absurd H (by simp)
/-! ### laws_eqSpan: function 33 -/
def laws_eqSpan.f (a0_0 : Int) (a0_1 : Int) (a1_0 : Int) (a1_1 : Int) : Option (Bool) := if a0_0 = a1_0 then (if a0_1 = a1_1 then (some true) else (none)) else (none)
theorem laws_eqSpan.calls (a0_0 : Int) (a0_1 : Int) (a1_0 : Int) (a1_1 : Int) (r : Bool) (w : World) (h : laws_eqSpan.f a0_0 a0_1 a1_0 a1_1 = some r) :
  Calls Tryz.prog 33 #[.agg #[.int .i64 a0_0, .int .i64 a0_1], .agg #[.int .i64 a1_0, .int .i64 a1_1]] w fun e w' => e = .returned (.bool r) ∧ Below w.heap.size w w' := by
 have hu67 := Tryz.underlying67; have HB := q_ (Below.refl w.heap.size w)
 have H : (if a0_0 = a1_0 then (if a0_1 = a1_1 then (some true) else (none)) else (none)) = some r := h
 clear h
 by_cases c3 : a0_0 = a1_0
 ·rw [if_pos c3] at H
  have c3b0 : (a0_0 == a1_0) = true := beq_iff_eq.mpr c3
  have c3b1 : (a0_0 != a1_0) = false := bne_eq_false_iff_eq.mpr c3
  clear c3
  by_cases c4 : a0_1 = a1_1
  ·rw [if_pos c4] at H
   have c4b0 : (a0_1 == a1_1) = true := beq_iff_eq.mpr c4
   have c4b1 : (a0_1 != a1_1) = false := bne_eq_false_iff_eq.mpr c4
   clear c4; obtain rfl := Option.some.inj H
   go_enter Tryz.func33, Tryz.ntmps33
   go_wp2_with (first | ((with_reducible refine gate_dst (N := 2) rfl ?_); refine bx_ 2 #[.int .i64 a0_0, .int .i64 a0_1] 67 ?_; intro gb101 hg w5 hbox hb; have BK101 := q_ (hbox); have GE101 := ge_ hg HB; replace HB := sb_ HB hb; clear hb hbox hg) | ((with_reducible refine gate_dst (N := 3) rfl ?_); refine bx_ 3 #[.int .i64 a1_0, .int .i64 a1_1] 67 ?_; intro gb102 hg w6 hbox hb; have BK102 := q_ (hbox); have GE102 := ge1_ hg HB GE101; have NB101_102 := nl_ hg BK101; have NB102_101 := ng_ hg BK101; replace BK101 := lb_ BK101 hb; replace HB := sb1_ HB GE101 hb; clear hb hbox hg; have hnb7 := NB101_102.o; have hnc7 := NB102_101.o; obtain ⟨hcz8_0, hcz8_1, hfz8_0, hfz8_1⟩ := d2_ BK101; obtain ⟨hcz9_0, hcz9_1, hfz9_0, hfz9_1⟩ := d2_ BK102))
   go_ret
   exact ⟨rt_, be2_ HB.o GE101.o GE102.o⟩
  ·rw [if_neg c4] at H
   have c4b0 : (a0_1 == a1_1) = false := beq_eq_false_iff_ne.mpr c4
   have c4b1 : (a0_1 != a1_1) = true := bne_iff_ne.mpr c4
   exact absurd H (by simp)
 ·rw [if_neg c3] at H
  have c3b0 : (a0_0 == a1_0) = false := beq_eq_false_iff_ne.mpr c3
  have c3b1 : (a0_0 != a1_0) = true := bne_iff_ne.mpr c3
  exact absurd H (by simp)
/-! ### laws_eqSpanS: function 9 -/
def laws_eqSpanS.l0 : Nat → List (S67) → List (S67) → Int → Option (Bool)
 | 0, _, _, _ => none
 | k + 1, x0, x1, x5 => if x5 < (x0.length : Int) then (if 0 ≤ x5 then (if x5 < (x1.length : Int) then ((laws_eqSpan.f ((rd_T67 x0 x5).f0) ((rd_T67 x0 x5).f1) ((rd_T67 x1 x5).f0) ((rd_T67 x1 x5).f1)).bind fun t103 => (if t103 = true then (laws_eqSpanS.l0 k x0 x1 (wrap64 (x5 + 1))) else (none))) else (none)) else (none)) else (some true)
def laws_eqSpanS.f (k : Nat) (l0 : List (S67)) (l1 : List (S67)) : Option (Bool) := if (l0.length : Int) = (l1.length : Int) then (laws_eqSpanS.l0 k l0 l1 0) else (none)
def laws_eqSpanS.T6 : Bool × List (List Nat × List Nat) := (true, [([], []), ([], []), ([0, 1], [0, 1]), ([2], [2]), ([], []), ([], []), ([4, 5], [4, 5]), ([6], [6]), ([3, 7], [3, 7]), ([8], [8])])
def laws_eqSpanS.B6 : List Nat := [0, 0, 3, 7, 0, 0, 48, 112, 255, 511]
theorem laws_eqSpanS.tab6 : rtab .any (opsOf Tryz.f9 6) = laws_eqSpanS.T6 := by kernel_rfl
theorem laws_eqSpanS.bits6 : waitsOk laws_eqSpanS.T6.2 laws_eqSpanS.B6 = true := by kernel_rfl
theorem laws_eqSpanS.calls (k : Nat) (A0 : Option Addr) (c0 : Nat) (l0 : List (S67)) (A1 : Option Addr) (c1 : Nat) (l1 : List (S67)) (r : Bool) (w : World) (hr0 : Kd.C k67 w A0 l0.length l0) (hc0 : l0.length ≤ c0) (hr1 : Kd.C k67 w A1 l1.length l1) (hc1 : l1.length ≤ c1) (h : laws_eqSpanS.f k l0 l1 = some r) :
  Calls Tryz.prog 9 #[.slice A0 l0.length c0, .slice A1 l1.length c1] w fun e w' => e = .returned (.bool r) ∧ Below w.heap.size w w' := by
 have hu67 := Tryz.underlying67; have HR0 := q_ hr0; have HC0 := q_ hc0; clear hr0 hc0; have HR1 := q_ hr1; have HC1 := q_ hc1; clear hr1 hc1; have HB := q_ (Below.refl w.heap.size w)
 have H : (if (l0.length : Int) = (l1.length : Int) then (laws_eqSpanS.l0 k l0 l1 0) else (none)) = some r := h
 clear h
 by_cases c3 : (l0.length : Int) = (l1.length : Int)
 ·rw [if_pos c3] at H
  have c3b0 : ((l0.length : Int) == (l1.length : Int)) = true := beq_iff_eq.mpr c3
  have c3b1 : ((l0.length : Int) != (l1.length : Int)) = false := bne_eq_false_iff_eq.mpr c3
  have c3b2 : (l0.length == l1.length) = true := by first | simpa using c3 | (simp at c3 ⊢; omega)
  clear c3
  have H' := q_ H
  clear H
  go_enter Tryz.func9, Tryz.ntmps9
  go_wp2
  go_loopg [5] k (fun kq v5 w' => ∃ (x5_1 : Int), v5 = .int .i64 x5_1 ∧ J0 (laws_eqSpanS.l0 kq l0 l1 x5_1 = some r) ∧ J0 (kq ≤ k) ∧ J0 (Below w.heap.size w w'))
  case atStart => exact ⟨(0), rs_, H', ⟨Nat.le_refl _⟩, ⟨be_ HB.o⟩⟩
  case round =>
   clear H'; (try clear c1); (try clear c3); (try clear c3b0); (try clear c3b1); (try clear c3b2); obtain ⟨x5_1, rfl, HA, HK1, HB⟩ := hrel
   cases gk with
   | zero => exact absurd HA.o (by simp [laws_eqSpanS.l0])
   | succ k1 =>
    have H := HA.o; clear HA
    simp only [laws_eqSpanS.l0] at H
    by_cases c4 : x5_1 < (l0.length : Int)
    ·rw [if_pos c4] at H; have c4b0 := dt_ c4; clear c4
     by_cases c5 : 0 ≤ x5_1
     ·rw [if_pos c5] at H; have c5b0 := dt_ c5; clear c5
      by_cases c6 : x5_1 < (l1.length : Int)
      ·rw [if_pos c6] at H; have c6b0 := dt_ c6; clear c6; obtain ⟨t103, A7, H⟩ := ob_ H
       by_cases c8 : t103 = true
       ·subst c8; rw [if_pos rfl] at H
        have H' := q_ H
        clear H
        try go_wp2
        replace HB := q_ (below_drew1 HB.o)
        have p101 : 0 ≤ (x5_1 : Int) := of_decide_eq_true as_
        have q101 : x5_1 < (l0.length : Int) := of_decide_eq_true as_
        obtain ⟨ad101, e101, hx101_0, hx101_1⟩ := at_T67 HR0.o x5_1 p101 q101; have hw101_1 := hx101_1; have hw101_0 := hx101_0
        cases e101
        replace hx101_0 := mv_ HB.o hx101_0; replace hx101_1 := mv_ HB.o hx101_1; replace p101 := eq_true p101; replace q101 := eq_true q101
        have p102 : 0 ≤ (x5_1 : Int) := of_decide_eq_true as_
        have q102 : x5_1 < (l1.length : Int) := of_decide_eq_true as_
        obtain ⟨ad102, e102, hx102_0, hx102_1⟩ := at_T67 HR1.o x5_1 p102 q102; have hw102_1 := hx102_1; have hw102_0 := hx102_0
        cases e102
        replace hx102_0 := mv_ HB.o hx102_0; replace hx102_1 := mv_ HB.o hx102_1; replace p102 := eq_true p102; replace q102 := eq_true q102
        refine start_ (n := 10) (S := fun w' => w'.cell? (ad101.add ((x5_1).toNat * 2)) = some (.int .i64 ((rd_T67 l0 x5_1).f0)) ∧ w'.cell? ⟨(ad101.add ((x5_1).toNat * 2)).block, (ad101.add ((x5_1).toNat * 2)).off + 1, none⟩ = some (.int .i64 ((rd_T67 l0 x5_1).f1)) ∧ w'.cell? (ad102.add ((x5_1).toNat * 2)) = some (.int .i64 ((rd_T67 l1 x5_1).f0)) ∧ w'.cell? ⟨(ad102.add ((x5_1).toNat * 2)).block, (ad102.add ((x5_1).toNat * 2)).off + 1, none⟩ = some (.int .i64 ((rd_T67 l1 x5_1).f1))) (ds := []) (bb 10 0) (by kernel_rfl) rfl rfl ⟨(mv_ HB.o hw101_0), (mv_ HB.o hw101_1), (mv_ HB.o hw102_0), (mv_ HB.o hw102_1)⟩ (fun hHeld => ?_); refine with_tabW laws_eqSpanS.tab6 laws_eqSpanS.bits6 (fun HT_ HW_ => ?_)
        generalize wr.drew = w9 at HB hx101_0 hx101_1 hx102_0 hx102_1 hHeld ⊢
        refine pv_ 0 17 1 HT_.o ?_; refine pv_ 1 18 3 HT_.o ?_; refine pv_ 2 19 7 HT_.o ?_; refine pv_ 4 21 23 HT_.o ?_; refine pv_ 5 22 55 HT_.o ?_; refine pv_ 6 23 119 HT_.o ?_; refine tv_ 3 20 127 HT_.o HW_.o hHeld ?_; refine tv_ 7 24 255 HT_.o HW_.o hHeld ?_
        refine one_ (i := 8) (N := some 25) (bb 10 511) rfl rfl (one_of HT_.o (by kernel_rfl)) (by decide) (fun K hK => ?_)
        refine gs_ Tryz.func33 #[.agg #[.int .i64 ((rd_T67 l0 x5_1).f0), .int .i64 ((rd_T67 l0 x5_1).f1)], .agg #[.int .i64 ((rd_T67 l1 x5_1).f0), .int .i64 ((rd_T67 l1 x5_1).f1)]] ?_
        with_reducible refine (laws_eqSpan.calls ((rd_T67 l0 x5_1).f0) ((rd_T67 l0 x5_1).f1) ((rd_T67 l1 x5_1).f0) ((rd_T67 l1 x5_1).f1) true _ A7.o).mono ?_
        rintro e w10 ⟨rfl, hb⟩
        refine ⟨_, rfl, ?_⟩; replace HB := sb_ HB hb
        (try clear hb)
        (try clear hb2)
        (try clear hk)
        (try clear hi)
        refine hK.out _ _ ⟨(mv_ HB.o hw101_0), (mv_ HB.o hw101_1), (mv_ HB.o hw102_0), (mv_ HB.o hw102_1)⟩ (fun hHeld => ?_)
        clear hK K; refine no_ (some 25) ?_; refine pv_ 9 26 1023 HT_.o ?_
        refine done_ (done_of HT_.o (by kernel_rfl)) ?_
        try go_wp2
        go_roundg k1
        case measure => have := HK1.o; omega
        case rel => exact ⟨(wrap64 (x5_1 + 1)), rs_, H', ⟨by have := HK1.o; omega⟩, ⟨be_ HB.o⟩⟩
       ·replace c8 := Bool.eq_false_iff.mpr c8; subst c8; rw [if_neg nft_] at H
        exact absurd H (by simp)
      ·rw [if_neg c6] at H
       exact absurd H (by simp)
     ·rw [if_neg c5] at H
      exact absurd H (by simp)
    ·rw [if_neg c4] at H; have c4b0 := df_ c4; clear c4; obtain rfl := Option.some.inj H
     go_wp2
     go_ret
     exact ⟨rt_, be_ HB.o⟩
 ·rw [if_neg c3] at H
  have c3b0 : ((l0.length : Int) == (l1.length : Int)) = false := beq_eq_false_iff_ne.mpr c3
  have c3b1 : ((l0.length : Int) != (l1.length : Int)) = true := bne_iff_ne.mpr c3
  have c3b2 : (l0.length == l1.length) = false := by first | simpa using c3 | (simp at c3 ⊢; omega)
  exact absurd H (by simp)
end Go.Proofs.YtijmhelacmjggaaGreat.P
namespace Go.Proofs.YtijmhelacmjggaaGreat.P
open Go.RowKit Go.Proofs.YtijmhelacmjggaaGreatW.PrintWords Go.Proofs.YtijmhelacmjggaaGreatW.PrintLast Go.Proofs.YtijmhelacmjggaaGreatEv
set_option linter.unusedVariables false
set_option linter.unusedSimpArgs false
def g178 (x : S178) : Prop := (Lit.int .i64 x.f0).wf = true ∧ (Lit.int .i64 x.f1).wf = true
def cSpan (x : S178) : S67 := ⟨x.f0, x.f1⟩
theorem laws_szSpanS_eq (l : List S178) (a : Int) (hl : l.length ≤ 9223372036854775807) (h0 : 0 ≤ a) (h1 : a ≤ 1048576) : laws_szSpanS.f l a = some (if a < l.length then -1 else a - l.length) := by
  unfold laws_szSpanS.f
  rw [wrap_id (by omega) (by omega)]
  split <;> split <;> first | rfl | omega
theorem laws_toSpanS_ev (l : List S178) (hl : l.length ≤ 1048576) : Ev (fun k => laws_toSpanS.f k l) (l.map cSpan) := by
  unfold laws_toSpanS.f
  simp only [ev_ite]
  rw [if_pos (by omega), if_pos (by omega)]
  have h := ev_loop l.length (fun k i => laws_toSpanS.l0 k l (upTo cSpan z67 l i) (i : Nat)) (fun _ => l.map cSpan) ?_ ?_ 0 (by omega)
  · rw [upTo_zero] at h
    exact h
  · rw [ev_succ, upTo_all]
    simp [laws_toSpanS.l0, ev_some]
  · intro i hi ih
    have hr : l.getD i z178 = rd_T178 l i := by simp [rd_T178]
    skip
    rw [ev_succ]
    simp only [laws_toSpanS.l0, laws_toSpan.f, Option.bind_some, ev_ite]
    rw [if_pos (by omega), if_pos (by omega)]
    skip
    (try simp only [ev_ite])
    rw [if_pos (by rw [upTo_length _ _ _ _ (by omega)]; omega), wrap_succ hi (by omega)]
    have := upTo_set cSpan z67 l z178 i hi
    rw [hr] at this
    simp only [Int.toNat_natCast]
    simp only [cSpan] at this ih ⊢
    rw [this]
    exact ih
theorem laws_eqSpanS_ev (l : List S67) (hl : l.length ≤ 9223372036854775807) : Ev (fun k => laws_eqSpanS.f k l l) true := by
  unfold laws_eqSpanS.f
  simp only [ev_ite]
  rw [if_pos trivial]
  refine ev_loop l.length (fun k i => laws_eqSpanS.l0 k l l (i : Nat)) (fun _ => true) ?_ ?_ 0 (by omega)
  · rw [ev_succ]
    simp [laws_eqSpanS.l0, ev_some]
  · intro i hi ih
    skip
    rw [ev_succ]
    simp only [laws_eqSpanS.l0, laws_eqSpan.f, if_true, bne_self_eq_false, Bool.false_eq_true, if_false, Option.bind_some, ev_ite]
    rw [if_pos (by omega), if_pos (by omega), wrap_succ hi (by omega)]
    (try rw [if_pos (by omega)])
    skip
    (try simp only [if_true, ev_ite])
    exact ih
end Go.Proofs.YtijmhelacmjggaaGreat.P
namespace Go.Proofs.YtijmhelacmjggaaGreat.P
open Go.RowKit Go.Proofs.YtijmhelacmjggaaGreatW.PrintWords Go.Proofs.YtijmhelacmjggaaGreatW.PrintLast Go.Proofs.YtijmhelacmjggaaGreatW.PrintMore
attribute [local go_sem] max2_int min2_int max_two min_two max_three min_three max_four min_four
set_option linter.unusedVariables false
set_option linter.unusedSimpArgs false
/-! ### laws_szRNode: function 118 -/
def laws_szRNode.f (a0_0 : Int) (l0_1 : List (S178)) (l0_2 : List Int) (a0_3 : Int) (a0_4 : Int) (a1 : Int) : Option (Int) := (laws_szSpanS.f l0_1 a1).bind fun t102 => (if t102 < 0 then (some (-1)) else ((laws_szInt64S.f l0_2 t102).bind fun t103 => (if t103 < 0 then (some (-1)) else (some t103))))
theorem laws_szRNode.calls (a0_0 : Int) (A0_1 : Option Addr) (c0_1 : Nat) (l0_1 : List (S178)) (A0_2 : Option Addr) (c0_2 : Nat) (l0_2 : List Int) (a0_3 : Int) (a0_4 : Int) (a1 : Int) (r : Int) (w : World) (hr0_1 : Kd.C k178 w A0_1 l0_1.length l0_1) (hc0_1 : l0_1.length ≤ c0_1) (hr0_2 : Kd.C (Kd.int .i64) w A0_2 l0_2.length l0_2) (hc0_2 : l0_2.length ≤ c0_2) (h : laws_szRNode.f a0_0 l0_1 l0_2 a0_3 a0_4 a1 = some r) :
  Calls Tryz.prog 118 #[.agg #[.int .i64 a0_0, .slice A0_1 l0_1.length c0_1, .slice A0_2 l0_2.length c0_2, .int .i64 a0_3, .int .i64 a0_4], .int .i64 a1] w fun e w' => e = .returned (.int .i64 r) ∧ Below w.heap.size w w' := by
 have hu168 := Tryz.underlying168; have HR0_1 := q_ hr0_1; have HC0_1 := q_ hc0_1; clear hr0_1 hc0_1; have HR0_2 := q_ hr0_2; have HC0_2 := q_ hc0_2; clear hr0_2 hc0_2; have HB := q_ (Below.refl w.heap.size w)
 have H : ((laws_szSpanS.f l0_1 a1).bind fun t102 => (if t102 < 0 then (some (-1)) else ((laws_szInt64S.f l0_2 t102).bind fun t103 => (if t103 < 0 then (some (-1)) else (some t103))))) = some r := h
 clear h; obtain ⟨t102, A3, H⟩ := ob_ H
 by_cases c4 : t102 < 0
 ·rw [if_pos c4] at H; have c4b0 := dt_ c4; clear c4; obtain rfl := Option.some.inj H
  go_enter Tryz.func118, Tryz.ntmps118
  go_wp2_with (first | ((with_reducible refine gate_dst (N := 2) rfl ?_); refine bx_ 2 #[.int .i64 a0_0, .slice A0_1 l0_1.length c0_1, .slice A0_2 l0_2.length c0_2, .int .i64 a0_3, .int .i64 a0_4] 168 ?_; intro gb101 hg w5 hbox hb; have BK101 := q_ (hbox); have GE101 := ge_ hg HB; replace HB := sb_ HB hb; clear hb hbox hg; obtain ⟨hcz6_0, hcz6_1, hcz6_2, hcz6_3, hcz6_4, hfz6_0, hfz6_1, hfz6_2, hfz6_3, hfz6_4⟩ := d5_ BK101) | ((with_reducible refine gate_callee (f := 124) rfl ?_); refine gl_ (some 8) rfl rfl Tryz.func124 #[.slice A0_1 l0_1.length c0_1, .int .i64 a1] ?_; (with_reducible refine (laws_szSpanS.calls _ _ l0_1 a1 t102 _ ?side1 ?side2 A3.o).mono ?_); (case side1 => exact Kd.C_below HR0_1.o (be_ HB.o)); (case side2 => exact HC0_1.o); rintro e w' ⟨rfl, ⟨nd, rfl⟩⟩; refine ⟨_, rfl, ?_⟩))
  go_ret
  exact ⟨rt_, be1_ HB.o GE101.o⟩
 ·rw [if_neg c4] at H; have c4b0 := df_ c4; clear c4; obtain ⟨t103, A7, H⟩ := ob_ H
  by_cases c8 : t103 < 0
  ·rw [if_pos c8] at H; have c8b0 := dt_ c8; clear c8; obtain rfl := Option.some.inj H
   go_enter Tryz.func118, Tryz.ntmps118
   go_wp2_with (first | ((with_reducible refine gate_dst (N := 2) rfl ?_); refine bx_ 2 #[.int .i64 a0_0, .slice A0_1 l0_1.length c0_1, .slice A0_2 l0_2.length c0_2, .int .i64 a0_3, .int .i64 a0_4] 168 ?_; intro gb101 hg w9 hbox hb; have BK101 := q_ (hbox); have GE101 := ge_ hg HB; replace HB := sb_ HB hb; clear hb hbox hg; obtain ⟨hcz10_0, hcz10_1, hcz10_2, hcz10_3, hcz10_4, hfz10_0, hfz10_1, hfz10_2, hfz10_3, hfz10_4⟩ := d5_ BK101) | ((with_reducible refine gate_callee (f := 124) rfl ?_); refine gl_ (some 8) rfl rfl Tryz.func124 #[.slice A0_1 l0_1.length c0_1, .int .i64 a1] ?_; (with_reducible refine (laws_szSpanS.calls _ _ l0_1 a1 t102 _ ?side1 ?side2 A3.o).mono ?_); (case side1 => exact Kd.C_below HR0_1.o (be_ HB.o)); (case side2 => exact HC0_1.o); rintro e w' ⟨rfl, ⟨nd, rfl⟩⟩; refine ⟨_, rfl, ?_⟩) | ((with_reducible refine gate_callee (f := 125) rfl ?_); refine gl_ (some 14) rfl rfl Tryz.func125 #[.slice A0_2 l0_2.length c0_2, .int .i64 t102] ?_; (with_reducible refine (laws_szInt64S.calls _ _ l0_2 t102 t103 _ ?side1 ?side2 A7.o).mono ?_); (case side1 => repeat (first | exact (Kd.C_below HR0_2.o (be1_ HB.o GE101.o)) | (with_reducible refine Kd.C_alloc ?_ _) | (with_reducible refine Kd.C_drewN ?_ _) | (with_reducible refine Kd.C_drew ?_))); (case side2 => exact HC0_2.o); rintro e w' ⟨rfl, ⟨nd, rfl⟩⟩; refine ⟨_, rfl, ?_⟩))
   go_ret
   exact ⟨rt_, be1_ HB.o GE101.o⟩
  ·rw [if_neg c8] at H; have c8b0 := df_ c8; clear c8; obtain rfl := Option.some.inj H
   go_enter Tryz.func118, Tryz.ntmps118
   go_wp2_with (first | ((with_reducible refine gate_dst (N := 2) rfl ?_); refine bx_ 2 #[.int .i64 a0_0, .slice A0_1 l0_1.length c0_1, .slice A0_2 l0_2.length c0_2, .int .i64 a0_3, .int .i64 a0_4] 168 ?_; intro gb101 hg w11 hbox hb; have BK101 := q_ (hbox); have GE101 := ge_ hg HB; replace HB := sb_ HB hb; clear hb hbox hg; obtain ⟨hcz12_0, hcz12_1, hcz12_2, hcz12_3, hcz12_4, hfz12_0, hfz12_1, hfz12_2, hfz12_3, hfz12_4⟩ := d5_ BK101) | ((with_reducible refine gate_callee (f := 124) rfl ?_); refine gl_ (some 8) rfl rfl Tryz.func124 #[.slice A0_1 l0_1.length c0_1, .int .i64 a1] ?_; (with_reducible refine (laws_szSpanS.calls _ _ l0_1 a1 t102 _ ?side1 ?side2 A3.o).mono ?_); (case side1 => exact Kd.C_below HR0_1.o (be_ HB.o)); (case side2 => exact HC0_1.o); rintro e w' ⟨rfl, ⟨nd, rfl⟩⟩; refine ⟨_, rfl, ?_⟩) | ((with_reducible refine gate_callee (f := 125) rfl ?_); refine gl_ (some 14) rfl rfl Tryz.func125 #[.slice A0_2 l0_2.length c0_2, .int .i64 t102] ?_; (with_reducible refine (laws_szInt64S.calls _ _ l0_2 t102 t103 _ ?side1 ?side2 A7.o).mono ?_); (case side1 => repeat (first | exact (Kd.C_below HR0_2.o (be1_ HB.o GE101.o)) | (with_reducible refine Kd.C_alloc ?_ _) | (with_reducible refine Kd.C_drewN ?_ _) | (with_reducible refine Kd.C_drew ?_))); (case side2 => exact HC0_2.o); rintro e w' ⟨rfl, ⟨nd, rfl⟩⟩; refine ⟨_, rfl, ?_⟩))
   go_ret
   exact ⟨rt_, be1_ HB.o GE101.o⟩
/-! ### laws_szRNodeS: function 114 -/
def laws_szRNodeS.l0 : Nat → List (S168) → Int → Int → Option (Int)
 | 0, _, _, _ => none
 | k + 1, x0, x1, x5 => if x5 < (x0.length : Int) then (if 0 ≤ x5 then ((laws_szRNode.f ((rd_T168 x0 x5).f0) ((rd_T168 x0 x5).f1) ((rd_T168 x0 x5).f2) ((rd_T168 x0 x5).f3) ((rd_T168 x0 x5).f4) x1).bind fun t102 => (if t102 < 0 then (some (-1)) else (laws_szRNodeS.l0 k x0 t102 (wrap64 (x5 + 1))))) else (none)) else (some x1)
def laws_szRNodeS.f (k : Nat) (l0 : List (S168)) (a1 : Int) : Option (Int) := if (wrap64 (a1 - (l0.length : Int))) < 0 then (some (-1)) else (laws_szRNodeS.l0 k l0 (wrap64 (a1 - (l0.length : Int))) 0)
theorem laws_szRNodeS.calls (k : Nat) (A0 : Option Addr) (c0 : Nat) (l0 : List (S168)) (a1 : Int) (r : Int) (w : World) (hr0 : Kd.C k168 w A0 l0.length l0) (hc0 : l0.length ≤ c0) (h : laws_szRNodeS.f k l0 a1 = some r) :
  Calls Tryz.prog 114 #[.slice A0 l0.length c0, .int .i64 a1] w fun e w' => e = .returned (.int .i64 r) ∧ Below w.heap.size w w' := by
 have hu168 := Tryz.underlying168; have HR0 := q_ hr0; have HC0 := q_ hc0; clear hr0 hc0; have HB := q_ (Below.refl w.heap.size w)
 have H : (if (wrap64 (a1 - (l0.length : Int))) < 0 then (some (-1)) else (laws_szRNodeS.l0 k l0 (wrap64 (a1 - (l0.length : Int))) 0)) = some r := h
 clear h
 by_cases c3 : (wrap64 (a1 - (l0.length : Int))) < 0
 ·rw [if_pos c3] at H; have c3b0 := dt_ c3; clear c3; obtain rfl := Option.some.inj H
  go_enter Tryz.func114, Tryz.ntmps114
  go_wp2
  go_ret
  exact ⟨rt_, be_ HB.o⟩
 ·rw [if_neg c3] at H; have c3b0 := df_ c3; clear c3
  have H' := q_ H
  clear H
  go_enter Tryz.func114, Tryz.ntmps114
  go_wp2
  go_loopg [1, 5] k (fun kq v1 v5 w' => ∃ (x1_1 : Int) (x5_1 : Int), v1 = .int .i64 x1_1 ∧ v5 = .int .i64 x5_1 ∧ J0 (laws_szRNodeS.l0 kq l0 x1_1 x5_1 = some r) ∧ J0 (kq ≤ k) ∧ J0 (Below w.heap.size w w'))
  case atStart => exact ⟨(wrap64 (a1 - (l0.length : Int))), (0), rs_, rs_, H', ⟨Nat.le_refl _⟩, ⟨be_ HB.o⟩⟩
  case round =>
   clear H'; (try clear c3); (try clear c3b0); obtain ⟨x1_1, x5_1, rfl, rfl, HA, HK1, HB⟩ := hrel
   cases gk with
   | zero => exact absurd HA.o (by simp [laws_szRNodeS.l0])
   | succ k1 =>
    have H := HA.o; clear HA
    simp only [laws_szRNodeS.l0] at H
    by_cases c4 : x5_1 < (l0.length : Int)
    ·rw [if_pos c4] at H; have c4b0 := dt_ c4; clear c4
     by_cases c5 : 0 ≤ x5_1
     ·rw [if_pos c5] at H; have c5b0 := dt_ c5; clear c5; obtain ⟨t102, A6, H⟩ := ob_ H
      by_cases c7 : t102 < 0
      ·rw [if_pos c7] at H; have c7b0 := dt_ c7; clear c7; obtain rfl := Option.some.inj H
       have p101 : 0 ≤ (x5_1 : Int) := of_decide_eq_true as_
       have q101 : x5_1 < (l0.length : Int) := of_decide_eq_true as_
       obtain ⟨ad101, A101_1, c101_1, A101_2, c101_2, e101, hx101_0, hx101_1, hx101_2, hx101_3, hx101_4, hl101_1, hi101_1, hl101_2, hi101_2⟩ := at_T168 HR0.o x5_1 p101 q101
       cases e101
       replace hx101_0 := mv_ HB.o hx101_0; replace hx101_1 := mv_ HB.o hx101_1; replace hx101_2 := mv_ HB.o hx101_2; replace hx101_3 := mv_ HB.o hx101_3; replace hx101_4 := mv_ HB.o hx101_4; have HR101_1 := q_ hi101_1; have HC101_1 := q_ hl101_1; clear hi101_1 hl101_1; have HR101_2 := q_ hi101_2; have HC101_2 := q_ hl101_2; clear hi101_2 hl101_2; replace p101 := eq_true p101; replace q101 := eq_true q101
       go_wp2_with (first | ((with_reducible refine gate_callee (f := 118) rfl ?_); refine gl_ (some 23) rfl rfl Tryz.func118 #[.agg #[.int .i64 ((rd_T168 l0 x5_1).f0), .slice A101_1 ((rd_T168 l0 x5_1).f1).length c101_1, .slice A101_2 ((rd_T168 l0 x5_1).f2).length c101_2, .int .i64 ((rd_T168 l0 x5_1).f3), .int .i64 ((rd_T168 l0 x5_1).f4)], .int .i64 x1_1] ?_; (with_reducible refine (laws_szRNode.calls ((rd_T168 l0 x5_1).f0) _ _ ((rd_T168 l0 x5_1).f1) _ _ ((rd_T168 l0 x5_1).f2) ((rd_T168 l0 x5_1).f3) ((rd_T168 l0 x5_1).f4) x1_1 t102 _ ?side1 ?side2 ?side3 ?side4 A6.o).mono ?_); (case side1 => exact Kd.C_below HR101_1.o (be_ HB.o)); (case side2 => exact HC101_1.o); (case side3 => exact Kd.C_below HR101_2.o (be_ HB.o)); (case side4 => exact HC101_2.o); rintro e w8 ⟨rfl, hb⟩; refine ⟨_, rfl, ?_⟩; replace HB := sb_ HB hb; (try clear hb)))
       go_ret
       exact ⟨rt_, be_ HB.o⟩
      ·rw [if_neg c7] at H; have c7b0 := df_ c7; clear c7
       have H' := q_ H
       clear H
       have p101 : 0 ≤ (x5_1 : Int) := of_decide_eq_true as_
       have q101 : x5_1 < (l0.length : Int) := of_decide_eq_true as_
       obtain ⟨ad101, A101_1, c101_1, A101_2, c101_2, e101, hx101_0, hx101_1, hx101_2, hx101_3, hx101_4, hl101_1, hi101_1, hl101_2, hi101_2⟩ := at_T168 HR0.o x5_1 p101 q101
       cases e101
       replace hx101_0 := mv_ HB.o hx101_0; replace hx101_1 := mv_ HB.o hx101_1; replace hx101_2 := mv_ HB.o hx101_2; replace hx101_3 := mv_ HB.o hx101_3; replace hx101_4 := mv_ HB.o hx101_4; have HR101_1 := q_ hi101_1; have HC101_1 := q_ hl101_1; clear hi101_1 hl101_1; have HR101_2 := q_ hi101_2; have HC101_2 := q_ hl101_2; clear hi101_2 hl101_2; replace p101 := eq_true p101; replace q101 := eq_true q101
       go_wp2_with (first | ((with_reducible refine gate_callee (f := 118) rfl ?_); refine gl_ (some 23) rfl rfl Tryz.func118 #[.agg #[.int .i64 ((rd_T168 l0 x5_1).f0), .slice A101_1 ((rd_T168 l0 x5_1).f1).length c101_1, .slice A101_2 ((rd_T168 l0 x5_1).f2).length c101_2, .int .i64 ((rd_T168 l0 x5_1).f3), .int .i64 ((rd_T168 l0 x5_1).f4)], .int .i64 x1_1] ?_; (with_reducible refine (laws_szRNode.calls ((rd_T168 l0 x5_1).f0) _ _ ((rd_T168 l0 x5_1).f1) _ _ ((rd_T168 l0 x5_1).f2) ((rd_T168 l0 x5_1).f3) ((rd_T168 l0 x5_1).f4) x1_1 t102 _ ?side1 ?side2 ?side3 ?side4 A6.o).mono ?_); (case side1 => exact Kd.C_below HR101_1.o (be_ HB.o)); (case side2 => exact HC101_1.o); (case side3 => exact Kd.C_below HR101_2.o (be_ HB.o)); (case side4 => exact HC101_2.o); rintro e w9 ⟨rfl, hb⟩; refine ⟨_, rfl, ?_⟩; replace HB := sb_ HB hb; (try clear hb)))
       go_roundg k1
       case measure => have := HK1.o; omega
       case rel => exact ⟨(t102), (wrap64 (x5_1 + 1)), rs_, rs_, H', ⟨by have := HK1.o; omega⟩, ⟨be_ HB.o⟩⟩
     ·rw [if_neg c5] at H
      exact absurd H (by simp)
    ·rw [if_neg c4] at H; have c4b0 := df_ c4; clear c4; obtain rfl := Option.some.inj H
     go_wp2
     go_ret
     exact ⟨rt_, be_ HB.o⟩
/-! ### laws_toRNode: function 119 -/
def laws_toRNode.f (k : Nat) (a0_0 : Int) (l0_1 : List (S178)) (l0_2 : List Int) (a0_3 : Int) (a0_4 : Int) : Option (Int × (List (S67)) × List Int × Int × Int) := (laws_toSpanS.f k l0_1).bind fun t104 => ((laws_toInt64S.f k l0_2).bind fun t107 => (some (a0_0, t104, t107, a0_3, a0_4)))
theorem laws_toRNode.calls (k : Nat) (a0_0 : Int) (A0_1 : Option Addr) (c0_1 : Nat) (l0_1 : List (S178)) (A0_2 : Option Addr) (c0_2 : Nat) (l0_2 : List Int) (a0_3 : Int) (a0_4 : Int) (r1 : Int) (r2 : List (S67)) (r3 : List Int) (r4 : Int) (r5 : Int) (w : World) (hr0_1 : Kd.C k178 w A0_1 l0_1.length l0_1) (hc0_1 : l0_1.length ≤ c0_1) (hr0_2 : Kd.C (Kd.int .i64) w A0_2 l0_2.length l0_2) (hc0_2 : l0_2.length ≤ c0_2) (h : laws_toRNode.f k a0_0 l0_1 l0_2 a0_3 a0_4 = some (r1, r2, r3, r4, r5)) :
  Calls Tryz.prog 119 #[.agg #[.int .i64 a0_0, .slice A0_1 l0_1.length c0_1, .slice A0_2 l0_2.length c0_2, .int .i64 a0_3, .int .i64 a0_4]] w fun e w' => ∃ v1_ v2_ : Value, e = .returned (.agg #[.int .i64 r1, v1_, v2_, .int .i64 r4, .int .i64 r5]) ∧ Kd.R k67 67 w' w.heap.size (fun _ => True) v1_ r2 ∧ Kd.R (Kd.int .i64) 2 w' w.heap.size (fun _ => True) v2_ r3 ∧ Below w.heap.size w w' := by
 have hu168 := Tryz.underlying168; have hu121 := Tryz.underlying121; have HR0_1 := q_ hr0_1; have HC0_1 := q_ hc0_1; clear hr0_1 hc0_1; have HR0_2 := q_ hr0_2; have HC0_2 := q_ hc0_2; clear hr0_2 hc0_2; have HB := q_ (Below.refl w.heap.size w)
 have H : ((laws_toSpanS.f k l0_1).bind fun t104 => ((laws_toInt64S.f k l0_2).bind fun t107 => (some (a0_0, t104, t107, a0_3, a0_4)))) = some (r1, r2, r3, r4, r5) := h
 clear h; obtain ⟨t104, A2, H⟩ := ob_ H; obtain ⟨t107, A3, H⟩ := ob_ H
 simp only [Option.some.injEq, Prod.mk.injEq] at H
 obtain ⟨rfl, rfl, rfl, rfl, rfl⟩ := H
 go_enter Tryz.func119, Tryz.ntmps119
 go_wp2_with (first | ((with_reducible refine gate_dst (N := 1) rfl ?_); refine bx_ 1 #[.int .i64 a0_0, .slice A0_1 l0_1.length c0_1, .slice A0_2 l0_2.length c0_2, .int .i64 a0_3, .int .i64 a0_4] 168 ?_; intro gb101 hg w4 hbox hb; have BK101 := q_ (hbox); have GE101 := ge_ hg HB; replace HB := sb_ HB hb; clear hb hbox hg) | ((with_reducible refine gate_dst (N := 2) rfl ?_); refine bx_ 2 #[.int .i64 0, .slice none 0 0, .slice none 0 0, .int .i64 0, .int .i64 0] 121 ?_; intro gb102 hg w5 hbox hb; have BK102 := q_ (hbox); have GE102 := ge1_ hg HB GE101; have NB101_102 := nl_ hg BK101; have NB102_101 := ng_ hg BK101; replace BK101 := lb_ BK101 hb; replace HB := sb1_ HB GE101 hb; clear hb hbox hg) | ((with_reducible refine gate_dst (N := 3) rfl ?_); refine bx_ 3 #[.int .i64 0, .slice none 0 0, .slice none 0 0, .int .i64 0, .int .i64 0] 121 ?_; intro gb103 hg w6 hbox hb; have BK103 := q_ (hbox); have GE103 := ge2_ hg HB GE101 GE102; have NB101_103 := nl_ hg BK101; have NB103_101 := ng_ hg BK101; have NB102_103 := nl_ hg BK102; have NB103_102 := ng_ hg BK102; replace BK101 := lb_ BK101 hb; replace BK102 := lb_ BK102 hb; replace HB := sb2_ HB GE101 GE102 hb; clear hb hbox hg; have hnb7 := NB101_102.o; have hnc7 := NB102_101.o; have hnb8 := NB101_103.o; have hnc8 := NB103_101.o; obtain ⟨hcz9_0, hcz9_1, hcz9_2, hcz9_3, hcz9_4, hfz9_0, hfz9_1, hfz9_2, hfz9_3, hfz9_4⟩ := d5_ BK101; have hnb10 := NB103_102.o; have hnc10 := NB102_103.o; obtain ⟨hcz11_0, hcz11_1, hcz11_2, hcz11_3, hcz11_4, hfz11_0, hfz11_1, hfz11_2, hfz11_3, hfz11_4⟩ := d5_ BK103) | ((with_reducible refine gate_callee (f := 126) rfl ?_); refine gl_ (some 9) rfl rfl Tryz.func126 #[.slice A0_1 l0_1.length c0_1] ?_; (with_reducible refine (laws_toSpanS.calls k _ _ l0_1 t104 _ ?side1 ?side2 A2.o).mono ?_); (case side1 => exact Kd.C_below HR0_1.o (be3_ HB.o GE101.o GE102.o GE103.o)); (case side2 => exact HC0_1.o); rintro e w12 ⟨v105, rfl, ho0, hb⟩; refine ⟨_, rfl, ?_⟩; have HO106 := q_ (Kd.R_lower ho0 (below_size (be3_ HB.o GE101.o GE102.o GE103.o))); replace BK101 := q_ (blk_below (g := gb101) (o := .cells #[.int .i64 a0_0, .slice A0_1 l0_1.length c0_1, .slice A0_2 l0_2.length c0_2, .int .i64 a0_3, .int .i64 a0_4] 168 (0, 0)) (by (with_reducible repeat (first | refine blk_drewN ?_ _ | refine blk_drew ?_ | refine blk_alloc ?_ _)); refine blk_far ?_ NB101_103.o _; (with_reducible repeat (first | refine blk_drewN ?_ _ | refine blk_drew ?_ | refine blk_alloc ?_ _)); exact BK101.o) hb); replace BK102 := q_ (blk_below (g := gb102) (o := .cells #[.int .i64 0, .slice none 0 0, .slice none 0 0, .int .i64 0, .int .i64 0] 121 (0, 0)) (by (with_reducible repeat (first | refine blk_drewN ?_ _ | refine blk_drew ?_ | refine blk_alloc ?_ _)); refine blk_far ?_ NB102_103.o _; (with_reducible repeat (first | refine blk_drewN ?_ _ | refine blk_drew ?_ | refine blk_alloc ?_ _)); exact BK102.o) hb); replace BK103 := q_ (blk_below (g := gb103) (o := .cells #[.int .i64 a0_0, .slice none 0 0, .slice none 0 0, .int .i64 0, .int .i64 0] 121 (0, 0)) (by (with_reducible repeat (first | refine blk_drewN ?_ _ | refine blk_drew ?_ | refine blk_alloc ?_ _)); refine blk_put (cs := #[.int .i64 0, .slice none 0 0, .slice none 0 0, .int .i64 0, .int .i64 0]) ?_ 0 _ rfl; (with_reducible repeat (first | refine blk_drewN ?_ _ | refine blk_drew ?_ | refine blk_alloc ?_ _)); exact BK103.o) hb); replace HB := sb3_ HB GE101 GE102 GE103 hb; (try clear hb); (try clear ho0); obtain ⟨Ao13, co13, eo13⟩ := Kd.R_slice HO106.o; subst eo13; obtain ⟨hcz14_0, hcz14_1, hcz14_2, hcz14_3, hcz14_4, hfz14_0, hfz14_1, hfz14_2, hfz14_3, hfz14_4⟩ := d5_ BK103; obtain ⟨hcz15_0, hcz15_1, hcz15_2, hcz15_3, hcz15_4, hfz15_0, hfz15_1, hfz15_2, hfz15_3, hfz15_4⟩ := d5_ BK101) | ((with_reducible refine gate_callee (f := 127) rfl ?_); refine gl_ (some 13) rfl rfl Tryz.func127 #[.slice A0_2 l0_2.length c0_2] ?_; (with_reducible refine (laws_toInt64S.calls k _ _ l0_2 t107 _ ?side1 ?side2 A3.o).mono ?_); (case side1 => exact Kd.C_below HR0_2.o (be3_ HB.o GE101.o GE102.o GE103.o)); (case side2 => exact HC0_2.o); rintro e w16 ⟨v108, rfl, ho0, hb⟩; refine ⟨_, rfl, ?_⟩; have HO109 := q_ (Kd.R_lower ho0 (below_size (be3_ HB.o GE101.o GE102.o GE103.o))); replace HO106 := q_ (Kd.R_below (by (with_reducible repeat (first | apply Kd.R_alloc | apply Kd.R_drewN | apply Kd.R_drew)); exact (Kd.R_mono (Kd.R_far (p := ⟨gb103, 1, none⟩) (Kd.R_types HO106.o BK103.o (by decide)) (fun _ hk => hk.2) (.slice Ao13 t104.length co13)) (fun _ h_ => h_.1))) hb); replace BK101 := q_ (blk_below (g := gb101) (o := .cells #[.int .i64 a0_0, .slice A0_1 l0_1.length c0_1, .slice A0_2 l0_2.length c0_2, .int .i64 a0_3, .int .i64 a0_4] 168 (0, 0)) (by (with_reducible repeat (first | refine blk_drewN ?_ _ | refine blk_drew ?_ | refine blk_alloc ?_ _)); refine blk_far ?_ NB101_103.o _; (with_reducible repeat (first | refine blk_drewN ?_ _ | refine blk_drew ?_ | refine blk_alloc ?_ _)); exact BK101.o) hb); replace BK102 := q_ (blk_below (g := gb102) (o := .cells #[.int .i64 0, .slice none 0 0, .slice none 0 0, .int .i64 0, .int .i64 0] 121 (0, 0)) (by (with_reducible repeat (first | refine blk_drewN ?_ _ | refine blk_drew ?_ | refine blk_alloc ?_ _)); refine blk_far ?_ NB102_103.o _; (with_reducible repeat (first | refine blk_drewN ?_ _ | refine blk_drew ?_ | refine blk_alloc ?_ _)); exact BK102.o) hb); replace BK103 := q_ (blk_below (g := gb103) (o := .cells #[.int .i64 a0_0, .slice Ao13 t104.length co13, .slice none 0 0, .int .i64 0, .int .i64 0] 121 (0, 0)) (by (with_reducible repeat (first | refine blk_drewN ?_ _ | refine blk_drew ?_ | refine blk_alloc ?_ _)); refine blk_put (cs := #[.int .i64 a0_0, .slice none 0 0, .slice none 0 0, .int .i64 0, .int .i64 0]) ?_ 1 _ rfl; (with_reducible repeat (first | refine blk_drewN ?_ _ | refine blk_drew ?_ | refine blk_alloc ?_ _)); exact BK103.o) hb); replace HB := sb3_ HB GE101 GE102 GE103 hb; (try clear hb); (try clear ho0); obtain ⟨Ao17, co17, eo17⟩ := Kd.R_slice HO109.o; subst eo17; obtain ⟨hcz18_0, hcz18_1, hcz18_2, hcz18_3, hcz18_4, hfz18_0, hfz18_1, hfz18_2, hfz18_3, hfz18_4⟩ := d5_ BK103; obtain ⟨hcz19_0, hcz19_1, hcz19_2, hcz19_3, hcz19_4, hfz19_0, hfz19_1, hfz19_2, hfz19_3, hfz19_4⟩ := d5_ BK101; obtain ⟨hcz20_0, hcz20_1, hcz20_2, hcz20_3, hcz20_4, hfz20_0, hfz20_1, hfz20_2, hfz20_3, hfz20_4⟩ := d5_ BK102))
 refine bodyPost_ret (results_cell_row rfl _ _ gb102 121 #[.int .i64 a0_0, .slice Ao13 t104.length co13, .slice Ao17 t107.length co17, .int .i64 a0_3, .int .i64 a0_4] (0, 0) _ rfl (by (with_reducible repeat (first | refine blk_drewN ?_ _ | refine blk_drew ?_ | refine blk_alloc ?_ _)); refine blk_put (cs := #[.int .i64 a0_0, .slice Ao13 t104.length co13, .slice Ao17 t107.length co17, .int .i64 a0_3, .int .i64 0]) ?_ 4 _ rfl; (with_reducible repeat (first | refine blk_drewN ?_ _ | refine blk_drew ?_ | refine blk_alloc ?_ _)); refine blk_put (cs := #[.int .i64 a0_0, .slice Ao13 t104.length co13, .slice Ao17 t107.length co17, .int .i64 0, .int .i64 0]) ?_ 3 _ rfl; (with_reducible repeat (first | refine blk_drewN ?_ _ | refine blk_drew ?_ | refine blk_alloc ?_ _)); refine blk_put (cs := #[.int .i64 a0_0, .slice Ao13 t104.length co13, .slice none 0 0, .int .i64 0, .int .i64 0]) ?_ 2 _ rfl; (with_reducible repeat (first | refine blk_drewN ?_ _ | refine blk_drew ?_ | refine blk_alloc ?_ _)); refine blk_put (cs := #[.int .i64 a0_0, .slice none 0 0, .slice none 0 0, .int .i64 0, .int .i64 0]) ?_ 1 _ rfl; (with_reducible repeat (first | refine blk_drewN ?_ _ | refine blk_drew ?_ | refine blk_alloc ?_ _)); refine blk_put (cs := #[.int .i64 0, .slice none 0 0, .slice none 0 0, .int .i64 0, .int .i64 0]) ?_ 0 _ rfl; (with_reducible repeat (first | refine blk_drewN ?_ _ | refine blk_drew ?_ | refine blk_alloc ?_ _)); refine blk_far ?_ NB102_103.o _; (with_reducible repeat (first | refine blk_drewN ?_ _ | refine blk_drew ?_ | refine blk_alloc ?_ _)); refine blk_far ?_ NB102_103.o _; (with_reducible repeat (first | refine blk_drewN ?_ _ | refine blk_drew ?_ | refine blk_alloc ?_ _)); refine blk_far ?_ NB102_103.o _; (with_reducible repeat (first | refine blk_drewN ?_ _ | refine blk_drew ?_ | refine blk_alloc ?_ _)); exact BK102.o) Tryz.underlying121 rfl (by kernel_rfl)) rfl ?_
 exact ⟨_, _, rt_, by (with_reducible repeat (first | apply Kd.R_alloc | apply Kd.R_drewN | apply Kd.R_drew)); exact Kd.R_mono (Kd.R_far (p := ⟨gb102, 4, none⟩) (Kd.R_far (p := ⟨gb102, 3, none⟩) (Kd.R_far (p := ⟨gb102, 2, none⟩) (Kd.R_far (p := ⟨gb102, 1, none⟩) (Kd.R_far (p := ⟨gb102, 0, none⟩) (Kd.R_far (p := ⟨gb103, 4, none⟩) (Kd.R_far (p := ⟨gb103, 3, none⟩) (Kd.R_far (p := ⟨gb103, 2, none⟩) (Kd.R_types (Kd.R_types HO106.o BK103.o (by decide)) BK102.o (by decide)) (fun _ hk => hk.1.2) (.slice Ao17 t107.length co17)) (fun _ hk => hk.1.2) (.int .i64 a0_3)) (fun _ hk => hk.1.2) (.int .i64 a0_4)) (fun _ hk => hk.2) (.int .i64 a0_0)) (fun _ hk => hk.2) (.slice Ao13 t104.length co13)) (fun _ hk => hk.2) (.slice Ao17 t107.length co17)) (fun _ hk => hk.2) (.int .i64 a0_3)) (fun _ hk => hk.2) (.int .i64 a0_4)) (fun _ hk => trivial), by (with_reducible repeat (first | apply Kd.R_alloc | apply Kd.R_drewN | apply Kd.R_drew)); exact Kd.R_mono (Kd.R_far (p := ⟨gb102, 4, none⟩) (Kd.R_far (p := ⟨gb102, 3, none⟩) (Kd.R_far (p := ⟨gb102, 2, none⟩) (Kd.R_far (p := ⟨gb102, 1, none⟩) (Kd.R_far (p := ⟨gb102, 0, none⟩) (Kd.R_far (p := ⟨gb103, 4, none⟩) (Kd.R_far (p := ⟨gb103, 3, none⟩) (Kd.R_far (p := ⟨gb103, 2, none⟩) (Kd.R_types (Kd.R_types HO109.o BK103.o (by decide)) BK102.o (by decide)) (fun _ hk => hk.1.2) (.slice Ao17 t107.length co17)) (fun _ hk => hk.1.2) (.int .i64 a0_3)) (fun _ hk => hk.1.2) (.int .i64 a0_4)) (fun _ hk => hk.2) (.int .i64 a0_0)) (fun _ hk => hk.2) (.slice Ao13 t104.length co13)) (fun _ hk => hk.2) (.slice Ao17 t107.length co17)) (fun _ hk => hk.2) (.int .i64 a0_3)) (fun _ hk => hk.2) (.int .i64 a0_4)) (fun _ hk => trivial), be3_ HB.o GE101.o GE102.o GE103.o⟩
/-! ### laws_toRNodeS: function 115 -/
def laws_toRNodeS.l0 : Nat → List (S168) → List (S121) → Int → Option ((List (S121)))
 | 0, _, _, _ => none
 | k + 1, x0, x3, x4 => if x4 < (x0.length : Int) then (if 0 ≤ x4 then ((laws_toRNode.f k ((rd_T168 x0 x4).f0) ((rd_T168 x0 x4).f1) ((rd_T168 x0 x4).f2) ((rd_T168 x0 x4).f3) ((rd_T168 x0 x4).f4)).bind fun bt105 => (if x4 < (x3.length : Int) then (laws_toRNodeS.l0 k x0 (x3.set (x4 : Int).toNat (⟨bt105.1, bt105.2.1, bt105.2.2.1, bt105.2.2.2.1, bt105.2.2.2.2⟩ : S121)) (wrap64 (x4 + 1))) else (none))) else (none)) else (some x3)
def laws_toRNodeS.f (k : Nat) (l0 : List (S168)) : Option ((List (S121))) := if 0 ≤ (l0.length : Int) then (if ((l0.length : Int) : Int).toNat ≤ 3909374676536 then (laws_toRNodeS.l0 k l0 (List.replicate ((l0.length : Int) : Int).toNat z121) 0) else (none)) else (none)
theorem laws_toRNodeS.calls (k : Nat) (A0 : Option Addr) (c0 : Nat) (l0 : List (S168)) (r : List (S121)) (w : World) (hr0 : Kd.C k168 w A0 l0.length l0) (hc0 : l0.length ≤ c0) (h : laws_toRNodeS.f k l0 = some r) :
  Calls Tryz.prog 115 #[.slice A0 l0.length c0] w fun e w' => ∃ v0_ : Value, e = .returned (v0_) ∧ Kd.S k121 121 w' w.heap.size (fun _ => True) v0_ r ∧ Below w.heap.size w w' := by
 have hu168 := Tryz.underlying168; have hu121 := Tryz.underlying121; have HR0 := q_ hr0; have HC0 := q_ hc0; clear hr0 hc0; have HB := q_ (Below.refl w.heap.size w)
 have H : (if 0 ≤ (l0.length : Int) then (if ((l0.length : Int) : Int).toNat ≤ 3909374676536 then (laws_toRNodeS.l0 k l0 (List.replicate ((l0.length : Int) : Int).toNat z121) 0) else (none)) else (none)) = some r := h
 clear h
 by_cases c2 : 0 ≤ (l0.length : Int)
 ·rw [if_pos c2] at H; have c2b0 := eq_true c2; have c2b1 := dt_ c2; clear c2
  by_cases c3 : ((l0.length : Int) : Int).toNat ≤ 3909374676536
  ·rw [if_pos c3] at H; have c3b0 := eq_true c3; have c3b1 := dt_ c3; clear c3
   obtain ⟨y101, hy101⟩ : ∃ y_ : List (S121), y_ = (List.replicate ((l0.length : Int) : Int).toNat z121) := ⟨_, rfl⟩
   replace H : (laws_toRNodeS.l0 k l0 y101 0) = some r := by first | (rw [hy101]; with_reducible exact H) | (have H2_ := (Option.bind_some _ _).symm.trans H; rw [hy101]; with_reducible exact H2_) | (have H2_ := (Option.bind_some _ _).symm.trans H; with_reducible exact H2_) | with_reducible exact H | (rw [hy101]; exact H) | exact H
   have Ny101 := q_ hy101; clear hy101
   have H' := q_ H
   clear H
   go_enter Tryz.func115, Tryz.ntmps115
   go_wp2_with (((with_reducible refine gate_dst (N := 7) rfl ?_); refine Kd.S_make k121 _ 121 rfl (N := 7) rfl 56 _ _ rfl (l0.length : Int) rfl rfl Tryz.underlying56 (.agg #[(.int .i64 0), (.slice none 0 0), (.slice none 0 0), (.int .i64 0), (.int .i64 0)]) 72 info121 rfl (by decide) (by omega) z121 (ok := fun _ => True) (okp := fun _ => True) (k121_mkM _ _ _ z121 (Kd.R_nil _ _ _ _ _) (Kd.R_nil _ _ _ _ _)) (fun _ hk => hk) trivial (of_decide_eq_true as_) (Nat.le_trans (Nat.mul_le_mul_right _ (of_decide_eq_true as_ : (l0.length : Int).toNat ≤ 3909374676536)) (by omega)) (Below.refl _ _) (Nat.le_refl _) ?_; intro v102 w4 ho5 hb hg_ hnew_; clear hg_ hnew_; (first | rw [← Ny101.o] at ho5 | (simp only [Int.reduceToNat] at ho5; rw [← Ny101.o] at ho5)); have HO103 := q_ (Kd.S_lower ho5 (below_size (be_ HB.o))); replace HB := sb_ HB hb; clear hb ho5))
   go_loopg [4] k (fun kq v4 w' => ∃ (x3_1 : List (S121)) (x4_1 : Int), v4 = .int .i64 x4_1 ∧ J0 (laws_toRNodeS.l0 kq l0 x3_1 x4_1 = some r) ∧ J0 (kq ≤ k) ∧ J0 (Kd.S k121 121 w' w.heap.size (fun _ => True) v102 x3_1) ∧ J0 (Below w.heap.size w w'))
   case atStart => exact ⟨(y101), (0), rs_, H', ⟨Nat.le_refl _⟩, ⟨by (with_reducible repeat (first | apply Kd.S_alloc | apply Kd.S_drewN | apply Kd.S_drew)); exact HO103.o⟩, ⟨be_ HB.o⟩⟩
   case round =>
    clear H'; (try clear c2); (try clear c2b0); (try clear c2b1); (try clear c3); (try clear c3b0); (try clear c3b1); obtain ⟨x3_1, x4_1, rfl, HA, HK1, HO_3, HB⟩ := hrel
    cases gk with
    | zero => exact absurd HA.o (by simp [laws_toRNodeS.l0])
    | succ k1 =>
     have H := HA.o; clear HA
     simp only [laws_toRNodeS.l0] at H
     by_cases c6 : x4_1 < (l0.length : Int)
     ·rw [if_pos c6] at H; have c6b0 := dt_ c6; clear c6
      by_cases c7 : 0 ≤ x4_1
      ·rw [if_pos c7] at H; have c7b0 := dt_ c7; clear c7; replace H := Option.bind_eq_some_iff.mp H
       obtain ⟨⟨t105, t106, t109, t112, t113⟩, A80, H⟩ := H
       replace H : (if x4_1 < (x3_1.length : Int) then (laws_toRNodeS.l0 k1 l0 (x3_1.set (x4_1 : Int).toNat (⟨t105, t106, t109, t112, t113⟩ : S121)) (wrap64 (x4_1 + 1))) else (none)) = some r := H
       have A8 := q_ A80; clear A80
       by_cases c9 : x4_1 < (x3_1.length : Int)
       ·rw [if_pos c9] at H; have c9b0 := dt_ c9; clear c9
        obtain ⟨y114, hy114⟩ : ∃ y_ : List (S121), y_ = (x3_1.set (x4_1 : Int).toNat (⟨t105, t106, t109, t112, t113⟩ : S121)) := ⟨_, rfl⟩
        replace H : (laws_toRNodeS.l0 k1 l0 y114 (wrap64 (x4_1 + 1))) = some r := by first | (rw [hy114]; with_reducible exact H) | (have H2_ := (Option.bind_some _ _).symm.trans H; rw [hy114]; with_reducible exact H2_) | (have H2_ := (Option.bind_some _ _).symm.trans H; with_reducible exact H2_) | with_reducible exact H | (rw [hy114]; exact H) | exact H
        have Ny114 := q_ hy114; clear hy114
        have H' := q_ H
        clear H
        have p104 : 0 ≤ (x4_1 : Int) := of_decide_eq_true as_
        have q104 : x4_1 < (l0.length : Int) := of_decide_eq_true as_
        obtain ⟨ad104, A104_1, c104_1, A104_2, c104_2, e104, hx104_0, hx104_1, hx104_2, hx104_3, hx104_4, hl104_1, hi104_1, hl104_2, hi104_2⟩ := at_T168 HR0.o x4_1 p104 q104
        cases e104
        replace hx104_0 := mv_ HB.o hx104_0; replace hx104_1 := mv_ HB.o hx104_1; replace hx104_2 := mv_ HB.o hx104_2; replace hx104_3 := mv_ HB.o hx104_3; replace hx104_4 := mv_ HB.o hx104_4; have HR104_1 := q_ hi104_1; have HC104_1 := q_ hl104_1; clear hi104_1 hl104_1; have HR104_2 := q_ hi104_2; have HC104_2 := q_ hl104_2; clear hi104_2 hl104_2; replace p104 := eq_true p104; replace q104 := eq_true q104
        go_wp2_with (first | ((with_reducible refine gate_callee (f := 119) rfl ?_); refine gl_ (some 20) rfl rfl Tryz.func119 #[.agg #[.int .i64 ((rd_T168 l0 x4_1).f0), .slice A104_1 ((rd_T168 l0 x4_1).f1).length c104_1, .slice A104_2 ((rd_T168 l0 x4_1).f2).length c104_2, .int .i64 ((rd_T168 l0 x4_1).f3), .int .i64 ((rd_T168 l0 x4_1).f4)]] ?_; (with_reducible refine (laws_toRNode.calls k1 ((rd_T168 l0 x4_1).f0) _ _ ((rd_T168 l0 x4_1).f1) _ _ ((rd_T168 l0 x4_1).f2) ((rd_T168 l0 x4_1).f3) ((rd_T168 l0 x4_1).f4) t105 t106 t109 t112 t113 _ ?side1 ?side2 ?side3 ?side4 A8.o).mono ?_); (case side1 => exact Kd.C_below HR104_1.o (be_ HB.o)); (case side2 => exact HC104_1.o); (case side3 => exact Kd.C_below HR104_2.o (be_ HB.o)); (case side4 => exact HC104_2.o); rintro e w11 ⟨v107, v110, rfl, ho0, ho1, hb⟩; refine ⟨_, rfl, ?_⟩; have HO108 := q_ (Kd.R_lower ho0 (below_size (be_ HB.o))); have HO111 := q_ (Kd.R_lower ho1 (below_size (be_ HB.o))); replace HO_3 := q_ (Kd.S_mono (Kd.S_told (Kd.S_told (Kd.S_old (by (with_reducible repeat (first | apply Kd.S_alloc | apply Kd.S_drewN | apply Kd.S_drew)); exact HO_3.o) hb) (Kd.R_base ho0)) (Kd.R_base ho1)) (fun _ h_ => h_.1)); replace HB := sb_ HB hb; (try clear hb); (try clear ho0); (try clear ho1); have p10 : 0 ≤ (x4_1 : Int) := of_decide_eq_true as_; have q10 : (x4_1 : Int) < ((x3_1.length : Int) : Int) := of_decide_eq_true as_; obtain ⟨go10, co10, eo10, gb10, gl10, cl10, HG10⟩ := Kd.S_form HO_3.o (by omega); (first | cases eo10 | (injection eo10 with ea_ en_ ec_; (first | subst ea_ | (injection ea_ with ea_; subst ea_)); subst ec_; clear en_)); have GB10 := q_ gb10; have GG10 := q_ HG10; clear gb10 gl10 HG10; obtain ⟨_, ce10, hcl10, hM10, hcc10, hfr10, _, _⟩ := Kd.S_elem HO_3.o z121 (x4_1 : Int) p10 q10; obtain ⟨ve10_1, ve10_2, rfl, ge10_1, ge10_2⟩ := k121_openM hM10; have hx10_0 : w11.cell? ⟨go10, (x4_1 : Int).toNat * 5, none⟩ = some (.int .i64 ((rd_T121 x3_1 x4_1).f0)) := hcc10 0 _ rfl; have hx10_1 : w11.cell? ⟨go10, (x4_1 : Int).toNat * 5 + 1, none⟩ = some (ve10_1) := hcc10 1 _ rfl; have hx10_2 : w11.cell? ⟨go10, (x4_1 : Int).toNat * 5 + 2, none⟩ = some (ve10_2) := hcc10 2 _ rfl; have hx10_3 : w11.cell? ⟨go10, (x4_1 : Int).toNat * 5 + 3, none⟩ = some (.int .i64 ((rd_T121 x3_1 x4_1).f3)) := hcc10 3 _ rfl; have hx10_4 : w11.cell? ⟨go10, (x4_1 : Int).toNat * 5 + 4, none⟩ = some (.int .i64 ((rd_T121 x3_1 x4_1).f4)) := hcc10 4 _ rfl; have hf10_0 : w11.frozen? ⟨go10, (x4_1 : Int).toNat * 5, none⟩ = false := hfr10 0; have hf10_1 : w11.frozen? ⟨go10, (x4_1 : Int).toNat * 5 + 1, none⟩ = false := hfr10 1; have hf10_2 : w11.frozen? ⟨go10, (x4_1 : Int).toNat * 5 + 2, none⟩ = false := hfr10 2; have hf10_3 : w11.frozen? ⟨go10, (x4_1 : Int).toNat * 5 + 3, none⟩ = false := hfr10 3; have hf10_4 : w11.frozen? ⟨go10, (x4_1 : Int).toNat * 5 + 4, none⟩ = false := hfr10 4; clear hcl10 hcc10 hfr10 hM10; replace p10 := eq_true p10; replace q10 := eq_true q10; have n_ := q_ (Kd.S_mono (ok' := (fun k_ => some k_ ≠ (v107 : Value).ownBlock ∧ some k_ ≠ (v110 : Value).ownBlock)) HO_3.o (fun k_ hk => ⟨hk.1.2, hk.2⟩)); clear HO_3; have HO_3 := n_; clear n_; have HX12 := q_ (show Kd.S k121 121 w11 w.heap.size (fun k_ => ((fun _ => True)) k_ ∧ ¬ ((fun k_ => some k_ = (v107 : Value).ownBlock ∨ some k_ = (v110 : Value).ownBlock)) k_) (.slice (some ⟨go10, 0, none⟩) x3_1.length co10) x3_1 from (by (with_reducible repeat (first | apply Kd.S_alloc | apply Kd.S_drewN | apply Kd.S_drew)); exact Kd.S_mono HO_3.o (fun k_ hk => ⟨trivial, fun e_ => e_.elim (fun h_ => hk.1 h_) (fun h_ => hk.2 h_)⟩))); obtain ⟨oki12, ce12, hcl12, hM12, hcc12, hfr12, hoki12, hH12⟩ := Kd.S_elem HX12.o z121 (x4_1 : Int) (of_decide_eq_true as_) (by have h_ : (x4_1 : Int) < ((x3_1.length : Int) : Int) := of_decide_eq_true as_; first | exact h_ | (have e_ := (Kd.S_reads' HO_3.o).1; omega) | simpa using h_); obtain ⟨ve12_1, ve12_2, rfl, ge12_1, ge12_2⟩ := k121_openM hM12; have HP12 := Kd.S_seg hH12 (of_decide_eq_true as_) (by have h_ : (x4_1 : Int) < ((x3_1.length : Int) : Int) := of_decide_eq_true as_; first | exact h_ | (have e_ := (Kd.S_reads' HO_3.o).1; omega) | simpa using h_) (seg := [.int .i64 t105, v107, v110, .int .i64 t112, .int .i64 t113]) (j := 0) (show 5 ≤ 5 from by decide) (x' := (⟨t105, t106, t109, t112, t113⟩ : S121)) (k121_mkM _ _ _ (⟨t105, t106, t109, t112, t113⟩ : S121) (Kd.R_mono (Kd.R_tight rfl (Kd.R_mono (ok' := fun k_ => ((fun _ => True)) k_ ∧ k_ ≠ go10) (Kd.R_apart' (HO108.o) (Kd.S_typed HO_3.o) (by decide)) (fun k_ hk => ⟨trivial, fun e_ => (hk.2) (by rw [e_]; rfl)⟩))) (fun _ h_ => Or.inr (Or.inl h_))) (Kd.R_mono (Kd.R_tight rfl (Kd.R_mono (ok' := fun k_ => ((fun _ => True)) k_ ∧ k_ ≠ go10) (Kd.R_apart' (HO111.o) (Kd.S_typed HO_3.o) (by decide)) (fun k_ hk => ⟨trivial, fun e_ => (hk.2) (by rw [e_]; rfl)⟩))) (fun _ h_ => Or.inr (Or.inr (h_))))) (fun _ hk => hk) (fun k_ hk_ => hk_.elim (fun h_ => ((Kd.R_mono (ok' := fun k_ => ((fun _ => True)) k_ ∧ k_ ≠ go10) (Kd.R_apart' (HO108.o) (Kd.S_typed HO_3.o) (by decide)) (fun k_ hk => ⟨trivial, fun e_ => (hk.2) (by rw [e_]; rfl)⟩))).1 k_ h_.symm) (fun h_ => ((Kd.R_mono (ok' := fun k_ => ((fun _ => True)) k_ ∧ k_ ≠ go10) (Kd.R_apart' (HO111.o) (Kd.S_typed HO_3.o) (by decide)) (fun k_ hk => ⟨trivial, fun e_ => (hk.2) (by rw [e_]; rfl)⟩))).1 k_ h_.symm)); have hx12_0 := hcc12 0 _ rfl; (try simp only [show (k121).sz = 5 from rfl, Nat.mul_one, Nat.add_zero] at hx12_0); have hf12_0 := hfr12 0; (try simp only [show (k121).sz = 5 from rfl, Nat.mul_one, Nat.add_zero] at hf12_0); have hx12_1 := hcc12 1 _ rfl; (try simp only [show (k121).sz = 5 from rfl, Nat.mul_one, Nat.add_zero] at hx12_1); have hf12_1 := hfr12 1; (try simp only [show (k121).sz = 5 from rfl, Nat.mul_one, Nat.add_zero] at hf12_1); have hx12_2 := hcc12 2 _ rfl; (try simp only [show (k121).sz = 5 from rfl, Nat.mul_one, Nat.add_zero] at hx12_2); have hf12_2 := hfr12 2; (try simp only [show (k121).sz = 5 from rfl, Nat.mul_one, Nat.add_zero] at hf12_2); have hx12_3 := hcc12 3 _ rfl; (try simp only [show (k121).sz = 5 from rfl, Nat.mul_one, Nat.add_zero] at hx12_3); have hf12_3 := hfr12 3; (try simp only [show (k121).sz = 5 from rfl, Nat.mul_one, Nat.add_zero] at hf12_3); have hx12_4 := hcc12 4 _ rfl; (try simp only [show (k121).sz = 5 from rfl, Nat.mul_one, Nat.add_zero] at hx12_4); have hf12_4 := hfr12 4; (try simp only [show (k121).sz = 5 from rfl, Nat.mul_one, Nat.add_zero] at hf12_4); clear hcl12 hcc12 hfr12 hM12 hoki12 hH12) | ((with_reducible refine gate_store (t := 121) (p := 21) rfl ?_); refine store_event (t := 121) (p := 21) (v := ?vo_w13) (w1 := (((((w11.setCell ⟨go10, (x4_1 : Int).toNat * 5, none⟩ (.int .i64 t105)).setCell ⟨go10, (x4_1 : Int).toNat * 5 + 1, none⟩ (v107)).setCell ⟨go10, (x4_1 : Int).toNat * 5 + 2, none⟩ (v110)).setCell ⟨go10, (x4_1 : Int).toNat * 5 + 3, none⟩ (.int .i64 t112)).setCell ⟨go10, (x4_1 : Int).toNat * 5 + 4, none⟩ (.int .i64 t113))) ?hg ?ho ?hn ?hr ?_; (case ho => rfl); (case hg => rfl); (case hn => rfl); (case hr => have hq0_ := fun (w_ : World) (a_ : Addr) => run_store Tryz.prog w_ a_ v107 .plain (by first | exact (Kd.R_val HO_3.o).2 | exact (Kd.R_val (Kd.S_R HO_3.o)).2 | exact (Kd.R_val HO108.o).2 | exact (Kd.R_val (Kd.S_R HO108.o)).2 | exact (Kd.R_val HO111.o).2 | exact (Kd.R_val (Kd.S_R HO111.o)).2); have hq1_ := fun (w_ : World) (a_ : Addr) => run_store Tryz.prog w_ a_ v110 .plain (by first | exact (Kd.R_val HO_3.o).2 | exact (Kd.R_val (Kd.S_R HO_3.o)).2 | exact (Kd.R_val HO108.o).2 | exact (Kd.R_val (Kd.S_R HO108.o)).2 | exact (Kd.R_val HO111.o).2 | exact (Kd.R_val (Kd.S_R HO111.o)).2); first | (go_simp; done) | (go_simp; rfl)); intro w13 hw; have hg : w11.grownBy w13 (some go10) := (by rw [hw]; exact HP12.2); have hp_ : Kd.S k121 121 w13 w.heap.size (fun _ => True) (.slice (some ⟨go10, 0, none⟩) x3_1.length co10) y114 := (by rw [hw, Ny114.o]; exact HP12.1); clear HP12; replace HO_3 := q_ (hp_); replace HB := q_ ((by rw [hw]; exact below_set (below_set (below_set (below_set (below_set (HB.o) GB10.o) GB10.o) GB10.o) GB10.o) GB10.out : Below w.heap.size w w13)); clear HO108 HO111; clear hg hw hp_))
        go_roundg k1
        case measure => have := HK1.o; omega
        case rel => exact ⟨(y114), (wrap64 (x4_1 + 1)), rs_, H', ⟨by have := HK1.o; omega⟩, ⟨by (with_reducible repeat (first | apply Kd.S_alloc | apply Kd.S_drewN | apply Kd.S_drew)); exact HO_3.o⟩, ⟨be_ HB.o⟩⟩
       ·rw [if_neg c9] at H
        exact absurd H (by simp)
      ·rw [if_neg c7] at H
       exact absurd H (by simp)
     ·rw [if_neg c6] at H; have c6b0 := df_ c6; clear c6; obtain rfl := Option.some.inj H
      go_wp2
      go_ret
      exact ⟨_, rt_, by (with_reducible repeat (first | apply Kd.S_alloc | apply Kd.S_drewN | apply Kd.S_drew)); exact HO_3.o, be_ HB.o⟩
  ·rw [if_neg c3] at H
   exact absurd H (by simp)
 ·rw [if_neg c2] at H
  exact absurd H (by simp)
/-! ### laws_eqRNode: function 120 -/
def laws_eqRNode.f (k : Nat) (a0_0 : Int) (l0_1 : List (S67)) (l0_2 : List Int) (a0_3 : Int) (a0_4 : Int) (a1_0 : Int) (l1_1 : List (S67)) (l1_2 : List Int) (a1_3 : Int) (a1_4 : Int) : Option (Bool) := if a0_0 = a1_0 then ((laws_eqSpanS.f k l0_1 l1_1).bind fun t103 => (if t103 = true then ((laws_eqInt64S.f k l0_2 l1_2).bind fun t104 => (if t104 = true then (if a0_3 = a1_3 then (if a0_4 = a1_4 then (some true) else (none)) else (none)) else (none))) else (none))) else (none)
theorem laws_eqRNode.calls (k : Nat) (a0_0 : Int) (A0_1 : Option Addr) (c0_1 : Nat) (l0_1 : List (S67)) (A0_2 : Option Addr) (c0_2 : Nat) (l0_2 : List Int) (a0_3 : Int) (a0_4 : Int) (a1_0 : Int) (A1_1 : Option Addr) (c1_1 : Nat) (l1_1 : List (S67)) (A1_2 : Option Addr) (c1_2 : Nat) (l1_2 : List Int) (a1_3 : Int) (a1_4 : Int) (r : Bool) (w : World) (hr0_1 : Kd.C k67 w A0_1 l0_1.length l0_1) (hc0_1 : l0_1.length ≤ c0_1) (hr0_2 : Kd.C (Kd.int .i64) w A0_2 l0_2.length l0_2) (hc0_2 : l0_2.length ≤ c0_2) (hr1_1 : Kd.C k67 w A1_1 l1_1.length l1_1) (hc1_1 : l1_1.length ≤ c1_1) (hr1_2 : Kd.C (Kd.int .i64) w A1_2 l1_2.length l1_2) (hc1_2 : l1_2.length ≤ c1_2) (h : laws_eqRNode.f k a0_0 l0_1 l0_2 a0_3 a0_4 a1_0 l1_1 l1_2 a1_3 a1_4 = some r) :
  Calls Tryz.prog 120 #[.agg #[.int .i64 a0_0, .slice A0_1 l0_1.length c0_1, .slice A0_2 l0_2.length c0_2, .int .i64 a0_3, .int .i64 a0_4], .agg #[.int .i64 a1_0, .slice A1_1 l1_1.length c1_1, .slice A1_2 l1_2.length c1_2, .int .i64 a1_3, .int .i64 a1_4]] w fun e w' => e = .returned (.bool r) ∧ Below w.heap.size w w' := by
 have hu121 := Tryz.underlying121; have HR0_1 := q_ hr0_1; have HC0_1 := q_ hc0_1; clear hr0_1 hc0_1; have HR0_2 := q_ hr0_2; have HC0_2 := q_ hc0_2; clear hr0_2 hc0_2; have HR1_1 := q_ hr1_1; have HC1_1 := q_ hc1_1; clear hr1_1 hc1_1; have HR1_2 := q_ hr1_2; have HC1_2 := q_ hc1_2; clear hr1_2 hc1_2; have HB := q_ (Below.refl w.heap.size w)
 have H : (if a0_0 = a1_0 then ((laws_eqSpanS.f k l0_1 l1_1).bind fun t103 => (if t103 = true then ((laws_eqInt64S.f k l0_2 l1_2).bind fun t104 => (if t104 = true then (if a0_3 = a1_3 then (if a0_4 = a1_4 then (some true) else (none)) else (none)) else (none))) else (none))) else (none)) = some r := h
 clear h
 by_cases c3 : a0_0 = a1_0
 ·rw [if_pos c3] at H
  have c3b0 : (a0_0 == a1_0) = true := beq_iff_eq.mpr c3
  have c3b1 : (a0_0 != a1_0) = false := bne_eq_false_iff_eq.mpr c3
  clear c3; obtain ⟨t103, A4, H⟩ := ob_ H
  by_cases c5 : t103 = true
  ·subst c5; rw [if_pos rfl] at H; obtain ⟨t104, A6, H⟩ := ob_ H
   by_cases c7 : t104 = true
   ·subst c7; rw [if_pos rfl] at H
    by_cases c8 : a0_3 = a1_3
    ·rw [if_pos c8] at H
     have c8b0 : (a0_3 == a1_3) = true := beq_iff_eq.mpr c8
     have c8b1 : (a0_3 != a1_3) = false := bne_eq_false_iff_eq.mpr c8
     clear c8
     by_cases c9 : a0_4 = a1_4
     ·rw [if_pos c9] at H
      have c9b0 : (a0_4 == a1_4) = true := beq_iff_eq.mpr c9
      have c9b1 : (a0_4 != a1_4) = false := bne_eq_false_iff_eq.mpr c9
      clear c9; obtain rfl := Option.some.inj H
      go_enter Tryz.func120, Tryz.ntmps120
      go_wp2_with (first | ((with_reducible refine gate_dst (N := 2) rfl ?_); refine bx_ 2 #[.int .i64 a0_0, .slice A0_1 l0_1.length c0_1, .slice A0_2 l0_2.length c0_2, .int .i64 a0_3, .int .i64 a0_4] 121 ?_; intro gb101 hg w10 hbox hb; have BK101 := q_ (hbox); have GE101 := ge_ hg HB; replace HB := sb_ HB hb; clear hb hbox hg) | ((with_reducible refine gate_dst (N := 3) rfl ?_); refine bx_ 3 #[.int .i64 a1_0, .slice A1_1 l1_1.length c1_1, .slice A1_2 l1_2.length c1_2, .int .i64 a1_3, .int .i64 a1_4] 121 ?_; intro gb102 hg w11 hbox hb; have BK102 := q_ (hbox); have GE102 := ge1_ hg HB GE101; have NB101_102 := nl_ hg BK101; have NB102_101 := ng_ hg BK101; replace BK101 := lb_ BK101 hb; replace HB := sb1_ HB GE101 hb; clear hb hbox hg; have hnb12 := NB101_102.o; have hnc12 := NB102_101.o; obtain ⟨hcz13_0, hcz13_1, hcz13_2, hcz13_3, hcz13_4, hfz13_0, hfz13_1, hfz13_2, hfz13_3, hfz13_4⟩ := d5_ BK101; obtain ⟨hcz14_0, hcz14_1, hcz14_2, hcz14_3, hcz14_4, hfz14_0, hfz14_1, hfz14_2, hfz14_3, hfz14_4⟩ := d5_ BK102) | ((with_reducible refine gate_callee (f := 9) rfl ?_); refine gl_ (some 14) rfl rfl Tryz.func9 #[.slice A0_1 l0_1.length c0_1, .slice A1_1 l1_1.length c1_1] ?_; (with_reducible refine (laws_eqSpanS.calls k _ _ l0_1 _ _ l1_1 true _ ?side1 ?side2 ?side3 ?side4 A4.o).mono ?_); (case side1 => exact Kd.C_below HR0_1.o (be_ HB.o)); (case side2 => exact HC0_1.o); (case side3 => exact Kd.C_below HR1_1.o (be_ HB.o)); (case side4 => exact HC1_1.o); rintro e w15 ⟨rfl, hb⟩; refine ⟨_, rfl, ?_⟩; replace BK101 := lb_ BK101 hb; replace BK102 := lb_ BK102 hb; replace HB := sb2_ HB GE101 GE102 hb; (try clear hb); obtain ⟨hcz16_0, hcz16_1, hcz16_2, hcz16_3, hcz16_4, hfz16_0, hfz16_1, hfz16_2, hfz16_3, hfz16_4⟩ := d5_ BK101; obtain ⟨hcz17_0, hcz17_1, hcz17_2, hcz17_3, hcz17_4, hfz17_0, hfz17_1, hfz17_2, hfz17_3, hfz17_4⟩ := d5_ BK102) | ((with_reducible refine gate_callee (f := 128) rfl ?_); refine gl_ (some 20) rfl rfl Tryz.func128 #[.slice A0_2 l0_2.length c0_2, .slice A1_2 l1_2.length c1_2] ?_; (with_reducible refine (laws_eqInt64S.calls k _ _ l0_2 _ _ l1_2 true _ ?side1 ?side2 ?side3 ?side4 A6.o).mono ?_); (case side1 => exact Kd.C_below HR0_2.o (be_ HB.o)); (case side2 => exact HC0_2.o); (case side3 => exact Kd.C_below HR1_2.o (be_ HB.o)); (case side4 => exact HC1_2.o); rintro e w' ⟨rfl, ⟨nd, rfl⟩⟩; refine ⟨_, rfl, ?_⟩))
      go_ret
      exact ⟨rt_, be2_ HB.o GE101.o GE102.o⟩
     ·rw [if_neg c9] at H
      have c9b0 : (a0_4 == a1_4) = false := beq_eq_false_iff_ne.mpr c9
      have c9b1 : (a0_4 != a1_4) = true := bne_iff_ne.mpr c9
      exact absurd H (by simp)
    ·rw [if_neg c8] at H
     have c8b0 : (a0_3 == a1_3) = false := beq_eq_false_iff_ne.mpr c8
     have c8b1 : (a0_3 != a1_3) = true := bne_iff_ne.mpr c8
     exact absurd H (by simp)
   ·replace c7 := Bool.eq_false_iff.mpr c7; subst c7; rw [if_neg nft_] at H
    exact absurd H (by simp)
  ·replace c5 := Bool.eq_false_iff.mpr c5; subst c5; rw [if_neg nft_] at H
   exact absurd H (by simp)
 ·rw [if_neg c3] at H
  have c3b0 : (a0_0 == a1_0) = false := beq_eq_false_iff_ne.mpr c3
  have c3b1 : (a0_0 != a1_0) = true := bne_iff_ne.mpr c3
  exact absurd H (by simp)
/-! ### laws_eqRNodeS: function 116 -/
def laws_eqRNodeS.l0 : Nat → List (S121) → List (S121) → Int → Option (Bool)
 | 0, _, _, _ => none
 | k + 1, x0, x1, x5 => if x5 < (x0.length : Int) then (if 0 ≤ x5 then (if x5 < (x1.length : Int) then ((laws_eqRNode.f k ((rd_T121 x0 x5).f0) ((rd_T121 x0 x5).f1) ((rd_T121 x0 x5).f2) ((rd_T121 x0 x5).f3) ((rd_T121 x0 x5).f4) ((rd_T121 x1 x5).f0) ((rd_T121 x1 x5).f1) ((rd_T121 x1 x5).f2) ((rd_T121 x1 x5).f3) ((rd_T121 x1 x5).f4)).bind fun t103 => (if t103 = true then (laws_eqRNodeS.l0 k x0 x1 (wrap64 (x5 + 1))) else (none))) else (none)) else (none)) else (some true)
def laws_eqRNodeS.f (k : Nat) (l0 : List (S121)) (l1 : List (S121)) : Option (Bool) := if (l0.length : Int) = (l1.length : Int) then (laws_eqRNodeS.l0 k l0 l1 0) else (none)
def laws_eqRNodeS.T6 : Bool × List (List Nat × List Nat) := (true, [([], []), ([], []), ([0, 1], [0, 1]), ([2], [2]), ([], []), ([], []), ([4, 5], [4, 5]), ([6], [6]), ([3, 7], [3, 7]), ([8], [8])])
def laws_eqRNodeS.B6 : List Nat := [0, 0, 3, 7, 0, 0, 48, 112, 255, 511]
theorem laws_eqRNodeS.tab6 : rtab .any (opsOf Tryz.f116 6) = laws_eqRNodeS.T6 := by kernel_rfl
theorem laws_eqRNodeS.bits6 : waitsOk laws_eqRNodeS.T6.2 laws_eqRNodeS.B6 = true := by kernel_rfl
theorem laws_eqRNodeS.calls (k : Nat) (A0 : Option Addr) (c0 : Nat) (l0 : List (S121)) (A1 : Option Addr) (c1 : Nat) (l1 : List (S121)) (r : Bool) (w : World) (hr0 : Kd.C k121 w A0 l0.length l0) (hc0 : l0.length ≤ c0) (hr1 : Kd.C k121 w A1 l1.length l1) (hc1 : l1.length ≤ c1) (h : laws_eqRNodeS.f k l0 l1 = some r) :
  Calls Tryz.prog 116 #[.slice A0 l0.length c0, .slice A1 l1.length c1] w fun e w' => e = .returned (.bool r) ∧ Below w.heap.size w w' := by
 have hu121 := Tryz.underlying121; have HR0 := q_ hr0; have HC0 := q_ hc0; clear hr0 hc0; have HR1 := q_ hr1; have HC1 := q_ hc1; clear hr1 hc1; have HB := q_ (Below.refl w.heap.size w)
 have H : (if (l0.length : Int) = (l1.length : Int) then (laws_eqRNodeS.l0 k l0 l1 0) else (none)) = some r := h
 clear h
 by_cases c3 : (l0.length : Int) = (l1.length : Int)
 ·rw [if_pos c3] at H
  have c3b0 : ((l0.length : Int) == (l1.length : Int)) = true := beq_iff_eq.mpr c3
  have c3b1 : ((l0.length : Int) != (l1.length : Int)) = false := bne_eq_false_iff_eq.mpr c3
  have c3b2 : (l0.length == l1.length) = true := by first | simpa using c3 | (simp at c3 ⊢; omega)
  clear c3
  have H' := q_ H
  clear H
  go_enter Tryz.func116, Tryz.ntmps116
  go_wp2
  go_loopg [5] k (fun kq v5 w' => ∃ (x5_1 : Int), v5 = .int .i64 x5_1 ∧ J0 (laws_eqRNodeS.l0 kq l0 l1 x5_1 = some r) ∧ J0 (kq ≤ k) ∧ J0 (Below w.heap.size w w'))
  case atStart => exact ⟨(0), rs_, H', ⟨Nat.le_refl _⟩, ⟨be_ HB.o⟩⟩
  case round =>
   clear H'; (try clear c1); (try clear c3); (try clear c3b0); (try clear c3b1); (try clear c3b2); obtain ⟨x5_1, rfl, HA, HK1, HB⟩ := hrel
   cases gk with
   | zero => exact absurd HA.o (by simp [laws_eqRNodeS.l0])
   | succ k1 =>
    have H := HA.o; clear HA
    simp only [laws_eqRNodeS.l0] at H
    by_cases c4 : x5_1 < (l0.length : Int)
    ·rw [if_pos c4] at H; have c4b0 := dt_ c4; clear c4
     by_cases c5 : 0 ≤ x5_1
     ·rw [if_pos c5] at H; have c5b0 := dt_ c5; clear c5
      by_cases c6 : x5_1 < (l1.length : Int)
      ·rw [if_pos c6] at H; have c6b0 := dt_ c6; clear c6; obtain ⟨t103, A7, H⟩ := ob_ H
       by_cases c8 : t103 = true
       ·subst c8; rw [if_pos rfl] at H
        have H' := q_ H
        clear H
        try go_wp2
        replace HB := q_ (below_drew1 HB.o)
        have p101 : 0 ≤ (x5_1 : Int) := of_decide_eq_true as_
        have q101 : x5_1 < (l0.length : Int) := of_decide_eq_true as_
        obtain ⟨ad101, A101_1, c101_1, A101_2, c101_2, e101, hx101_0, hx101_1, hx101_2, hx101_3, hx101_4, hl101_1, hi101_1, hl101_2, hi101_2⟩ := at_T121 HR0.o x5_1 p101 q101; have hw101_4 := hx101_4; have hw101_3 := hx101_3; have hw101_2 := hx101_2; have hw101_1 := hx101_1; have hw101_0 := hx101_0
        cases e101
        replace hx101_0 := mv_ HB.o hx101_0; replace hx101_1 := mv_ HB.o hx101_1; replace hx101_2 := mv_ HB.o hx101_2; replace hx101_3 := mv_ HB.o hx101_3; replace hx101_4 := mv_ HB.o hx101_4; have HR101_1 := q_ hi101_1; have HC101_1 := q_ hl101_1; clear hi101_1 hl101_1; have HR101_2 := q_ hi101_2; have HC101_2 := q_ hl101_2; clear hi101_2 hl101_2; replace p101 := eq_true p101; replace q101 := eq_true q101
        have p102 : 0 ≤ (x5_1 : Int) := of_decide_eq_true as_
        have q102 : x5_1 < (l1.length : Int) := of_decide_eq_true as_
        obtain ⟨ad102, A102_1, c102_1, A102_2, c102_2, e102, hx102_0, hx102_1, hx102_2, hx102_3, hx102_4, hl102_1, hi102_1, hl102_2, hi102_2⟩ := at_T121 HR1.o x5_1 p102 q102; have hw102_4 := hx102_4; have hw102_3 := hx102_3; have hw102_2 := hx102_2; have hw102_1 := hx102_1; have hw102_0 := hx102_0
        cases e102
        replace hx102_0 := mv_ HB.o hx102_0; replace hx102_1 := mv_ HB.o hx102_1; replace hx102_2 := mv_ HB.o hx102_2; replace hx102_3 := mv_ HB.o hx102_3; replace hx102_4 := mv_ HB.o hx102_4; have HR102_1 := q_ hi102_1; have HC102_1 := q_ hl102_1; clear hi102_1 hl102_1; have HR102_2 := q_ hi102_2; have HC102_2 := q_ hl102_2; clear hi102_2 hl102_2; replace p102 := eq_true p102; replace q102 := eq_true q102
        refine start_ (n := 10) (S := fun w' => w'.cell? (ad101.add ((x5_1).toNat * 5)) = some (.int .i64 ((rd_T121 l0 x5_1).f0)) ∧ w'.cell? ⟨(ad101.add ((x5_1).toNat * 5)).block, (ad101.add ((x5_1).toNat * 5)).off + 1, none⟩ = some (.slice A101_1 ((rd_T121 l0 x5_1).f1).length c101_1) ∧ w'.cell? ⟨(ad101.add ((x5_1).toNat * 5)).block, (ad101.add ((x5_1).toNat * 5)).off + 2, none⟩ = some (.slice A101_2 ((rd_T121 l0 x5_1).f2).length c101_2) ∧ w'.cell? ⟨(ad101.add ((x5_1).toNat * 5)).block, (ad101.add ((x5_1).toNat * 5)).off + 3, none⟩ = some (.int .i64 ((rd_T121 l0 x5_1).f3)) ∧ w'.cell? ⟨(ad101.add ((x5_1).toNat * 5)).block, (ad101.add ((x5_1).toNat * 5)).off + 4, none⟩ = some (.int .i64 ((rd_T121 l0 x5_1).f4)) ∧ w'.cell? (ad102.add ((x5_1).toNat * 5)) = some (.int .i64 ((rd_T121 l1 x5_1).f0)) ∧ w'.cell? ⟨(ad102.add ((x5_1).toNat * 5)).block, (ad102.add ((x5_1).toNat * 5)).off + 1, none⟩ = some (.slice A102_1 ((rd_T121 l1 x5_1).f1).length c102_1) ∧ w'.cell? ⟨(ad102.add ((x5_1).toNat * 5)).block, (ad102.add ((x5_1).toNat * 5)).off + 2, none⟩ = some (.slice A102_2 ((rd_T121 l1 x5_1).f2).length c102_2) ∧ w'.cell? ⟨(ad102.add ((x5_1).toNat * 5)).block, (ad102.add ((x5_1).toNat * 5)).off + 3, none⟩ = some (.int .i64 ((rd_T121 l1 x5_1).f3)) ∧ w'.cell? ⟨(ad102.add ((x5_1).toNat * 5)).block, (ad102.add ((x5_1).toNat * 5)).off + 4, none⟩ = some (.int .i64 ((rd_T121 l1 x5_1).f4))) (ds := []) (bb 10 0) (by kernel_rfl) rfl rfl ⟨(mv_ HB.o hw101_0), (mv_ HB.o hw101_1), (mv_ HB.o hw101_2), (mv_ HB.o hw101_3), (mv_ HB.o hw101_4), (mv_ HB.o hw102_0), (mv_ HB.o hw102_1), (mv_ HB.o hw102_2), (mv_ HB.o hw102_3), (mv_ HB.o hw102_4)⟩ (fun hHeld => ?_); refine with_tabW laws_eqRNodeS.tab6 laws_eqRNodeS.bits6 (fun HT_ HW_ => ?_)
        generalize wr.drew = w9 at HB HR101_1 HR101_2 HR102_1 HR102_2 hx101_0 hx101_1 hx101_2 hx101_3 hx101_4 hx102_0 hx102_1 hx102_2 hx102_3 hx102_4 hHeld ⊢
        refine pv_ 0 17 1 HT_.o ?_; refine pv_ 1 18 3 HT_.o ?_; refine pv_ 2 19 7 HT_.o ?_; refine pv_ 4 21 23 HT_.o ?_; refine pv_ 5 22 55 HT_.o ?_; refine pv_ 6 23 119 HT_.o ?_; refine tv_ 3 20 127 HT_.o HW_.o hHeld ?_; refine tv_ 7 24 255 HT_.o HW_.o hHeld ?_
        refine one_ (i := 8) (N := some 25) (bb 10 511) rfl rfl (one_of HT_.o (by kernel_rfl)) (by decide) (fun K hK => ?_)
        refine gs_ Tryz.func120 #[.agg #[.int .i64 ((rd_T121 l0 x5_1).f0), .slice A101_1 ((rd_T121 l0 x5_1).f1).length c101_1, .slice A101_2 ((rd_T121 l0 x5_1).f2).length c101_2, .int .i64 ((rd_T121 l0 x5_1).f3), .int .i64 ((rd_T121 l0 x5_1).f4)], .agg #[.int .i64 ((rd_T121 l1 x5_1).f0), .slice A102_1 ((rd_T121 l1 x5_1).f1).length c102_1, .slice A102_2 ((rd_T121 l1 x5_1).f2).length c102_2, .int .i64 ((rd_T121 l1 x5_1).f3), .int .i64 ((rd_T121 l1 x5_1).f4)]] ?_
        with_reducible refine (laws_eqRNode.calls k1 ((rd_T121 l0 x5_1).f0) _ _ ((rd_T121 l0 x5_1).f1) _ _ ((rd_T121 l0 x5_1).f2) ((rd_T121 l0 x5_1).f3) ((rd_T121 l0 x5_1).f4) ((rd_T121 l1 x5_1).f0) _ _ ((rd_T121 l1 x5_1).f1) _ _ ((rd_T121 l1 x5_1).f2) ((rd_T121 l1 x5_1).f3) ((rd_T121 l1 x5_1).f4) true _ ?side1 ?side2 ?side3 ?side4 ?side5 ?side6 ?side7 ?side8 A7.o).mono ?_
        (case side1 => exact Kd.C_below HR101_1.o (be_ HB.o))
        (case side2 => exact HC101_1.o)
        (case side3 => exact Kd.C_below HR101_2.o (be_ HB.o))
        (case side4 => exact HC101_2.o)
        (case side5 => exact Kd.C_below HR102_1.o (be_ HB.o))
        (case side6 => exact HC102_1.o)
        (case side7 => exact Kd.C_below HR102_2.o (be_ HB.o))
        (case side8 => exact HC102_2.o)
        rintro e w10 ⟨rfl, hb⟩
        refine ⟨_, rfl, ?_⟩; replace HB := sb_ HB hb
        (try clear hb)
        (try clear hb2)
        (try clear hk)
        (try clear hi)
        refine hK.out _ _ ⟨(mv_ HB.o hw101_0), (mv_ HB.o hw101_1), (mv_ HB.o hw101_2), (mv_ HB.o hw101_3), (mv_ HB.o hw101_4), (mv_ HB.o hw102_0), (mv_ HB.o hw102_1), (mv_ HB.o hw102_2), (mv_ HB.o hw102_3), (mv_ HB.o hw102_4)⟩ (fun hHeld => ?_)
        clear hK K; refine no_ (some 25) ?_; refine pv_ 9 26 1023 HT_.o ?_
        refine done_ (done_of HT_.o (by kernel_rfl)) ?_
        try go_wp2
        go_roundg k1
        case measure => have := HK1.o; omega
        case rel => exact ⟨(wrap64 (x5_1 + 1)), rs_, H', ⟨by have := HK1.o; omega⟩, ⟨be_ HB.o⟩⟩
       ·replace c8 := Bool.eq_false_iff.mpr c8; subst c8; rw [if_neg nft_] at H
        exact absurd H (by simp)
      ·rw [if_neg c6] at H
       exact absurd H (by simp)
     ·rw [if_neg c5] at H
      exact absurd H (by simp)
    ·rw [if_neg c4] at H; have c4b0 := df_ c4; clear c4; obtain rfl := Option.some.inj H
     go_wp2
     go_ret
     exact ⟨rt_, be_ HB.o⟩
 ·rw [if_neg c3] at H
  have c3b0 : ((l0.length : Int) == (l1.length : Int)) = false := beq_eq_false_iff_ne.mpr c3
  have c3b1 : ((l0.length : Int) != (l1.length : Int)) = true := bne_iff_ne.mpr c3
  have c3b2 : (l0.length == l1.length) = false := by first | simpa using c3 | (simp at c3 ⊢; omega)
  exact absurd H (by simp)
end Go.Proofs.YtijmhelacmjggaaGreat.P
namespace Go.Proofs.YtijmhelacmjggaaGreat.P
open Go.RowKit Go.Proofs.YtijmhelacmjggaaGreatW.PrintWords Go.Proofs.YtijmhelacmjggaaGreatW.PrintLast Go.Proofs.YtijmhelacmjggaaGreatEv
set_option linter.unusedVariables false
set_option linter.unusedSimpArgs false
def g168 (x : S168) : Prop := (Lit.int .i64 x.f0).wf = true ∧ (x.f1.length ≤ maxLen ∧ ∀ y ∈ x.f1, g178 y) ∧ (x.f2.length ≤ maxLen ∧ ∀ y ∈ x.f2, (Lit.int .i64 y).wf = true) ∧ (Lit.int .i64 x.f3).wf = true ∧ (Lit.int .i64 x.f4).wf = true
def h121 (x : S121) : Prop := x.f1.length ≤ 9223372036854775807 ∧ x.f2.length ≤ 9223372036854775807
def cRNode (x : S168) : S121 := ⟨x.f0, (x.f1.map cSpan), x.f2, x.f3, x.f4⟩
def wRNode (x : S168) : Nat := x.f1.length + x.f2.length
theorem hRNode_of_g {x : S168} (hg : g168 x) : h121 (cRNode x) :=
  ⟨by simpa [h121, cRNode] using Nat.le_trans hg.2.1.1 maxLen_le, Nat.le_trans hg.2.2.1.1 maxLen_le⟩
theorem laws_szRNode_ev (v0 : Int) (v1 : List S178) (v2 : List Int) (v3 : Int) (v4 : Int) (a : Int) (h0 : 0 ≤ a) (h1 : a ≤ 1048576) (hb_v1 : v1.length ≤ 9223372036854775807) (hb_v2 : v2.length ≤ 9223372036854775807) : laws_szRNode.f v0 v1 v2 v3 v4 a = some (if a < ((v1.length + v2.length : Nat) : Int) then -1 else a - ((v1.length + v2.length : Nat) : Int)) := by
  unfold laws_szRNode.f
  rw [laws_szSpanS_eq v1 _ hb_v1 (by omega) (by omega)]
  simp only [Option.bind_some]
  by_cases c0_ : a < ((v1.length : Nat) : Int)
  · rw [if_pos c0_, if_pos (by omega)]
    skip
    (try first | rfl | rw [if_pos (by omega)])
  rw [if_neg c0_, if_neg (by omega)]
  rw [laws_szInt64S_eq v2 _ hb_v2 (by omega) (by omega)]
  simp only [Option.bind_some]
  by_cases c1_ : (a - ((v1.length : Nat) : Int)) < ((v2.length : Nat) : Int)
  · rw [if_pos c1_, if_pos (by omega)]
    skip
    (try first | rfl | rw [if_pos (by omega)])
  rw [if_neg c1_, if_neg (by omega)]
  skip
  (try rw [if_neg (by omega)])
  (try (first | rfl | omega | (congr 1; omega)))
theorem laws_toRNode_ev (v0 : Int) (v1 : List S178) (v2 : List Int) (v3 : Int) (v4 : Int) (hw_v1 : v1.length ≤ 1048576) (hw_v2 : v2.length ≤ 1048576) : Ev (fun k => laws_toRNode.f k v0 v1 v2 v3 v4) (v0, (v1.map cSpan), v2, v3, v4) := by
  unfold laws_toRNode.f
  rw [ev_bind (laws_toSpanS_ev v1 hw_v1)]
  rw [ev_bind (laws_toInt64S_ev v2 hw_v2)]
  exact ev_some.2 rfl
theorem laws_eqRNode_ev (v0 : Int) (v1 : List S67) (v2 : List Int) (v3 : Int) (v4 : Int) (hb_v1 : v1.length ≤ 9223372036854775807) (hb_v2 : v2.length ≤ 9223372036854775807) : Ev (fun k => laws_eqRNode.f k v0 v1 v2 v3 v4 v0 v1 v2 v3 v4) true := by
  unfold laws_eqRNode.f
  (try simp only [if_true, ev_ite, bne_self_eq_false, Bool.false_eq_true, if_false, ev_some])
  rw [ev_bind (laws_eqSpanS_ev v1 hb_v1)]
  (try simp only [if_true, ev_ite, bne_self_eq_false, Bool.false_eq_true, if_false, ev_some])
  rw [ev_bind (laws_eqInt64S_ev v2 hb_v2)]
  (try simp only [if_true, ev_ite, bne_self_eq_false, Bool.false_eq_true, if_false, ev_some])
theorem laws_szRNodeS_ev (l : List S168) (a : Int) (h0 : 0 ≤ a) (h1 : a ≤ 1048576) (hl : l.length ≤ 9223372036854775807) (hg : ∀ x ∈ l, g168 x) : Ev (fun k => laws_szRNodeS.f k l a) (if a < ((l.length + ws wRNode l : Nat) : Int) then -1 else a - ((l.length + ws wRNode l : Nat) : Int)) := by
  unfold laws_szRNodeS.f
  rw [wrap_id (by omega) (by omega)]
  simp only [ev_ite]
  by_cases c0 : a - (l.length : Int) < 0
  · rw [if_pos c0]
    exact ev_some.2 (by rw [if_pos (by omega)])
  rw [if_neg c0]
  have key := down l.length (fun i => ∀ x1 : Int, 0 ≤ x1 → x1 ≤ 1048576 → Ev (fun k => laws_szRNodeS.l0 k l x1 (i : Nat)) (if x1 < ((ws wRNode (l.drop i) : Nat) : Int) then -1 else x1 - ((ws wRNode (l.drop i) : Nat) : Int))) ?_ ?_ 0 (by omega) (a - (l.length : Int)) (by omega) (by omega)
  · refine ev_congr key ?_
    rw [List.drop_zero]
    split <;> split <;> first | rfl | omega
  · intro x1 h0 h1
    rw [ev_succ]
    simp only [laws_szRNodeS.l0, ev_ite, ev_some]
    rw [if_neg (by omega), List.drop_length]
    simp [ws]
    omega
  · intro i hi ih x1 h0 h1
    rw [ev_succ, ws_drop wRNode l z168 i hi]
    have hr : l.getD i z168 = rd_T168 l i := by simp [rd_T168]
    rw [hr]
    have hgy : g168 (rd_T168 l i) := by
      rw [← hr, List.getD_eq_getElem?_getD, List.getElem?_eq_getElem hi]
      exact hg _ (List.getElem_mem _)
    simp only [laws_szRNodeS.l0, ev_ite]
    rw [if_pos (by omega), if_pos (by omega), wrap_succ hi (by omega)]
    rw [laws_szRNode_ev _ _ _ _ _ x1 h0 h1 (Nat.le_trans (hgy).2.1.1 maxLen_le) (Nat.le_trans (hgy).2.2.1.1 maxLen_le)]
    simp only [Option.bind_some, ev_ite]
    have e : ((wRNode (rd_T168 l i) : Nat) : Int) = (((rd_T168 l i).f1.length + (rd_T168 l i).f2.length : Nat) : Int) := rfl
    by_cases c : x1 < ((wRNode (rd_T168 l i) : Nat) : Int)
    · have c' : x1 < (((rd_T168 l i).f1.length + (rd_T168 l i).f2.length : Nat) : Int) := by rw [← e]; exact c
      simp only [if_pos c']
      rw [if_pos (by omega)]
      exact ev_some.2 (by rw [if_pos (by omega)])
    · have c' : ¬ x1 < (((rd_T168 l i).f1.length + (rd_T168 l i).f2.length : Nat) : Int) := by rw [← e]; exact c
      simp only [if_neg c']
      rw [if_neg (by rw [← e]; omega)]
      refine ev_congr (ih _ (by rw [← e]; omega) (by rw [← e]; omega)) ?_
      rw [← e]
      split <;> split <;> first | rfl | omega
theorem laws_toRNodeS_ev (l : List S168) (hl : l.length + ws wRNode l ≤ 1048576) : Ev (fun k => laws_toRNodeS.f k l) (l.map cRNode) := by
  unfold laws_toRNodeS.f
  simp only [ev_ite]
  rw [if_pos (by omega), if_pos (by omega)]
  have h := ev_loop l.length (fun k i => laws_toRNodeS.l0 k l (upTo cRNode z121 l i) (i : Nat)) (fun _ => l.map cRNode) ?_ ?_ 0 (by omega)
  · rw [upTo_zero] at h
    exact h
  · rw [ev_succ, upTo_all]
    simp [laws_toRNodeS.l0, ev_some]
  · intro i hi ih
    have hr : l.getD i z168 = rd_T168 l i := by simp [rd_T168]
    have hwi : wRNode (rd_T168 l i) ≤ 1048576 := by
      rw [← hr]
      have := ws_le wRNode l z168 i hi
      omega
    rw [ev_succ]
    simp only [laws_toRNodeS.l0, ev_ite]
    rw [if_pos (by omega), if_pos (by omega)]
    rw [ev_bind (laws_toRNode_ev _ _ _ _ _ (by have e : (rd_T168 l i).f1.length ≤ wRNode (rd_T168 l i) := (by simp only [wRNode]; omega); omega) (by have e : (rd_T168 l i).f2.length ≤ wRNode (rd_T168 l i) := (by simp only [wRNode]; omega); omega))]
    (try simp only [ev_ite])
    rw [if_pos (by rw [upTo_length _ _ _ _ (by omega)]; omega), wrap_succ hi (by omega)]
    have := upTo_set cRNode z121 l z168 i hi
    rw [hr] at this
    simp only [Int.toNat_natCast]
    simp only [cRNode] at this ih ⊢
    rw [this]
    exact ih
theorem laws_eqRNodeS_ev (l : List S121) (hl : l.length ≤ 9223372036854775807) (hh : ∀ x ∈ l, h121 x) : Ev (fun k => laws_eqRNodeS.f k l l) true := by
  unfold laws_eqRNodeS.f
  simp only [ev_ite]
  rw [if_pos trivial]
  refine ev_loop l.length (fun k i => laws_eqRNodeS.l0 k l l (i : Nat)) (fun _ => true) ?_ ?_ 0 (by omega)
  · rw [ev_succ]
    simp [laws_eqRNodeS.l0, ev_some]
  · intro i hi ih
    have hhy : h121 (rd_T121 l i) := by
      have hr : l.getD i z121 = rd_T121 l i := by simp [rd_T121]
      rw [← hr, List.getD_eq_getElem?_getD, List.getElem?_eq_getElem hi]
      exact hh _ (List.getElem_mem _)
    rw [ev_succ]
    simp only [laws_eqRNodeS.l0, ev_ite]
    rw [if_pos (by omega), if_pos (by omega), wrap_succ hi (by omega)]
    (try rw [if_pos (by omega)])
    rw [ev_bind (laws_eqRNode_ev _ _ _ _ _ (hhy.1) (hhy.2))]
    (try simp only [if_true, ev_ite])
    exact ih
end Go.Proofs.YtijmhelacmjggaaGreat.P
namespace Go.Proofs.YtijmhelacmjggaaGreat.P
open Go.RowKit Go.Proofs.YtijmhelacmjggaaGreatW.PrintWords Go.Proofs.YtijmhelacmjggaaGreatW.PrintLast Go.Proofs.YtijmhelacmjggaaGreatW.PrintMore
attribute [local go_sem] max2_int min2_int max_two min_two max_three min_three max_four min_four
set_option linter.unusedVariables false
set_option linter.unusedSimpArgs false
/-! ### laws_szRx: function 109 -/
def laws_szRx.f (k : Nat) (l0_0 : List (S168)) (a1 : Int) : Option (Int) := (laws_szRNodeS.f k l0_0 a1).bind fun t102 => (if t102 < 0 then (some (-1)) else (some t102))
theorem laws_szRx.calls (k : Nat) (A0_0 : Option Addr) (c0_0 : Nat) (l0_0 : List (S168)) (a1 : Int) (r : Int) (w : World) (hr0_0 : Kd.C k168 w A0_0 l0_0.length l0_0) (hc0_0 : l0_0.length ≤ c0_0) (h : laws_szRx.f k l0_0 a1 = some r) :
  Calls Tryz.prog 109 #[.agg #[.slice A0_0 l0_0.length c0_0], .int .i64 a1] w fun e w' => e = .returned (.int .i64 r) ∧ Below w.heap.size w w' := by
 have hu142 := Tryz.underlying142; have HR0_0 := q_ hr0_0; have HC0_0 := q_ hc0_0; clear hr0_0 hc0_0; have HB := q_ (Below.refl w.heap.size w)
 have H : ((laws_szRNodeS.f k l0_0 a1).bind fun t102 => (if t102 < 0 then (some (-1)) else (some t102))) = some r := h
 clear h; obtain ⟨t102, A3, H⟩ := ob_ H
 by_cases c4 : t102 < 0
 ·rw [if_pos c4] at H; have c4b0 := dt_ c4; clear c4; obtain rfl := Option.some.inj H
  go_enter Tryz.func109, Tryz.ntmps109
  go_wp2_with (first | ((with_reducible refine gate_dst (N := 2) rfl ?_); refine bx_ 2 #[.slice A0_0 l0_0.length c0_0] 142 ?_; intro gb101 hg w5 hbox hb; have BK101 := q_ (hbox); have GE101 := ge_ hg HB; replace HB := sb_ HB hb; clear hb hbox hg; obtain ⟨hcz6_0, hfz6_0⟩ := d1_ BK101) | ((with_reducible refine gate_callee (f := 114) rfl ?_); refine gl_ (some 8) rfl rfl Tryz.func114 #[.slice A0_0 l0_0.length c0_0, .int .i64 a1] ?_; (with_reducible refine (laws_szRNodeS.calls k _ _ l0_0 a1 t102 _ ?side1 ?side2 A3.o).mono ?_); (case side1 => exact Kd.C_below HR0_0.o (be_ HB.o)); (case side2 => exact HC0_0.o); rintro e w7 ⟨rfl, hb⟩; refine ⟨_, rfl, ?_⟩; replace BK101 := lb_ BK101 hb; replace HB := sb1_ HB GE101 hb; (try clear hb)))
  go_ret
  exact ⟨rt_, be1_ HB.o GE101.o⟩
 ·rw [if_neg c4] at H; have c4b0 := df_ c4; clear c4; obtain rfl := Option.some.inj H
  go_enter Tryz.func109, Tryz.ntmps109
  go_wp2_with (first | ((with_reducible refine gate_dst (N := 2) rfl ?_); refine bx_ 2 #[.slice A0_0 l0_0.length c0_0] 142 ?_; intro gb101 hg w8 hbox hb; have BK101 := q_ (hbox); have GE101 := ge_ hg HB; replace HB := sb_ HB hb; clear hb hbox hg; obtain ⟨hcz9_0, hfz9_0⟩ := d1_ BK101) | ((with_reducible refine gate_callee (f := 114) rfl ?_); refine gl_ (some 8) rfl rfl Tryz.func114 #[.slice A0_0 l0_0.length c0_0, .int .i64 a1] ?_; (with_reducible refine (laws_szRNodeS.calls k _ _ l0_0 a1 t102 _ ?side1 ?side2 A3.o).mono ?_); (case side1 => exact Kd.C_below HR0_0.o (be_ HB.o)); (case side2 => exact HC0_0.o); rintro e w10 ⟨rfl, hb⟩; refine ⟨_, rfl, ?_⟩; replace BK101 := lb_ BK101 hb; replace HB := sb1_ HB GE101 hb; (try clear hb)))
  go_ret
  exact ⟨rt_, be1_ HB.o GE101.o⟩
/-! ### laws_toRx: function 110 -/
def laws_toRx.f (k : Nat) (l0_0 : List (S168)) : Option ((List (S121))) := (laws_toRNodeS.f k l0_0).bind fun t104 => (some t104)
theorem laws_toRx.calls (k : Nat) (A0_0 : Option Addr) (c0_0 : Nat) (l0_0 : List (S168)) (r : List (S121)) (w : World) (hr0_0 : Kd.C k168 w A0_0 l0_0.length l0_0) (hc0_0 : l0_0.length ≤ c0_0) (h : laws_toRx.f k l0_0 = some r) :
  Calls Tryz.prog 110 #[.agg #[.slice A0_0 l0_0.length c0_0]] w fun e w' => ∃ v0_ : Value, e = .returned (.agg #[v0_]) ∧ Kd.S k121 121 w' w.heap.size (fun _ => True) v0_ r ∧ Below w.heap.size w w' := by
 have hu142 := Tryz.underlying142; have hu58 := Tryz.underlying58; have HR0_0 := q_ hr0_0; have HC0_0 := q_ hc0_0; clear hr0_0 hc0_0; have HB := q_ (Below.refl w.heap.size w)
 have H : ((laws_toRNodeS.f k l0_0).bind fun t104 => (some t104)) = some r := h
 clear h; obtain ⟨t104, A2, H⟩ := ob_ H; obtain rfl := Option.some.inj H
 go_enter Tryz.func110, Tryz.ntmps110
 go_wp2_with (first | ((with_reducible refine gate_dst (N := 1) rfl ?_); refine bx_ 1 #[.slice A0_0 l0_0.length c0_0] 142 ?_; intro gb101 hg w3 hbox hb; have BK101 := q_ (hbox); have GE101 := ge_ hg HB; replace HB := sb_ HB hb; clear hb hbox hg) | ((with_reducible refine gate_dst (N := 2) rfl ?_); refine bx_ 2 #[.slice none 0 0] 58 ?_; intro gb102 hg w4 hbox hb; have BK102 := q_ (hbox); have GE102 := ge1_ hg HB GE101; have NB101_102 := nl_ hg BK101; have NB102_101 := ng_ hg BK101; replace BK101 := lb_ BK101 hb; replace HB := sb1_ HB GE101 hb; clear hb hbox hg) | ((with_reducible refine gate_dst (N := 3) rfl ?_); refine bx_ 3 #[.slice none 0 0] 58 ?_; intro gb103 hg w5 hbox hb; have BK103 := q_ (hbox); have GE103 := ge2_ hg HB GE101 GE102; have NB101_103 := nl_ hg BK101; have NB103_101 := ng_ hg BK101; have NB102_103 := nl_ hg BK102; have NB103_102 := ng_ hg BK102; replace BK101 := lb_ BK101 hb; replace BK102 := lb_ BK102 hb; replace HB := sb2_ HB GE101 GE102 hb; clear hb hbox hg; have hnb6 := NB101_102.o; have hnc6 := NB102_101.o; have hnb7 := NB101_103.o; have hnc7 := NB103_101.o; obtain ⟨hcz8_0, hfz8_0⟩ := d1_ BK101) | ((with_reducible refine gate_callee (f := 115) rfl ?_); refine gl_ (some 6) rfl rfl Tryz.func115 #[.slice A0_0 l0_0.length c0_0] ?_; (with_reducible refine (laws_toRNodeS.calls k _ _ l0_0 t104 _ ?side1 ?side2 A2.o).mono ?_); (case side1 => exact Kd.C_below HR0_0.o (be_ HB.o)); (case side2 => exact HC0_0.o); rintro e w9 ⟨v105, rfl, ho0, hb⟩; refine ⟨_, rfl, ?_⟩; have HO106 := q_ (Kd.S_lower ho0 (below_size (be3_ HB.o GE101.o GE102.o GE103.o))); replace BK101 := lb_ BK101 hb; replace BK102 := lb_ BK102 hb; replace BK103 := lb_ BK103 hb; replace HB := sb3_ HB GE101 GE102 GE103 hb; (try clear hb); (try clear ho0); obtain ⟨Ao10, co10, eo10⟩ := Kd.S_slice HO106.o; subst eo10; have hnb11 := NB103_102.o; have hnc11 := NB102_103.o; obtain ⟨hcz12_0, hfz12_0⟩ := d1_ BK103; obtain ⟨hcz13_0, hfz13_0⟩ := d1_ BK102))
 refine bodyPost_ret (results_cell_row rfl _ _ gb102 58 #[.slice Ao10 t104.length co10] (0, 0) _ rfl (by (with_reducible repeat (first | refine blk_drewN ?_ _ | refine blk_drew ?_ | refine blk_alloc ?_ _)); refine blk_put (cs := #[.slice none 0 0]) ?_ 0 _ rfl; (with_reducible repeat (first | refine blk_drewN ?_ _ | refine blk_drew ?_ | refine blk_alloc ?_ _)); refine blk_far ?_ NB102_103.o _; (with_reducible repeat (first | refine blk_drewN ?_ _ | refine blk_drew ?_ | refine blk_alloc ?_ _)); exact BK102.o) Tryz.underlying58 rfl (by kernel_rfl)) rfl ?_
 exact ⟨_, rt_, by (with_reducible repeat (first | apply Kd.S_alloc | apply Kd.S_drewN | apply Kd.S_drew)); exact Kd.S_mono (Kd.S_far (p := ⟨gb102, 0, none⟩) (Kd.S_far (p := ⟨gb103, 0, none⟩) (Kd.S_types (Kd.S_types HO106.o BK103.o (by decide)) BK102.o (by decide)) (fun _ hk => hk.1.2) (.slice Ao10 t104.length co10)) (fun _ hk => hk.2) (.slice Ao10 t104.length co10)) (fun _ hk => trivial), be3_ HB.o GE101.o GE102.o GE103.o⟩
/-! ### laws_eqRx: function 112 -/
def laws_eqRx.f (k : Nat) (l0_0 : List (S121)) (l1_0 : List (S121)) : Option (Bool) := (laws_eqRNodeS.f k l0_0 l1_0).bind fun t103 => (if t103 = true then (some true) else (none))
theorem laws_eqRx.calls (k : Nat) (A0_0 : Option Addr) (c0_0 : Nat) (l0_0 : List (S121)) (A1_0 : Option Addr) (c1_0 : Nat) (l1_0 : List (S121)) (r : Bool) (w : World) (hr0_0 : Kd.C k121 w A0_0 l0_0.length l0_0) (hc0_0 : l0_0.length ≤ c0_0) (hr1_0 : Kd.C k121 w A1_0 l1_0.length l1_0) (hc1_0 : l1_0.length ≤ c1_0) (h : laws_eqRx.f k l0_0 l1_0 = some r) :
  Calls Tryz.prog 112 #[.agg #[.slice A0_0 l0_0.length c0_0], .agg #[.slice A1_0 l1_0.length c1_0]] w fun e w' => e = .returned (.bool r) ∧ Below w.heap.size w w' := by
 have hu58 := Tryz.underlying58; have HR0_0 := q_ hr0_0; have HC0_0 := q_ hc0_0; clear hr0_0 hc0_0; have HR1_0 := q_ hr1_0; have HC1_0 := q_ hc1_0; clear hr1_0 hc1_0; have HB := q_ (Below.refl w.heap.size w)
 have H : ((laws_eqRNodeS.f k l0_0 l1_0).bind fun t103 => (if t103 = true then (some true) else (none))) = some r := h
 clear h; obtain ⟨t103, A3, H⟩ := ob_ H
 by_cases c4 : t103 = true
 ·subst c4; rw [if_pos rfl] at H; obtain rfl := Option.some.inj H
  go_enter Tryz.func112, Tryz.ntmps112
  go_wp2_with (first | ((with_reducible refine gate_dst (N := 2) rfl ?_); refine bx_ 2 #[.slice A0_0 l0_0.length c0_0] 58 ?_; intro gb101 hg w5 hbox hb; have BK101 := q_ (hbox); have GE101 := ge_ hg HB; replace HB := sb_ HB hb; clear hb hbox hg) | ((with_reducible refine gate_dst (N := 3) rfl ?_); refine bx_ 3 #[.slice A1_0 l1_0.length c1_0] 58 ?_; intro gb102 hg w6 hbox hb; have BK102 := q_ (hbox); have GE102 := ge1_ hg HB GE101; have NB101_102 := nl_ hg BK101; have NB102_101 := ng_ hg BK101; replace BK101 := lb_ BK101 hb; replace HB := sb1_ HB GE101 hb; clear hb hbox hg; have hnb7 := NB101_102.o; have hnc7 := NB102_101.o; obtain ⟨hcz8_0, hfz8_0⟩ := d1_ BK101; obtain ⟨hcz9_0, hfz9_0⟩ := d1_ BK102) | ((with_reducible refine gate_callee (f := 116) rfl ?_); refine gl_ (some 9) rfl rfl Tryz.func116 #[.slice A0_0 l0_0.length c0_0, .slice A1_0 l1_0.length c1_0] ?_; (with_reducible refine (laws_eqRNodeS.calls k _ _ l0_0 _ _ l1_0 true _ ?side1 ?side2 ?side3 ?side4 A3.o).mono ?_); (case side1 => exact Kd.C_below HR0_0.o (be_ HB.o)); (case side2 => exact HC0_0.o); (case side3 => exact Kd.C_below HR1_0.o (be_ HB.o)); (case side4 => exact HC1_0.o); rintro e w10 ⟨rfl, hb⟩; refine ⟨_, rfl, ?_⟩; replace BK101 := lb_ BK101 hb; replace BK102 := lb_ BK102 hb; replace HB := sb2_ HB GE101 GE102 hb; (try clear hb)))
  go_ret
  exact ⟨rt_, be2_ HB.o GE101.o GE102.o⟩
 ·replace c4 := Bool.eq_false_iff.mpr c4; subst c4; rw [if_neg nft_] at H
  exact absurd H (by simp)
end Go.Proofs.YtijmhelacmjggaaGreat.P
namespace Go.Proofs.YtijmhelacmjggaaGreat.P
open Go.RowKit Go.Proofs.YtijmhelacmjggaaGreatW.PrintWords Go.Proofs.YtijmhelacmjggaaGreatW.PrintLast Go.Proofs.YtijmhelacmjggaaGreatEv
set_option linter.unusedVariables false
set_option linter.unusedSimpArgs false
def g142 (x : S142) : Prop := (x.f0.length ≤ maxLen ∧ ∀ y ∈ x.f0, g168 y)
def h58 (x : S58) : Prop := (x.f0.length ≤ 9223372036854775807 ∧ ∀ y ∈ x.f0, h121 y)
def cRx (x : S142) : S58 := ⟨(x.f0.map cRNode)⟩
theorem hRx_of_g {x : S142} (hg : g142 x) : h58 (cRx x) :=
  ⟨by simpa [cRx] using Nat.le_trans hg.1 maxLen_le, fun y hy => by
    obtain ⟨z, hz, rfl⟩ := List.mem_map.1 hy
    exact hRNode_of_g (hg.2 z hz)⟩
theorem laws_szRx_ev (v0 : List S168) (a : Int) (h0 : 0 ≤ a) (h1 : a ≤ 1048576) (hb_v0 : v0.length ≤ 9223372036854775807) (hg_v0 : ∀ x ∈ v0, g168 x) : Ev (fun k => laws_szRx.f k v0 a) (if a < (((v0.length + ws wRNode v0) : Nat) : Int) then -1 else a - (((v0.length + ws wRNode v0) : Nat) : Int)) := by
  unfold laws_szRx.f
  rw [ev_bind (laws_szRNodeS_ev v0 _ (by omega) (by omega) hb_v0 hg_v0)]
  simp only [Option.bind_some, ev_ite]
  by_cases c0_ : a < (((v0.length + ws wRNode v0) : Nat) : Int)
  · rw [if_pos c0_, if_pos (by omega)]
    refine ev_some.2 ?_
    (try first | rfl | rw [if_pos (by omega)])
  rw [if_neg c0_, if_neg (by omega)]
  refine ev_some.2 ?_
  (try rw [if_neg (by omega)])
  (try (first | rfl | omega | (congr 1; omega)))
theorem laws_toRx_ev (v0 : List S168) (hw_v0 : (v0.length + ws wRNode v0) ≤ 1048576) : Ev (fun k => laws_toRx.f k v0) (v0.map cRNode) := by
  unfold laws_toRx.f
  rw [ev_bind (laws_toRNodeS_ev v0 hw_v0)]
  exact ev_some.2 rfl
theorem laws_eqRx_ev (v0 : List S121) (hb_v0 : v0.length ≤ 9223372036854775807) (hh_v0 : ∀ x ∈ v0, h121 x) : Ev (fun k => laws_eqRx.f k v0 v0) true := by
  unfold laws_eqRx.f
  (try simp only [if_true, ev_ite, bne_self_eq_false, Bool.false_eq_true, if_false, ev_some])
  rw [ev_bind (laws_eqRNodeS_ev v0 hb_v0 hh_v0)]
  (try simp only [if_true, ev_ite, bne_self_eq_false, Bool.false_eq_true, if_false, ev_some])
end Go.Proofs.YtijmhelacmjggaaGreat.P
namespace Go.Proofs.YtijmhelacmjggaaGreat.P
open Go.RowKit Go.Proofs.YtijmhelacmjggaaGreatW.PrintWords Go.Proofs.YtijmhelacmjggaaGreatW.PrintLast Go.Proofs.YtijmhelacmjggaaGreatW.PrintMore
attribute [local go_sem] max2_int min2_int max_two min_two max_three min_three max_four min_four
set_option linter.unusedVariables false
set_option linter.unusedSimpArgs false
/-! ### laws_szRule: function 98 -/
def laws_szRule.f (k : Nat) (a0_0 : ByteArray) (l0_1 : List (S168)) (a0_2 : Bool) (a0_3 : Int) (a0_4 : ByteArray) (a1 : Int) : Option (Int) := if (wrap64 (a1 - (a0_0.size : Int))) < 0 then (some (-1)) else ((laws_szRx.f k l0_1 (wrap64 (a1 - (a0_0.size : Int)))).bind fun t102 => (if t102 < 0 then (some (-1)) else (if (wrap64 (t102 - (a0_4.size : Int))) < 0 then (some (-1)) else (some (wrap64 (t102 - (a0_4.size : Int)))))))
theorem laws_szRule.calls (k : Nat) (a0_0 : ByteArray) (A0_1 : Option Addr) (c0_1 : Nat) (l0_1 : List (S168)) (a0_2 : Bool) (a0_3 : Int) (a0_4 : ByteArray) (a1 : Int) (r : Int) (w : World) (hr0_1 : Kd.C k168 w A0_1 l0_1.length l0_1) (hc0_1 : l0_1.length ≤ c0_1) (h : laws_szRule.f k a0_0 l0_1 a0_2 a0_3 a0_4 a1 = some r) :
  Calls Tryz.prog 98 #[.agg #[.string a0_0, .slice A0_1 l0_1.length c0_1, .bool a0_2, .int .i64 a0_3, .string a0_4], .int .i64 a1] w fun e w' => e = .returned (.int .i64 r) ∧ Below w.heap.size w w' := by
 have hu144 := Tryz.underlying144; have hu142 := Tryz.underlying142; have HR0_1 := q_ hr0_1; have HC0_1 := q_ hc0_1; clear hr0_1 hc0_1; have HB := q_ (Below.refl w.heap.size w)
 have H : (if (wrap64 (a1 - (a0_0.size : Int))) < 0 then (some (-1)) else ((laws_szRx.f k l0_1 (wrap64 (a1 - (a0_0.size : Int)))).bind fun t102 => (if t102 < 0 then (some (-1)) else (if (wrap64 (t102 - (a0_4.size : Int))) < 0 then (some (-1)) else (some (wrap64 (t102 - (a0_4.size : Int)))))))) = some r := h
 clear h
 by_cases c3 : (wrap64 (a1 - (a0_0.size : Int))) < 0
 ·rw [if_pos c3] at H; have c3b0 := dt_ c3; clear c3; obtain rfl := Option.some.inj H
  go_enter Tryz.func98, Tryz.ntmps98
  go_wp2_with (first | ((with_reducible refine gate_dst (N := 2) rfl ?_); refine bx_ 2 #[.string a0_0, .slice A0_1 l0_1.length c0_1, .bool a0_2, .int .i64 a0_3, .string a0_4] 144 ?_; intro gb101 hg w4 hbox hb; have BK101 := q_ (hbox); have GE101 := ge_ hg HB; replace HB := sb_ HB hb; clear hb hbox hg; obtain ⟨hcz5_0, hcz5_1, hcz5_2, hcz5_3, hcz5_4, hfz5_0, hfz5_1, hfz5_2, hfz5_3, hfz5_4⟩ := d5_ BK101))
  go_ret
  exact ⟨rt_, be1_ HB.o GE101.o⟩
 ·rw [if_neg c3] at H; have c3b0 := df_ c3; clear c3; obtain ⟨t102, A6, H⟩ := ob_ H
  by_cases c7 : t102 < 0
  ·rw [if_pos c7] at H; have c7b0 := dt_ c7; clear c7; obtain rfl := Option.some.inj H
   go_enter Tryz.func98, Tryz.ntmps98
   go_wp2_with (first | ((with_reducible refine gate_dst (N := 2) rfl ?_); refine bx_ 2 #[.string a0_0, .slice A0_1 l0_1.length c0_1, .bool a0_2, .int .i64 a0_3, .string a0_4] 144 ?_; intro gb101 hg w8 hbox hb; have BK101 := q_ (hbox); have GE101 := ge_ hg HB; replace HB := sb_ HB hb; clear hb hbox hg; obtain ⟨hcz9_0, hcz9_1, hcz9_2, hcz9_3, hcz9_4, hfz9_0, hfz9_1, hfz9_2, hfz9_3, hfz9_4⟩ := d5_ BK101) | ((with_reducible refine gate_callee (f := 109) rfl ?_); refine gl_ (some 15) rfl rfl Tryz.func109 #[.agg #[.slice A0_1 l0_1.length c0_1], .int .i64 (wrap64 (a1 - (a0_0.size : Int)))] ?_; (with_reducible refine (laws_szRx.calls k _ _ l0_1 (wrap64 (a1 - (a0_0.size : Int))) t102 _ ?side1 ?side2 A6.o).mono ?_); (case side1 => exact Kd.C_below HR0_1.o (be_ HB.o)); (case side2 => exact HC0_1.o); rintro e w10 ⟨rfl, hb⟩; refine ⟨_, rfl, ?_⟩; replace BK101 := lb_ BK101 hb; replace HB := sb1_ HB GE101 hb; (try clear hb)))
   go_ret
   exact ⟨rt_, be1_ HB.o GE101.o⟩
  ·rw [if_neg c7] at H; have c7b0 := df_ c7; clear c7
   by_cases c11 : (wrap64 (t102 - (a0_4.size : Int))) < 0
   ·rw [if_pos c11] at H; have c11b0 := dt_ c11; clear c11; obtain rfl := Option.some.inj H
    go_enter Tryz.func98, Tryz.ntmps98
    go_wp2_with (first | ((with_reducible refine gate_dst (N := 2) rfl ?_); refine bx_ 2 #[.string a0_0, .slice A0_1 l0_1.length c0_1, .bool a0_2, .int .i64 a0_3, .string a0_4] 144 ?_; intro gb101 hg w12 hbox hb; have BK101 := q_ (hbox); have GE101 := ge_ hg HB; replace HB := sb_ HB hb; clear hb hbox hg; obtain ⟨hcz13_0, hcz13_1, hcz13_2, hcz13_3, hcz13_4, hfz13_0, hfz13_1, hfz13_2, hfz13_3, hfz13_4⟩ := d5_ BK101) | ((with_reducible refine gate_callee (f := 109) rfl ?_); refine gl_ (some 15) rfl rfl Tryz.func109 #[.agg #[.slice A0_1 l0_1.length c0_1], .int .i64 (wrap64 (a1 - (a0_0.size : Int)))] ?_; (with_reducible refine (laws_szRx.calls k _ _ l0_1 (wrap64 (a1 - (a0_0.size : Int))) t102 _ ?side1 ?side2 A6.o).mono ?_); (case side1 => exact Kd.C_below HR0_1.o (be_ HB.o)); (case side2 => exact HC0_1.o); rintro e w14 ⟨rfl, hb⟩; refine ⟨_, rfl, ?_⟩; replace BK101 := lb_ BK101 hb; replace HB := sb1_ HB GE101 hb; (try clear hb); obtain ⟨hcz15_0, hcz15_1, hcz15_2, hcz15_3, hcz15_4, hfz15_0, hfz15_1, hfz15_2, hfz15_3, hfz15_4⟩ := d5_ BK101))
    go_ret
    exact ⟨rt_, be1_ HB.o GE101.o⟩
   ·rw [if_neg c11] at H; have c11b0 := df_ c11; clear c11; obtain rfl := Option.some.inj H
    go_enter Tryz.func98, Tryz.ntmps98
    go_wp2_with (first | ((with_reducible refine gate_dst (N := 2) rfl ?_); refine bx_ 2 #[.string a0_0, .slice A0_1 l0_1.length c0_1, .bool a0_2, .int .i64 a0_3, .string a0_4] 144 ?_; intro gb101 hg w16 hbox hb; have BK101 := q_ (hbox); have GE101 := ge_ hg HB; replace HB := sb_ HB hb; clear hb hbox hg; obtain ⟨hcz17_0, hcz17_1, hcz17_2, hcz17_3, hcz17_4, hfz17_0, hfz17_1, hfz17_2, hfz17_3, hfz17_4⟩ := d5_ BK101) | ((with_reducible refine gate_callee (f := 109) rfl ?_); refine gl_ (some 15) rfl rfl Tryz.func109 #[.agg #[.slice A0_1 l0_1.length c0_1], .int .i64 (wrap64 (a1 - (a0_0.size : Int)))] ?_; (with_reducible refine (laws_szRx.calls k _ _ l0_1 (wrap64 (a1 - (a0_0.size : Int))) t102 _ ?side1 ?side2 A6.o).mono ?_); (case side1 => exact Kd.C_below HR0_1.o (be_ HB.o)); (case side2 => exact HC0_1.o); rintro e w18 ⟨rfl, hb⟩; refine ⟨_, rfl, ?_⟩; replace BK101 := lb_ BK101 hb; replace HB := sb1_ HB GE101 hb; (try clear hb); obtain ⟨hcz19_0, hcz19_1, hcz19_2, hcz19_3, hcz19_4, hfz19_0, hfz19_1, hfz19_2, hfz19_3, hfz19_4⟩ := d5_ BK101))
    go_ret
    exact ⟨rt_, be1_ HB.o GE101.o⟩
/-! ### laws_szRuleS: function 76 -/
def laws_szRuleS.l0 : Nat → List (S144) → Int → Int → Option (Int)
 | 0, _, _, _ => none
 | k + 1, x0, x1, x5 => if x5 < (x0.length : Int) then (if 0 ≤ x5 then ((laws_szRule.f k ((rd_T144 x0 x5).f0) ((rd_T144 x0 x5).f1.f0) ((rd_T144 x0 x5).f2) ((rd_T144 x0 x5).f3) ((rd_T144 x0 x5).f4) x1).bind fun t102 => (if t102 < 0 then (some (-1)) else (laws_szRuleS.l0 k x0 t102 (wrap64 (x5 + 1))))) else (none)) else (some x1)
def laws_szRuleS.f (k : Nat) (l0 : List (S144)) (a1 : Int) : Option (Int) := if (wrap64 (a1 - (l0.length : Int))) < 0 then (some (-1)) else (laws_szRuleS.l0 k l0 (wrap64 (a1 - (l0.length : Int))) 0)
theorem laws_szRuleS.calls (k : Nat) (A0 : Option Addr) (c0 : Nat) (l0 : List (S144)) (a1 : Int) (r : Int) (w : World) (hr0 : Kd.C k144 w A0 l0.length l0) (hc0 : l0.length ≤ c0) (h : laws_szRuleS.f k l0 a1 = some r) :
  Calls Tryz.prog 76 #[.slice A0 l0.length c0, .int .i64 a1] w fun e w' => e = .returned (.int .i64 r) ∧ Below w.heap.size w w' := by
 have hu144 := Tryz.underlying144; have HR0 := q_ hr0; have HC0 := q_ hc0; clear hr0 hc0; have HB := q_ (Below.refl w.heap.size w)
 have H : (if (wrap64 (a1 - (l0.length : Int))) < 0 then (some (-1)) else (laws_szRuleS.l0 k l0 (wrap64 (a1 - (l0.length : Int))) 0)) = some r := h
 clear h
 by_cases c3 : (wrap64 (a1 - (l0.length : Int))) < 0
 ·rw [if_pos c3] at H; have c3b0 := dt_ c3; clear c3; obtain rfl := Option.some.inj H
  go_enter Tryz.func76, Tryz.ntmps76
  go_wp2
  go_ret
  exact ⟨rt_, be_ HB.o⟩
 ·rw [if_neg c3] at H; have c3b0 := df_ c3; clear c3
  have H' := q_ H
  clear H
  go_enter Tryz.func76, Tryz.ntmps76
  go_wp2
  go_loopg [1, 5] k (fun kq v1 v5 w' => ∃ (x1_1 : Int) (x5_1 : Int), v1 = .int .i64 x1_1 ∧ v5 = .int .i64 x5_1 ∧ J0 (laws_szRuleS.l0 kq l0 x1_1 x5_1 = some r) ∧ J0 (kq ≤ k) ∧ J0 (Below w.heap.size w w'))
  case atStart => exact ⟨(wrap64 (a1 - (l0.length : Int))), (0), rs_, rs_, H', ⟨Nat.le_refl _⟩, ⟨be_ HB.o⟩⟩
  case round =>
   clear H'; (try clear c3); (try clear c3b0); obtain ⟨x1_1, x5_1, rfl, rfl, HA, HK1, HB⟩ := hrel
   cases gk with
   | zero => exact absurd HA.o (by simp [laws_szRuleS.l0])
   | succ k1 =>
    have H := HA.o; clear HA
    simp only [laws_szRuleS.l0] at H
    by_cases c4 : x5_1 < (l0.length : Int)
    ·rw [if_pos c4] at H; have c4b0 := dt_ c4; clear c4
     by_cases c5 : 0 ≤ x5_1
     ·rw [if_pos c5] at H; have c5b0 := dt_ c5; clear c5; obtain ⟨t102, A6, H⟩ := ob_ H
      by_cases c7 : t102 < 0
      ·rw [if_pos c7] at H; have c7b0 := dt_ c7; clear c7; obtain rfl := Option.some.inj H
       have p101 : 0 ≤ (x5_1 : Int) := of_decide_eq_true as_
       have q101 : x5_1 < (l0.length : Int) := of_decide_eq_true as_
       obtain ⟨ad101, A101_1, c101_1, e101, hx101_0, hx101_1, hx101_2, hx101_3, hx101_4, hl101_1, hi101_1⟩ := at_T144 HR0.o x5_1 p101 q101
       cases e101
       replace hx101_0 := mv_ HB.o hx101_0; replace hx101_1 := mv_ HB.o hx101_1; replace hx101_2 := mv_ HB.o hx101_2; replace hx101_3 := mv_ HB.o hx101_3; replace hx101_4 := mv_ HB.o hx101_4; have HR101_1 := q_ hi101_1; have HC101_1 := q_ hl101_1; clear hi101_1 hl101_1; replace p101 := eq_true p101; replace q101 := eq_true q101
       go_wp2_with (first | ((with_reducible refine gate_callee (f := 98) rfl ?_); refine gl_ (some 23) rfl rfl Tryz.func98 #[.agg #[.string ((rd_T144 l0 x5_1).f0), .slice A101_1 ((rd_T144 l0 x5_1).f1.f0).length c101_1, .bool ((rd_T144 l0 x5_1).f2), .int .i64 ((rd_T144 l0 x5_1).f3), .string ((rd_T144 l0 x5_1).f4)], .int .i64 x1_1] ?_; (with_reducible refine (laws_szRule.calls k1 ((rd_T144 l0 x5_1).f0) _ _ ((rd_T144 l0 x5_1).f1.f0) ((rd_T144 l0 x5_1).f2) ((rd_T144 l0 x5_1).f3) ((rd_T144 l0 x5_1).f4) x1_1 t102 _ ?side1 ?side2 A6.o).mono ?_); (case side1 => exact Kd.C_below HR101_1.o (be_ HB.o)); (case side2 => exact HC101_1.o); rintro e w8 ⟨rfl, hb⟩; refine ⟨_, rfl, ?_⟩; replace HB := sb_ HB hb; (try clear hb)))
       go_ret
       exact ⟨rt_, be_ HB.o⟩
      ·rw [if_neg c7] at H; have c7b0 := df_ c7; clear c7
       have H' := q_ H
       clear H
       have p101 : 0 ≤ (x5_1 : Int) := of_decide_eq_true as_
       have q101 : x5_1 < (l0.length : Int) := of_decide_eq_true as_
       obtain ⟨ad101, A101_1, c101_1, e101, hx101_0, hx101_1, hx101_2, hx101_3, hx101_4, hl101_1, hi101_1⟩ := at_T144 HR0.o x5_1 p101 q101
       cases e101
       replace hx101_0 := mv_ HB.o hx101_0; replace hx101_1 := mv_ HB.o hx101_1; replace hx101_2 := mv_ HB.o hx101_2; replace hx101_3 := mv_ HB.o hx101_3; replace hx101_4 := mv_ HB.o hx101_4; have HR101_1 := q_ hi101_1; have HC101_1 := q_ hl101_1; clear hi101_1 hl101_1; replace p101 := eq_true p101; replace q101 := eq_true q101
       go_wp2_with (first | ((with_reducible refine gate_callee (f := 98) rfl ?_); refine gl_ (some 23) rfl rfl Tryz.func98 #[.agg #[.string ((rd_T144 l0 x5_1).f0), .slice A101_1 ((rd_T144 l0 x5_1).f1.f0).length c101_1, .bool ((rd_T144 l0 x5_1).f2), .int .i64 ((rd_T144 l0 x5_1).f3), .string ((rd_T144 l0 x5_1).f4)], .int .i64 x1_1] ?_; (with_reducible refine (laws_szRule.calls k1 ((rd_T144 l0 x5_1).f0) _ _ ((rd_T144 l0 x5_1).f1.f0) ((rd_T144 l0 x5_1).f2) ((rd_T144 l0 x5_1).f3) ((rd_T144 l0 x5_1).f4) x1_1 t102 _ ?side1 ?side2 A6.o).mono ?_); (case side1 => exact Kd.C_below HR101_1.o (be_ HB.o)); (case side2 => exact HC101_1.o); rintro e w9 ⟨rfl, hb⟩; refine ⟨_, rfl, ?_⟩; replace HB := sb_ HB hb; (try clear hb)))
       go_roundg k1
       case measure => have := HK1.o; omega
       case rel => exact ⟨(t102), (wrap64 (x5_1 + 1)), rs_, rs_, H', ⟨by have := HK1.o; omega⟩, ⟨be_ HB.o⟩⟩
     ·rw [if_neg c5] at H
      exact absurd H (by simp)
    ·rw [if_neg c4] at H; have c4b0 := df_ c4; clear c4; obtain rfl := Option.some.inj H
     go_wp2
     go_ret
     exact ⟨rt_, be_ HB.o⟩
/-! ### laws_toRule: function 100 -/
def laws_toRule.f (k : Nat) (a0_0 : ByteArray) (l0_1 : List (S168)) (a0_2 : Bool) (a0_3 : Int) (a0_4 : ByteArray) : Option (ByteArray × (List (S121)) × Bool × Int × ByteArray) := (laws_toRx.f k l0_1).bind fun t104 => (some (a0_0, t104, a0_2, a0_3, a0_4))
theorem laws_toRule.calls (k : Nat) (a0_0 : ByteArray) (A0_1 : Option Addr) (c0_1 : Nat) (l0_1 : List (S168)) (a0_2 : Bool) (a0_3 : Int) (a0_4 : ByteArray) (r1 : ByteArray) (r2 : List (S121)) (r3 : Bool) (r4 : Int) (r5 : ByteArray) (w : World) (hr0_1 : Kd.C k168 w A0_1 l0_1.length l0_1) (hc0_1 : l0_1.length ≤ c0_1) (h : laws_toRule.f k a0_0 l0_1 a0_2 a0_3 a0_4 = some (r1, r2, r3, r4, r5)) :
  Calls Tryz.prog 100 #[.agg #[.string a0_0, .slice A0_1 l0_1.length c0_1, .bool a0_2, .int .i64 a0_3, .string a0_4]] w fun e w' => ∃ v1_ : Value, e = .returned (.agg #[.string r1, v1_, .bool r3, .int .i64 r4, .string r5]) ∧ Kd.S k121 121 w' w.heap.size (fun _ => True) v1_ r2 ∧ Below w.heap.size w w' := by
 have hu144 := Tryz.underlying144; have hu64 := Tryz.underlying64; have hu142 := Tryz.underlying142; have hu58 := Tryz.underlying58; have HR0_1 := q_ hr0_1; have HC0_1 := q_ hc0_1; clear hr0_1 hc0_1; have HB := q_ (Below.refl w.heap.size w)
 have H : ((laws_toRx.f k l0_1).bind fun t104 => (some (a0_0, t104, a0_2, a0_3, a0_4))) = some (r1, r2, r3, r4, r5) := h
 clear h; obtain ⟨t104, A2, H⟩ := ob_ H
 simp only [Option.some.injEq, Prod.mk.injEq] at H
 obtain ⟨rfl, rfl, rfl, rfl, rfl⟩ := H
 go_enter Tryz.func100, Tryz.ntmps100
 go_wp2_with (first | ((with_reducible refine gate_dst (N := 1) rfl ?_); refine bx_ 1 #[.string a0_0, .slice A0_1 l0_1.length c0_1, .bool a0_2, .int .i64 a0_3, .string a0_4] 144 ?_; intro gb101 hg w3 hbox hb; have BK101 := q_ (hbox); have GE101 := ge_ hg HB; replace HB := sb_ HB hb; clear hb hbox hg) | ((with_reducible refine gate_dst (N := 2) rfl ?_); refine bx_ 2 #[.string (⟨#[]⟩ : ByteArray), .slice none 0 0, .bool false, .int .i64 0, .string (⟨#[]⟩ : ByteArray)] 64 ?_; intro gb102 hg w4 hbox hb; have BK102 := q_ (hbox); have GE102 := ge1_ hg HB GE101; have NB101_102 := nl_ hg BK101; have NB102_101 := ng_ hg BK101; replace BK101 := lb_ BK101 hb; replace HB := sb1_ HB GE101 hb; clear hb hbox hg) | ((with_reducible refine gate_dst (N := 3) rfl ?_); refine bx_ 3 #[.string (⟨#[]⟩ : ByteArray), .slice none 0 0, .bool false, .int .i64 0, .string (⟨#[]⟩ : ByteArray)] 64 ?_; intro gb103 hg w5 hbox hb; have BK103 := q_ (hbox); have GE103 := ge2_ hg HB GE101 GE102; have NB101_103 := nl_ hg BK101; have NB103_101 := ng_ hg BK101; have NB102_103 := nl_ hg BK102; have NB103_102 := ng_ hg BK102; replace BK101 := lb_ BK101 hb; replace BK102 := lb_ BK102 hb; replace HB := sb2_ HB GE101 GE102 hb; clear hb hbox hg; have hnb6 := NB101_102.o; have hnc6 := NB102_101.o; have hnb7 := NB101_103.o; have hnc7 := NB103_101.o; obtain ⟨hcz8_0, hcz8_1, hcz8_2, hcz8_3, hcz8_4, hfz8_0, hfz8_1, hfz8_2, hfz8_3, hfz8_4⟩ := d5_ BK101; have hnb9 := NB103_102.o; have hnc9 := NB102_103.o; obtain ⟨hcz10_0, hcz10_1, hcz10_2, hcz10_3, hcz10_4, hfz10_0, hfz10_1, hfz10_2, hfz10_3, hfz10_4⟩ := d5_ BK103) | ((with_reducible refine gate_callee (f := 110) rfl ?_); refine gl_ (some 9) rfl rfl Tryz.func110 #[.agg #[.slice A0_1 l0_1.length c0_1]] ?_; (with_reducible refine (laws_toRx.calls k _ _ l0_1 t104 _ ?side1 ?side2 A2.o).mono ?_); (case side1 => exact Kd.C_below HR0_1.o (be3_ HB.o GE101.o GE102.o GE103.o)); (case side2 => exact HC0_1.o); rintro e w11 ⟨v105, rfl, ho0, hb⟩; refine ⟨_, rfl, ?_⟩; have HO106 := q_ (Kd.S_lower ho0 (below_size (be3_ HB.o GE101.o GE102.o GE103.o))); replace BK101 := q_ (blk_below (g := gb101) (o := .cells #[.string a0_0, .slice A0_1 l0_1.length c0_1, .bool a0_2, .int .i64 a0_3, .string a0_4] 144 (0, 0)) (by (with_reducible repeat (first | refine blk_drewN ?_ _ | refine blk_drew ?_ | refine blk_alloc ?_ _)); refine blk_far ?_ NB101_103.o _; (with_reducible repeat (first | refine blk_drewN ?_ _ | refine blk_drew ?_ | refine blk_alloc ?_ _)); exact BK101.o) hb); replace BK102 := q_ (blk_below (g := gb102) (o := .cells #[.string (⟨#[]⟩ : ByteArray), .slice none 0 0, .bool false, .int .i64 0, .string (⟨#[]⟩ : ByteArray)] 64 (0, 0)) (by (with_reducible repeat (first | refine blk_drewN ?_ _ | refine blk_drew ?_ | refine blk_alloc ?_ _)); refine blk_far ?_ NB102_103.o _; (with_reducible repeat (first | refine blk_drewN ?_ _ | refine blk_drew ?_ | refine blk_alloc ?_ _)); exact BK102.o) hb); replace BK103 := q_ (blk_below (g := gb103) (o := .cells #[.string a0_0, .slice none 0 0, .bool false, .int .i64 0, .string (⟨#[]⟩ : ByteArray)] 64 (0, 0)) (by (with_reducible repeat (first | refine blk_drewN ?_ _ | refine blk_drew ?_ | refine blk_alloc ?_ _)); refine blk_put (cs := #[.string (⟨#[]⟩ : ByteArray), .slice none 0 0, .bool false, .int .i64 0, .string (⟨#[]⟩ : ByteArray)]) ?_ 0 _ rfl; (with_reducible repeat (first | refine blk_drewN ?_ _ | refine blk_drew ?_ | refine blk_alloc ?_ _)); exact BK103.o) hb); replace HB := sb3_ HB GE101 GE102 GE103 hb; (try clear hb); (try clear ho0); obtain ⟨Ao12, co12, eo12⟩ := Kd.S_slice HO106.o; subst eo12; obtain ⟨hcz13_0, hcz13_1, hcz13_2, hcz13_3, hcz13_4, hfz13_0, hfz13_1, hfz13_2, hfz13_3, hfz13_4⟩ := d5_ BK103; obtain ⟨hcz14_0, hcz14_1, hcz14_2, hcz14_3, hcz14_4, hfz14_0, hfz14_1, hfz14_2, hfz14_3, hfz14_4⟩ := d5_ BK101; obtain ⟨hcz15_0, hcz15_1, hcz15_2, hcz15_3, hcz15_4, hfz15_0, hfz15_1, hfz15_2, hfz15_3, hfz15_4⟩ := d5_ BK102))
 refine bodyPost_ret (results_cell_row rfl _ _ gb102 64 #[.string a0_0, .slice Ao12 t104.length co12, .bool a0_2, .int .i64 a0_3, .string a0_4] (0, 0) _ rfl (by (with_reducible repeat (first | refine blk_drewN ?_ _ | refine blk_drew ?_ | refine blk_alloc ?_ _)); refine blk_put (cs := #[.string a0_0, .slice Ao12 t104.length co12, .bool a0_2, .int .i64 a0_3, .string (⟨#[]⟩ : ByteArray)]) ?_ 4 _ rfl; (with_reducible repeat (first | refine blk_drewN ?_ _ | refine blk_drew ?_ | refine blk_alloc ?_ _)); refine blk_put (cs := #[.string a0_0, .slice Ao12 t104.length co12, .bool a0_2, .int .i64 0, .string (⟨#[]⟩ : ByteArray)]) ?_ 3 _ rfl; (with_reducible repeat (first | refine blk_drewN ?_ _ | refine blk_drew ?_ | refine blk_alloc ?_ _)); refine blk_put (cs := #[.string a0_0, .slice Ao12 t104.length co12, .bool false, .int .i64 0, .string (⟨#[]⟩ : ByteArray)]) ?_ 2 _ rfl; (with_reducible repeat (first | refine blk_drewN ?_ _ | refine blk_drew ?_ | refine blk_alloc ?_ _)); refine blk_put (cs := #[.string a0_0, .slice none 0 0, .bool false, .int .i64 0, .string (⟨#[]⟩ : ByteArray)]) ?_ 1 _ rfl; (with_reducible repeat (first | refine blk_drewN ?_ _ | refine blk_drew ?_ | refine blk_alloc ?_ _)); refine blk_put (cs := #[.string (⟨#[]⟩ : ByteArray), .slice none 0 0, .bool false, .int .i64 0, .string (⟨#[]⟩ : ByteArray)]) ?_ 0 _ rfl; (with_reducible repeat (first | refine blk_drewN ?_ _ | refine blk_drew ?_ | refine blk_alloc ?_ _)); refine blk_far ?_ NB102_103.o _; (with_reducible repeat (first | refine blk_drewN ?_ _ | refine blk_drew ?_ | refine blk_alloc ?_ _)); refine blk_far ?_ NB102_103.o _; (with_reducible repeat (first | refine blk_drewN ?_ _ | refine blk_drew ?_ | refine blk_alloc ?_ _)); refine blk_far ?_ NB102_103.o _; (with_reducible repeat (first | refine blk_drewN ?_ _ | refine blk_drew ?_ | refine blk_alloc ?_ _)); refine blk_far ?_ NB102_103.o _; (with_reducible repeat (first | refine blk_drewN ?_ _ | refine blk_drew ?_ | refine blk_alloc ?_ _)); exact BK102.o) Tryz.underlying64 rfl (by kernel_rfl)) rfl ?_
 exact ⟨_, rt_, by (with_reducible repeat (first | apply Kd.S_alloc | apply Kd.S_drewN | apply Kd.S_drew)); exact Kd.S_mono (Kd.S_far (p := ⟨gb102, 4, none⟩) (Kd.S_far (p := ⟨gb102, 3, none⟩) (Kd.S_far (p := ⟨gb102, 2, none⟩) (Kd.S_far (p := ⟨gb102, 1, none⟩) (Kd.S_far (p := ⟨gb102, 0, none⟩) (Kd.S_far (p := ⟨gb103, 4, none⟩) (Kd.S_far (p := ⟨gb103, 3, none⟩) (Kd.S_far (p := ⟨gb103, 2, none⟩) (Kd.S_far (p := ⟨gb103, 1, none⟩) (Kd.S_types (Kd.S_types HO106.o BK103.o (by decide)) BK102.o (by decide)) (fun _ hk => hk.1.2) (.slice Ao12 t104.length co12)) (fun _ hk => hk.1.2) (.bool a0_2)) (fun _ hk => hk.1.2) (.int .i64 a0_3)) (fun _ hk => hk.1.2) (.string a0_4)) (fun _ hk => hk.2) (.string a0_0)) (fun _ hk => hk.2) (.slice Ao12 t104.length co12)) (fun _ hk => hk.2) (.bool a0_2)) (fun _ hk => hk.2) (.int .i64 a0_3)) (fun _ hk => hk.2) (.string a0_4)) (fun _ hk => trivial), be3_ HB.o GE101.o GE102.o GE103.o⟩
/-! ### laws_toRuleS: function 81 -/
def laws_toRuleS.l0 : Nat → List (S144) → List (S64) → Int → Option ((List (S64)))
 | 0, _, _, _ => none
 | k + 1, x0, x3, x4 => if x4 < (x0.length : Int) then (if 0 ≤ x4 then ((laws_toRule.f k ((rd_T144 x0 x4).f0) ((rd_T144 x0 x4).f1.f0) ((rd_T144 x0 x4).f2) ((rd_T144 x0 x4).f3) ((rd_T144 x0 x4).f4)).bind fun bt105 => (if x4 < (x3.length : Int) then (laws_toRuleS.l0 k x0 (x3.set (x4 : Int).toNat (⟨bt105.1, (⟨bt105.2.1⟩ : S58), bt105.2.2.1, bt105.2.2.2.1, bt105.2.2.2.2⟩ : S64)) (wrap64 (x4 + 1))) else (none))) else (none)) else (some x3)
def laws_toRuleS.f (k : Nat) (l0 : List (S144)) : Option ((List (S64))) := if 0 ≤ (l0.length : Int) then (if ((l0.length : Int) : Int).toNat ≤ 3909374676536 then (laws_toRuleS.l0 k l0 (List.replicate ((l0.length : Int) : Int).toNat z64) 0) else (none)) else (none)
theorem laws_toRuleS.calls (k : Nat) (A0 : Option Addr) (c0 : Nat) (l0 : List (S144)) (r : List (S64)) (w : World) (hr0 : Kd.C k144 w A0 l0.length l0) (hc0 : l0.length ≤ c0) (h : laws_toRuleS.f k l0 = some r) :
  Calls Tryz.prog 81 #[.slice A0 l0.length c0] w fun e w' => ∃ v0_ : Value, e = .returned (v0_) ∧ Kd.R k64 64 w' w.heap.size (fun _ => True) v0_ r ∧ Below w.heap.size w w' := by
 have hu144 := Tryz.underlying144; have hu64 := Tryz.underlying64; have HR0 := q_ hr0; have HC0 := q_ hc0; clear hr0 hc0; have HB := q_ (Below.refl w.heap.size w)
 have H : (if 0 ≤ (l0.length : Int) then (if ((l0.length : Int) : Int).toNat ≤ 3909374676536 then (laws_toRuleS.l0 k l0 (List.replicate ((l0.length : Int) : Int).toNat z64) 0) else (none)) else (none)) = some r := h
 clear h
 by_cases c2 : 0 ≤ (l0.length : Int)
 ·rw [if_pos c2] at H; have c2b0 := eq_true c2; have c2b1 := dt_ c2; clear c2
  by_cases c3 : ((l0.length : Int) : Int).toNat ≤ 3909374676536
  ·rw [if_pos c3] at H; have c3b0 := eq_true c3; have c3b1 := dt_ c3; clear c3
   obtain ⟨y101, hy101⟩ : ∃ y_ : List (S64), y_ = (List.replicate ((l0.length : Int) : Int).toNat z64) := ⟨_, rfl⟩
   replace H : (laws_toRuleS.l0 k l0 y101 0) = some r := by first | (rw [hy101]; with_reducible exact H) | (have H2_ := (Option.bind_some _ _).symm.trans H; rw [hy101]; with_reducible exact H2_) | (have H2_ := (Option.bind_some _ _).symm.trans H; with_reducible exact H2_) | with_reducible exact H | (rw [hy101]; exact H) | exact H
   have Ny101 := q_ hy101; clear hy101
   have H' := q_ H
   clear H
   go_enter Tryz.func81, Tryz.ntmps81
   go_wp2_with (((with_reducible refine gate_dst (N := 7) rfl ?_); refine Kd.R_make k64 _ 64 rfl (N := 7) rfl 60 _ _ rfl (l0.length : Int) rfl rfl Tryz.underlying60 (.agg #[(.string ⟨#[]⟩), (.slice none 0 0), (.bool false), (.int .i64 0), (.string ⟨#[]⟩)]) 72 info64 rfl (by decide) (by omega) z64 (ok := fun _ => True) (okp := fun _ => True) (k64_mkM _ _ _ z64 (Kd.R_nil _ _ _ _ _)) (fun _ hk => hk) trivial (of_decide_eq_true as_) (Nat.le_trans (Nat.mul_le_mul_right _ (of_decide_eq_true as_ : (l0.length : Int).toNat ≤ 3909374676536)) (by omega)) (Below.refl _ _) (Nat.le_refl _) ?_; intro v102 w4 ho5 hb hg_ hnew_; clear hg_ hnew_; (first | rw [← Ny101.o] at ho5 | (simp only [Int.reduceToNat] at ho5; rw [← Ny101.o] at ho5)); have HO103 := q_ (Kd.R_lower ho5 (below_size (be_ HB.o))); replace HB := sb_ HB hb; clear hb ho5))
   go_loopg [4] k (fun kq v4 w' => ∃ (x3_1 : List (S64)) (x4_1 : Int), v4 = .int .i64 x4_1 ∧ J0 (laws_toRuleS.l0 kq l0 x3_1 x4_1 = some r) ∧ J0 (kq ≤ k) ∧ J0 (Kd.R k64 64 w' w.heap.size (fun _ => True) v102 x3_1) ∧ J0 (Below w.heap.size w w'))
   case atStart => exact ⟨(y101), (0), rs_, H', ⟨Nat.le_refl _⟩, ⟨ra_ HO103.o⟩, ⟨be_ HB.o⟩⟩
   case round =>
    clear H'; (try clear c2); (try clear c2b0); (try clear c2b1); (try clear c3); (try clear c3b0); (try clear c3b1); obtain ⟨x3_1, x4_1, rfl, HA, HK1, HO_3, HB⟩ := hrel
    cases gk with
    | zero => exact absurd HA.o (by simp [laws_toRuleS.l0])
    | succ k1 =>
     have H := HA.o; clear HA
     simp only [laws_toRuleS.l0] at H
     by_cases c6 : x4_1 < (l0.length : Int)
     ·rw [if_pos c6] at H; have c6b0 := dt_ c6; clear c6
      by_cases c7 : 0 ≤ x4_1
      ·rw [if_pos c7] at H; have c7b0 := dt_ c7; clear c7; replace H := Option.bind_eq_some_iff.mp H
       obtain ⟨⟨t105, t106, t109, t110, t111⟩, A80, H⟩ := H
       replace H : (if x4_1 < (x3_1.length : Int) then (laws_toRuleS.l0 k1 l0 (x3_1.set (x4_1 : Int).toNat (⟨t105, (⟨t106⟩ : S58), t109, t110, t111⟩ : S64)) (wrap64 (x4_1 + 1))) else (none)) = some r := H
       have A8 := q_ A80; clear A80
       by_cases c9 : x4_1 < (x3_1.length : Int)
       ·rw [if_pos c9] at H; have c9b0 := dt_ c9; clear c9
        obtain ⟨y112, hy112⟩ : ∃ y_ : List (S64), y_ = (x3_1.set (x4_1 : Int).toNat (⟨t105, (⟨t106⟩ : S58), t109, t110, t111⟩ : S64)) := ⟨_, rfl⟩
        replace H : (laws_toRuleS.l0 k1 l0 y112 (wrap64 (x4_1 + 1))) = some r := by first | (rw [hy112]; with_reducible exact H) | (have H2_ := (Option.bind_some _ _).symm.trans H; rw [hy112]; with_reducible exact H2_) | (have H2_ := (Option.bind_some _ _).symm.trans H; with_reducible exact H2_) | with_reducible exact H | (rw [hy112]; exact H) | exact H
        have Ny112 := q_ hy112; clear hy112
        have H' := q_ H
        clear H
        have p104 : 0 ≤ (x4_1 : Int) := of_decide_eq_true as_
        have q104 : x4_1 < (l0.length : Int) := of_decide_eq_true as_
        obtain ⟨ad104, A104_1, c104_1, e104, hx104_0, hx104_1, hx104_2, hx104_3, hx104_4, hl104_1, hi104_1⟩ := at_T144 HR0.o x4_1 p104 q104
        cases e104
        replace hx104_0 := mv_ HB.o hx104_0; replace hx104_1 := mv_ HB.o hx104_1; replace hx104_2 := mv_ HB.o hx104_2; replace hx104_3 := mv_ HB.o hx104_3; replace hx104_4 := mv_ HB.o hx104_4; have HR104_1 := q_ hi104_1; have HC104_1 := q_ hl104_1; clear hi104_1 hl104_1; replace p104 := eq_true p104; replace q104 := eq_true q104
        go_wp2_with (first | ((with_reducible refine gate_callee (f := 100) rfl ?_); refine gl_ (some 20) rfl rfl Tryz.func100 #[.agg #[.string ((rd_T144 l0 x4_1).f0), .slice A104_1 ((rd_T144 l0 x4_1).f1.f0).length c104_1, .bool ((rd_T144 l0 x4_1).f2), .int .i64 ((rd_T144 l0 x4_1).f3), .string ((rd_T144 l0 x4_1).f4)]] ?_; (with_reducible refine (laws_toRule.calls k1 ((rd_T144 l0 x4_1).f0) _ _ ((rd_T144 l0 x4_1).f1.f0) ((rd_T144 l0 x4_1).f2) ((rd_T144 l0 x4_1).f3) ((rd_T144 l0 x4_1).f4) t105 t106 t109 t110 t111 _ ?side1 ?side2 A8.o).mono ?_); (case side1 => exact Kd.C_below HR104_1.o (be_ HB.o)); (case side2 => exact HC104_1.o); rintro e w11 ⟨v107, rfl, ho0, hb⟩; refine ⟨_, rfl, ?_⟩; have HO108 := q_ (Kd.S_lower ho0 (below_size (be_ HB.o))); replace HO_3 := q_ (Kd.R_elder' (ra_ HO_3.o) (Kd.S_base ho0) hb); replace HB := sb_ HB hb; (try clear hb); (try clear ho0); have p10 : 0 ≤ (x4_1 : Int) := of_decide_eq_true as_; have q10 : (x4_1 : Int) < ((x3_1.length : Int) : Int) := of_decide_eq_true as_; obtain ⟨go10, co10, eo10, gb10, gl10, cl10, HG10⟩ := Kd.R_form HO_3.o (by omega); (first | cases eo10 | (injection eo10 with ea_ en_ ec_; (first | subst ea_ | (injection ea_ with ea_; subst ea_)); subst ec_; clear en_)); have GB10 := q_ gb10; have GG10 := q_ HG10; clear gb10 gl10 HG10; obtain ⟨ce10, hcl10, hM10, hcc10, hfr10⟩ := Kd.R_elem HO_3.o z64 (x4_1 : Int) p10 q10; obtain ⟨ve10_1, rfl, ge10_1⟩ := k64_openM hM10; have hx10_0 : w11.cell? ⟨go10, (x4_1 : Int).toNat * 5, none⟩ = some (.string ((rd_T64 x3_1 x4_1).f0)) := hcc10 0 _ rfl; have hx10_1 : w11.cell? ⟨go10, (x4_1 : Int).toNat * 5 + 1, none⟩ = some (ve10_1) := hcc10 1 _ rfl; have hx10_2 : w11.cell? ⟨go10, (x4_1 : Int).toNat * 5 + 2, none⟩ = some (.bool ((rd_T64 x3_1 x4_1).f2)) := hcc10 2 _ rfl; have hx10_3 : w11.cell? ⟨go10, (x4_1 : Int).toNat * 5 + 3, none⟩ = some (.int .i64 ((rd_T64 x3_1 x4_1).f3)) := hcc10 3 _ rfl; have hx10_4 : w11.cell? ⟨go10, (x4_1 : Int).toNat * 5 + 4, none⟩ = some (.string ((rd_T64 x3_1 x4_1).f4)) := hcc10 4 _ rfl; have hf10_0 : w11.frozen? ⟨go10, (x4_1 : Int).toNat * 5, none⟩ = false := hfr10 0; have hf10_1 : w11.frozen? ⟨go10, (x4_1 : Int).toNat * 5 + 1, none⟩ = false := hfr10 1; have hf10_2 : w11.frozen? ⟨go10, (x4_1 : Int).toNat * 5 + 2, none⟩ = false := hfr10 2; have hf10_3 : w11.frozen? ⟨go10, (x4_1 : Int).toNat * 5 + 3, none⟩ = false := hfr10 3; have hf10_4 : w11.frozen? ⟨go10, (x4_1 : Int).toNat * 5 + 4, none⟩ = false := hfr10 4; clear hcl10 hcc10 hfr10 hM10; replace p10 := eq_true p10; replace q10 := eq_true q10; have n_ := q_ (Kd.R_mono (ok' := (fun k_ => some k_ ≠ (v107 : Value).ownBlock)) HO_3.o (fun k_ hk => hk.2)); clear HO_3; have HO_3 := n_; clear n_; have HX12 := q_ (show Kd.R k64 64 w11 w.heap.size (fun _ => True) (.slice (some ⟨go10, 0, none⟩) x3_1.length co10) x3_1 from (by (with_reducible repeat (first | apply Kd.R_alloc | apply Kd.R_drewN | apply Kd.R_drew)); exact Kd.R_mono HO_3.o (fun _ hk => trivial))); obtain ⟨ce12, hcl12, hM12, hcc12, hfr12⟩ := Kd.R_elem HX12.o z64 (x4_1 : Int) (of_decide_eq_true as_) (by have h_ : (x4_1 : Int) < ((x3_1.length : Int) : Int) := of_decide_eq_true as_; first | exact h_ | (have e_ := (Kd.R_reads' HO_3.o).1; omega) | simpa using h_); obtain ⟨ve12_1, rfl, ge12_1⟩ := k64_openM hM12; have HP12 := Kd.R_seg HX12.o (x4_1 : Int) (of_decide_eq_true as_) (by have h_ : (x4_1 : Int) < ((x3_1.length : Int) : Int) := of_decide_eq_true as_; first | exact h_ | (have e_ := (Kd.R_reads' HO_3.o).1; omega) | simpa using h_) (seg := [.string t105, v107, .bool t109, .int .i64 t110, .string t111]) (j := 0) hcl12 hcc12 (show 5 ≤ 5 from by decide) (x' := (⟨t105, (⟨t106⟩ : S58), t109, t110, t111⟩ : S64)) (k64_mkM _ _ _ (⟨t105, (⟨t106⟩ : S58), t109, t110, t111⟩ : S64) (Kd.R_mono (Kd.R_apart' ((Kd.S_R HO108.o)) (Kd.R_typed HO_3.o) (by decide)) (fun k_ hk => ⟨trivial, fun e_ => (hk.2) (by rw [e_]; rfl)⟩))) (fun _ hk => hk); have hx12_0 := hcc12 0 _ rfl; (try simp only [show (k64).sz = 5 from rfl, Nat.mul_one, Nat.add_zero] at hx12_0); have hf12_0 := hfr12 0; (try simp only [show (k64).sz = 5 from rfl, Nat.mul_one, Nat.add_zero] at hf12_0); have hx12_1 := hcc12 1 _ rfl; (try simp only [show (k64).sz = 5 from rfl, Nat.mul_one, Nat.add_zero] at hx12_1); have hf12_1 := hfr12 1; (try simp only [show (k64).sz = 5 from rfl, Nat.mul_one, Nat.add_zero] at hf12_1); have hx12_2 := hcc12 2 _ rfl; (try simp only [show (k64).sz = 5 from rfl, Nat.mul_one, Nat.add_zero] at hx12_2); have hf12_2 := hfr12 2; (try simp only [show (k64).sz = 5 from rfl, Nat.mul_one, Nat.add_zero] at hf12_2); have hx12_3 := hcc12 3 _ rfl; (try simp only [show (k64).sz = 5 from rfl, Nat.mul_one, Nat.add_zero] at hx12_3); have hf12_3 := hfr12 3; (try simp only [show (k64).sz = 5 from rfl, Nat.mul_one, Nat.add_zero] at hf12_3); have hx12_4 := hcc12 4 _ rfl; (try simp only [show (k64).sz = 5 from rfl, Nat.mul_one, Nat.add_zero] at hx12_4); have hf12_4 := hfr12 4; (try simp only [show (k64).sz = 5 from rfl, Nat.mul_one, Nat.add_zero] at hf12_4); clear hcl12 hcc12 hfr12 hM12) | ((with_reducible refine gate_store (t := 64) (p := 21) rfl ?_); refine store_event (t := 64) (p := 21) (v := ?vo_w13) (w1 := (((((w11.setCell ⟨go10, (x4_1 : Int).toNat * 5, none⟩ (.string t105)).setCell ⟨go10, (x4_1 : Int).toNat * 5 + 1, none⟩ (v107)).setCell ⟨go10, (x4_1 : Int).toNat * 5 + 2, none⟩ (.bool t109)).setCell ⟨go10, (x4_1 : Int).toNat * 5 + 3, none⟩ (.int .i64 t110)).setCell ⟨go10, (x4_1 : Int).toNat * 5 + 4, none⟩ (.string t111))) ?hg ?ho ?hn ?hr ?_; (case ho => rfl); (case hg => rfl); (case hn => rfl); (case hr => have hq0_ := fun (w_ : World) (a_ : Addr) => run_store Tryz.prog w_ a_ v107 .plain (by first | exact (Kd.R_val HO_3.o).2 | exact (Kd.R_val (Kd.S_R HO_3.o)).2 | exact (Kd.R_val HO108.o).2 | exact (Kd.R_val (Kd.S_R HO108.o)).2); first | (go_simp; done) | (go_simp; rfl)); intro w13 hw; have hg : w11.grownBy w13 (some go10) := (by rw [hw]; exact HP12.2); have hp_ : Kd.R k64 64 w13 w.heap.size (fun _ => True) (.slice (some ⟨go10, 0, none⟩) x3_1.length co10) y112 := (by rw [hw, Ny112.o]; exact HP12.1); clear HP12; replace HO_3 := q_ (hp_); replace HB := q_ ((by rw [hw]; exact below_set (below_set (below_set (below_set (below_set (HB.o) GB10.o) GB10.o) GB10.o) GB10.o) GB10.out : Below w.heap.size w w13)); clear HO108; clear hg hw hp_))
        go_roundg k1
        case measure => have := HK1.o; omega
        case rel => exact ⟨(y112), (wrap64 (x4_1 + 1)), rs_, H', ⟨by have := HK1.o; omega⟩, ⟨ra_ HO_3.o⟩, ⟨be_ HB.o⟩⟩
       ·rw [if_neg c9] at H
        exact absurd H (by simp)
      ·rw [if_neg c7] at H
       exact absurd H (by simp)
     ·rw [if_neg c6] at H; have c6b0 := df_ c6; clear c6; obtain rfl := Option.some.inj H
      go_wp2
      go_ret
      exact ⟨_, rt_, ra_ HO_3.o, be_ HB.o⟩
  ·rw [if_neg c3] at H
   exact absurd H (by simp)
 ·rw [if_neg c2] at H
  exact absurd H (by simp)
/-! ### laws_eqRule: function 105 -/
def laws_eqRule.f (k : Nat) (a0_0 : ByteArray) (l0_1 : List (S121)) (a0_2 : Bool) (a0_3 : Int) (a0_4 : ByteArray) (a1_0 : ByteArray) (l1_1 : List (S121)) (a1_2 : Bool) (a1_3 : Int) (a1_4 : ByteArray) : Option (Bool) := if a0_0.toList = a1_0.toList then ((laws_eqRx.f k l0_1 l1_1).bind fun t103 => (if t103 = true then (if (a0_2 != a1_2) = true then (none) else (if a0_3 = a1_3 then (if a0_4.toList = a1_4.toList then (some true) else (none)) else (none))) else (none))) else (none)
theorem laws_eqRule.calls (k : Nat) (a0_0 : ByteArray) (A0_1 : Option Addr) (c0_1 : Nat) (l0_1 : List (S121)) (a0_2 : Bool) (a0_3 : Int) (a0_4 : ByteArray) (a1_0 : ByteArray) (A1_1 : Option Addr) (c1_1 : Nat) (l1_1 : List (S121)) (a1_2 : Bool) (a1_3 : Int) (a1_4 : ByteArray) (r : Bool) (w : World) (hr0_1 : Kd.C k121 w A0_1 l0_1.length l0_1) (hc0_1 : l0_1.length ≤ c0_1) (hr1_1 : Kd.C k121 w A1_1 l1_1.length l1_1) (hc1_1 : l1_1.length ≤ c1_1) (h : laws_eqRule.f k a0_0 l0_1 a0_2 a0_3 a0_4 a1_0 l1_1 a1_2 a1_3 a1_4 = some r) :
  Calls Tryz.prog 105 #[.agg #[.string a0_0, .slice A0_1 l0_1.length c0_1, .bool a0_2, .int .i64 a0_3, .string a0_4], .agg #[.string a1_0, .slice A1_1 l1_1.length c1_1, .bool a1_2, .int .i64 a1_3, .string a1_4]] w fun e w' => e = .returned (.bool r) ∧ Below w.heap.size w w' := by
 have hu64 := Tryz.underlying64; have hu58 := Tryz.underlying58; have HR0_1 := q_ hr0_1; have HC0_1 := q_ hc0_1; clear hr0_1 hc0_1; have HR1_1 := q_ hr1_1; have HC1_1 := q_ hc1_1; clear hr1_1 hc1_1; have HB := q_ (Below.refl w.heap.size w)
 have H : (if a0_0.toList = a1_0.toList then ((laws_eqRx.f k l0_1 l1_1).bind fun t103 => (if t103 = true then (if (a0_2 != a1_2) = true then (none) else (if a0_3 = a1_3 then (if a0_4.toList = a1_4.toList then (some true) else (none)) else (none))) else (none))) else (none)) = some r := h
 clear h
 by_cases c3 : a0_0.toList = a1_0.toList
 ·rw [if_pos c3] at H
  have c3b0 : (a0_0.toList == a1_0.toList) = true := beq_iff_eq.mpr c3
  have c3b1 : (a0_0.toList != a1_0.toList) = false := bne_eq_false_iff_eq.mpr c3
  clear c3; obtain ⟨t103, A4, H⟩ := ob_ H
  by_cases c5 : t103 = true
  ·subst c5; rw [if_pos rfl] at H
   by_cases c6 : (a0_2 != a1_2) = true
   ·rw [if_pos c6] at H
    have c6b0 : (a0_2 != a1_2) = true := c6
    (try (have c6b1 : decide (a0_2 = a1_2) = false := by simpa using c6))
    (try (have c6b2 : (a0_2 == a1_2) = false := by simpa using c6))
    (try (have c6b3 : ¬ (a0_2 = a1_2) := by simpa using c6))
    clear c6
    exact absurd H (by simp)
   ·rw [if_neg c6] at H
    have c6b0 : (a0_2 != a1_2) = false := by simpa using c6
    (try (have c6b1 : decide (a0_2 = a1_2) = true := by simpa using c6))
    (try (have c6b2 : (a0_2 == a1_2) = true := by simpa using c6))
    clear c6
    by_cases c15 : a0_3 = a1_3
    ·rw [if_pos c15] at H
     have c15b0 : (a0_3 == a1_3) = true := beq_iff_eq.mpr c15
     have c15b1 : (a0_3 != a1_3) = false := bne_eq_false_iff_eq.mpr c15
     clear c15
     by_cases c16 : a0_4.toList = a1_4.toList
     ·rw [if_pos c16] at H
      have c16b0 : (a0_4.toList == a1_4.toList) = true := beq_iff_eq.mpr c16
      have c16b1 : (a0_4.toList != a1_4.toList) = false := bne_eq_false_iff_eq.mpr c16
      clear c16; obtain rfl := Option.some.inj H
      go_enter Tryz.func105, Tryz.ntmps105
      go_wp2_with (first | ((with_reducible refine gate_dst (N := 2) rfl ?_); refine bx_ 2 #[.string a0_0, .slice A0_1 l0_1.length c0_1, .bool a0_2, .int .i64 a0_3, .string a0_4] 64 ?_; intro gb101 hg w17 hbox hb; have BK101 := q_ (hbox); have GE101 := ge_ hg HB; replace HB := sb_ HB hb; clear hb hbox hg) | ((with_reducible refine gate_dst (N := 3) rfl ?_); refine bx_ 3 #[.string a1_0, .slice A1_1 l1_1.length c1_1, .bool a1_2, .int .i64 a1_3, .string a1_4] 64 ?_; intro gb102 hg w18 hbox hb; have BK102 := q_ (hbox); have GE102 := ge1_ hg HB GE101; have NB101_102 := nl_ hg BK101; have NB102_101 := ng_ hg BK101; replace BK101 := lb_ BK101 hb; replace HB := sb1_ HB GE101 hb; clear hb hbox hg; have hnb19 := NB101_102.o; have hnc19 := NB102_101.o; obtain ⟨hcz20_0, hcz20_1, hcz20_2, hcz20_3, hcz20_4, hfz20_0, hfz20_1, hfz20_2, hfz20_3, hfz20_4⟩ := d5_ BK101; obtain ⟨hcz21_0, hcz21_1, hcz21_2, hcz21_3, hcz21_4, hfz21_0, hfz21_1, hfz21_2, hfz21_3, hfz21_4⟩ := d5_ BK102) | ((with_reducible refine gate_callee (f := 112) rfl ?_); refine gl_ (some 14) rfl rfl Tryz.func112 #[.agg #[.slice A0_1 l0_1.length c0_1], .agg #[.slice A1_1 l1_1.length c1_1]] ?_; (with_reducible refine (laws_eqRx.calls k _ _ l0_1 _ _ l1_1 true _ ?side1 ?side2 ?side3 ?side4 A4.o).mono ?_); (case side1 => exact Kd.C_below HR0_1.o (be_ HB.o)); (case side2 => exact HC0_1.o); (case side3 => exact Kd.C_below HR1_1.o (be_ HB.o)); (case side4 => exact HC1_1.o); rintro e w22 ⟨rfl, hb⟩; refine ⟨_, rfl, ?_⟩; replace BK101 := lb_ BK101 hb; replace BK102 := lb_ BK102 hb; replace HB := sb2_ HB GE101 GE102 hb; (try clear hb); obtain ⟨hcz23_0, hcz23_1, hcz23_2, hcz23_3, hcz23_4, hfz23_0, hfz23_1, hfz23_2, hfz23_3, hfz23_4⟩ := d5_ BK101; obtain ⟨hcz24_0, hcz24_1, hcz24_2, hcz24_3, hcz24_4, hfz24_0, hfz24_1, hfz24_2, hfz24_3, hfz24_4⟩ := d5_ BK102))
      go_ret
      exact ⟨rt_, be2_ HB.o GE101.o GE102.o⟩
     ·rw [if_neg c16] at H
      have c16b0 : (a0_4.toList == a1_4.toList) = false := beq_eq_false_iff_ne.mpr c16
      have c16b1 : (a0_4.toList != a1_4.toList) = true := bne_iff_ne.mpr c16
      exact absurd H (by simp)
    ·rw [if_neg c15] at H
     have c15b0 : (a0_3 == a1_3) = false := beq_eq_false_iff_ne.mpr c15
     have c15b1 : (a0_3 != a1_3) = true := bne_iff_ne.mpr c15
     exact absurd H (by simp)
  ·replace c5 := Bool.eq_false_iff.mpr c5; subst c5; rw [if_neg nft_] at H
   exact absurd H (by simp)
 ·rw [if_neg c3] at H
  have c3b0 : (a0_0.toList == a1_0.toList) = false := beq_eq_false_iff_ne.mpr c3
  have c3b1 : (a0_0.toList != a1_0.toList) = true := bne_iff_ne.mpr c3
  exact absurd H (by simp)
/-! ### laws_eqRuleS: function 88 -/
def laws_eqRuleS.l0 : Nat → List (S64) → List (S64) → Int → Option (Bool)
 | 0, _, _, _ => none
 | k + 1, x0, x1, x5 => if x5 < (x0.length : Int) then (if 0 ≤ x5 then (if x5 < (x1.length : Int) then ((laws_eqRule.f k ((rd_T64 x0 x5).f0) ((rd_T64 x0 x5).f1.f0) ((rd_T64 x0 x5).f2) ((rd_T64 x0 x5).f3) ((rd_T64 x0 x5).f4) ((rd_T64 x1 x5).f0) ((rd_T64 x1 x5).f1.f0) ((rd_T64 x1 x5).f2) ((rd_T64 x1 x5).f3) ((rd_T64 x1 x5).f4)).bind fun t103 => (if t103 = true then (laws_eqRuleS.l0 k x0 x1 (wrap64 (x5 + 1))) else (none))) else (none)) else (none)) else (some true)
def laws_eqRuleS.f (k : Nat) (l0 : List (S64)) (l1 : List (S64)) : Option (Bool) := if (l0.length : Int) = (l1.length : Int) then (laws_eqRuleS.l0 k l0 l1 0) else (none)
def laws_eqRuleS.T6 : Bool × List (List Nat × List Nat) := (true, [([], []), ([], []), ([0, 1], [0, 1]), ([2], [2]), ([], []), ([], []), ([4, 5], [4, 5]), ([6], [6]), ([3, 7], [3, 7]), ([8], [8])])
def laws_eqRuleS.B6 : List Nat := [0, 0, 3, 7, 0, 0, 48, 112, 255, 511]
theorem laws_eqRuleS.tab6 : rtab .any (opsOf Tryz.f88 6) = laws_eqRuleS.T6 := by kernel_rfl
theorem laws_eqRuleS.bits6 : waitsOk laws_eqRuleS.T6.2 laws_eqRuleS.B6 = true := by kernel_rfl
theorem laws_eqRuleS.calls (k : Nat) (A0 : Option Addr) (c0 : Nat) (l0 : List (S64)) (A1 : Option Addr) (c1 : Nat) (l1 : List (S64)) (r : Bool) (w : World) (hr0 : Kd.C k64 w A0 l0.length l0) (hc0 : l0.length ≤ c0) (hr1 : Kd.C k64 w A1 l1.length l1) (hc1 : l1.length ≤ c1) (h : laws_eqRuleS.f k l0 l1 = some r) :
  Calls Tryz.prog 88 #[.slice A0 l0.length c0, .slice A1 l1.length c1] w fun e w' => e = .returned (.bool r) ∧ Below w.heap.size w w' := by
 have hu64 := Tryz.underlying64; have HR0 := q_ hr0; have HC0 := q_ hc0; clear hr0 hc0; have HR1 := q_ hr1; have HC1 := q_ hc1; clear hr1 hc1; have HB := q_ (Below.refl w.heap.size w)
 have H : (if (l0.length : Int) = (l1.length : Int) then (laws_eqRuleS.l0 k l0 l1 0) else (none)) = some r := h
 clear h
 by_cases c3 : (l0.length : Int) = (l1.length : Int)
 ·rw [if_pos c3] at H
  have c3b0 : ((l0.length : Int) == (l1.length : Int)) = true := beq_iff_eq.mpr c3
  have c3b1 : ((l0.length : Int) != (l1.length : Int)) = false := bne_eq_false_iff_eq.mpr c3
  have c3b2 : (l0.length == l1.length) = true := by first | simpa using c3 | (simp at c3 ⊢; omega)
  clear c3
  have H' := q_ H
  clear H
  go_enter Tryz.func88, Tryz.ntmps88
  go_wp2
  go_loopg [5] k (fun kq v5 w' => ∃ (x5_1 : Int), v5 = .int .i64 x5_1 ∧ J0 (laws_eqRuleS.l0 kq l0 l1 x5_1 = some r) ∧ J0 (kq ≤ k) ∧ J0 (Below w.heap.size w w'))
  case atStart => exact ⟨(0), rs_, H', ⟨Nat.le_refl _⟩, ⟨be_ HB.o⟩⟩
  case round =>
   clear H'; (try clear c1); (try clear c3); (try clear c3b0); (try clear c3b1); (try clear c3b2); obtain ⟨x5_1, rfl, HA, HK1, HB⟩ := hrel
   cases gk with
   | zero => exact absurd HA.o (by simp [laws_eqRuleS.l0])
   | succ k1 =>
    have H := HA.o; clear HA
    simp only [laws_eqRuleS.l0] at H
    by_cases c4 : x5_1 < (l0.length : Int)
    ·rw [if_pos c4] at H; have c4b0 := dt_ c4; clear c4
     by_cases c5 : 0 ≤ x5_1
     ·rw [if_pos c5] at H; have c5b0 := dt_ c5; clear c5
      by_cases c6 : x5_1 < (l1.length : Int)
      ·rw [if_pos c6] at H; have c6b0 := dt_ c6; clear c6; obtain ⟨t103, A7, H⟩ := ob_ H
       by_cases c8 : t103 = true
       ·subst c8; rw [if_pos rfl] at H
        have H' := q_ H
        clear H
        try go_wp2
        replace HB := q_ (below_drew1 HB.o)
        have p101 : 0 ≤ (x5_1 : Int) := of_decide_eq_true as_
        have q101 : x5_1 < (l0.length : Int) := of_decide_eq_true as_
        obtain ⟨ad101, A101_1, c101_1, e101, hx101_0, hx101_1, hx101_2, hx101_3, hx101_4, hl101_1, hi101_1⟩ := at_T64 HR0.o x5_1 p101 q101; have hw101_4 := hx101_4; have hw101_3 := hx101_3; have hw101_2 := hx101_2; have hw101_1 := hx101_1; have hw101_0 := hx101_0
        cases e101
        replace hx101_0 := mv_ HB.o hx101_0; replace hx101_1 := mv_ HB.o hx101_1; replace hx101_2 := mv_ HB.o hx101_2; replace hx101_3 := mv_ HB.o hx101_3; replace hx101_4 := mv_ HB.o hx101_4; have HR101_1 := q_ hi101_1; have HC101_1 := q_ hl101_1; clear hi101_1 hl101_1; replace p101 := eq_true p101; replace q101 := eq_true q101
        have p102 : 0 ≤ (x5_1 : Int) := of_decide_eq_true as_
        have q102 : x5_1 < (l1.length : Int) := of_decide_eq_true as_
        obtain ⟨ad102, A102_1, c102_1, e102, hx102_0, hx102_1, hx102_2, hx102_3, hx102_4, hl102_1, hi102_1⟩ := at_T64 HR1.o x5_1 p102 q102; have hw102_4 := hx102_4; have hw102_3 := hx102_3; have hw102_2 := hx102_2; have hw102_1 := hx102_1; have hw102_0 := hx102_0
        cases e102
        replace hx102_0 := mv_ HB.o hx102_0; replace hx102_1 := mv_ HB.o hx102_1; replace hx102_2 := mv_ HB.o hx102_2; replace hx102_3 := mv_ HB.o hx102_3; replace hx102_4 := mv_ HB.o hx102_4; have HR102_1 := q_ hi102_1; have HC102_1 := q_ hl102_1; clear hi102_1 hl102_1; replace p102 := eq_true p102; replace q102 := eq_true q102
        refine start_ (n := 10) (S := fun w' => w'.cell? (ad101.add ((x5_1).toNat * 5)) = some (.string ((rd_T64 l0 x5_1).f0)) ∧ w'.cell? ⟨(ad101.add ((x5_1).toNat * 5)).block, (ad101.add ((x5_1).toNat * 5)).off + 1, none⟩ = some (.slice A101_1 ((rd_T64 l0 x5_1).f1.f0).length c101_1) ∧ w'.cell? ⟨(ad101.add ((x5_1).toNat * 5)).block, (ad101.add ((x5_1).toNat * 5)).off + 2, none⟩ = some (.bool ((rd_T64 l0 x5_1).f2)) ∧ w'.cell? ⟨(ad101.add ((x5_1).toNat * 5)).block, (ad101.add ((x5_1).toNat * 5)).off + 3, none⟩ = some (.int .i64 ((rd_T64 l0 x5_1).f3)) ∧ w'.cell? ⟨(ad101.add ((x5_1).toNat * 5)).block, (ad101.add ((x5_1).toNat * 5)).off + 4, none⟩ = some (.string ((rd_T64 l0 x5_1).f4)) ∧ w'.cell? (ad102.add ((x5_1).toNat * 5)) = some (.string ((rd_T64 l1 x5_1).f0)) ∧ w'.cell? ⟨(ad102.add ((x5_1).toNat * 5)).block, (ad102.add ((x5_1).toNat * 5)).off + 1, none⟩ = some (.slice A102_1 ((rd_T64 l1 x5_1).f1.f0).length c102_1) ∧ w'.cell? ⟨(ad102.add ((x5_1).toNat * 5)).block, (ad102.add ((x5_1).toNat * 5)).off + 2, none⟩ = some (.bool ((rd_T64 l1 x5_1).f2)) ∧ w'.cell? ⟨(ad102.add ((x5_1).toNat * 5)).block, (ad102.add ((x5_1).toNat * 5)).off + 3, none⟩ = some (.int .i64 ((rd_T64 l1 x5_1).f3)) ∧ w'.cell? ⟨(ad102.add ((x5_1).toNat * 5)).block, (ad102.add ((x5_1).toNat * 5)).off + 4, none⟩ = some (.string ((rd_T64 l1 x5_1).f4))) (ds := []) (bb 10 0) (by kernel_rfl) rfl rfl ⟨(mv_ HB.o hw101_0), (mv_ HB.o hw101_1), (mv_ HB.o hw101_2), (mv_ HB.o hw101_3), (mv_ HB.o hw101_4), (mv_ HB.o hw102_0), (mv_ HB.o hw102_1), (mv_ HB.o hw102_2), (mv_ HB.o hw102_3), (mv_ HB.o hw102_4)⟩ (fun hHeld => ?_); refine with_tabW laws_eqRuleS.tab6 laws_eqRuleS.bits6 (fun HT_ HW_ => ?_)
        generalize wr.drew = w9 at HB HR101_1 HR102_1 hx101_0 hx101_1 hx101_2 hx101_3 hx101_4 hx102_0 hx102_1 hx102_2 hx102_3 hx102_4 hHeld ⊢
        refine pv_ 0 17 1 HT_.o ?_; refine pv_ 1 18 3 HT_.o ?_; refine pv_ 2 19 7 HT_.o ?_; refine pv_ 4 21 23 HT_.o ?_; refine pv_ 5 22 55 HT_.o ?_; refine pv_ 6 23 119 HT_.o ?_; refine tv_ 3 20 127 HT_.o HW_.o hHeld ?_; refine tv_ 7 24 255 HT_.o HW_.o hHeld ?_
        refine one_ (i := 8) (N := some 25) (bb 10 511) rfl rfl (one_of HT_.o (by kernel_rfl)) (by decide) (fun K hK => ?_)
        refine gs_ Tryz.func105 #[.agg #[.string ((rd_T64 l0 x5_1).f0), .slice A101_1 ((rd_T64 l0 x5_1).f1.f0).length c101_1, .bool ((rd_T64 l0 x5_1).f2), .int .i64 ((rd_T64 l0 x5_1).f3), .string ((rd_T64 l0 x5_1).f4)], .agg #[.string ((rd_T64 l1 x5_1).f0), .slice A102_1 ((rd_T64 l1 x5_1).f1.f0).length c102_1, .bool ((rd_T64 l1 x5_1).f2), .int .i64 ((rd_T64 l1 x5_1).f3), .string ((rd_T64 l1 x5_1).f4)]] ?_
        with_reducible refine (laws_eqRule.calls k1 ((rd_T64 l0 x5_1).f0) _ _ ((rd_T64 l0 x5_1).f1.f0) ((rd_T64 l0 x5_1).f2) ((rd_T64 l0 x5_1).f3) ((rd_T64 l0 x5_1).f4) ((rd_T64 l1 x5_1).f0) _ _ ((rd_T64 l1 x5_1).f1.f0) ((rd_T64 l1 x5_1).f2) ((rd_T64 l1 x5_1).f3) ((rd_T64 l1 x5_1).f4) true _ ?side1 ?side2 ?side3 ?side4 A7.o).mono ?_
        (case side1 => exact Kd.C_below HR101_1.o (be_ HB.o))
        (case side2 => exact HC101_1.o)
        (case side3 => exact Kd.C_below HR102_1.o (be_ HB.o))
        (case side4 => exact HC102_1.o)
        rintro e w10 ⟨rfl, hb⟩
        refine ⟨_, rfl, ?_⟩; replace HB := sb_ HB hb
        (try clear hb)
        (try clear hb2)
        (try clear hk)
        (try clear hi)
        refine hK.out _ _ ⟨(mv_ HB.o hw101_0), (mv_ HB.o hw101_1), (mv_ HB.o hw101_2), (mv_ HB.o hw101_3), (mv_ HB.o hw101_4), (mv_ HB.o hw102_0), (mv_ HB.o hw102_1), (mv_ HB.o hw102_2), (mv_ HB.o hw102_3), (mv_ HB.o hw102_4)⟩ (fun hHeld => ?_)
        clear hK K; refine no_ (some 25) ?_; refine pv_ 9 26 1023 HT_.o ?_
        refine done_ (done_of HT_.o (by kernel_rfl)) ?_
        try go_wp2
        go_roundg k1
        case measure => have := HK1.o; omega
        case rel => exact ⟨(wrap64 (x5_1 + 1)), rs_, H', ⟨by have := HK1.o; omega⟩, ⟨be_ HB.o⟩⟩
       ·replace c8 := Bool.eq_false_iff.mpr c8; subst c8; rw [if_neg nft_] at H
        exact absurd H (by simp)
      ·rw [if_neg c6] at H
       exact absurd H (by simp)
     ·rw [if_neg c5] at H
      exact absurd H (by simp)
    ·rw [if_neg c4] at H; have c4b0 := df_ c4; clear c4; obtain rfl := Option.some.inj H
     go_wp2
     go_ret
     exact ⟨rt_, be_ HB.o⟩
 ·rw [if_neg c3] at H
  have c3b0 : ((l0.length : Int) == (l1.length : Int)) = false := beq_eq_false_iff_ne.mpr c3
  have c3b1 : ((l0.length : Int) != (l1.length : Int)) = true := bne_iff_ne.mpr c3
  have c3b2 : (l0.length == l1.length) = false := by first | simpa using c3 | (simp at c3 ⊢; omega)
  exact absurd H (by simp)
end Go.Proofs.YtijmhelacmjggaaGreat.P
namespace Go.Proofs.YtijmhelacmjggaaGreat.P
open Go.RowKit Go.Proofs.YtijmhelacmjggaaGreatW.PrintWords Go.Proofs.YtijmhelacmjggaaGreatW.PrintLast Go.Proofs.YtijmhelacmjggaaGreatEv
set_option linter.unusedVariables false
set_option linter.unusedSimpArgs false
def g144 (x : S144) : Prop := x.f0.size ≤ maxLen ∧ g142 x.f1 ∧ True ∧ (Lit.int .i64 x.f3).wf = true ∧ x.f4.size ≤ maxLen
def h64 (x : S64) : Prop := h58 x.f1
def cRule (x : S144) : S64 := ⟨x.f0, cRx x.f1, x.f2, x.f3, x.f4⟩
def wRule (x : S144) : Nat := x.f0.size + (x.f1.f0.length + ws wRNode x.f1.f0) + x.f4.size
theorem hRule_of_g {x : S144} (hg : g144 x) : h64 (cRule x) :=
  hRx_of_g hg.2.1
theorem laws_szRule_ev (v0 : ByteArray) (v1 : List S168) (v2 : Bool) (v3 : Int) (v4 : ByteArray) (a : Int) (h0 : 0 ≤ a) (h1 : a ≤ 1048576) (hb_v0 : v0.size ≤ 9223372036854775807) (hb_v1 : v1.length ≤ 9223372036854775807) (hg_v1 : ∀ x ∈ v1, g168 x) (hb_v4 : v4.size ≤ 9223372036854775807) : Ev (fun k => laws_szRule.f k v0 v1 v2 v3 v4 a) (if a < ((v0.size + (v1.length + ws wRNode v1) + v4.size : Nat) : Int) then -1 else a - ((v0.size + (v1.length + ws wRNode v1) + v4.size : Nat) : Int)) := by
  unfold laws_szRule.f
  rw [wrap_id (x := a - (v0.size : Int)) (by omega) (by omega)]
  (try simp only [ev_ite])
  by_cases c_v0 : a - (v0.size : Int) < 0
  · rw [if_pos c_v0]
    refine ev_some.2 ?_
    (try first | rfl | rw [if_pos (by omega)])
  rw [if_neg c_v0]
  rw [ev_bind (laws_szRx_ev v1 _ (by omega) (by omega) hb_v1 hg_v1)]
  (try simp only [Option.bind_some, ev_ite])
  by_cases c1_ : (a - (v0.size : Int)) < (((v1.length + ws wRNode v1) : Nat) : Int)
  · rw [if_pos c1_, if_pos (by omega)]
    refine ev_some.2 ?_
    (try first | rfl | rw [if_pos (by omega)])
  rw [if_neg c1_, if_neg (by omega)]
  rw [wrap_id (x := ((a - (v0.size : Int)) - (((v1.length + ws wRNode v1) : Nat) : Int)) - (v4.size : Int)) (by omega) (by omega)]
  (try simp only [ev_ite])
  by_cases c_v4 : ((a - (v0.size : Int)) - (((v1.length + ws wRNode v1) : Nat) : Int)) - (v4.size : Int) < 0
  · rw [if_pos c_v4]
    refine ev_some.2 ?_
    (try first | rfl | rw [if_pos (by omega)])
  rw [if_neg c_v4]
  refine ev_some.2 ?_
  (try rw [if_neg (by omega)])
  (try (first | rfl | omega | (congr 1; omega)))
theorem laws_toRule_ev (v0 : ByteArray) (v1 : List S168) (v2 : Bool) (v3 : Int) (v4 : ByteArray) (hw_v1 : (v1.length + ws wRNode v1) ≤ 1048576) : Ev (fun k => laws_toRule.f k v0 v1 v2 v3 v4) (v0, (v1.map cRNode), v2, v3, v4) := by
  unfold laws_toRule.f
  rw [ev_bind (laws_toRx_ev v1 hw_v1)]
  exact ev_some.2 rfl
theorem laws_eqRule_ev (v0 : ByteArray) (v1 : List S121) (v2 : Bool) (v3 : Int) (v4 : ByteArray) (hb_v1 : v1.length ≤ 9223372036854775807) (hh_v1 : ∀ x ∈ v1, h121 x) : Ev (fun k => laws_eqRule.f k v0 v1 v2 v3 v4 v0 v1 v2 v3 v4) true := by
  unfold laws_eqRule.f
  (try simp only [if_true, ev_ite, bne_self_eq_false, Bool.false_eq_true, if_false, ev_some])
  rw [ev_bind (laws_eqRx_ev v1 hb_v1 hh_v1)]
  (try simp only [if_true, ev_ite, bne_self_eq_false, Bool.false_eq_true, if_false, ev_some])
theorem laws_szRuleS_ev (l : List S144) (a : Int) (h0 : 0 ≤ a) (h1 : a ≤ 1048576) (hl : l.length ≤ 9223372036854775807) (hg : ∀ x ∈ l, g144 x) : Ev (fun k => laws_szRuleS.f k l a) (if a < ((l.length + ws wRule l : Nat) : Int) then -1 else a - ((l.length + ws wRule l : Nat) : Int)) := by
  unfold laws_szRuleS.f
  rw [wrap_id (by omega) (by omega)]
  simp only [ev_ite]
  by_cases c0 : a - (l.length : Int) < 0
  · rw [if_pos c0]
    exact ev_some.2 (by rw [if_pos (by omega)])
  rw [if_neg c0]
  have key := down l.length (fun i => ∀ x1 : Int, 0 ≤ x1 → x1 ≤ 1048576 → Ev (fun k => laws_szRuleS.l0 k l x1 (i : Nat)) (if x1 < ((ws wRule (l.drop i) : Nat) : Int) then -1 else x1 - ((ws wRule (l.drop i) : Nat) : Int))) ?_ ?_ 0 (by omega) (a - (l.length : Int)) (by omega) (by omega)
  · refine ev_congr key ?_
    rw [List.drop_zero]
    split <;> split <;> first | rfl | omega
  · intro x1 h0 h1
    rw [ev_succ]
    simp only [laws_szRuleS.l0, ev_ite, ev_some]
    rw [if_neg (by omega), List.drop_length]
    simp [ws]
    omega
  · intro i hi ih x1 h0 h1
    rw [ev_succ, ws_drop wRule l z144 i hi]
    have hr : l.getD i z144 = rd_T144 l i := by simp [rd_T144]
    rw [hr]
    have hgy : g144 (rd_T144 l i) := by
      rw [← hr, List.getD_eq_getElem?_getD, List.getElem?_eq_getElem hi]
      exact hg _ (List.getElem_mem _)
    simp only [laws_szRuleS.l0, ev_ite]
    rw [if_pos (by omega), if_pos (by omega), wrap_succ hi (by omega)]
    rw [ev_bind (laws_szRule_ev _ _ _ _ _ x1 h0 h1 (Nat.le_trans (hgy).1 maxLen_le) (Nat.le_trans (hgy).2.1.1 maxLen_le) (hgy).2.1.2 (Nat.le_trans (hgy).2.2.2.2 maxLen_le))]
    simp only [Option.bind_some, ev_ite]
    have e : ((wRule (rd_T144 l i) : Nat) : Int) = (((rd_T144 l i).f0.size + ((rd_T144 l i).f1.f0.length + ws wRNode (rd_T144 l i).f1.f0) + (rd_T144 l i).f4.size : Nat) : Int) := rfl
    by_cases c : x1 < ((wRule (rd_T144 l i) : Nat) : Int)
    · have c' : x1 < (((rd_T144 l i).f0.size + ((rd_T144 l i).f1.f0.length + ws wRNode (rd_T144 l i).f1.f0) + (rd_T144 l i).f4.size : Nat) : Int) := by rw [← e]; exact c
      simp only [if_pos c']
      rw [if_pos (by omega)]
      exact ev_some.2 (by rw [if_pos (by omega)])
    · have c' : ¬ x1 < (((rd_T144 l i).f0.size + ((rd_T144 l i).f1.f0.length + ws wRNode (rd_T144 l i).f1.f0) + (rd_T144 l i).f4.size : Nat) : Int) := by rw [← e]; exact c
      simp only [if_neg c']
      rw [if_neg (by rw [← e]; omega)]
      refine ev_congr (ih _ (by rw [← e]; omega) (by rw [← e]; omega)) ?_
      rw [← e]
      split <;> split <;> first | rfl | omega
theorem laws_toRuleS_ev (l : List S144) (hl : l.length + ws wRule l ≤ 1048576) : Ev (fun k => laws_toRuleS.f k l) (l.map cRule) := by
  unfold laws_toRuleS.f
  simp only [ev_ite]
  rw [if_pos (by omega), if_pos (by omega)]
  have h := ev_loop l.length (fun k i => laws_toRuleS.l0 k l (upTo cRule z64 l i) (i : Nat)) (fun _ => l.map cRule) ?_ ?_ 0 (by omega)
  · rw [upTo_zero] at h
    exact h
  · rw [ev_succ, upTo_all]
    simp [laws_toRuleS.l0, ev_some]
  · intro i hi ih
    have hr : l.getD i z144 = rd_T144 l i := by simp [rd_T144]
    have hwi : wRule (rd_T144 l i) ≤ 1048576 := by
      rw [← hr]
      have := ws_le wRule l z144 i hi
      omega
    rw [ev_succ]
    simp only [laws_toRuleS.l0, ev_ite]
    rw [if_pos (by omega), if_pos (by omega)]
    rw [ev_bind (laws_toRule_ev _ _ _ _ _ (by have e : ((rd_T144 l i).f1.f0.length + ws wRNode (rd_T144 l i).f1.f0) ≤ wRule (rd_T144 l i) := (by simp only [wRule]; omega); omega))]
    (try simp only [ev_ite])
    rw [if_pos (by rw [upTo_length _ _ _ _ (by omega)]; omega), wrap_succ hi (by omega)]
    have := upTo_set cRule z64 l z144 i hi
    rw [hr] at this
    simp only [Int.toNat_natCast]
    simp only [cRule, cRx] at this ih ⊢
    rw [this]
    exact ih
theorem laws_eqRuleS_ev (l : List S64) (hl : l.length ≤ 9223372036854775807) (hh : ∀ x ∈ l, h64 x) : Ev (fun k => laws_eqRuleS.f k l l) true := by
  unfold laws_eqRuleS.f
  simp only [ev_ite]
  rw [if_pos trivial]
  refine ev_loop l.length (fun k i => laws_eqRuleS.l0 k l l (i : Nat)) (fun _ => true) ?_ ?_ 0 (by omega)
  · rw [ev_succ]
    simp [laws_eqRuleS.l0, ev_some]
  · intro i hi ih
    have hhy : h64 (rd_T64 l i) := by
      have hr : l.getD i z64 = rd_T64 l i := by simp [rd_T64]
      rw [← hr, List.getD_eq_getElem?_getD, List.getElem?_eq_getElem hi]
      exact hh _ (List.getElem_mem _)
    rw [ev_succ]
    simp only [laws_eqRuleS.l0, ev_ite]
    rw [if_pos (by omega), if_pos (by omega), wrap_succ hi (by omega)]
    (try rw [if_pos (by omega)])
    rw [ev_bind (laws_eqRule_ev _ _ _ _ _ (hhy.1) (hhy.2))]
    (try simp only [if_true, ev_ite])
    exact ih
end Go.Proofs.YtijmhelacmjggaaGreat.P
namespace Go.Proofs.YtijmhelacmjggaaGreat.P
open Go.RowKit Go.Proofs.YtijmhelacmjggaaGreatW.PrintWords Go.Proofs.YtijmhelacmjggaaGreatW.PrintLast Go.Proofs.YtijmhelacmjggaaGreatW.PrintMore
attribute [local go_sem] max2_int min2_int max_two min_two max_three min_three max_four min_four
set_option linter.unusedVariables false
set_option linter.unusedSimpArgs false
/-! ### laws_szMode: function 50 -/
def laws_szMode.f (k : Nat) (a0_0 : ByteArray) (l0_1 : List (S144)) (a1 : Int) : Option (Int) := if (wrap64 (a1 - (a0_0.size : Int))) < 0 then (some (-1)) else ((laws_szRuleS.f k l0_1 (wrap64 (a1 - (a0_0.size : Int)))).bind fun t102 => (if t102 < 0 then (some (-1)) else (some t102)))
theorem laws_szMode.calls (k : Nat) (a0_0 : ByteArray) (A0_1 : Option Addr) (c0_1 : Nat) (l0_1 : List (S144)) (a1 : Int) (r : Int) (w : World) (hr0_1 : Kd.C k144 w A0_1 l0_1.length l0_1) (hc0_1 : l0_1.length ≤ c0_1) (h : laws_szMode.f k a0_0 l0_1 a1 = some r) :
  Calls Tryz.prog 50 #[.agg #[.string a0_0, .slice A0_1 l0_1.length c0_1], .int .i64 a1] w fun e w' => e = .returned (.int .i64 r) ∧ Below w.heap.size w w' := by
 have hu91 := Tryz.underlying91; have HR0_1 := q_ hr0_1; have HC0_1 := q_ hc0_1; clear hr0_1 hc0_1; have HB := q_ (Below.refl w.heap.size w)
 have H : (if (wrap64 (a1 - (a0_0.size : Int))) < 0 then (some (-1)) else ((laws_szRuleS.f k l0_1 (wrap64 (a1 - (a0_0.size : Int)))).bind fun t102 => (if t102 < 0 then (some (-1)) else (some t102)))) = some r := h
 clear h
 by_cases c3 : (wrap64 (a1 - (a0_0.size : Int))) < 0
 ·rw [if_pos c3] at H; have c3b0 := dt_ c3; clear c3; obtain rfl := Option.some.inj H
  go_enter Tryz.func50, Tryz.ntmps50
  go_wp2_with (first | ((with_reducible refine gate_dst (N := 2) rfl ?_); refine bx_ 2 #[.string a0_0, .slice A0_1 l0_1.length c0_1] 91 ?_; intro gb101 hg w4 hbox hb; have BK101 := q_ (hbox); have GE101 := ge_ hg HB; replace HB := sb_ HB hb; clear hb hbox hg; obtain ⟨hcz5_0, hcz5_1, hfz5_0, hfz5_1⟩ := d2_ BK101))
  go_ret
  exact ⟨rt_, be1_ HB.o GE101.o⟩
 ·rw [if_neg c3] at H; have c3b0 := df_ c3; clear c3; obtain ⟨t102, A6, H⟩ := ob_ H
  by_cases c7 : t102 < 0
  ·rw [if_pos c7] at H; have c7b0 := dt_ c7; clear c7; obtain rfl := Option.some.inj H
   go_enter Tryz.func50, Tryz.ntmps50
   go_wp2_with (first | ((with_reducible refine gate_dst (N := 2) rfl ?_); refine bx_ 2 #[.string a0_0, .slice A0_1 l0_1.length c0_1] 91 ?_; intro gb101 hg w8 hbox hb; have BK101 := q_ (hbox); have GE101 := ge_ hg HB; replace HB := sb_ HB hb; clear hb hbox hg; obtain ⟨hcz9_0, hcz9_1, hfz9_0, hfz9_1⟩ := d2_ BK101) | ((with_reducible refine gate_callee (f := 76) rfl ?_); refine gl_ (some 15) rfl rfl Tryz.func76 #[.slice A0_1 l0_1.length c0_1, .int .i64 (wrap64 (a1 - (a0_0.size : Int)))] ?_; (with_reducible refine (laws_szRuleS.calls k _ _ l0_1 (wrap64 (a1 - (a0_0.size : Int))) t102 _ ?side1 ?side2 A6.o).mono ?_); (case side1 => exact Kd.C_below HR0_1.o (be_ HB.o)); (case side2 => exact HC0_1.o); rintro e w10 ⟨rfl, hb⟩; refine ⟨_, rfl, ?_⟩; replace BK101 := lb_ BK101 hb; replace HB := sb1_ HB GE101 hb; (try clear hb)))
   go_ret
   exact ⟨rt_, be1_ HB.o GE101.o⟩
  ·rw [if_neg c7] at H; have c7b0 := df_ c7; clear c7; obtain rfl := Option.some.inj H
   go_enter Tryz.func50, Tryz.ntmps50
   go_wp2_with (first | ((with_reducible refine gate_dst (N := 2) rfl ?_); refine bx_ 2 #[.string a0_0, .slice A0_1 l0_1.length c0_1] 91 ?_; intro gb101 hg w11 hbox hb; have BK101 := q_ (hbox); have GE101 := ge_ hg HB; replace HB := sb_ HB hb; clear hb hbox hg; obtain ⟨hcz12_0, hcz12_1, hfz12_0, hfz12_1⟩ := d2_ BK101) | ((with_reducible refine gate_callee (f := 76) rfl ?_); refine gl_ (some 15) rfl rfl Tryz.func76 #[.slice A0_1 l0_1.length c0_1, .int .i64 (wrap64 (a1 - (a0_0.size : Int)))] ?_; (with_reducible refine (laws_szRuleS.calls k _ _ l0_1 (wrap64 (a1 - (a0_0.size : Int))) t102 _ ?side1 ?side2 A6.o).mono ?_); (case side1 => exact Kd.C_below HR0_1.o (be_ HB.o)); (case side2 => exact HC0_1.o); rintro e w13 ⟨rfl, hb⟩; refine ⟨_, rfl, ?_⟩; replace BK101 := lb_ BK101 hb; replace HB := sb1_ HB GE101 hb; (try clear hb)))
   go_ret
   exact ⟨rt_, be1_ HB.o GE101.o⟩
/-! ### laws_szModeS: function 23 -/
def laws_szModeS.l0 : Nat → List (S91) → Int → Int → Option (Int)
 | 0, _, _, _ => none
 | k + 1, x0, x1, x5 => if x5 < (x0.length : Int) then (if 0 ≤ x5 then ((laws_szMode.f k ((rd_T91 x0 x5).f0) ((rd_T91 x0 x5).f1) x1).bind fun t102 => (if t102 < 0 then (some (-1)) else (laws_szModeS.l0 k x0 t102 (wrap64 (x5 + 1))))) else (none)) else (some x1)
def laws_szModeS.f (k : Nat) (l0 : List (S91)) (a1 : Int) : Option (Int) := if (wrap64 (a1 - (l0.length : Int))) < 0 then (some (-1)) else (laws_szModeS.l0 k l0 (wrap64 (a1 - (l0.length : Int))) 0)
theorem laws_szModeS.calls (k : Nat) (A0 : Option Addr) (c0 : Nat) (l0 : List (S91)) (a1 : Int) (r : Int) (w : World) (hr0 : Kd.C k91 w A0 l0.length l0) (hc0 : l0.length ≤ c0) (h : laws_szModeS.f k l0 a1 = some r) :
  Calls Tryz.prog 23 #[.slice A0 l0.length c0, .int .i64 a1] w fun e w' => e = .returned (.int .i64 r) ∧ Below w.heap.size w w' := by
 have hu91 := Tryz.underlying91; have HR0 := q_ hr0; have HC0 := q_ hc0; clear hr0 hc0; have HB := q_ (Below.refl w.heap.size w)
 have H : (if (wrap64 (a1 - (l0.length : Int))) < 0 then (some (-1)) else (laws_szModeS.l0 k l0 (wrap64 (a1 - (l0.length : Int))) 0)) = some r := h
 clear h
 by_cases c3 : (wrap64 (a1 - (l0.length : Int))) < 0
 ·rw [if_pos c3] at H; have c3b0 := dt_ c3; clear c3; obtain rfl := Option.some.inj H
  go_enter Tryz.func23, Tryz.ntmps23
  go_wp2
  go_ret
  exact ⟨rt_, be_ HB.o⟩
 ·rw [if_neg c3] at H; have c3b0 := df_ c3; clear c3
  have H' := q_ H
  clear H
  go_enter Tryz.func23, Tryz.ntmps23
  go_wp2
  go_loopg [1, 5] k (fun kq v1 v5 w' => ∃ (x1_1 : Int) (x5_1 : Int), v1 = .int .i64 x1_1 ∧ v5 = .int .i64 x5_1 ∧ J0 (laws_szModeS.l0 kq l0 x1_1 x5_1 = some r) ∧ J0 (kq ≤ k) ∧ J0 (Below w.heap.size w w'))
  case atStart => exact ⟨(wrap64 (a1 - (l0.length : Int))), (0), rs_, rs_, H', ⟨Nat.le_refl _⟩, ⟨be_ HB.o⟩⟩
  case round =>
   clear H'; (try clear c3); (try clear c3b0); obtain ⟨x1_1, x5_1, rfl, rfl, HA, HK1, HB⟩ := hrel
   cases gk with
   | zero => exact absurd HA.o (by simp [laws_szModeS.l0])
   | succ k1 =>
    have H := HA.o; clear HA
    simp only [laws_szModeS.l0] at H
    by_cases c4 : x5_1 < (l0.length : Int)
    ·rw [if_pos c4] at H; have c4b0 := dt_ c4; clear c4
     by_cases c5 : 0 ≤ x5_1
     ·rw [if_pos c5] at H; have c5b0 := dt_ c5; clear c5; obtain ⟨t102, A6, H⟩ := ob_ H
      by_cases c7 : t102 < 0
      ·rw [if_pos c7] at H; have c7b0 := dt_ c7; clear c7; obtain rfl := Option.some.inj H
       have p101 : 0 ≤ (x5_1 : Int) := of_decide_eq_true as_
       have q101 : x5_1 < (l0.length : Int) := of_decide_eq_true as_
       obtain ⟨ad101, A101_1, c101_1, e101, hx101_0, hx101_1, hl101_1, hi101_1⟩ := at_T91 HR0.o x5_1 p101 q101
       cases e101
       replace hx101_0 := mv_ HB.o hx101_0; replace hx101_1 := mv_ HB.o hx101_1; have HR101_1 := q_ hi101_1; have HC101_1 := q_ hl101_1; clear hi101_1 hl101_1; replace p101 := eq_true p101; replace q101 := eq_true q101
       go_wp2_with (first | ((with_reducible refine gate_callee (f := 50) rfl ?_); refine gl_ (some 23) rfl rfl Tryz.func50 #[.agg #[.string ((rd_T91 l0 x5_1).f0), .slice A101_1 ((rd_T91 l0 x5_1).f1).length c101_1], .int .i64 x1_1] ?_; (with_reducible refine (laws_szMode.calls k1 ((rd_T91 l0 x5_1).f0) _ _ ((rd_T91 l0 x5_1).f1) x1_1 t102 _ ?side1 ?side2 A6.o).mono ?_); (case side1 => exact Kd.C_below HR101_1.o (be_ HB.o)); (case side2 => exact HC101_1.o); rintro e w8 ⟨rfl, hb⟩; refine ⟨_, rfl, ?_⟩; replace HB := sb_ HB hb; (try clear hb)))
       go_ret
       exact ⟨rt_, be_ HB.o⟩
      ·rw [if_neg c7] at H; have c7b0 := df_ c7; clear c7
       have H' := q_ H
       clear H
       have p101 : 0 ≤ (x5_1 : Int) := of_decide_eq_true as_
       have q101 : x5_1 < (l0.length : Int) := of_decide_eq_true as_
       obtain ⟨ad101, A101_1, c101_1, e101, hx101_0, hx101_1, hl101_1, hi101_1⟩ := at_T91 HR0.o x5_1 p101 q101
       cases e101
       replace hx101_0 := mv_ HB.o hx101_0; replace hx101_1 := mv_ HB.o hx101_1; have HR101_1 := q_ hi101_1; have HC101_1 := q_ hl101_1; clear hi101_1 hl101_1; replace p101 := eq_true p101; replace q101 := eq_true q101
       go_wp2_with (first | ((with_reducible refine gate_callee (f := 50) rfl ?_); refine gl_ (some 23) rfl rfl Tryz.func50 #[.agg #[.string ((rd_T91 l0 x5_1).f0), .slice A101_1 ((rd_T91 l0 x5_1).f1).length c101_1], .int .i64 x1_1] ?_; (with_reducible refine (laws_szMode.calls k1 ((rd_T91 l0 x5_1).f0) _ _ ((rd_T91 l0 x5_1).f1) x1_1 t102 _ ?side1 ?side2 A6.o).mono ?_); (case side1 => exact Kd.C_below HR101_1.o (be_ HB.o)); (case side2 => exact HC101_1.o); rintro e w9 ⟨rfl, hb⟩; refine ⟨_, rfl, ?_⟩; replace HB := sb_ HB hb; (try clear hb)))
       go_roundg k1
       case measure => have := HK1.o; omega
       case rel => exact ⟨(t102), (wrap64 (x5_1 + 1)), rs_, rs_, H', ⟨by have := HK1.o; omega⟩, ⟨be_ HB.o⟩⟩
     ·rw [if_neg c5] at H
      exact absurd H (by simp)
    ·rw [if_neg c4] at H; have c4b0 := df_ c4; clear c4; obtain rfl := Option.some.inj H
     go_wp2
     go_ret
     exact ⟨rt_, be_ HB.o⟩
/-! ### laws_toMode: function 55 -/
def laws_toMode.f (k : Nat) (a0_0 : ByteArray) (l0_1 : List (S144)) : Option (ByteArray × (List (S64))) := (laws_toRuleS.f k l0_1).bind fun t104 => (some (a0_0, t104))
theorem laws_toMode.calls (k : Nat) (a0_0 : ByteArray) (A0_1 : Option Addr) (c0_1 : Nat) (l0_1 : List (S144)) (r1 : ByteArray) (r2 : List (S64)) (w : World) (hr0_1 : Kd.C k144 w A0_1 l0_1.length l0_1) (hc0_1 : l0_1.length ≤ c0_1) (h : laws_toMode.f k a0_0 l0_1 = some (r1, r2)) :
  Calls Tryz.prog 55 #[.agg #[.string a0_0, .slice A0_1 l0_1.length c0_1]] w fun e w' => ∃ v1_ : Value, e = .returned (.agg #[.string r1, v1_]) ∧ Kd.R k64 64 w' w.heap.size (fun _ => True) v1_ r2 ∧ Below w.heap.size w w' := by
 have hu91 := Tryz.underlying91; have hu62 := Tryz.underlying62; have HR0_1 := q_ hr0_1; have HC0_1 := q_ hc0_1; clear hr0_1 hc0_1; have HB := q_ (Below.refl w.heap.size w)
 have H : ((laws_toRuleS.f k l0_1).bind fun t104 => (some (a0_0, t104))) = some (r1, r2) := h
 clear h; obtain ⟨t104, A2, H⟩ := ob_ H
 simp only [Option.some.injEq, Prod.mk.injEq] at H
 obtain ⟨rfl, rfl⟩ := H
 go_enter Tryz.func55, Tryz.ntmps55
 go_wp2_with (first | ((with_reducible refine gate_dst (N := 1) rfl ?_); refine bx_ 1 #[.string a0_0, .slice A0_1 l0_1.length c0_1] 91 ?_; intro gb101 hg w3 hbox hb; have BK101 := q_ (hbox); have GE101 := ge_ hg HB; replace HB := sb_ HB hb; clear hb hbox hg) | ((with_reducible refine gate_dst (N := 2) rfl ?_); refine bx_ 2 #[.string (⟨#[]⟩ : ByteArray), .slice none 0 0] 62 ?_; intro gb102 hg w4 hbox hb; have BK102 := q_ (hbox); have GE102 := ge1_ hg HB GE101; have NB101_102 := nl_ hg BK101; have NB102_101 := ng_ hg BK101; replace BK101 := lb_ BK101 hb; replace HB := sb1_ HB GE101 hb; clear hb hbox hg) | ((with_reducible refine gate_dst (N := 3) rfl ?_); refine bx_ 3 #[.string (⟨#[]⟩ : ByteArray), .slice none 0 0] 62 ?_; intro gb103 hg w5 hbox hb; have BK103 := q_ (hbox); have GE103 := ge2_ hg HB GE101 GE102; have NB101_103 := nl_ hg BK101; have NB103_101 := ng_ hg BK101; have NB102_103 := nl_ hg BK102; have NB103_102 := ng_ hg BK102; replace BK101 := lb_ BK101 hb; replace BK102 := lb_ BK102 hb; replace HB := sb2_ HB GE101 GE102 hb; clear hb hbox hg; have hnb6 := NB101_102.o; have hnc6 := NB102_101.o; have hnb7 := NB101_103.o; have hnc7 := NB103_101.o; obtain ⟨hcz8_0, hcz8_1, hfz8_0, hfz8_1⟩ := d2_ BK101; have hnb9 := NB103_102.o; have hnc9 := NB102_103.o; obtain ⟨hcz10_0, hcz10_1, hfz10_0, hfz10_1⟩ := d2_ BK103) | ((with_reducible refine gate_callee (f := 81) rfl ?_); refine gl_ (some 9) rfl rfl Tryz.func81 #[.slice A0_1 l0_1.length c0_1] ?_; (with_reducible refine (laws_toRuleS.calls k _ _ l0_1 t104 _ ?side1 ?side2 A2.o).mono ?_); (case side1 => exact Kd.C_below HR0_1.o (be3_ HB.o GE101.o GE102.o GE103.o)); (case side2 => exact HC0_1.o); rintro e w11 ⟨v105, rfl, ho0, hb⟩; refine ⟨_, rfl, ?_⟩; have HO106 := q_ (Kd.R_lower ho0 (below_size (be3_ HB.o GE101.o GE102.o GE103.o))); replace BK101 := q_ (blk_below (g := gb101) (o := .cells #[.string a0_0, .slice A0_1 l0_1.length c0_1] 91 (0, 0)) (by (with_reducible repeat (first | refine blk_drewN ?_ _ | refine blk_drew ?_ | refine blk_alloc ?_ _)); refine blk_far ?_ NB101_103.o _; (with_reducible repeat (first | refine blk_drewN ?_ _ | refine blk_drew ?_ | refine blk_alloc ?_ _)); exact BK101.o) hb); replace BK102 := q_ (blk_below (g := gb102) (o := .cells #[.string (⟨#[]⟩ : ByteArray), .slice none 0 0] 62 (0, 0)) (by (with_reducible repeat (first | refine blk_drewN ?_ _ | refine blk_drew ?_ | refine blk_alloc ?_ _)); refine blk_far ?_ NB102_103.o _; (with_reducible repeat (first | refine blk_drewN ?_ _ | refine blk_drew ?_ | refine blk_alloc ?_ _)); exact BK102.o) hb); replace BK103 := q_ (blk_below (g := gb103) (o := .cells #[.string a0_0, .slice none 0 0] 62 (0, 0)) (by (with_reducible repeat (first | refine blk_drewN ?_ _ | refine blk_drew ?_ | refine blk_alloc ?_ _)); refine blk_put (cs := #[.string (⟨#[]⟩ : ByteArray), .slice none 0 0]) ?_ 0 _ rfl; (with_reducible repeat (first | refine blk_drewN ?_ _ | refine blk_drew ?_ | refine blk_alloc ?_ _)); exact BK103.o) hb); replace HB := sb3_ HB GE101 GE102 GE103 hb; (try clear hb); (try clear ho0); obtain ⟨Ao12, co12, eo12⟩ := Kd.R_slice HO106.o; subst eo12; obtain ⟨hcz13_0, hcz13_1, hfz13_0, hfz13_1⟩ := d2_ BK103; obtain ⟨hcz14_0, hcz14_1, hfz14_0, hfz14_1⟩ := d2_ BK102))
 refine bodyPost_ret (results_cell_row rfl _ _ gb102 62 #[.string a0_0, .slice Ao12 t104.length co12] (0, 0) _ rfl (by (with_reducible repeat (first | refine blk_drewN ?_ _ | refine blk_drew ?_ | refine blk_alloc ?_ _)); refine blk_put (cs := #[.string a0_0, .slice none 0 0]) ?_ 1 _ rfl; (with_reducible repeat (first | refine blk_drewN ?_ _ | refine blk_drew ?_ | refine blk_alloc ?_ _)); refine blk_put (cs := #[.string (⟨#[]⟩ : ByteArray), .slice none 0 0]) ?_ 0 _ rfl; (with_reducible repeat (first | refine blk_drewN ?_ _ | refine blk_drew ?_ | refine blk_alloc ?_ _)); refine blk_far ?_ NB102_103.o _; (with_reducible repeat (first | refine blk_drewN ?_ _ | refine blk_drew ?_ | refine blk_alloc ?_ _)); exact BK102.o) Tryz.underlying62 rfl (by kernel_rfl)) rfl ?_
 exact ⟨_, rt_, by (with_reducible repeat (first | apply Kd.R_alloc | apply Kd.R_drewN | apply Kd.R_drew)); exact Kd.R_mono (Kd.R_far (p := ⟨gb102, 1, none⟩) (Kd.R_far (p := ⟨gb102, 0, none⟩) (Kd.R_far (p := ⟨gb103, 1, none⟩) (Kd.R_types (Kd.R_types HO106.o BK103.o (by decide)) BK102.o (by decide)) (fun _ hk => hk.1.2) (.slice Ao12 t104.length co12)) (fun _ hk => hk.2) (.string a0_0)) (fun _ hk => hk.2) (.slice Ao12 t104.length co12)) (fun _ hk => trivial), be3_ HB.o GE101.o GE102.o GE103.o⟩
/-! ### laws_toModeS: function 28 -/
def laws_toModeS.l0 : Nat → List (S91) → List (S62) → Int → Option ((List (S62)))
 | 0, _, _, _ => none
 | k + 1, x0, x3, x4 => if x4 < (x0.length : Int) then (if 0 ≤ x4 then ((laws_toMode.f k ((rd_T91 x0 x4).f0) ((rd_T91 x0 x4).f1)).bind fun bt105 => (if x4 < (x3.length : Int) then (laws_toModeS.l0 k x0 (x3.set (x4 : Int).toNat (⟨bt105.1, bt105.2⟩ : S62)) (wrap64 (x4 + 1))) else (none))) else (none)) else (some x3)
def laws_toModeS.f (k : Nat) (l0 : List (S91)) : Option ((List (S62))) := if 0 ≤ (l0.length : Int) then (if ((l0.length : Int) : Int).toNat ≤ 7036874417766 then (laws_toModeS.l0 k l0 (List.replicate ((l0.length : Int) : Int).toNat z62) 0) else (none)) else (none)
theorem laws_toModeS.calls (k : Nat) (A0 : Option Addr) (c0 : Nat) (l0 : List (S91)) (r : List (S62)) (w : World) (hr0 : Kd.C k91 w A0 l0.length l0) (hc0 : l0.length ≤ c0) (h : laws_toModeS.f k l0 = some r) :
  Calls Tryz.prog 28 #[.slice A0 l0.length c0] w fun e w' => ∃ v0_ : Value, e = .returned (v0_) ∧ Kd.R k62 62 w' w.heap.size (fun _ => True) v0_ r ∧ Below w.heap.size w w' := by
 have hu91 := Tryz.underlying91; have hu62 := Tryz.underlying62; have HR0 := q_ hr0; have HC0 := q_ hc0; clear hr0 hc0; have HB := q_ (Below.refl w.heap.size w)
 have H : (if 0 ≤ (l0.length : Int) then (if ((l0.length : Int) : Int).toNat ≤ 7036874417766 then (laws_toModeS.l0 k l0 (List.replicate ((l0.length : Int) : Int).toNat z62) 0) else (none)) else (none)) = some r := h
 clear h
 by_cases c2 : 0 ≤ (l0.length : Int)
 ·rw [if_pos c2] at H; have c2b0 := eq_true c2; have c2b1 := dt_ c2; clear c2
  by_cases c3 : ((l0.length : Int) : Int).toNat ≤ 7036874417766
  ·rw [if_pos c3] at H; have c3b0 := eq_true c3; have c3b1 := dt_ c3; clear c3
   obtain ⟨y101, hy101⟩ : ∃ y_ : List (S62), y_ = (List.replicate ((l0.length : Int) : Int).toNat z62) := ⟨_, rfl⟩
   replace H : (laws_toModeS.l0 k l0 y101 0) = some r := by first | (rw [hy101]; with_reducible exact H) | (have H2_ := (Option.bind_some _ _).symm.trans H; rw [hy101]; with_reducible exact H2_) | (have H2_ := (Option.bind_some _ _).symm.trans H; with_reducible exact H2_) | with_reducible exact H | (rw [hy101]; exact H) | exact H
   have Ny101 := q_ hy101; clear hy101
   have H' := q_ H
   clear H
   go_enter Tryz.func28, Tryz.ntmps28
   go_wp2_with (((with_reducible refine gate_dst (N := 7) rfl ?_); refine Kd.R_make k62 _ 62 rfl (N := 7) rfl 29 _ _ rfl (l0.length : Int) rfl rfl Tryz.underlying29 (.agg #[(.string ⟨#[]⟩), (.slice none 0 0)]) 40 info62 rfl (by decide) (by omega) z62 (ok := fun _ => True) (okp := fun _ => True) (k62_mkM _ _ _ z62 (Kd.R_nil _ _ _ _ _)) (fun _ hk => hk) trivial (of_decide_eq_true as_) (Nat.le_trans (Nat.mul_le_mul_right _ (of_decide_eq_true as_ : (l0.length : Int).toNat ≤ 7036874417766)) (by omega)) (Below.refl _ _) (Nat.le_refl _) ?_; intro v102 w4 ho5 hb hg_ hnew_; clear hg_ hnew_; (first | rw [← Ny101.o] at ho5 | (simp only [Int.reduceToNat] at ho5; rw [← Ny101.o] at ho5)); have HO103 := q_ (Kd.R_lower ho5 (below_size (be_ HB.o))); replace HB := sb_ HB hb; clear hb ho5))
   go_loopg [4] k (fun kq v4 w' => ∃ (x3_1 : List (S62)) (x4_1 : Int), v4 = .int .i64 x4_1 ∧ J0 (laws_toModeS.l0 kq l0 x3_1 x4_1 = some r) ∧ J0 (kq ≤ k) ∧ J0 (Kd.R k62 62 w' w.heap.size (fun _ => True) v102 x3_1) ∧ J0 (Below w.heap.size w w'))
   case atStart => exact ⟨(y101), (0), rs_, H', ⟨Nat.le_refl _⟩, ⟨ra_ HO103.o⟩, ⟨be_ HB.o⟩⟩
   case round =>
    clear H'; (try clear c2); (try clear c2b0); (try clear c2b1); (try clear c3); (try clear c3b0); (try clear c3b1); obtain ⟨x3_1, x4_1, rfl, HA, HK1, HO_3, HB⟩ := hrel
    cases gk with
    | zero => exact absurd HA.o (by simp [laws_toModeS.l0])
    | succ k1 =>
     have H := HA.o; clear HA
     simp only [laws_toModeS.l0] at H
     by_cases c6 : x4_1 < (l0.length : Int)
     ·rw [if_pos c6] at H; have c6b0 := dt_ c6; clear c6
      by_cases c7 : 0 ≤ x4_1
      ·rw [if_pos c7] at H; have c7b0 := dt_ c7; clear c7; replace H := Option.bind_eq_some_iff.mp H
       obtain ⟨⟨t105, t106⟩, A80, H⟩ := H
       replace H : (if x4_1 < (x3_1.length : Int) then (laws_toModeS.l0 k1 l0 (x3_1.set (x4_1 : Int).toNat (⟨t105, t106⟩ : S62)) (wrap64 (x4_1 + 1))) else (none)) = some r := H
       have A8 := q_ A80; clear A80
       by_cases c9 : x4_1 < (x3_1.length : Int)
       ·rw [if_pos c9] at H; have c9b0 := dt_ c9; clear c9
        obtain ⟨y109, hy109⟩ : ∃ y_ : List (S62), y_ = (x3_1.set (x4_1 : Int).toNat (⟨t105, t106⟩ : S62)) := ⟨_, rfl⟩
        replace H : (laws_toModeS.l0 k1 l0 y109 (wrap64 (x4_1 + 1))) = some r := by first | (rw [hy109]; with_reducible exact H) | (have H2_ := (Option.bind_some _ _).symm.trans H; rw [hy109]; with_reducible exact H2_) | (have H2_ := (Option.bind_some _ _).symm.trans H; with_reducible exact H2_) | with_reducible exact H | (rw [hy109]; exact H) | exact H
        have Ny109 := q_ hy109; clear hy109
        have H' := q_ H
        clear H
        have p104 : 0 ≤ (x4_1 : Int) := of_decide_eq_true as_
        have q104 : x4_1 < (l0.length : Int) := of_decide_eq_true as_
        obtain ⟨ad104, A104_1, c104_1, e104, hx104_0, hx104_1, hl104_1, hi104_1⟩ := at_T91 HR0.o x4_1 p104 q104
        cases e104
        replace hx104_0 := mv_ HB.o hx104_0; replace hx104_1 := mv_ HB.o hx104_1; have HR104_1 := q_ hi104_1; have HC104_1 := q_ hl104_1; clear hi104_1 hl104_1; replace p104 := eq_true p104; replace q104 := eq_true q104
        go_wp2_with (first | ((with_reducible refine gate_callee (f := 55) rfl ?_); refine gl_ (some 20) rfl rfl Tryz.func55 #[.agg #[.string ((rd_T91 l0 x4_1).f0), .slice A104_1 ((rd_T91 l0 x4_1).f1).length c104_1]] ?_; (with_reducible refine (laws_toMode.calls k1 ((rd_T91 l0 x4_1).f0) _ _ ((rd_T91 l0 x4_1).f1) t105 t106 _ ?side1 ?side2 A8.o).mono ?_); (case side1 => exact Kd.C_below HR104_1.o (be_ HB.o)); (case side2 => exact HC104_1.o); rintro e w11 ⟨v107, rfl, ho0, hb⟩; refine ⟨_, rfl, ?_⟩; have HO108 := q_ (Kd.R_lower ho0 (below_size (be_ HB.o))); replace HO_3 := q_ (Kd.R_elder' (ra_ HO_3.o) (Kd.R_base ho0) hb); replace HB := sb_ HB hb; (try clear hb); (try clear ho0); have p10 : 0 ≤ (x4_1 : Int) := of_decide_eq_true as_; have q10 : (x4_1 : Int) < ((x3_1.length : Int) : Int) := of_decide_eq_true as_; obtain ⟨go10, co10, eo10, gb10, gl10, cl10, HG10⟩ := Kd.R_form HO_3.o (by omega); (first | cases eo10 | (injection eo10 with ea_ en_ ec_; (first | subst ea_ | (injection ea_ with ea_; subst ea_)); subst ec_; clear en_)); have GB10 := q_ gb10; have GG10 := q_ HG10; clear gb10 gl10 HG10; obtain ⟨ce10, hcl10, hM10, hcc10, hfr10⟩ := Kd.R_elem HO_3.o z62 (x4_1 : Int) p10 q10; obtain ⟨ve10_1, rfl, ge10_1⟩ := k62_openM hM10; have hx10_0 : w11.cell? ⟨go10, (x4_1 : Int).toNat * 2, none⟩ = some (.string ((rd_T62 x3_1 x4_1).f0)) := hcc10 0 _ rfl; have hx10_1 : w11.cell? ⟨go10, (x4_1 : Int).toNat * 2 + 1, none⟩ = some (ve10_1) := hcc10 1 _ rfl; have hf10_0 : w11.frozen? ⟨go10, (x4_1 : Int).toNat * 2, none⟩ = false := hfr10 0; have hf10_1 : w11.frozen? ⟨go10, (x4_1 : Int).toNat * 2 + 1, none⟩ = false := hfr10 1; clear hcl10 hcc10 hfr10 hM10; replace p10 := eq_true p10; replace q10 := eq_true q10; have n_ := q_ (Kd.R_mono (ok' := (fun k_ => some k_ ≠ (v107 : Value).ownBlock)) HO_3.o (fun k_ hk => hk.2)); clear HO_3; have HO_3 := n_; clear n_; have HX12 := q_ (show Kd.R k62 62 w11 w.heap.size (fun _ => True) (.slice (some ⟨go10, 0, none⟩) x3_1.length co10) x3_1 from (by (with_reducible repeat (first | apply Kd.R_alloc | apply Kd.R_drewN | apply Kd.R_drew)); exact Kd.R_mono HO_3.o (fun _ hk => trivial))); obtain ⟨ce12, hcl12, hM12, hcc12, hfr12⟩ := Kd.R_elem HX12.o z62 (x4_1 : Int) (of_decide_eq_true as_) (by have h_ : (x4_1 : Int) < ((x3_1.length : Int) : Int) := of_decide_eq_true as_; first | exact h_ | (have e_ := (Kd.R_reads' HO_3.o).1; omega) | simpa using h_); obtain ⟨ve12_1, rfl, ge12_1⟩ := k62_openM hM12; have HP12 := Kd.R_seg HX12.o (x4_1 : Int) (of_decide_eq_true as_) (by have h_ : (x4_1 : Int) < ((x3_1.length : Int) : Int) := of_decide_eq_true as_; first | exact h_ | (have e_ := (Kd.R_reads' HO_3.o).1; omega) | simpa using h_) (seg := [.string t105, v107]) (j := 0) hcl12 hcc12 (show 2 ≤ 2 from by decide) (x' := (⟨t105, t106⟩ : S62)) (k62_mkM _ _ _ (⟨t105, t106⟩ : S62) (Kd.R_mono (Kd.R_apart' (HO108.o) (Kd.R_typed HO_3.o) (by decide)) (fun k_ hk => ⟨trivial, fun e_ => (hk.2) (by rw [e_]; rfl)⟩))) (fun _ hk => hk); have hx12_0 := hcc12 0 _ rfl; (try simp only [show (k62).sz = 2 from rfl, Nat.mul_one, Nat.add_zero] at hx12_0); have hf12_0 := hfr12 0; (try simp only [show (k62).sz = 2 from rfl, Nat.mul_one, Nat.add_zero] at hf12_0); have hx12_1 := hcc12 1 _ rfl; (try simp only [show (k62).sz = 2 from rfl, Nat.mul_one, Nat.add_zero] at hx12_1); have hf12_1 := hfr12 1; (try simp only [show (k62).sz = 2 from rfl, Nat.mul_one, Nat.add_zero] at hf12_1); clear hcl12 hcc12 hfr12 hM12) | ((with_reducible refine gate_store (t := 62) (p := 21) rfl ?_); refine store_event (t := 62) (p := 21) (v := ?vo_w13) (w1 := ((w11.setCell ⟨go10, (x4_1 : Int).toNat * 2, none⟩ (.string t105)).setCell ⟨go10, (x4_1 : Int).toNat * 2 + 1, none⟩ (v107))) ?hg ?ho ?hn ?hr ?_; (case ho => rfl); (case hg => rfl); (case hn => rfl); (case hr => have hq0_ := fun (w_ : World) (a_ : Addr) => run_store Tryz.prog w_ a_ v107 .plain (by first | exact (Kd.R_val HO_3.o).2 | exact (Kd.R_val (Kd.S_R HO_3.o)).2 | exact (Kd.R_val HO108.o).2 | exact (Kd.R_val (Kd.S_R HO108.o)).2); first | (go_simp; done) | (go_simp; rfl)); intro w13 hw; have hg : w11.grownBy w13 (some go10) := (by rw [hw]; exact HP12.2); have hp_ : Kd.R k62 62 w13 w.heap.size (fun _ => True) (.slice (some ⟨go10, 0, none⟩) x3_1.length co10) y109 := (by rw [hw, Ny109.o]; exact HP12.1); clear HP12; replace HO_3 := q_ (hp_); replace HB := q_ ((by rw [hw]; exact below_set (below_set (HB.o) GB10.o) GB10.out : Below w.heap.size w w13)); clear HO108; clear hg hw hp_))
        go_roundg k1
        case measure => have := HK1.o; omega
        case rel => exact ⟨(y109), (wrap64 (x4_1 + 1)), rs_, H', ⟨by have := HK1.o; omega⟩, ⟨ra_ HO_3.o⟩, ⟨be_ HB.o⟩⟩
       ·rw [if_neg c9] at H
        exact absurd H (by simp)
      ·rw [if_neg c7] at H
       exact absurd H (by simp)
     ·rw [if_neg c6] at H; have c6b0 := df_ c6; clear c6; obtain rfl := Option.some.inj H
      go_wp2
      go_ret
      exact ⟨_, rt_, ra_ HO_3.o, be_ HB.o⟩
  ·rw [if_neg c3] at H
   exact absurd H (by simp)
 ·rw [if_neg c2] at H
  exact absurd H (by simp)
/-! ### laws_eqMode: function 63 -/
def laws_eqMode.f (k : Nat) (a0_0 : ByteArray) (l0_1 : List (S64)) (a1_0 : ByteArray) (l1_1 : List (S64)) : Option (Bool) := if a0_0.toList = a1_0.toList then ((laws_eqRuleS.f k l0_1 l1_1).bind fun t103 => (if t103 = true then (some true) else (none))) else (none)
theorem laws_eqMode.calls (k : Nat) (a0_0 : ByteArray) (A0_1 : Option Addr) (c0_1 : Nat) (l0_1 : List (S64)) (a1_0 : ByteArray) (A1_1 : Option Addr) (c1_1 : Nat) (l1_1 : List (S64)) (r : Bool) (w : World) (hr0_1 : Kd.C k64 w A0_1 l0_1.length l0_1) (hc0_1 : l0_1.length ≤ c0_1) (hr1_1 : Kd.C k64 w A1_1 l1_1.length l1_1) (hc1_1 : l1_1.length ≤ c1_1) (h : laws_eqMode.f k a0_0 l0_1 a1_0 l1_1 = some r) :
  Calls Tryz.prog 63 #[.agg #[.string a0_0, .slice A0_1 l0_1.length c0_1], .agg #[.string a1_0, .slice A1_1 l1_1.length c1_1]] w fun e w' => e = .returned (.bool r) ∧ Below w.heap.size w w' := by
 have hu62 := Tryz.underlying62; have HR0_1 := q_ hr0_1; have HC0_1 := q_ hc0_1; clear hr0_1 hc0_1; have HR1_1 := q_ hr1_1; have HC1_1 := q_ hc1_1; clear hr1_1 hc1_1; have HB := q_ (Below.refl w.heap.size w)
 have H : (if a0_0.toList = a1_0.toList then ((laws_eqRuleS.f k l0_1 l1_1).bind fun t103 => (if t103 = true then (some true) else (none))) else (none)) = some r := h
 clear h
 by_cases c3 : a0_0.toList = a1_0.toList
 ·rw [if_pos c3] at H
  have c3b0 : (a0_0.toList == a1_0.toList) = true := beq_iff_eq.mpr c3
  have c3b1 : (a0_0.toList != a1_0.toList) = false := bne_eq_false_iff_eq.mpr c3
  clear c3; obtain ⟨t103, A4, H⟩ := ob_ H
  by_cases c5 : t103 = true
  ·subst c5; rw [if_pos rfl] at H; obtain rfl := Option.some.inj H
   go_enter Tryz.func63, Tryz.ntmps63
   go_wp2_with (first | ((with_reducible refine gate_dst (N := 2) rfl ?_); refine bx_ 2 #[.string a0_0, .slice A0_1 l0_1.length c0_1] 62 ?_; intro gb101 hg w6 hbox hb; have BK101 := q_ (hbox); have GE101 := ge_ hg HB; replace HB := sb_ HB hb; clear hb hbox hg) | ((with_reducible refine gate_dst (N := 3) rfl ?_); refine bx_ 3 #[.string a1_0, .slice A1_1 l1_1.length c1_1] 62 ?_; intro gb102 hg w7 hbox hb; have BK102 := q_ (hbox); have GE102 := ge1_ hg HB GE101; have NB101_102 := nl_ hg BK101; have NB102_101 := ng_ hg BK101; replace BK101 := lb_ BK101 hb; replace HB := sb1_ HB GE101 hb; clear hb hbox hg; have hnb8 := NB101_102.o; have hnc8 := NB102_101.o; obtain ⟨hcz9_0, hcz9_1, hfz9_0, hfz9_1⟩ := d2_ BK101; obtain ⟨hcz10_0, hcz10_1, hfz10_0, hfz10_1⟩ := d2_ BK102) | ((with_reducible refine gate_callee (f := 88) rfl ?_); refine gl_ (some 14) rfl rfl Tryz.func88 #[.slice A0_1 l0_1.length c0_1, .slice A1_1 l1_1.length c1_1] ?_; (with_reducible refine (laws_eqRuleS.calls k _ _ l0_1 _ _ l1_1 true _ ?side1 ?side2 ?side3 ?side4 A4.o).mono ?_); (case side1 => exact Kd.C_below HR0_1.o (be_ HB.o)); (case side2 => exact HC0_1.o); (case side3 => exact Kd.C_below HR1_1.o (be_ HB.o)); (case side4 => exact HC1_1.o); rintro e w11 ⟨rfl, hb⟩; refine ⟨_, rfl, ?_⟩; replace BK101 := lb_ BK101 hb; replace BK102 := lb_ BK102 hb; replace HB := sb2_ HB GE101 GE102 hb; (try clear hb)))
   go_ret
   exact ⟨rt_, be2_ HB.o GE101.o GE102.o⟩
  ·replace c5 := Bool.eq_false_iff.mpr c5; subst c5; rw [if_neg nft_] at H
   exact absurd H (by simp)
 ·rw [if_neg c3] at H
  have c3b0 : (a0_0.toList == a1_0.toList) = false := beq_eq_false_iff_ne.mpr c3
  have c3b1 : (a0_0.toList != a1_0.toList) = true := bne_iff_ne.mpr c3
  exact absurd H (by simp)
/-! ### laws_eqModeS: function 34 -/
def laws_eqModeS.l0 : Nat → List (S62) → List (S62) → Int → Option (Bool)
 | 0, _, _, _ => none
 | k + 1, x0, x1, x5 => if x5 < (x0.length : Int) then (if 0 ≤ x5 then (if x5 < (x1.length : Int) then ((laws_eqMode.f k ((rd_T62 x0 x5).f0) ((rd_T62 x0 x5).f1) ((rd_T62 x1 x5).f0) ((rd_T62 x1 x5).f1)).bind fun t103 => (if t103 = true then (laws_eqModeS.l0 k x0 x1 (wrap64 (x5 + 1))) else (none))) else (none)) else (none)) else (some true)
def laws_eqModeS.f (k : Nat) (l0 : List (S62)) (l1 : List (S62)) : Option (Bool) := if (l0.length : Int) = (l1.length : Int) then (laws_eqModeS.l0 k l0 l1 0) else (none)
def laws_eqModeS.T6 : Bool × List (List Nat × List Nat) := (true, [([], []), ([], []), ([0, 1], [0, 1]), ([2], [2]), ([], []), ([], []), ([4, 5], [4, 5]), ([6], [6]), ([3, 7], [3, 7]), ([8], [8])])
def laws_eqModeS.B6 : List Nat := [0, 0, 3, 7, 0, 0, 48, 112, 255, 511]
theorem laws_eqModeS.tab6 : rtab .any (opsOf Tryz.f34 6) = laws_eqModeS.T6 := by kernel_rfl
theorem laws_eqModeS.bits6 : waitsOk laws_eqModeS.T6.2 laws_eqModeS.B6 = true := by kernel_rfl
theorem laws_eqModeS.calls (k : Nat) (A0 : Option Addr) (c0 : Nat) (l0 : List (S62)) (A1 : Option Addr) (c1 : Nat) (l1 : List (S62)) (r : Bool) (w : World) (hr0 : Kd.C k62 w A0 l0.length l0) (hc0 : l0.length ≤ c0) (hr1 : Kd.C k62 w A1 l1.length l1) (hc1 : l1.length ≤ c1) (h : laws_eqModeS.f k l0 l1 = some r) :
  Calls Tryz.prog 34 #[.slice A0 l0.length c0, .slice A1 l1.length c1] w fun e w' => e = .returned (.bool r) ∧ Below w.heap.size w w' := by
 have hu62 := Tryz.underlying62; have HR0 := q_ hr0; have HC0 := q_ hc0; clear hr0 hc0; have HR1 := q_ hr1; have HC1 := q_ hc1; clear hr1 hc1; have HB := q_ (Below.refl w.heap.size w)
 have H : (if (l0.length : Int) = (l1.length : Int) then (laws_eqModeS.l0 k l0 l1 0) else (none)) = some r := h
 clear h
 by_cases c3 : (l0.length : Int) = (l1.length : Int)
 ·rw [if_pos c3] at H
  have c3b0 : ((l0.length : Int) == (l1.length : Int)) = true := beq_iff_eq.mpr c3
  have c3b1 : ((l0.length : Int) != (l1.length : Int)) = false := bne_eq_false_iff_eq.mpr c3
  have c3b2 : (l0.length == l1.length) = true := by first | simpa using c3 | (simp at c3 ⊢; omega)
  clear c3
  have H' := q_ H
  clear H
  go_enter Tryz.func34, Tryz.ntmps34
  go_wp2
  go_loopg [5] k (fun kq v5 w' => ∃ (x5_1 : Int), v5 = .int .i64 x5_1 ∧ J0 (laws_eqModeS.l0 kq l0 l1 x5_1 = some r) ∧ J0 (kq ≤ k) ∧ J0 (Below w.heap.size w w'))
  case atStart => exact ⟨(0), rs_, H', ⟨Nat.le_refl _⟩, ⟨be_ HB.o⟩⟩
  case round =>
   clear H'; (try clear c1); (try clear c3); (try clear c3b0); (try clear c3b1); (try clear c3b2); obtain ⟨x5_1, rfl, HA, HK1, HB⟩ := hrel
   cases gk with
   | zero => exact absurd HA.o (by simp [laws_eqModeS.l0])
   | succ k1 =>
    have H := HA.o; clear HA
    simp only [laws_eqModeS.l0] at H
    by_cases c4 : x5_1 < (l0.length : Int)
    ·rw [if_pos c4] at H; have c4b0 := dt_ c4; clear c4
     by_cases c5 : 0 ≤ x5_1
     ·rw [if_pos c5] at H; have c5b0 := dt_ c5; clear c5
      by_cases c6 : x5_1 < (l1.length : Int)
      ·rw [if_pos c6] at H; have c6b0 := dt_ c6; clear c6; obtain ⟨t103, A7, H⟩ := ob_ H
       by_cases c8 : t103 = true
       ·subst c8; rw [if_pos rfl] at H
        have H' := q_ H
        clear H
        try go_wp2
        replace HB := q_ (below_drew1 HB.o)
        have p101 : 0 ≤ (x5_1 : Int) := of_decide_eq_true as_
        have q101 : x5_1 < (l0.length : Int) := of_decide_eq_true as_
        obtain ⟨ad101, A101_1, c101_1, e101, hx101_0, hx101_1, hl101_1, hi101_1⟩ := at_T62 HR0.o x5_1 p101 q101; have hw101_1 := hx101_1; have hw101_0 := hx101_0
        cases e101
        replace hx101_0 := mv_ HB.o hx101_0; replace hx101_1 := mv_ HB.o hx101_1; have HR101_1 := q_ hi101_1; have HC101_1 := q_ hl101_1; clear hi101_1 hl101_1; replace p101 := eq_true p101; replace q101 := eq_true q101
        have p102 : 0 ≤ (x5_1 : Int) := of_decide_eq_true as_
        have q102 : x5_1 < (l1.length : Int) := of_decide_eq_true as_
        obtain ⟨ad102, A102_1, c102_1, e102, hx102_0, hx102_1, hl102_1, hi102_1⟩ := at_T62 HR1.o x5_1 p102 q102; have hw102_1 := hx102_1; have hw102_0 := hx102_0
        cases e102
        replace hx102_0 := mv_ HB.o hx102_0; replace hx102_1 := mv_ HB.o hx102_1; have HR102_1 := q_ hi102_1; have HC102_1 := q_ hl102_1; clear hi102_1 hl102_1; replace p102 := eq_true p102; replace q102 := eq_true q102
        refine start_ (n := 10) (S := fun w' => w'.cell? (ad101.add ((x5_1).toNat * 2)) = some (.string ((rd_T62 l0 x5_1).f0)) ∧ w'.cell? ⟨(ad101.add ((x5_1).toNat * 2)).block, (ad101.add ((x5_1).toNat * 2)).off + 1, none⟩ = some (.slice A101_1 ((rd_T62 l0 x5_1).f1).length c101_1) ∧ w'.cell? (ad102.add ((x5_1).toNat * 2)) = some (.string ((rd_T62 l1 x5_1).f0)) ∧ w'.cell? ⟨(ad102.add ((x5_1).toNat * 2)).block, (ad102.add ((x5_1).toNat * 2)).off + 1, none⟩ = some (.slice A102_1 ((rd_T62 l1 x5_1).f1).length c102_1)) (ds := []) (bb 10 0) (by kernel_rfl) rfl rfl ⟨(mv_ HB.o hw101_0), (mv_ HB.o hw101_1), (mv_ HB.o hw102_0), (mv_ HB.o hw102_1)⟩ (fun hHeld => ?_); refine with_tabW laws_eqModeS.tab6 laws_eqModeS.bits6 (fun HT_ HW_ => ?_)
        generalize wr.drew = w9 at HB HR101_1 HR102_1 hx101_0 hx101_1 hx102_0 hx102_1 hHeld ⊢
        refine pv_ 0 17 1 HT_.o ?_; refine pv_ 1 18 3 HT_.o ?_; refine pv_ 2 19 7 HT_.o ?_; refine pv_ 4 21 23 HT_.o ?_; refine pv_ 5 22 55 HT_.o ?_; refine pv_ 6 23 119 HT_.o ?_; refine tv_ 3 20 127 HT_.o HW_.o hHeld ?_; refine tv_ 7 24 255 HT_.o HW_.o hHeld ?_
        refine one_ (i := 8) (N := some 25) (bb 10 511) rfl rfl (one_of HT_.o (by kernel_rfl)) (by decide) (fun K hK => ?_)
        refine gs_ Tryz.func63 #[.agg #[.string ((rd_T62 l0 x5_1).f0), .slice A101_1 ((rd_T62 l0 x5_1).f1).length c101_1], .agg #[.string ((rd_T62 l1 x5_1).f0), .slice A102_1 ((rd_T62 l1 x5_1).f1).length c102_1]] ?_
        with_reducible refine (laws_eqMode.calls k1 ((rd_T62 l0 x5_1).f0) _ _ ((rd_T62 l0 x5_1).f1) ((rd_T62 l1 x5_1).f0) _ _ ((rd_T62 l1 x5_1).f1) true _ ?side1 ?side2 ?side3 ?side4 A7.o).mono ?_
        (case side1 => exact Kd.C_below HR101_1.o (be_ HB.o))
        (case side2 => exact HC101_1.o)
        (case side3 => exact Kd.C_below HR102_1.o (be_ HB.o))
        (case side4 => exact HC102_1.o)
        rintro e w10 ⟨rfl, hb⟩
        refine ⟨_, rfl, ?_⟩; replace HB := sb_ HB hb
        (try clear hb)
        (try clear hb2)
        (try clear hk)
        (try clear hi)
        refine hK.out _ _ ⟨(mv_ HB.o hw101_0), (mv_ HB.o hw101_1), (mv_ HB.o hw102_0), (mv_ HB.o hw102_1)⟩ (fun hHeld => ?_)
        clear hK K; refine no_ (some 25) ?_; refine pv_ 9 26 1023 HT_.o ?_
        refine done_ (done_of HT_.o (by kernel_rfl)) ?_
        try go_wp2
        go_roundg k1
        case measure => have := HK1.o; omega
        case rel => exact ⟨(wrap64 (x5_1 + 1)), rs_, H', ⟨by have := HK1.o; omega⟩, ⟨be_ HB.o⟩⟩
       ·replace c8 := Bool.eq_false_iff.mpr c8; subst c8; rw [if_neg nft_] at H
        exact absurd H (by simp)
      ·rw [if_neg c6] at H
       exact absurd H (by simp)
     ·rw [if_neg c5] at H
      exact absurd H (by simp)
    ·rw [if_neg c4] at H; have c4b0 := df_ c4; clear c4; obtain rfl := Option.some.inj H
     go_wp2
     go_ret
     exact ⟨rt_, be_ HB.o⟩
 ·rw [if_neg c3] at H
  have c3b0 : ((l0.length : Int) == (l1.length : Int)) = false := beq_eq_false_iff_ne.mpr c3
  have c3b1 : ((l0.length : Int) != (l1.length : Int)) = true := bne_iff_ne.mpr c3
  have c3b2 : (l0.length == l1.length) = false := by first | simpa using c3 | (simp at c3 ⊢; omega)
  exact absurd H (by simp)
end Go.Proofs.YtijmhelacmjggaaGreat.P
namespace Go.Proofs.YtijmhelacmjggaaGreat.P
open Go.RowKit Go.Proofs.YtijmhelacmjggaaGreatW.PrintWords Go.Proofs.YtijmhelacmjggaaGreatW.PrintLast Go.Proofs.YtijmhelacmjggaaGreatEv
set_option linter.unusedVariables false
set_option linter.unusedSimpArgs false
def g91 (x : S91) : Prop := x.f0.size ≤ maxLen ∧ (x.f1.length ≤ maxLen ∧ ∀ y ∈ x.f1, g144 y)
def h62 (x : S62) : Prop := (x.f1.length ≤ 9223372036854775807 ∧ ∀ y ∈ x.f1, h64 y)
def cMode (x : S91) : S62 := ⟨x.f0, (x.f1.map cRule)⟩
def wMode (x : S91) : Nat := x.f0.size + (x.f1.length + ws wRule x.f1)
theorem hMode_of_g {x : S91} (hg : g91 x) : h62 (cMode x) :=
  ⟨by simpa [cMode] using Nat.le_trans hg.2.1 maxLen_le, fun y hy => by
    obtain ⟨z, hz, rfl⟩ := List.mem_map.1 hy
    exact hRule_of_g (hg.2.2 z hz)⟩
theorem laws_szMode_ev (v0 : ByteArray) (v1 : List S144) (a : Int) (h0 : 0 ≤ a) (h1 : a ≤ 1048576) (hb_v0 : v0.size ≤ 9223372036854775807) (hb_v1 : v1.length ≤ 9223372036854775807) (hg_v1 : ∀ x ∈ v1, g144 x) : Ev (fun k => laws_szMode.f k v0 v1 a) (if a < ((v0.size + (v1.length + ws wRule v1) : Nat) : Int) then -1 else a - ((v0.size + (v1.length + ws wRule v1) : Nat) : Int)) := by
  unfold laws_szMode.f
  rw [wrap_id (x := a - (v0.size : Int)) (by omega) (by omega)]
  simp only [ev_ite]
  by_cases c_v0 : a - (v0.size : Int) < 0
  · rw [if_pos c_v0]
    refine ev_some.2 ?_
    (try first | rfl | rw [if_pos (by omega)])
  rw [if_neg c_v0]
  rw [ev_bind (laws_szRuleS_ev v1 _ (by omega) (by omega) hb_v1 hg_v1)]
  simp only [Option.bind_some, ev_ite]
  by_cases c1_ : (a - (v0.size : Int)) < (((v1.length + ws wRule v1) : Nat) : Int)
  · rw [if_pos c1_, if_pos (by omega)]
    refine ev_some.2 ?_
    (try first | rfl | rw [if_pos (by omega)])
  rw [if_neg c1_, if_neg (by omega)]
  refine ev_some.2 ?_
  (try rw [if_neg (by omega)])
  (try (first | rfl | omega | (congr 1; omega)))
theorem laws_toMode_ev (v0 : ByteArray) (v1 : List S144) (hw_v1 : (v1.length + ws wRule v1) ≤ 1048576) : Ev (fun k => laws_toMode.f k v0 v1) (v0, (v1.map cRule)) := by
  unfold laws_toMode.f
  rw [ev_bind (laws_toRuleS_ev v1 hw_v1)]
  exact ev_some.2 rfl
theorem laws_eqMode_ev (v0 : ByteArray) (v1 : List S64) (hb_v1 : v1.length ≤ 9223372036854775807) (hh_v1 : ∀ x ∈ v1, h64 x) : Ev (fun k => laws_eqMode.f k v0 v1 v0 v1) true := by
  unfold laws_eqMode.f
  (try simp only [if_true, ev_ite, bne_self_eq_false, Bool.false_eq_true, if_false, ev_some])
  rw [ev_bind (laws_eqRuleS_ev v1 hb_v1 hh_v1)]
  (try simp only [if_true, ev_ite, bne_self_eq_false, Bool.false_eq_true, if_false, ev_some])
theorem laws_szModeS_ev (l : List S91) (a : Int) (h0 : 0 ≤ a) (h1 : a ≤ 1048576) (hl : l.length ≤ 9223372036854775807) (hg : ∀ x ∈ l, g91 x) : Ev (fun k => laws_szModeS.f k l a) (if a < ((l.length + ws wMode l : Nat) : Int) then -1 else a - ((l.length + ws wMode l : Nat) : Int)) := by
  unfold laws_szModeS.f
  rw [wrap_id (by omega) (by omega)]
  simp only [ev_ite]
  by_cases c0 : a - (l.length : Int) < 0
  · rw [if_pos c0]
    exact ev_some.2 (by rw [if_pos (by omega)])
  rw [if_neg c0]
  have key := down l.length (fun i => ∀ x1 : Int, 0 ≤ x1 → x1 ≤ 1048576 → Ev (fun k => laws_szModeS.l0 k l x1 (i : Nat)) (if x1 < ((ws wMode (l.drop i) : Nat) : Int) then -1 else x1 - ((ws wMode (l.drop i) : Nat) : Int))) ?_ ?_ 0 (by omega) (a - (l.length : Int)) (by omega) (by omega)
  · refine ev_congr key ?_
    rw [List.drop_zero]
    split <;> split <;> first | rfl | omega
  · intro x1 h0 h1
    rw [ev_succ]
    simp only [laws_szModeS.l0, ev_ite, ev_some]
    rw [if_neg (by omega), List.drop_length]
    simp [ws]
    omega
  · intro i hi ih x1 h0 h1
    rw [ev_succ, ws_drop wMode l z91 i hi]
    have hr : l.getD i z91 = rd_T91 l i := by simp [rd_T91]
    rw [hr]
    have hgy : g91 (rd_T91 l i) := by
      rw [← hr, List.getD_eq_getElem?_getD, List.getElem?_eq_getElem hi]
      exact hg _ (List.getElem_mem _)
    simp only [laws_szModeS.l0, ev_ite]
    rw [if_pos (by omega), if_pos (by omega), wrap_succ hi (by omega)]
    rw [ev_bind (laws_szMode_ev _ _ x1 h0 h1 (Nat.le_trans (hgy).1 maxLen_le) (Nat.le_trans (hgy).2.1 maxLen_le) (hgy).2.2)]
    simp only [Option.bind_some, ev_ite]
    have e : ((wMode (rd_T91 l i) : Nat) : Int) = (((rd_T91 l i).f0.size + ((rd_T91 l i).f1.length + ws wRule (rd_T91 l i).f1) : Nat) : Int) := rfl
    by_cases c : x1 < ((wMode (rd_T91 l i) : Nat) : Int)
    · have c' : x1 < (((rd_T91 l i).f0.size + ((rd_T91 l i).f1.length + ws wRule (rd_T91 l i).f1) : Nat) : Int) := by rw [← e]; exact c
      simp only [if_pos c']
      rw [if_pos (by omega)]
      exact ev_some.2 (by rw [if_pos (by omega)])
    · have c' : ¬ x1 < (((rd_T91 l i).f0.size + ((rd_T91 l i).f1.length + ws wRule (rd_T91 l i).f1) : Nat) : Int) := by rw [← e]; exact c
      simp only [if_neg c']
      rw [if_neg (by rw [← e]; omega)]
      refine ev_congr (ih _ (by rw [← e]; omega) (by rw [← e]; omega)) ?_
      rw [← e]
      split <;> split <;> first | rfl | omega
theorem laws_toModeS_ev (l : List S91) (hl : l.length + ws wMode l ≤ 1048576) : Ev (fun k => laws_toModeS.f k l) (l.map cMode) := by
  unfold laws_toModeS.f
  simp only [ev_ite]
  rw [if_pos (by omega), if_pos (by omega)]
  have h := ev_loop l.length (fun k i => laws_toModeS.l0 k l (upTo cMode z62 l i) (i : Nat)) (fun _ => l.map cMode) ?_ ?_ 0 (by omega)
  · rw [upTo_zero] at h
    exact h
  · rw [ev_succ, upTo_all]
    simp [laws_toModeS.l0, ev_some]
  · intro i hi ih
    have hr : l.getD i z91 = rd_T91 l i := by simp [rd_T91]
    have hwi : wMode (rd_T91 l i) ≤ 1048576 := by
      rw [← hr]
      have := ws_le wMode l z91 i hi
      omega
    rw [ev_succ]
    simp only [laws_toModeS.l0, ev_ite]
    rw [if_pos (by omega), if_pos (by omega)]
    rw [ev_bind (laws_toMode_ev _ _ (by have e : ((rd_T91 l i).f1.length + ws wRule (rd_T91 l i).f1) ≤ wMode (rd_T91 l i) := (by simp only [wMode]; omega); omega))]
    (try simp only [ev_ite])
    rw [if_pos (by rw [upTo_length _ _ _ _ (by omega)]; omega), wrap_succ hi (by omega)]
    have := upTo_set cMode z62 l z91 i hi
    rw [hr] at this
    simp only [Int.toNat_natCast]
    simp only [cMode] at this ih ⊢
    rw [this]
    exact ih
theorem laws_eqModeS_ev (l : List S62) (hl : l.length ≤ 9223372036854775807) (hh : ∀ x ∈ l, h62 x) : Ev (fun k => laws_eqModeS.f k l l) true := by
  unfold laws_eqModeS.f
  simp only [ev_ite]
  rw [if_pos trivial]
  refine ev_loop l.length (fun k i => laws_eqModeS.l0 k l l (i : Nat)) (fun _ => true) ?_ ?_ 0 (by omega)
  · rw [ev_succ]
    simp [laws_eqModeS.l0, ev_some]
  · intro i hi ih
    have hhy : h62 (rd_T62 l i) := by
      have hr : l.getD i z62 = rd_T62 l i := by simp [rd_T62]
      rw [← hr, List.getD_eq_getElem?_getD, List.getElem?_eq_getElem hi]
      exact hh _ (List.getElem_mem _)
    rw [ev_succ]
    simp only [laws_eqModeS.l0, ev_ite]
    rw [if_pos (by omega), if_pos (by omega), wrap_succ hi (by omega)]
    (try rw [if_pos (by omega)])
    rw [ev_bind (laws_eqMode_ev _ _ (hhy.1) (hhy.2))]
    (try simp only [if_true, ev_ite])
    exact ih
end Go.Proofs.YtijmhelacmjggaaGreat.P
namespace Go.Proofs.YtijmhelacmjggaaGreat.P
open Go.RowKit Go.Proofs.YtijmhelacmjggaaGreatW.PrintWords Go.Proofs.YtijmhelacmjggaaGreatW.PrintLast Go.Proofs.YtijmhelacmjggaaGreatW.PrintMore
attribute [local go_sem] max2_int min2_int max_two min_two max_three min_three max_four min_four
set_option linter.unusedVariables false
set_option linter.unusedSimpArgs false
/-! ### laws_szGrammar: function 5 -/
def laws_szGrammar.f (k : Nat) (l0_0 : List (S91)) (a1 : Int) : Option (Int) := (laws_szModeS.f k l0_0 a1).bind fun t102 => (if t102 < 0 then (some (-1)) else (some t102))
theorem laws_szGrammar.calls (k : Nat) (A0_0 : Option Addr) (c0_0 : Nat) (l0_0 : List (S91)) (a1 : Int) (r : Int) (w : World) (hr0_0 : Kd.C k91 w A0_0 l0_0.length l0_0) (hc0_0 : l0_0.length ≤ c0_0) (h : laws_szGrammar.f k l0_0 a1 = some r) :
  Calls Tryz.prog 5 #[.agg #[.slice A0_0 l0_0.length c0_0], .int .i64 a1] w fun e w' => e = .returned (.int .i64 r) ∧ Below w.heap.size w w' := by
 have hu24 := Tryz.underlying24; have HR0_0 := q_ hr0_0; have HC0_0 := q_ hc0_0; clear hr0_0 hc0_0; have HB := q_ (Below.refl w.heap.size w)
 have H : ((laws_szModeS.f k l0_0 a1).bind fun t102 => (if t102 < 0 then (some (-1)) else (some t102))) = some r := h
 clear h; obtain ⟨t102, A3, H⟩ := ob_ H
 by_cases c4 : t102 < 0
 ·rw [if_pos c4] at H; have c4b0 := dt_ c4; clear c4; obtain rfl := Option.some.inj H
  go_enter Tryz.func5, Tryz.ntmps5
  go_wp2_with (first | ((with_reducible refine gate_dst (N := 2) rfl ?_); refine bx_ 2 #[.slice A0_0 l0_0.length c0_0] 24 ?_; intro gb101 hg w5 hbox hb; have BK101 := q_ (hbox); have GE101 := ge_ hg HB; replace HB := sb_ HB hb; clear hb hbox hg; obtain ⟨hcz6_0, hfz6_0⟩ := d1_ BK101) | ((with_reducible refine gate_callee (f := 23) rfl ?_); refine gl_ (some 8) rfl rfl Tryz.func23 #[.slice A0_0 l0_0.length c0_0, .int .i64 a1] ?_; (with_reducible refine (laws_szModeS.calls k _ _ l0_0 a1 t102 _ ?side1 ?side2 A3.o).mono ?_); (case side1 => exact Kd.C_below HR0_0.o (be_ HB.o)); (case side2 => exact HC0_0.o); rintro e w7 ⟨rfl, hb⟩; refine ⟨_, rfl, ?_⟩; replace BK101 := lb_ BK101 hb; replace HB := sb1_ HB GE101 hb; (try clear hb)))
  go_ret
  exact ⟨rt_, be1_ HB.o GE101.o⟩
 ·rw [if_neg c4] at H; have c4b0 := df_ c4; clear c4; obtain rfl := Option.some.inj H
  go_enter Tryz.func5, Tryz.ntmps5
  go_wp2_with (first | ((with_reducible refine gate_dst (N := 2) rfl ?_); refine bx_ 2 #[.slice A0_0 l0_0.length c0_0] 24 ?_; intro gb101 hg w8 hbox hb; have BK101 := q_ (hbox); have GE101 := ge_ hg HB; replace HB := sb_ HB hb; clear hb hbox hg; obtain ⟨hcz9_0, hfz9_0⟩ := d1_ BK101) | ((with_reducible refine gate_callee (f := 23) rfl ?_); refine gl_ (some 8) rfl rfl Tryz.func23 #[.slice A0_0 l0_0.length c0_0, .int .i64 a1] ?_; (with_reducible refine (laws_szModeS.calls k _ _ l0_0 a1 t102 _ ?side1 ?side2 A3.o).mono ?_); (case side1 => exact Kd.C_below HR0_0.o (be_ HB.o)); (case side2 => exact HC0_0.o); rintro e w10 ⟨rfl, hb⟩; refine ⟨_, rfl, ?_⟩; replace BK101 := lb_ BK101 hb; replace HB := sb1_ HB GE101 hb; (try clear hb)))
  go_ret
  exact ⟨rt_, be1_ HB.o GE101.o⟩
/-! ### laws_toGrammar: function 7 -/
def laws_toGrammar.f (k : Nat) (l0_0 : List (S91)) : Option ((List (S62))) := (laws_toModeS.f k l0_0).bind fun t104 => (some t104)
theorem laws_toGrammar.calls (k : Nat) (A0_0 : Option Addr) (c0_0 : Nat) (l0_0 : List (S91)) (r : List (S62)) (w : World) (hr0_0 : Kd.C k91 w A0_0 l0_0.length l0_0) (hc0_0 : l0_0.length ≤ c0_0) (h : laws_toGrammar.f k l0_0 = some r) :
  Calls Tryz.prog 7 #[.agg #[.slice A0_0 l0_0.length c0_0]] w fun e w' => ∃ v0_ : Value, e = .returned (.agg #[v0_]) ∧ Kd.R k62 62 w' w.heap.size (fun _ => True) v0_ r ∧ Below w.heap.size w w' := by
 have hu24 := Tryz.underlying24; have hu31 := Tryz.underlying31; have HR0_0 := q_ hr0_0; have HC0_0 := q_ hc0_0; clear hr0_0 hc0_0; have HB := q_ (Below.refl w.heap.size w)
 have H : ((laws_toModeS.f k l0_0).bind fun t104 => (some t104)) = some r := h
 clear h; obtain ⟨t104, A2, H⟩ := ob_ H; obtain rfl := Option.some.inj H
 go_enter Tryz.func7, Tryz.ntmps7
 go_wp2_with (first | ((with_reducible refine gate_dst (N := 1) rfl ?_); refine bx_ 1 #[.slice A0_0 l0_0.length c0_0] 24 ?_; intro gb101 hg w3 hbox hb; have BK101 := q_ (hbox); have GE101 := ge_ hg HB; replace HB := sb_ HB hb; clear hb hbox hg) | ((with_reducible refine gate_dst (N := 2) rfl ?_); refine bx_ 2 #[.slice none 0 0] 31 ?_; intro gb102 hg w4 hbox hb; have BK102 := q_ (hbox); have GE102 := ge1_ hg HB GE101; have NB101_102 := nl_ hg BK101; have NB102_101 := ng_ hg BK101; replace BK101 := lb_ BK101 hb; replace HB := sb1_ HB GE101 hb; clear hb hbox hg) | ((with_reducible refine gate_dst (N := 3) rfl ?_); refine bx_ 3 #[.slice none 0 0] 31 ?_; intro gb103 hg w5 hbox hb; have BK103 := q_ (hbox); have GE103 := ge2_ hg HB GE101 GE102; have NB101_103 := nl_ hg BK101; have NB103_101 := ng_ hg BK101; have NB102_103 := nl_ hg BK102; have NB103_102 := ng_ hg BK102; replace BK101 := lb_ BK101 hb; replace BK102 := lb_ BK102 hb; replace HB := sb2_ HB GE101 GE102 hb; clear hb hbox hg; have hnb6 := NB101_102.o; have hnc6 := NB102_101.o; have hnb7 := NB101_103.o; have hnc7 := NB103_101.o; obtain ⟨hcz8_0, hfz8_0⟩ := d1_ BK101) | ((with_reducible refine gate_callee (f := 28) rfl ?_); refine gl_ (some 6) rfl rfl Tryz.func28 #[.slice A0_0 l0_0.length c0_0] ?_; (with_reducible refine (laws_toModeS.calls k _ _ l0_0 t104 _ ?side1 ?side2 A2.o).mono ?_); (case side1 => exact Kd.C_below HR0_0.o (be_ HB.o)); (case side2 => exact HC0_0.o); rintro e w9 ⟨v105, rfl, ho0, hb⟩; refine ⟨_, rfl, ?_⟩; have HO106 := q_ (Kd.R_lower ho0 (below_size (be3_ HB.o GE101.o GE102.o GE103.o))); replace BK101 := lb_ BK101 hb; replace BK102 := lb_ BK102 hb; replace BK103 := lb_ BK103 hb; replace HB := sb3_ HB GE101 GE102 GE103 hb; (try clear hb); (try clear ho0); obtain ⟨Ao10, co10, eo10⟩ := Kd.R_slice HO106.o; subst eo10; have hnb11 := NB103_102.o; have hnc11 := NB102_103.o; obtain ⟨hcz12_0, hfz12_0⟩ := d1_ BK103; obtain ⟨hcz13_0, hfz13_0⟩ := d1_ BK102))
 refine bodyPost_ret (results_cell_row rfl _ _ gb102 31 #[.slice Ao10 t104.length co10] (0, 0) _ rfl (by (with_reducible repeat (first | refine blk_drewN ?_ _ | refine blk_drew ?_ | refine blk_alloc ?_ _)); refine blk_put (cs := #[.slice none 0 0]) ?_ 0 _ rfl; (with_reducible repeat (first | refine blk_drewN ?_ _ | refine blk_drew ?_ | refine blk_alloc ?_ _)); refine blk_far ?_ NB102_103.o _; (with_reducible repeat (first | refine blk_drewN ?_ _ | refine blk_drew ?_ | refine blk_alloc ?_ _)); exact BK102.o) Tryz.underlying31 rfl (by kernel_rfl)) rfl ?_
 exact ⟨_, rt_, by (with_reducible repeat (first | apply Kd.R_alloc | apply Kd.R_drewN | apply Kd.R_drew)); exact Kd.R_mono (Kd.R_far (p := ⟨gb102, 0, none⟩) (Kd.R_far (p := ⟨gb103, 0, none⟩) (Kd.R_types (Kd.R_types HO106.o BK103.o (by decide)) BK102.o (by decide)) (fun _ hk => hk.1.2) (.slice Ao10 t104.length co10)) (fun _ hk => hk.2) (.slice Ao10 t104.length co10)) (fun _ hk => trivial), be3_ HB.o GE101.o GE102.o GE103.o⟩
/-! ### laws_eqGrammar: function 10 -/
def laws_eqGrammar.f (k : Nat) (l0_0 : List (S62)) (l1_0 : List (S62)) : Option (Bool) := (laws_eqModeS.f k l0_0 l1_0).bind fun t103 => (if t103 = true then (some true) else (none))
theorem laws_eqGrammar.calls (k : Nat) (A0_0 : Option Addr) (c0_0 : Nat) (l0_0 : List (S62)) (A1_0 : Option Addr) (c1_0 : Nat) (l1_0 : List (S62)) (r : Bool) (w : World) (hr0_0 : Kd.C k62 w A0_0 l0_0.length l0_0) (hc0_0 : l0_0.length ≤ c0_0) (hr1_0 : Kd.C k62 w A1_0 l1_0.length l1_0) (hc1_0 : l1_0.length ≤ c1_0) (h : laws_eqGrammar.f k l0_0 l1_0 = some r) :
  Calls Tryz.prog 10 #[.agg #[.slice A0_0 l0_0.length c0_0], .agg #[.slice A1_0 l1_0.length c1_0]] w fun e w' => e = .returned (.bool r) ∧ Below w.heap.size w w' := by
 have hu31 := Tryz.underlying31; have HR0_0 := q_ hr0_0; have HC0_0 := q_ hc0_0; clear hr0_0 hc0_0; have HR1_0 := q_ hr1_0; have HC1_0 := q_ hc1_0; clear hr1_0 hc1_0; have HB := q_ (Below.refl w.heap.size w)
 have H : ((laws_eqModeS.f k l0_0 l1_0).bind fun t103 => (if t103 = true then (some true) else (none))) = some r := h
 clear h; obtain ⟨t103, A3, H⟩ := ob_ H
 by_cases c4 : t103 = true
 ·subst c4; rw [if_pos rfl] at H; obtain rfl := Option.some.inj H
  go_enter Tryz.func10, Tryz.ntmps10
  go_wp2_with (first | ((with_reducible refine gate_dst (N := 2) rfl ?_); refine bx_ 2 #[.slice A0_0 l0_0.length c0_0] 31 ?_; intro gb101 hg w5 hbox hb; have BK101 := q_ (hbox); have GE101 := ge_ hg HB; replace HB := sb_ HB hb; clear hb hbox hg) | ((with_reducible refine gate_dst (N := 3) rfl ?_); refine bx_ 3 #[.slice A1_0 l1_0.length c1_0] 31 ?_; intro gb102 hg w6 hbox hb; have BK102 := q_ (hbox); have GE102 := ge1_ hg HB GE101; have NB101_102 := nl_ hg BK101; have NB102_101 := ng_ hg BK101; replace BK101 := lb_ BK101 hb; replace HB := sb1_ HB GE101 hb; clear hb hbox hg; have hnb7 := NB101_102.o; have hnc7 := NB102_101.o; obtain ⟨hcz8_0, hfz8_0⟩ := d1_ BK101; obtain ⟨hcz9_0, hfz9_0⟩ := d1_ BK102) | ((with_reducible refine gate_callee (f := 34) rfl ?_); refine gl_ (some 9) rfl rfl Tryz.func34 #[.slice A0_0 l0_0.length c0_0, .slice A1_0 l1_0.length c1_0] ?_; (with_reducible refine (laws_eqModeS.calls k _ _ l0_0 _ _ l1_0 true _ ?side1 ?side2 ?side3 ?side4 A3.o).mono ?_); (case side1 => exact Kd.C_below HR0_0.o (be_ HB.o)); (case side2 => exact HC0_0.o); (case side3 => exact Kd.C_below HR1_0.o (be_ HB.o)); (case side4 => exact HC1_0.o); rintro e w10 ⟨rfl, hb⟩; refine ⟨_, rfl, ?_⟩; replace BK101 := lb_ BK101 hb; replace BK102 := lb_ BK102 hb; replace HB := sb2_ HB GE101 GE102 hb; (try clear hb)))
  go_ret
  exact ⟨rt_, be2_ HB.o GE101.o GE102.o⟩
 ·replace c4 := Bool.eq_false_iff.mpr c4; subst c4; rw [if_neg nft_] at H
  exact absurd H (by simp)
end Go.Proofs.YtijmhelacmjggaaGreat.P
namespace Go.Proofs.YtijmhelacmjggaaGreat.P
open Go.RowKit Go.Proofs.YtijmhelacmjggaaGreatW.PrintWords Go.Proofs.YtijmhelacmjggaaGreatW.PrintLast Go.Proofs.YtijmhelacmjggaaGreatEv
set_option linter.unusedVariables false
set_option linter.unusedSimpArgs false
theorem laws_szGrammar_ev (v0 : List S91) (a : Int) (h0 : 0 ≤ a) (h1 : a ≤ 1048576) (hb_v0 : v0.length ≤ 9223372036854775807) (hg_v0 : ∀ x ∈ v0, g91 x) : Ev (fun k => laws_szGrammar.f k v0 a) (if a < (((v0.length + ws wMode v0) : Nat) : Int) then -1 else a - (((v0.length + ws wMode v0) : Nat) : Int)) := by
  unfold laws_szGrammar.f
  rw [ev_bind (laws_szModeS_ev v0 _ (by omega) (by omega) hb_v0 hg_v0)]
  simp only [Option.bind_some, ev_ite]
  by_cases c0_ : a < (((v0.length + ws wMode v0) : Nat) : Int)
  · rw [if_pos c0_, if_pos (by omega)]
    refine ev_some.2 ?_
    (try first | rfl | rw [if_pos (by omega)])
  rw [if_neg c0_, if_neg (by omega)]
  refine ev_some.2 ?_
  (try rw [if_neg (by omega)])
  (try (first | rfl | omega | (congr 1; omega)))
theorem laws_toGrammar_ev (v0 : List S91) (hw_v0 : (v0.length + ws wMode v0) ≤ 1048576) : Ev (fun k => laws_toGrammar.f k v0) (v0.map cMode) := by
  unfold laws_toGrammar.f
  rw [ev_bind (laws_toModeS_ev v0 hw_v0)]
  exact ev_some.2 rfl
theorem laws_eqGrammar_ev (v0 : List S62) (hb_v0 : v0.length ≤ 9223372036854775807) (hh_v0 : ∀ x ∈ v0, h62 x) : Ev (fun k => laws_eqGrammar.f k v0 v0) true := by
  unfold laws_eqGrammar.f
  (try simp only [if_true, ev_ite, bne_self_eq_false, Bool.false_eq_true, if_false, ev_some])
  rw [ev_bind (laws_eqModeS_ev v0 hb_v0 hh_v0)]
  (try simp only [if_true, ev_ite, bne_self_eq_false, Bool.false_eq_true, if_false, ev_some])
end Go.Proofs.YtijmhelacmjggaaGreat.P
namespace Go.Proofs.YtijmhelacmjggaaGreat.P
open Go.RowKit Go.Shelf Go.Proofs.YtijmhelacmjggaaGreatW.PrintWords Go.Proofs.YtijmhelacmjggaaGreatW.PrintLast Go.Proofs.YtijmhelacmjggaaGreatW.PrintMore Go.Proofs.YtijmhelacmjggaaGreatEv
set_option linter.unusedVariables false
set_option linter.unusedSimpArgs false
def AskRule (g : Nat) (lb : Array Value) (w : World) (l0 : List S64) (p : S64 → Bool) : Prop := ∀ (W : World) (x : S64) (A1 : Option Addr) (c1 : Nat), x ∈ l0 → Below w.heap.size w W → Kd.C k121 W A1 x.f1.f0.length x.f1.f0 → x.f1.f0.length ≤ c1 →
  Calls Tryz.prog g (#[.agg #[.string x.f0, .slice A1 x.f1.f0.length c1, .bool x.f2, .int .i64 x.f3, .string x.f4]] ++ lb) W fun e w' => e = .returned (.bool (p x)) ∧ Below W.heap.size W w'
theorem IndexFunc_Rule (g : Nat) (lb : Array Value) (eg : ∀ args w, (callFunc g args).run Tryz.prog w = .ok (.enter g args) w) (p : S64 → Bool) (A0 : Option Addr) (c0 : Nat) (l0 : List S64) (w : World) (hr0 : Kd.C k64 w A0 l0.length l0)
    (hp : AskRule g lb w l0 p) :
    Calls Tryz.prog 95 #[.slice A0 l0.length c0, .func (.func g) #[] lb] w fun e w' => e = .returned (.int .i64 (idxP p l0 0)) ∧ Below w.heap.size w w' := by
  have HP := Lib.hid hp
  clear hp
  have hn := hr0.2.1
  have HR := q_ hr0
  clear hr0
  go_enter Tryz.func95, Tryz.ntmps95
  go_wp2
  go_loopg [5, 8] l0.length (fun gg _ s8 wr => ∃ kk : Nat, kk ≤ l0.length ∧ l0.length - kk ≤ gg ∧ s8 = .int .i64 kk ∧ J0 (Below w.heap.size w wr) ∧ J0 (idxP p l0 0 = idxP p (l0.drop kk) kk))
  case atStart => exact ⟨0, Nat.zero_le _, by omega, rfl, ⟨Below.refl _ w⟩, ⟨by simp⟩⟩
  case round =>
    obtain ⟨kk, hkk, hg, rfl, BW, HA⟩ := hrel
    by_cases hlt : kk < l0.length
    · have hltz : (kk : Int) < (l0.length : Int) := by omega
      obtain ⟨ad, A1, c1, rfl, hx0, hx1, hx2, hx3, hx4, hl, hi⟩ := at_T64 HR.o (kk : Int) (by omega) hltz
      rw [Int.toNat_natCast] at hx0 hx1 hx2 hx3 hx4
      replace hx0 := mv_ BW.o hx0
      replace hx1 := mv_ BW.o hx1
      replace hx2 := mv_ BW.o hx2
      replace hx3 := mv_ BW.o hx3
      replace hx4 := mv_ BW.o hx4
      have hmem : rd_T64 l0 (kk : Int) ∈ l0 := by
        unfold rd_T64
        rw [List.getD_eq_getElem?_getD, List.getElem?_eq_getElem (by simpa using hlt)]
        exact List.getElem_mem _
      have hcall := HP.out wr (rd_T64 l0 (kk : Int)) A1 c1 hmem BW.o (Kd.C_below hi BW.o) hl
      have hstep : J0 (idxP p l0 0 = if p (rd_T64 l0 (kk : Int)) then (kk : Int) else idxP p (l0.drop (kk + 1)) ((kk + 1 : Nat) : Int)) := ⟨by
        rw [HA.o, drop_cons l0 z64 kk hlt]
        have hr : l0.getD kk z64 = rd_T64 l0 (kk : Int) := by simp [rd_T64]
        rw [hr]
        rfl⟩
      clear hmem hi hl
      generalize rd_T64 l0 (kk : Int) = y at *
      cases hq : p y with
      | true =>
        rw [hq] at hcall
        have hs2 : J0 (idxP p l0 0 = (kk : Int)) := ⟨by rw [hstep.o, hq]; rfl⟩
        clear hstep hq HA
        go_wp2_with (go_at_fn g; refine hcall.mono ?_; rintro e w' ⟨rfl, hb'⟩)
        go_ret
        exact ⟨by (rw [hs2.o]; try rfl), below_then BW.o BW.o.size hb'⟩
      | false =>
        rw [hq] at hcall
        have hs2 : J0 (idxP p l0 0 = idxP p (l0.drop (kk + 1)) ((kk + 1 : Nat) : Int)) := ⟨by rw [hstep.o, hq]; rfl⟩
        clear hstep hq HA
        go_wp2_with (go_at_fn g; refine hcall.mono ?_; rintro e w' ⟨rfl, hb'⟩)
        go_roundg (l0.length - (kk + 1))
        case measure => omega
        case rel => exact ⟨kk + 1, by omega, by omega, by go_num, ⟨below_then BW.o BW.o.size hb'⟩, hs2⟩
    · have hltz : ¬ (kk : Int) < (l0.length : Int) := by omega
      have hk : kk = l0.length := by omega
      have hs2 : J0 (idxP p l0 0 = -1) := ⟨by rw [HA.o, hk]; simp [idxP]⟩
      clear hk HA
      go_wp2
      go_ret
      exact ⟨by (rw [hs2.o]; try rfl), BW.o⟩
theorem ContainsFunc_Rule (g : Nat) (lb : Array Value) (eg : ∀ args w, (callFunc g args).run Tryz.prog w = .ok (.enter g args) w) (p : S64 → Bool) (A0 : Option Addr) (c0 : Nat) (l0 : List S64) (w : World) (hr0 : Kd.C k64 w A0 l0.length l0)
    (hp : AskRule g lb w l0 p) :
    Calls Tryz.prog 72 #[.slice A0 l0.length c0, .func (.func g) #[] lb] w fun e w' => e = .returned (.bool (l0.any p)) ∧ Below w.heap.size w w' := by
  have hc := IndexFunc_Rule g lb eg p A0 c0 l0 w hr0 hp
  have ha : l0.any p = decide (0 ≤ idxP p l0 0) := by
    rw [Bool.eq_iff_iff, decide_eq_true_iff, idxP_ge p l0 0 (by omega)]
  rw [ha]
  clear ha hr0 hp
  generalize idxP p l0 0 = i at hc ⊢
  go_enter Tryz.func72, Tryz.ntmps72
  go_wp2_with (go_at_call 95; refine hc.mono ?_; rintro e w' ⟨rfl, hb⟩)
  go_ret
  exact ⟨rfl, hb⟩
def Row (w0 w : World) (gg : Nat) (v : Value) (b : Bool) : Prop := Kd.R Kd.bool 4 w w0.heap.size (fun k => k ≠ gg) v [b]
def MK (gg : Nat) (w w' : World) : Prop := w.heap.size ≤ w'.heap.size ∧ ∀ k, k < w.heap.size → k ≠ gg → w'.heap[k]? = w.heap[k]?
def Memo (w0 : World) (gm gg : Nat) (An : Option Addr) (cn : Nat) (nodes : List S121) (tx : ByteArray) (E : Nat → Bool) (w : World) : Prop :=
  ∃ cg cs, w.heap[gm]? = some (.cells #[.slice An nodes.length cn, .string tx, .slice (some ⟨gg, 0, none⟩) nodes.length cg] 160 (0, 0)) ∧ nodes.length ≤ cg ∧ w0.heap.size ≤ gm ∧ w0.heap.size ≤ gg ∧ w.heap[gg]? = some (.cells cs 114 (0, 0)) ∧ ∀ k, k < nodes.length → ∃ v, cs[k]? = some v ∧ (v = .slice none 0 0 ∨ Row w0 w gg v (E k))
section
variable {w0 w w1 w2 : World} {gm gg cn : Nat} {An : Option Addr} {nodes : List S121} {tx : ByteArray} {E : Nat → Bool} {v : Value} {b : Bool}
theorem MK.refl (gg : Nat) (w : World) : MK gg w w := ⟨Nat.le_refl _, fun _ _ _ => rfl⟩
theorem MK.trans (h : MK gg w w1) (h2 : MK gg w1 w2) : MK gg w w2 := ⟨Nat.le_trans h.1 h2.1, fun k hk hg => (h2.2 k (Nat.lt_of_lt_of_le hk h.1) hg).trans (h.2 k hk hg)⟩
theorem MK.below (h : Below w.heap.size w w1) : MK gg w w1 := ⟨h.size, fun k hk _ => h.block k hk⟩
theorem MK.drewN (gg : Nat) (w : World) (n : Nat) : MK gg w (w.drewN n) := ⟨Nat.le_refl _, fun _ _ _ => rfl⟩
theorem Row.keep (h : Row w0 w gg v b) (hk : MK gg w w1) : Row w0 w1 gg v b := Kd.R_step h fun k ho hlt => hk.2 k hlt ho
theorem Memo.below (h : Memo w0 gm gg An cn nodes tx E w) (hb : Below w.heap.size w w1) : Memo w0 gm gg An cn nodes tx E w1 := by
  obtain ⟨cg, cs, h1, h2, h3, h4, h5, h6⟩ := h
  refine ⟨cg, cs, blk_below h1 hb, h2, h3, h4, blk_below h5 hb, fun k hk => ?_⟩
  obtain ⟨v, hv, hr⟩ := h6 k hk
  exact ⟨v, hv, hr.imp id fun h => Row.keep h (MK.below hb)⟩
theorem Memo.ne (h : Memo w0 gm gg An cn nodes tx E w) : gm ≠ gg := by
  obtain ⟨cg, cs, h1, _, _, _, h5, _⟩ := h
  exact blk_ne h1 h5 (by decide)
theorem Memo.head (h : Memo w0 gm gg An cn nodes tx E w) : ∃ cg, w.heap[gm]? = some (.cells #[.slice An nodes.length cn, .string tx, .slice (some ⟨gg, 0, none⟩) nodes.length cg] 160 (0, 0)) ∧ nodes.length ≤ cg ∧ w0.heap.size ≤ gm := by
  obtain ⟨cg, cs, h1, h2, h3, _⟩ := h
  exact ⟨cg, h1, h2, h3⟩
theorem Row.form (h : Row w0 w gg v b) : ∃ g c, v = .slice (some ⟨g, 0, none⟩) 1 c ∧ 1 ≤ c := by
  obtain ⟨g, c, h1, _⟩ := Kd.R_form h (by simp)
  obtain ⟨A, c2, h2, h3, _⟩ := Kd.R_reads h; subst h1
  injection h2 with _ _ e
  subst e
  exact ⟨g, c, rfl, h3⟩
theorem Row.C {A : Option Addr} {n c : Nat} (h : Row w0 w gg (.slice A n c) b) : Kd.C Kd.bool w A [b].length [b] := (Kd.R_reads' h).2.2
end
def EOK (w0 : World) (gm gg : Nat) (An : Option Addr) (cn : Nat) (nodes : List S121) (tx : ByteArray) (E : Nat → Bool) (at_ : Nat) : Prop := ∀ w, Memo w0 gm gg An cn nodes tx E w → Below w0.heap.size w0 w →
  Calls Tryz.prog 113 #[.pointer (some ⟨gm, 0, none⟩), .int .i64 (at_ : Int), .int .i64 0] w fun e w' => ∃ v, e = .returned v ∧ Row w0 w' gg v (E at_) ∧ Memo w0 gm gg An cn nodes tx E w' ∧ MK gg w w' ∧ Below w0.heap.size w0 w'
def FOK (w0 : World) (gm gg : Nat) (An : Option Addr) (cn : Nat) (nodes : List S121) (tx : ByteArray) (E : Nat → Bool) (at_ : Nat) : Prop := ∀ w, Memo w0 gm gg An cn nodes tx E w → Below w0.heap.size w0 w →
  Calls Tryz.prog 117 #[.pointer (some ⟨gm, 0, none⟩), .int .i64 (at_ : Int), .int .i64 0] w fun e w' => ∃ v, e = .returned v ∧ Row w0 w' gg v (E at_) ∧ Memo w0 gm gg An cn nodes tx E w' ∧ MK gg w w' ∧ Below w0.heap.size w0 w'
theorem ends_of {w0 : World} {gm gg cn : Nat} {An : Option Addr} {nodes : List S121} {tx : ByteArray} {E : Nat → Bool} (ht : tx.size = 0) (hn : nodes.length ≤ 100000) (k : Nat) (hk1 : k < nodes.length) (hf : FOK w0 gm gg An cn nodes tx E k) : EOK w0 gm gg An cn nodes tx E k := by
  intro w hM hB
  have HF := q_ hf; have HM := q_ hM; have HB := q_ hB; have HNE := q_ (Memo.ne hM); obtain ⟨cg, cs, hG, hcg, hgm, hgg, hC, hrow⟩ := hM; obtain ⟨v, hv, hvr⟩ := hrow k hk1
  have hm1 : w.cell? ⟨gm, 1, none⟩ = some (.string tx) := (blk_cell hG 1).trans rfl
  have hm2 : w.cell? ⟨gm, 2, none⟩ = some (.slice (some ⟨gg, 0, none⟩) nodes.length cg) := (blk_cell hG 2).trans rfl
  have hgk : w.cell? ⟨gg, k, none⟩ = some v := (blk_cell hC k).trans hv
  have hkz : (k : Int) < (nodes.length : Int) := by omega
  have hk0 : (0 : Int) ≤ (k : Int) := by omega
  have HG1 := q_ hG; clear hf hB hrow hv
  rcases hvr with rfl | hR
  · clear hC hgm hgg hG
    go_enter Tryz.func113, Tryz.ntmps113
    go_wp2_with fail
    have HG2 := q_ (blk_drew HG1.o); have HM1 := q_ (Memo.below HM.o (below_drew1 (Below.refl _ _)) : Memo w0 gm gg An cn nodes tx E w.drew); have HB1 := q_ (below_drew1 HB.o)
    have HK1 : J0 (MK gg w w.drew) := ⟨⟨Nat.le_refl _, fun _ _ _ => rfl⟩⟩
    clear HG1 HM HB hm1 hm2 hgk
    refine start_ (n := 11) (S := fun w' => w'.cell? ⟨gm, 2, none⟩ = some (.slice (some ⟨gg, 0, none⟩) nodes.length cg)) (ds := [10]) (bb 11 0) (by kernel_rfl) rfl rfl (by exact (blk_cell HG2.o 2).trans rfl) (fun hHeld => ?_)
    generalize hW1 : w.drew = W1 at HG2 HM1 HB1 HK1 hHeld ⊢
    refine pk_ 0 27 1 ?_; refine pk_ 1 28 3 ?_; refine pk_ 2 29 7 ?_; refine pk_ 4 31 23 ?_; refine pk_ 5 32 55 ?_; refine pk_ 6 33 119 ?_; refine pk_ 7 34 247 ?_; refine tk_ 3 30 255 hHeld ?_
    refine one_ (i := 8) (N := (some 35)) (bb 11 511) rfl rfl (by kernel_rfl) (by decide) (fun K hK => ?_)
    refine goes_ Tryz.func117 (by kernel_rfl) rfl #[.pointer (some ⟨gm, 0, none⟩), .int .i64 (k : Int), .int .i64 0] (by rfl) rfl rfl (by (try simp only [List.map_toArray, List.map_cons, List.map_nil]); first | done | rfl) ?_
    refine (HF.o _ HM1.o HB1.o).mono ?_
    rintro e w2 ⟨v2, rfl, hR2, hM2, hK2, hB2⟩
    refine ⟨_, rfl, ?_⟩; obtain ⟨g2, c2, rfl, hc2⟩ := Row.form hR2; have hgm2 := (hK2.2 gm (blk_lt HG2.o) HNE.o).trans HG2.o
    refine hK.out _ _ (by exact (blk_cell hgm2 2).trans rfl) (fun hHeld => ?_)
    obtain ⟨cg2, cs2, hG2, hcg2, hgm0, hgg0, hC2, hrow2⟩ := hM2; obtain ⟨vo, hvo, _⟩ := hrow2 k hk1
    have hx0 : w2.cell? ⟨gg, k, none⟩ = some vo := (blk_cell hC2 k).trans hvo
    have hf0 := blk_frozen hC2 k; clear hK K; refine no_ (some 35) ?_; refine pk_ 9 36 1023 ?_
    refine last_ (i := 10) (N := none) (bb 11 2047) rfl rfl (by kernel_rfl) (by decide) (fun K hK => ?_)
    refine skip_ (w1 := ?_) (by rfl) rfl ?_ ?_
    rotate_left
    · go_simp
      rfl
    refine hK.out _ _ ?_
    clear hK K
    refine done_ (by kernel_rfl) ?_
    have hne := HNE.o
    have hM3 : MK gg w2 (w2.setCell ⟨gg, k, none⟩ (.slice (some ⟨g2, 0, none⟩) 1 c2)) := ⟨by simp, fun j _ hj => Below.heap_setCell w2 _ _ j hj⟩
    have hC3 := blk_set hC2 k (.slice (some ⟨g2, 0, none⟩) 1 c2); have hG3 := blk_far hG2 (p := ⟨gg, k, none⟩) hne (.slice (some ⟨g2, 0, none⟩) 1 c2); have hR3 := Row.keep hR2 hM3
    have hMM : Memo w0 gm gg An cn nodes tx E (w2.setCell ⟨gg, k, none⟩ (.slice (some ⟨g2, 0, none⟩) 1 c2)) := by
      refine ⟨cg2, _, hG3, hcg2, hgm0, hgg0, hC3, fun j hj => ?_⟩
      by_cases e : j = k
      · subst e
        exact ⟨_, by rw [Array.getElem?_setIfInBounds_self_of_lt ((Array.getElem?_eq_some_iff.1 hvo).1)], .inr hR3⟩
      · obtain ⟨v, hv, hr⟩ := hrow2 j hj
        exact ⟨v, by rw [Array.getElem?_setIfInBounds_ne (Ne.symm e)]; exact hv, hr.imp id fun h => Row.keep h hM3⟩
    have hB3 := below_set hB2 hgg0 (j := k) (v := (.slice (some ⟨g2, 0, none⟩) 1 c2)); have hK3 := HK1.o.trans (hK2.trans hM3)
    have hx2 : (w2.setCell ⟨gg, k, none⟩ (.slice (some ⟨g2, 0, none⟩) 1 c2)).cell? ⟨gm, 2, none⟩ = some (.slice (some ⟨gg, 0, none⟩) nodes.length cg2) := (blk_cell hG3 2).trans rfl
    have hxk : (w2.setCell ⟨gg, k, none⟩ (.slice (some ⟨g2, 0, none⟩) 1 c2)).cell? ⟨gg, k, none⟩ = some (.slice (some ⟨g2, 0, none⟩) 1 c2) := (blk_cell hC3 k).trans (by rw [Array.getElem?_setIfInBounds_self_of_lt ((Array.getElem?_eq_some_iff.1 hvo).1)])
    have HMM := q_ hMM; have HR3 := q_ hR3; have HB3 := q_ hB3; have HK3 := q_ hK3; clear hMM hR3 hB3 hK3 hM3 hC3 hG3 hrow2 hC2 hG2 hx0 hf0 hHeld HM1 HB1 HK1 HG2 hgm2 hR2 hK2 hB2 hvo hW1
    generalize w2.setCell ⟨gg, k, none⟩ (.slice (some ⟨g2, 0, none⟩) 1 c2) = w3 at *
    go_wp2_with fail
    go_ret
    exact ⟨_, rfl, HR3.o, HMM.o, HK3.o, HB3.o⟩
  · obtain ⟨g2, c2, rfl, hc2⟩ := Row.form hR
    have HR := q_ hR; clear hC hgm hgg hG hR
    go_enter Tryz.func113, Tryz.ntmps113
    go_wp2_with fail
    go_ret
    exact ⟨_, rfl, HR.o, HM.o, MK.refl _ _, HB.o⟩
end Go.Proofs.YtijmhelacmjggaaGreat.P
namespace Go.Proofs.YtijmhelacmjggaaGreat.P
open Go.RowKit Go.Proofs.YtijmhelacmjggaaGreatW.PrintWords Go.Proofs.YtijmhelacmjggaaGreatW.PrintLast Go.Proofs.YtijmhelacmjggaaGreatW.PrintMore
attribute [local go_sem] max2_int min2_int max_two min_two max_three min_three max_four min_four
set_option linter.unusedVariables false
set_option linter.unusedSimpArgs false
/-! ### spec_l4Or: function 122 -/
def spec_l4Or.l0 : Nat → List Bool → List Bool → List Bool → Int → Option (List Bool)
 | 0, _, _, _, _ => none
 | k + 1, x0, x1, x5, x6 => if x6 < (x0.length : Int) then (if 0 ≤ x6 then (if rdOf false x0 x6 = true then (if x5.length < 140737488355328 then (spec_l4Or.l0 k x0 x1 (x5 ++ [true]) (wrap64 (x6 + 1))) else (none)) else (if x6 < (x1.length : Int) then (if x5.length < 140737488355328 then (spec_l4Or.l0 k x0 x1 (x5 ++ [rdOf false x1 x6]) (wrap64 (x6 + 1))) else (none)) else (none))) else (none)) else (some x5)
def spec_l4Or.f (k : Nat) (l0 : List Bool) (l1 : List Bool) : Option (List Bool) := spec_l4Or.l0 k l0 l1 (([] : List Bool)) 0
theorem spec_l4Or.calls (k : Nat) (A0 : Option Addr) (c0 : Nat) (l0 : List Bool) (A1 : Option Addr) (c1 : Nat) (l1 : List Bool) (r : List Bool) (w : World) (hr0 : Kd.C Kd.bool w A0 l0.length l0) (hc0 : l0.length ≤ c0) (hr1 : Kd.C Kd.bool w A1 l1.length l1) (hc1 : l1.length ≤ c1) (h : spec_l4Or.f k l0 l1 = some r) :
  Calls Tryz.prog 122 #[.slice A0 l0.length c0, .slice A1 l1.length c1] w fun e w' => ∃ v0_ : Value, e = .returned (v0_) ∧ Kd.R Kd.bool 4 w' w.heap.size (fun _ => True) v0_ r ∧ Below w.heap.size w w' := by
 have HR0 := q_ hr0; have HC0 := q_ hc0; clear hr0 hc0; have HR1 := q_ hr1; have HC1 := q_ hc1; clear hr1 hc1; have HB := q_ (Below.refl w.heap.size w)
 have H : (spec_l4Or.l0 k l0 l1 (([] : List Bool)) 0) = some r := h
 clear h
 obtain ⟨y101, hy101⟩ : ∃ y_ : List Bool, y_ = (([] : List Bool)) := ⟨_, rfl⟩
 replace H : (spec_l4Or.l0 k l0 l1 y101 0) = some r := by first | (rw [hy101]; with_reducible exact H) | (have H2_ := (Option.bind_some _ _).symm.trans H; rw [hy101]; with_reducible exact H2_) | (have H2_ := (Option.bind_some _ _).symm.trans H; with_reducible exact H2_) | with_reducible exact H | (rw [hy101]; exact H) | exact H
 have Ny101 := q_ hy101; clear hy101
 have H' := q_ H
 clear H
 go_enter Tryz.func122, Tryz.ntmps122
 go_wp2_with (first | ((with_reducible refine gate_dst (N := 7) rfl ?_); refine Kd.R_lit Kd.bool _ 4 ?hg (N := 7) ?hd (xs := ([] : List Bool)) (inner := []) (ok := fun _ => True) (okp := fun _ => True) ?hr ?hp (fun _ hk => hk) trivial (Below.refl _ _) (Nat.le_refl _) (by simp) ?_; (case hd => rfl); (case hg => rfl); (case hr => first | (go_simp; done) | (go_simp; rfl)); (case hp => exact (Reps.none _ _)); intro v102 w3 ho4 hb hg_ hnew_; clear hg_ hnew_; (first | rw [← Ny101.o] at ho4 | (simp only [Int.reduceToNat] at ho4; rw [← Ny101.o] at ho4)); have HO103 := q_ (Kd.R_lower ho4 (below_size (be_ HB.o))); replace HB := sb_ HB hb; clear hb ho4))
 go_loopg [5, 6] k (fun kq v5 v6 w' => ∃ (x5_1 : List Bool) (x6_1 : Int), v6 = .int .i64 x6_1 ∧ J0 (spec_l4Or.l0 kq l0 l1 x5_1 x6_1 = some r) ∧ J0 (kq ≤ k) ∧ J0 (Kd.R Kd.bool 4 w' w.heap.size (fun _ => True) v5 x5_1) ∧ J0 (Below w.heap.size w w'))
 case atStart => exact ⟨(y101), (0), rs_, H', ⟨Nat.le_refl _⟩, ⟨ra_ HO103.o⟩, ⟨be_ HB.o⟩⟩
 case round =>
  clear H'; (try clear c1); obtain ⟨x5_1, x6_1, rfl, HA, HK1, HO_5, HB⟩ := hrel
  cases gk with
  | zero => exact absurd HA.o (by simp [spec_l4Or.l0])
  | succ k1 =>
   have H := HA.o; clear HA
   simp only [spec_l4Or.l0] at H
   by_cases c5 : x6_1 < (l0.length : Int)
   ·rw [if_pos c5] at H; have c5b0 := dt_ c5; clear c5
    by_cases c6 : 0 ≤ x6_1
    ·rw [if_pos c6] at H; have c6b0 := dt_ c6; clear c6
     obtain ⟨bq7, hbq7⟩ : ∃ b_ : Bool, b_ = (rdOf false l0 x6_1) := ⟨_, rfl⟩
     replace H : (if bq7 = true then (if x5_1.length < 140737488355328 then (spec_l4Or.l0 k1 l0 l1 (x5_1 ++ [true]) (wrap64 (x6_1 + 1))) else (none)) else (if x6_1 < (l1.length : Int) then (if x5_1.length < 140737488355328 then (spec_l4Or.l0 k1 l0 l1 (x5_1 ++ [rdOf false l1 x6_1]) (wrap64 (x6_1 + 1))) else (none)) else (none))) = some r := by rw [← hbq7] at H; exact H
     have Nbq7 := q_ hbq7; clear hbq7
     by_cases c8 : bq7 = true
     ·subst c8; rw [if_pos rfl] at H
      by_cases c9 : x5_1.length < 140737488355328
      ·rw [if_pos c9] at H; have LMc9 := q_ c9; clear c9
       obtain ⟨y105, hy105⟩ : ∃ y_ : List Bool, y_ = (x5_1 ++ [true]) := ⟨_, rfl⟩
       replace H : (spec_l4Or.l0 k1 l0 l1 y105 (wrap64 (x6_1 + 1))) = some r := by first | (rw [hy105]; with_reducible exact H) | (have H2_ := (Option.bind_some _ _).symm.trans H; rw [hy105]; with_reducible exact H2_) | (have H2_ := (Option.bind_some _ _).symm.trans H; with_reducible exact H2_) | with_reducible exact H | (rw [hy105]; exact H) | exact H
       have Ny105 := q_ hy105; clear hy105
       have H' := q_ H
       clear H
       have p104 : 0 ≤ (x6_1 : Int) := of_decide_eq_true as_
       have q104 : x6_1 < (l0.length : Int) := of_decide_eq_true as_
       obtain ⟨ad104, e104, hx104_0⟩ := Kd.at_bool HR0.o x6_1 p104 q104
       (try rw [← Nbq7.o] at hx104_0)
       cases e104
       replace hx104_0 := mv_ HB.o hx104_0; replace p104 := eq_true p104; replace q104 := eq_true q104
       go_wp2_with (first | ((with_reducible refine gate_builtin (b := .append) (xs := #[.tmp 14, .tmp 25]) rfl ?_); at_builtin; refine Kd.R_append Kd.bool (w0 := w) w.heap.size rfl (.tmp 14) (.tmp 25) 114 4 (.bool false) 1 rfl Tryz.underlying114 info4 rfl (by decide) (by omega) u5 x5_1 true [.bool true] (fun _ => True) (fun _ => False) rfl rfl ?aP (fun _ hk => hk.elim) ?aF ?aO ?aB ?aS ?aL ?_; (case aP => exact rfl); (case aB => exact (be_ HB.o)); (case aF => exact (fun _ _ => trivial)); (case aO => exact (ra_ HO_5.o)); (case aS => exact (below_size (be_ HB.o))); (case aL => have := LMc9.o; omega); intro v106 w10 ho hb hg hat; rw [← Ny105.o] at ho; have HO107 := q_ (ho); replace HB := q_ (hb); clear HO_5; clear ho hb hg hat))
       go_roundg k1
       case measure => have := HK1.o; omega
       case rel => exact ⟨(y105), (wrap64 (x6_1 + 1)), rs_, H', ⟨by have := HK1.o; omega⟩, ⟨ra_ HO107.o⟩, ⟨be_ HB.o⟩⟩
      ·rw [if_neg c9] at H
       exact absurd H (by simp)
     ·replace c8 := Bool.eq_false_iff.mpr c8; subst c8; rw [if_neg nft_] at H
      by_cases c11 : x6_1 < (l1.length : Int)
      ·rw [if_pos c11] at H; have c11b0 := dt_ c11; clear c11
       by_cases c12 : x5_1.length < 140737488355328
       ·rw [if_pos c12] at H; have LMc12 := q_ c12; clear c12
        obtain ⟨y109, hy109⟩ : ∃ y_ : List Bool, y_ = (x5_1 ++ [rdOf false l1 x6_1]) := ⟨_, rfl⟩
        replace H : (spec_l4Or.l0 k1 l0 l1 y109 (wrap64 (x6_1 + 1))) = some r := by first | (rw [hy109]; with_reducible exact H) | (have H2_ := (Option.bind_some _ _).symm.trans H; rw [hy109]; with_reducible exact H2_) | (have H2_ := (Option.bind_some _ _).symm.trans H; with_reducible exact H2_) | with_reducible exact H | (rw [hy109]; exact H) | exact H
        have Ny109 := q_ hy109; clear hy109
        have H' := q_ H
        clear H
        have p104 : 0 ≤ (x6_1 : Int) := of_decide_eq_true as_
        have q104 : x6_1 < (l0.length : Int) := of_decide_eq_true as_
        obtain ⟨ad104, e104, hx104_0⟩ := Kd.at_bool HR0.o x6_1 p104 q104
        (try rw [← Nbq7.o] at hx104_0)
        cases e104
        replace hx104_0 := mv_ HB.o hx104_0; replace p104 := eq_true p104; replace q104 := eq_true q104
        have p108 : 0 ≤ (x6_1 : Int) := of_decide_eq_true as_
        have q108 : x6_1 < (l1.length : Int) := of_decide_eq_true as_
        obtain ⟨ad108, e108, hx108_0⟩ := Kd.at_bool HR1.o x6_1 p108 q108
        (try rw [← Nbq7.o] at hx108_0)
        cases e108
        replace hx108_0 := mv_ HB.o hx108_0; replace p108 := eq_true p108; replace q108 := eq_true q108
        go_wp2_with (first | ((with_reducible refine gate_builtin (b := .append) (xs := #[.tmp 14, .tmp 25]) rfl ?_); at_builtin; refine Kd.R_append Kd.bool (w0 := w) w.heap.size rfl (.tmp 14) (.tmp 25) 114 4 (.bool false) 1 rfl Tryz.underlying114 info4 rfl (by decide) (by omega) u5 x5_1 (rdOf false l1 x6_1) [.bool (rdOf false l1 x6_1)] (fun _ => True) (fun _ => False) rfl rfl ?aP (fun _ hk => hk.elim) ?aF ?aO ?aB ?aS ?aL ?_; (case aP => exact rfl); (case aB => exact (be_ HB.o)); (case aF => exact (fun _ _ => trivial)); (case aO => exact (ra_ HO_5.o)); (case aS => exact (below_size (be_ HB.o))); (case aL => have := LMc12.o; omega); intro v110 w13 ho hb hg hat; rw [← Ny109.o] at ho; have HO111 := q_ (ho); replace HB := q_ (hb); clear HO_5; clear ho hb hg hat))
        go_roundg k1
        case measure => have := HK1.o; omega
        case rel => exact ⟨(y109), (wrap64 (x6_1 + 1)), rs_, H', ⟨by have := HK1.o; omega⟩, ⟨ra_ HO111.o⟩, ⟨be_ HB.o⟩⟩
       ·rw [if_neg c12] at H
        exact absurd H (by simp)
      ·rw [if_neg c11] at H
       exact absurd H (by simp)
    ·rw [if_neg c6] at H
     exact absurd H (by simp)
   ·rw [if_neg c5] at H; have c5b0 := df_ c5; clear c5; obtain rfl := Option.some.inj H
    go_wp2
    go_ret
    exact ⟨_, rt_, ra_ HO_5.o, be_ HB.o⟩
end Go.Proofs.YtijmhelacmjggaaGreat.P
namespace Go.Proofs.YtijmhelacmjggaaGreat.P
open Go.RowKit Go.Shelf Go.Proofs.YtijmhelacmjggaaGreatW.PrintWords Go.Proofs.YtijmhelacmjggaaGreatW.PrintLast Go.Proofs.YtijmhelacmjggaaGreatW.PrintMore Go.Proofs.YtijmhelacmjggaaGreatEv
set_option linter.unusedVariables false
set_option linter.unusedSimpArgs false
theorem Row.new {w0 W w1 : World} {gg : Nat} {v : Value} {b : Bool} (h : Kd.R Kd.bool 4 w1 W.heap.size (fun _ => True) v [b]) (hB : Below w0.heap.size w0 W) (hg : gg < W.heap.size) : Row w0 w1 gg v b :=
  Kd.R_lower (Kd.R_mono (Kd.R_bound h) fun k hk => by have := hk.2.1; omega) hB.size
theorem Row.cell {w0 w : World} {gg g c : Nat} {b : Bool} (h : Row w0 w gg (.slice (some ⟨g, 0, none⟩) 1 c) b) : w.cell? ⟨g, 0, none⟩ = some (.bool b) := by
  obtain ⟨ad, e, hc⟩ := Kd.at_bool (Row.C h) 0 (by omega) (by simp)
  cases e
  exact hc
theorem Row.frozen {w0 w : World} {gg g c : Nat} {b : Bool} (h : Row w0 w gg (.slice (some ⟨g, 0, none⟩) 1 c) b) : w.frozen? ⟨g, 0, none⟩ = false := by
  obtain ⟨cells, hc⟩ := Kd.R_typed h g rfl
  exact blk_frozen hc 0
theorem Memo.gg_lt {w0 w : World} {gm gg cn : Nat} {An : Option Addr} {nodes : List S121} {tx : ByteArray} {E : Nat → Bool} (h : Memo w0 gm gg An cn nodes tx E w) : gg < w.heap.size := by
  obtain ⟨cg, cs, _, _, _, _, h5, _⟩ := h
  exact blk_lt h5
theorem or_one (a b : Bool) : ∃ k, spec_l4Or.f k [a] [b] = some [a || b] := by
  refine ⟨4, ?_⟩
  cases a <;> cases b <;> simp [spec_l4Or.f, spec_l4Or.l0, rdOf, wrap_id]
theorem step_of {w0 : World} {gm gg cn : Nat} {An : Option Addr} {nodes : List S121} {tx : ByteArray} {E : Nat → Bool} (kid : Nat) (he : EOK w0 gm gg An cn nodes tx E kid) (v : Value) (b : Bool) (w : World) (hM : Memo w0 gm gg An cn nodes tx E w) (hB : Below w0.heap.size w0 w) (hv : Row w0 w gg v b) :
    Calls Tryz.prog 121 #[.pointer (some ⟨gm, 0, none⟩), .int .i64 (kid : Int), v] w fun e w' => ∃ v', e = .returned v' ∧ Row w0 w' gg v' (b && E kid) ∧ Memo w0 gm gg An cn nodes tx E w' ∧ MK gg w w' ∧ Below w0.heap.size w0 w' := by
  have HE := q_ he; have HM := q_ hM; have HB := q_ hB; have HK := q_ (MK.refl gg w); obtain ⟨g, c, rfl, hc⟩ := Row.form hv; have HV := q_ hv; clear he hM hB hv
  go_enter Tryz.func121, Tryz.ntmps121
  go_wp2_with ((with_reducible refine gate_dst (N := 11) rfl ?_); refine Kd.R_make Kd.bool _ 4 rfl (N := 11) rfl 114 _ _ rfl (1 : Int) rfl rfl Tryz.underlying114 (.bool false) 1 info4 rfl (by decide) (by omega) false (ok := fun _ => True) (okp := fun _ => True) rfl (fun _ hk => hk) trivial (by omega) (by decide) (Below.refl _ _) (Nat.le_refl _) ?_; intro H7v w_ ho hb hg_ hnew_; clear hg_; replace ho : Kd.R Kd.bool 4 w_ _ (fun _ => True) H7v [false] := ho; have H7 := q_ (Row.new ho HB.o (Memo.gg_lt HM.o)); have nHV := q_ (Row.keep HV.o (MK.below hb)); clear HV; have HV := nHV; clear nHV; have nM := q_ (Memo.below HM.o hb); have nB := q_ (below_step HB.o hb); have nK := q_ (HK.o.trans (MK.below hb)); clear HM HB HK ho hb hnew_; have HM := nM; have HB := nB; have HK := nK; clear nM nB nK)
  obtain ⟨g7, c7, rfl, hc7⟩ := Row.form H7.o
  go_loopg [7, 8] 2 (fun gk_ v7 v8 wr => ∃ (kk : Nat), v8 = .int .i64 (kk : Int) ∧ kk ≤ 1 ∧ 2 - kk ≤ gk_ ∧ J0 (Row w0 wr gg v7 (if kk = 0 then false else b && E kid)) ∧ J0 (Row w0 wr gg (.slice (some ⟨g, 0, none⟩) 1 c) b) ∧ J0 (Memo w0 gm gg An cn nodes tx E wr) ∧ J0 (Below w0.heap.size w0 wr) ∧ J0 (MK gg w wr))
  case atStart => exact ⟨0, rfl, by omega, by omega, H7, HV, HM, HB, HK⟩
  case round =>
    clear H7 HV HM HB HK; obtain ⟨kk, rfl, hkk, hgk, H7, HV, HM, HB, HK⟩ := hrel; obtain ⟨g8, c8, rfl, hc8⟩ := Row.form H7.o; have hx0 := Row.cell HV.o
    obtain rfl | rfl : kk = 0 ∨ kk = 1 := by omega
    · cases b with
      | false =>
        go_wp2_with fail
        go_roundg 1
        case measure => omega
        case rel => exact ⟨1, rfl, by omega, by omega, H7, HV, HM, HB, HK⟩
      | true =>
        go_wp2_with (first | (go_at_call 113; refine (HE.o _ HM.o HB.o).mono ?_; rintro e w_ ⟨v_, rfl, hR_, hM_, hK_, hB_⟩; have nH7 := q_ (Row.keep H7.o hK_); have nHV := q_ (Row.keep HV.o hK_); clear H7; have H7 := nH7; clear nH7; clear HV; have HV := nHV; clear nHV; obtain ⟨g_, c_, rfl, hc_⟩ := Row.form hR_; have H9 := q_ hR_; have nK := q_ (HK.o.trans hK_); clear HM HB HK hR_ hK_; have HM := q_ hM_; have HB := q_ hB_; have HK := nK; clear nK hM_ hB_) | (go_at_call 122; obtain ⟨k_, hk_⟩ := or_one false (E kid); refine (spec_l4Or.calls k_ _ _ [false] _ _ [(E kid)] _ _ (Row.C H7.o) (Kd.R_reads' H7.o).2.1 (Row.C H9.o) (Kd.R_reads' H9.o).2.1 hk_).mono ?_; rintro e w_ ⟨H10v, rfl, ho, hb⟩; have H10 := q_ (Row.new ho HB.o (Memo.gg_lt HM.o)); have nHV := q_ (Row.keep HV.o (MK.below hb)); clear HV; have HV := nHV; clear nHV; have nM := q_ (Memo.below HM.o hb); have nB := q_ (below_step HB.o hb); have nK := q_ (HK.o.trans (MK.below hb)); clear HM HB HK ho hb hk_; have HM := nM; have HB := nB; have HK := nK; clear nM nB nK))
        go_roundg 1
        case measure => omega
        case rel => exact ⟨1, rfl, by omega, by omega, ⟨by have h := H10.o; simpa using h⟩, HV, HM, HB, HK⟩
    · go_wp2_with fail
      go_ret
      exact ⟨_, rfl, by have h := H7.o; simpa using h, HM.o, HK.o, HB.o⟩
end Go.Proofs.YtijmhelacmjggaaGreat.P
