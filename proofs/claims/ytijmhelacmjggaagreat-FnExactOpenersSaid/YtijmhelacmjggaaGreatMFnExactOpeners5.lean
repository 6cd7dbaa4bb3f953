/- The law FnExactOpeners holds for every call: part 6 of 6 of the proof (the row). Conditions: none beyond what the given row says. -/
import Derived.Test.YtijmhelacmjggaaGreatMFnExactOpeners0
import Derived.Test.YtijmhelacmjggaaGreatMFnExactOpeners2
import Derived.Test.YtijmhelacmjggaaGreatMFnExactOpeners4
import Derived.Test.YtijmhelacmjggaaGreatMFnExactOpeners3
import Derived.Lib.SliceRun
import Derived.Test.YtijmhelacmjggaaGreatMFnExactOpeners1
import Derived.ChangeSlices
import Derived.ChangeArms
import Derived.SizedLaws
import Derived.Test.YtijmhelacmjggaaGreatRows
import Derived.WalkKit
import Derived.ProofKit
import Derived.OpenShut
import Derived.ShutString
import Derived.ChangeOld
import Derived.Below
set_option maxHeartbeats 16000000
set_option maxRecDepth 100000
namespace Go.Proofs.YtijmhelacmjggaaGreat.P
open Go.RowKit Go.Proofs.YtijmhelacmjggaaGreatW.PrintWords Go.Proofs.YtijmhelacmjggaaGreatW.PrintLast Go.Proofs.YtijmhelacmjggaaGreatW.PrintMore
attribute [local go_sem] max2_int min2_int max_two min_two max_three min_three max_four min_four
set_option linter.unusedVariables false
set_option linter.unusedSimpArgs false
/-! ### spec_l1Both: function 52 -/
mutual
def spec_l1Both.j0 : Nat → List (S67) → List (S67) → Int → Bool → Option ((List (S67)))
 | 0, _, _, _, _ => none
 | k + 1, x0, x1, x2, x17 => if x17 = true then (some (([] : List (S67)))) else ((spec_l1Marks.f k x0).bind fun t106 => ((spec_l1Marks.f k x1).bind fun t109 => (spec_l1Both.l0 k x2 t106 t109 0)))
def spec_l1Both.l0 : Nat → Int → List Bool → List Bool → Int → Option ((List (S67)))
 | 0, _, _, _, _ => none
 | k + 1, x2, x7, x8, x9 => if x9 < 256 then (if x2 = 0 then (if 0 ≤ x9 then (if x9 < (x7.length : Int) then (if rdOf false x7 x9 = true then (spec_l1Both.l0 k x2 (x7.set (x9 : Int).toNat true) x8 (wrap64 (x9 + 1))) else (if x9 < (x8.length : Int) then (spec_l1Both.l0 k x2 (x7.set (x9 : Int).toNat (rdOf false x8 x9)) x8 (wrap64 (x9 + 1))) else (none))) else (none)) else (none)) else (if x2 = 1 then (if 0 ≤ x9 then (if x9 < (x7.length : Int) then (if rdOf false x7 x9 = true then (if x9 < (x8.length : Int) then (spec_l1Both.l0 k x2 (x7.set (x9 : Int).toNat (rdOf false x8 x9)) x8 (wrap64 (x9 + 1))) else (none)) else (spec_l1Both.l0 k x2 (x7.set (x9 : Int).toNat false) x8 (wrap64 (x9 + 1)))) else (none)) else (none)) else (if x2 = 2 then (if 0 ≤ x9 then (if x9 < (x7.length : Int) then (if rdOf false x7 x9 = true then (if x9 < (x8.length : Int) then (spec_l1Both.l0 k x2 (x7.set (x9 : Int).toNat (!(rdOf false x8 x9))) x8 (wrap64 (x9 + 1))) else (none)) else (spec_l1Both.l0 k x2 (x7.set (x9 : Int).toNat false) x8 (wrap64 (x9 + 1)))) else (none)) else (none)) else (spec_l1Both.l0 k x2 x7 x8 (wrap64 (x9 + 1)))))) else ((spec_l1Class.f k x7).bind fun t112 => (some t112))
end
def spec_l1Both.f (k : Nat) (l0 : List (S67)) (l1 : List (S67)) (a2 : Int) : Option ((List (S67))) := (spec_ClassOk.f k l0).bind fun t101 => (if t101 = true then ((spec_ClassOk.f k l1).bind fun t102 => (spec_l1Both.j0 k l0 l1 a2 (!t102))) else (spec_l1Both.j0 k l0 l1 a2 true))
theorem spec_l1Both.calls (k : Nat) (A0 : Option Addr) (c0 : Nat) (l0 : List (S67)) (A1 : Option Addr) (c1 : Nat) (l1 : List (S67)) (a2 : Int) (r : List (S67)) (w : World) (hr0 : Kd.C k67 w A0 l0.length l0) (hc0 : l0.length ≤ c0) (hr1 : Kd.C k67 w A1 l1.length l1) (hc1 : l1.length ≤ c1) (h : spec_l1Both.f k l0 l1 a2 = some r) :
  Calls Tryz.prog 52 #[.slice A0 l0.length c0, .slice A1 l1.length c1, .int .i64 a2] w fun e w' => ∃ v0_ : Value, e = .returned (v0_) ∧ Kd.R k67 67 w' w.heap.size (fun _ => True) v0_ r ∧ Below w.heap.size w w' := by
 have HR0 := q_ hr0; have HC0 := q_ hc0; clear hr0 hc0; have HR1 := q_ hr1; have HC1 := q_ hc1; clear hr1 hc1; have HB := q_ (Below.refl w.heap.size w)
 have H : ((spec_ClassOk.f k l0).bind fun t101 => (if t101 = true then ((spec_ClassOk.f k l1).bind fun t102 => (spec_l1Both.j0 k l0 l1 a2 (!t102))) else (spec_l1Both.j0 k l0 l1 a2 true))) = some r := h
 clear h; have HC4 := q_ H; clear H
 go_enter Tryz.func52, Tryz.ntmps52
 go_upto_region 1 with (fail)
 go_cut [17] (fun v17 wc => ∃ (kq : Nat) (x17_3 : Bool), v17 = .bool x17_3 ∧ J0 (spec_l1Both.j0 kq l0 l1 a2 x17_3 = some r) ∧ J0 (kq ≤ k) ∧ J0 (Below w.heap.size w wc))
 case first =>
  have H := HC4.o; clear HC4; obtain ⟨t101, A5, H⟩ := ob_ H
  by_cases c6 : t101 = true
  ·subst c6; rw [if_pos rfl] at H; obtain ⟨t102, A7, H⟩ := ob_ H
   have H' := q_ H
   clear H
   go_wp2_with (first | ((with_reducible refine gate_callee (f := 77) rfl ?_); refine gl_ (some 11) rfl rfl Tryz.func77 #[.slice A0 l0.length c0] ?_; (with_reducible refine (spec_ClassOk.calls k _ _ l0 true _ ?side1 ?side2 A5.o).mono ?_); (case side1 => exact Kd.C_below HR0.o (be_ HB.o)); (case side2 => exact HC0.o); rintro e w8 ⟨rfl, hb⟩; refine ⟨_, rfl, ?_⟩; replace HB := sb_ HB hb; (try clear hb)) | (go_at_call 77; (with_reducible refine (spec_ClassOk.calls k _ _ l1 t102 _ ?side1 ?side2 A7.o).mono ?_); (case side1 => exact Kd.C_below HR1.o (be_ HB.o)); (case side2 => exact HC1.o); rintro e w9 ⟨rfl, hb⟩; replace HB := sb_ HB hb; (try clear hb)))
   go_meet
   case rel => exact ⟨_, (!t102), rs_, H', ⟨by first | omega | exact Nat.le_refl _⟩, ⟨be_ HB.o⟩⟩
  ·replace c6 := Bool.eq_false_iff.mpr c6; subst c6; rw [if_neg nft_] at H
   have H' := q_ H
   clear H
   go_wp2_with (first | ((with_reducible refine gate_callee (f := 77) rfl ?_); refine gl_ (some 11) rfl rfl Tryz.func77 #[.slice A0 l0.length c0] ?_; (with_reducible refine (spec_ClassOk.calls k _ _ l0 false _ ?side1 ?side2 A5.o).mono ?_); (case side1 => exact Kd.C_below HR0.o (be_ HB.o)); (case side2 => exact HC0.o); rintro e w10 ⟨rfl, hb⟩; refine ⟨_, rfl, ?_⟩; replace HB := sb_ HB hb; (try clear hb)))
   go_meet
   case rel => exact ⟨_, (true), rs_, H', ⟨by first | omega | exact Nat.le_refl _⟩, ⟨be_ HB.o⟩⟩
 case rest =>
  clear HC4; (try clear c1); (try clear c6); obtain ⟨kq, x17_3, rfl, HA, HJ3, HB⟩ := hcut
  cases kq with
  | zero => exact absurd HA.o (by simp [spec_l1Both.j0])
  | succ kj3 =>
   have H := HA.o; clear HA
   simp only [spec_l1Both.j0] at H
   by_cases c11 : x17_3 = true
   ·subst c11; rw [if_pos rfl] at H
    obtain ⟨y103, hy103⟩ : ∃ y_ : List (S67), y_ = (([] : List (S67))) := ⟨_, rfl⟩
    replace H : (some y103) = some r := by first | (rw [hy103]; with_reducible exact H) | (have H2_ := (Option.bind_some _ _).symm.trans H; rw [hy103]; with_reducible exact H2_) | (have H2_ := (Option.bind_some _ _).symm.trans H; with_reducible exact H2_) | with_reducible exact H | (rw [hy103]; exact H) | exact H
    have Ny103 := q_ hy103; clear hy103; obtain rfl := Option.some.inj H
    go_wp2_with (first | ((with_reducible refine gate_dst (N := 18) rfl ?_); refine Kd.R_lit k67 _ 67 ?hg (N := 18) ?hd (xs := ([] : List (S67))) (inner := []) (ok := fun _ => True) (okp := fun _ => True) ?hr ?hp (fun _ hk => hk) trivial (Below.refl _ _) (Nat.le_refl _) (by simp) ?_; (case hd => rfl); (case hg => rfl); (case hr => first | (go_simp; done) | (go_simp; rfl)); (case hp => exact (Reps.none _ _)); intro v104 w12 ho13 hb hg_ hnew_; clear hg_ hnew_; (first | rw [← Ny103.o] at ho13 | (simp only [Int.reduceToNat] at ho13; rw [← Ny103.o] at ho13)); have HO105 := q_ (Kd.R_lower ho13 (below_size (be_ HB.o))); replace HB := sb_ HB hb; clear hb ho13))
    go_ret
    exact ⟨_, rt_, ra_ HO105.o, be_ HB.o⟩
   ·replace c11 := Bool.eq_false_iff.mpr c11; subst c11; rw [if_neg nft_] at H; obtain ⟨t106, A14, H⟩ := ob_ H; obtain ⟨t109, A15, H⟩ := ob_ H
    have H' := q_ H
    clear H
    go_wp2_with (first | ((with_reducible refine gate_callee (f := 78) rfl ?_); refine gl_ (some 20) rfl rfl Tryz.func78 #[.slice A0 l0.length c0] ?_; (with_reducible refine (spec_l1Marks.calls kj3 _ _ l0 t106 _ ?side1 ?side2 A14.o).mono ?_); (case side1 => exact Kd.C_below HR0.o (be_ HB.o)); (case side2 => exact HC0.o); rintro e w16 ⟨v107, rfl, ho0, hb⟩; refine ⟨_, rfl, ?_⟩; have HO108 := q_ (Kd.R_lower ho0 (below_size (be_ HB.o))); replace HB := sb_ HB hb; (try clear hb); (try clear ho0)) | ((with_reducible refine gate_callee (f := 78) rfl ?_); refine gl_ (some 22) rfl rfl Tryz.func78 #[.slice A1 l1.length c1] ?_; (with_reducible refine (spec_l1Marks.calls kj3 _ _ l1 t109 _ ?side1 ?side2 A15.o).mono ?_); (case side1 => exact Kd.C_below HR1.o (be_ HB.o)); (case side2 => exact HC1.o); rintro e w17 ⟨v110, rfl, ho0, hb⟩; refine ⟨_, rfl, ?_⟩; have HO111 := q_ (Kd.R_lower (Kd.R_new' ho0 (Kd.R_lt (ra_ HO108.o))) (below_size (be_ HB.o))); replace HO108 := q_ (Kd.R_elder' (ra_ HO108.o) (Kd.R_base ho0) hb); replace HB := sb_ HB hb; (try clear hb); (try clear ho0)))
    go_loopg [9] kj3 (fun kq v9 w' => ∃ (x7_2 : List Bool) (x9_2 : Int), v9 = .int .i64 x9_2 ∧ J0 (spec_l1Both.l0 kq a2 x7_2 t109 x9_2 = some r) ∧ J0 (kq ≤ kj3) ∧ J0 (Kd.R Kd.bool 4 w' w.heap.size (fun k_ => some k_ ≠ (v110 : Value).ownBlock) v107 x7_2) ∧ J0 (Kd.R Kd.bool 4 w' w.heap.size (fun k_ => some k_ ≠ (v107 : Value).ownBlock) v110 t109) ∧ J0 (Below w.heap.size w w'))
    case atStart => exact ⟨(t106), (0), rs_, H', ⟨Nat.le_refl _⟩, ⟨by (with_reducible repeat (first | apply Kd.R_alloc | apply Kd.R_drewN | apply Kd.R_drew)); exact Kd.R_mono HO108.o (fun _ hk => hk.2)⟩, ⟨by (with_reducible repeat (first | apply Kd.R_alloc | apply Kd.R_drewN | apply Kd.R_drew)); exact Kd.R_mono HO111.o (fun _ hk => hk.2)⟩, ⟨be_ HB.o⟩⟩
    case round =>
     clear H'; (try clear c1); (try clear c6); (try clear c11); obtain ⟨x7_2, x9_2, rfl, HA, HK2, HO_7, HO_8, HB⟩ := hrel
     cases gk with
     | zero => exact absurd HA.o (by simp [spec_l1Both.l0])
     | succ k2 =>
      have H := HA.o; clear HA
      simp only [spec_l1Both.l0] at H
      by_cases c18 : x9_2 < 256
      ·rw [if_pos c18] at H; have c18b0 := dt_ c18; clear c18
       by_cases c19 : a2 = 0
       ·rw [if_pos c19] at H
        have c19b0 : (a2 == 0) = true := beq_iff_eq.mpr c19
        have c19b1 : (a2 != 0) = false := bne_eq_false_iff_eq.mpr c19
        clear c19
        by_cases c20 : 0 ≤ x9_2
        ·rw [if_pos c20] at H; have c20b0 := dt_ c20; clear c20
         by_cases c21 : x9_2 < (x7_2.length : Int)
         ·rw [if_pos c21] at H; have c21b0 := dt_ c21; clear c21
          obtain ⟨bq22, hbq22⟩ : ∃ b_ : Bool, b_ = (rdOf false x7_2 x9_2) := ⟨_, rfl⟩
          replace H : (if bq22 = true then (spec_l1Both.l0 k2 a2 (x7_2.set (x9_2 : Int).toNat true) t109 (wrap64 (x9_2 + 1))) else (if x9_2 < (t109.length : Int) then (spec_l1Both.l0 k2 a2 (x7_2.set (x9_2 : Int).toNat (rdOf false t109 x9_2)) t109 (wrap64 (x9_2 + 1))) else (none))) = some r := by rw [← hbq22] at H; exact H
          have Nbq22 := q_ hbq22; clear hbq22
          by_cases c23 : bq22 = true
          ·subst c23; rw [if_pos rfl] at H
           obtain ⟨y116, hy116⟩ : ∃ y_ : List Bool, y_ = (x7_2.set (x9_2 : Int).toNat true) := ⟨_, rfl⟩
           replace H : (spec_l1Both.l0 k2 a2 y116 t109 (wrap64 (x9_2 + 1))) = some r := by first | (rw [hy116]; with_reducible exact H) | (have H2_ := (Option.bind_some _ _).symm.trans H; rw [hy116]; with_reducible exact H2_) | (have H2_ := (Option.bind_some _ _).symm.trans H; with_reducible exact H2_) | with_reducible exact H | (rw [hy116]; exact H) | exact H
           have Ny116 := q_ hy116; clear hy116
           have H' := q_ H
           clear H; obtain ⟨Ao25, co25, eo25⟩ := Kd.R_slice HO_7.o; subst eo25
           have p115 : 0 ≤ (x9_2 : Int) := of_decide_eq_true as_
           have q115 : x9_2 < (x7_2.length : Int) := of_decide_eq_true as_
           obtain ⟨ad115, e115, hx115_0⟩ := Kd.at_bool (Kd.R_reads' HO_7.o).2.2 x9_2 p115 q115
           (try rw [← Nbq22.o] at hx115_0)
           cases e115
           replace p115 := eq_true p115; replace q115 := eq_true q115
           have p24 : 0 ≤ (x9_2 : Int) := of_decide_eq_true as_
           have q24 : (x9_2 : Int) < ((x7_2.length : Int) : Int) := of_decide_eq_true as_
           obtain ⟨go24, co24, eo24, gb24, gl24, cl24, HG24⟩ := Kd.R_form HO_7.o (by omega)
           (first | cases eo24 | (injection eo24 with ea_ en_ ec_; (first | subst ea_ | (injection ea_ with ea_; subst ea_)); subst ec_; clear en_))
           have GB24 := q_ gb24; have GG24 := q_ HG24; clear gb24 gl24 HG24
           (first | simp only [add_plain] at hx115_0 | skip)
           obtain ⟨hx24_0, hf24_0⟩ := Kd.R_celln false HO_7.o (x9_2 : Int) p24 q24; replace p24 := eq_true p24; replace q24 := eq_true q24; have HP26 := Kd.R_putg HO_7.o (x9_2 : Int) true
           go_wp2_with (first | ((with_reducible refine gate_store (t := 4) (p := 42) rfl ?_); refine store_event (t := 4) (p := 42) (v := ?vo_w27) (w1 := (wr.setCell ⟨go24, (x9_2 : Int).toNat, none⟩ (.bool true))) ?hg ?ho ?hn ?hr ?_; (case ho => rfl); (case hg => rfl); (case hn => rfl); (case hr => first | (go_simp; done) | (go_simp; rfl)); intro w27 hw; have hg : wr.grownBy w27 (some go24) := (by rw [hw]; exact HP26.2); have hp_ : Kd.R Kd.bool 4 w27 w.heap.size (fun k_ => some k_ ≠ (v110 : Value).ownBlock) (.slice (some ⟨go24, 0, none⟩) x7_2.length co25) y116 := (by rw [hw, Ny116.o]; exact HP26.1); clear HP26; replace HO_7 := q_ (hp_); replace HO_8 := q_ (Kd.R_after (v := (.slice (some ⟨go24, 0, none⟩) x7_2.length co25)) (v1 := (.slice (some ⟨go24, 0, none⟩) x7_2.length co25)) (ok := (fun _ => True)) (by (with_reducible repeat (first | apply Kd.R_alloc | apply Kd.R_drewN | apply Kd.R_drew)); exact Kd.R_mono HO_8.o (fun _ hk => ⟨trivial, hk⟩)) hg (.inl rfl)); replace HB := q_ ((by rw [hw]; exact below_set (HB.o) GB24.out : Below w.heap.size w w27)); clear hg hw hp_))
           go_roundg k2
           case measure => have := HJ3.o; have := HK2.o; omega
           case rel => exact ⟨(y116), (wrap64 (x9_2 + 1)), rs_, H', ⟨by have := HJ3.o; have := HK2.o; omega⟩, ⟨ra_ HO_7.o⟩, ⟨by (with_reducible repeat (first | apply Kd.R_alloc | apply Kd.R_drewN | apply Kd.R_drew)); exact Kd.R_mono HO_8.o (fun _ hk => hk.2)⟩, ⟨be_ HB.o⟩⟩
          ·replace c23 := Bool.eq_false_iff.mpr c23; subst c23; rw [if_neg nft_] at H
           by_cases c28 : x9_2 < (t109.length : Int)
           ·rw [if_pos c28] at H; have c28b0 := dt_ c28; clear c28
            obtain ⟨y118, hy118⟩ : ∃ y_ : List Bool, y_ = (x7_2.set (x9_2 : Int).toNat (rdOf false t109 x9_2)) := ⟨_, rfl⟩
            replace H : (spec_l1Both.l0 k2 a2 y118 t109 (wrap64 (x9_2 + 1))) = some r := by first | (rw [hy118]; with_reducible exact H) | (have H2_ := (Option.bind_some _ _).symm.trans H; rw [hy118]; with_reducible exact H2_) | (have H2_ := (Option.bind_some _ _).symm.trans H; with_reducible exact H2_) | with_reducible exact H | (rw [hy118]; exact H) | exact H
            have Ny118 := q_ hy118; clear hy118
            have H' := q_ H
            clear H; obtain ⟨Ao30, co30, eo30⟩ := Kd.R_slice HO_7.o; subst eo30
            have p115 : 0 ≤ (x9_2 : Int) := of_decide_eq_true as_
            have q115 : x9_2 < (x7_2.length : Int) := of_decide_eq_true as_
            obtain ⟨ad115, e115, hx115_0⟩ := Kd.at_bool (Kd.R_reads' HO_7.o).2.2 x9_2 p115 q115
            (try rw [← Nbq22.o] at hx115_0)
            cases e115
            replace p115 := eq_true p115; replace q115 := eq_true q115; obtain ⟨Ao31, co31, eo31⟩ := Kd.R_slice HO_8.o; subst eo31
            have p117 : 0 ≤ (x9_2 : Int) := of_decide_eq_true as_
            have q117 : x9_2 < (t109.length : Int) := of_decide_eq_true as_
            obtain ⟨ad117, e117, hx117_0⟩ := Kd.at_bool (Kd.R_reads' HO_8.o).2.2 x9_2 p117 q117
            (try rw [← Nbq22.o] at hx117_0)
            cases e117
            replace p117 := eq_true p117; replace q117 := eq_true q117
            have p29 : 0 ≤ (x9_2 : Int) := of_decide_eq_true as_
            have q29 : (x9_2 : Int) < ((x7_2.length : Int) : Int) := of_decide_eq_true as_
            obtain ⟨go29, co29, eo29, gb29, gl29, cl29, HG29⟩ := Kd.R_form HO_7.o (by omega)
            (first | cases eo29 | (injection eo29 with ea_ en_ ec_; (first | subst ea_ | (injection ea_ with ea_; subst ea_)); subst ec_; clear en_))
            have GB29 := q_ gb29; have GG29 := q_ HG29; clear gb29 gl29 HG29
            (first | simp only [add_plain] at hx115_0 | skip)
            obtain ⟨hx29_0, hf29_0⟩ := Kd.R_celln false HO_7.o (x9_2 : Int) p29 q29; replace p29 := eq_true p29; replace q29 := eq_true q29; have HP32 := Kd.R_putg HO_7.o (x9_2 : Int) (rdOf false t109 x9_2)
            go_wp2_with (first | ((with_reducible refine gate_store (t := 4) (p := 42) rfl ?_); refine store_event (t := 4) (p := 42) (v := ?vo_w33) (w1 := (wr.setCell ⟨go29, (x9_2 : Int).toNat, none⟩ (.bool (rdOf false t109 x9_2)))) ?hg ?ho ?hn ?hr ?_; (case ho => rfl); (case hg => rfl); (case hn => rfl); (case hr => first | (go_simp; done) | (go_simp; rfl)); intro w33 hw; have hg : wr.grownBy w33 (some go29) := (by rw [hw]; exact HP32.2); have hp_ : Kd.R Kd.bool 4 w33 w.heap.size (fun k_ => some k_ ≠ (.slice (some ad117) t109.length co31 : Value).ownBlock) (.slice (some ⟨go29, 0, none⟩) x7_2.length co30) y118 := (by rw [hw, Ny118.o]; exact HP32.1); clear HP32; replace HO_7 := q_ (hp_); replace HO_8 := q_ (Kd.R_after (v := (.slice (some ⟨go29, 0, none⟩) x7_2.length co30)) (v1 := (.slice (some ⟨go29, 0, none⟩) x7_2.length co30)) (ok := (fun _ => True)) (by (with_reducible repeat (first | apply Kd.R_alloc | apply Kd.R_drewN | apply Kd.R_drew)); exact Kd.R_mono HO_8.o (fun _ hk => ⟨trivial, hk⟩)) hg (.inl rfl)); replace HB := q_ ((by rw [hw]; exact below_set (HB.o) GB29.out : Below w.heap.size w w33)); clear hg hw hp_))
            go_roundg k2
            case measure => have := HJ3.o; have := HK2.o; omega
            case rel => exact ⟨(y118), (wrap64 (x9_2 + 1)), rs_, H', ⟨by have := HJ3.o; have := HK2.o; omega⟩, ⟨ra_ HO_7.o⟩, ⟨by (with_reducible repeat (first | apply Kd.R_alloc | apply Kd.R_drewN | apply Kd.R_drew)); exact Kd.R_mono HO_8.o (fun _ hk => hk.2)⟩, ⟨be_ HB.o⟩⟩
           ·rw [if_neg c28] at H
            exact absurd H (by simp)
         ·rw [if_neg c21] at H
          exact absurd H (by simp)
        ·rw [if_neg c20] at H
         exact absurd H (by simp)
       ·rw [if_neg c19] at H
        have c19b0 : (a2 == 0) = false := beq_eq_false_iff_ne.mpr c19
        have c19b1 : (a2 != 0) = true := bne_iff_ne.mpr c19
        by_cases c34 : a2 = 1
        ·rw [if_pos c34] at H
         have c34b0 : (a2 == 1) = true := beq_iff_eq.mpr c34
         have c34b1 : (a2 != 1) = false := bne_eq_false_iff_eq.mpr c34
         clear c34
         by_cases c35 : 0 ≤ x9_2
         ·rw [if_pos c35] at H; have c35b0 := dt_ c35; clear c35
          by_cases c36 : x9_2 < (x7_2.length : Int)
          ·rw [if_pos c36] at H; have c36b0 := dt_ c36; clear c36
           obtain ⟨bq37, hbq37⟩ : ∃ b_ : Bool, b_ = (rdOf false x7_2 x9_2) := ⟨_, rfl⟩
           replace H : (if bq37 = true then (if x9_2 < (t109.length : Int) then (spec_l1Both.l0 k2 a2 (x7_2.set (x9_2 : Int).toNat (rdOf false t109 x9_2)) t109 (wrap64 (x9_2 + 1))) else (none)) else (spec_l1Both.l0 k2 a2 (x7_2.set (x9_2 : Int).toNat false) t109 (wrap64 (x9_2 + 1)))) = some r := by rw [← hbq37] at H; exact H
           have Nbq37 := q_ hbq37; clear hbq37
           by_cases c38 : bq37 = true
           ·subst c38; rw [if_pos rfl] at H
            by_cases c39 : x9_2 < (t109.length : Int)
            ·rw [if_pos c39] at H; have c39b0 := dt_ c39; clear c39
             obtain ⟨y121, hy121⟩ : ∃ y_ : List Bool, y_ = (x7_2.set (x9_2 : Int).toNat (rdOf false t109 x9_2)) := ⟨_, rfl⟩
             replace H : (spec_l1Both.l0 k2 a2 y121 t109 (wrap64 (x9_2 + 1))) = some r := by first | (rw [hy121]; with_reducible exact H) | (have H2_ := (Option.bind_some _ _).symm.trans H; rw [hy121]; with_reducible exact H2_) | (have H2_ := (Option.bind_some _ _).symm.trans H; with_reducible exact H2_) | with_reducible exact H | (rw [hy121]; exact H) | exact H
             have Ny121 := q_ hy121; clear hy121
             have H' := q_ H
             clear H; obtain ⟨Ao41, co41, eo41⟩ := Kd.R_slice HO_7.o; subst eo41
             have p119 : 0 ≤ (x9_2 : Int) := of_decide_eq_true as_
             have q119 : x9_2 < (x7_2.length : Int) := of_decide_eq_true as_
             obtain ⟨ad119, e119, hx119_0⟩ := Kd.at_bool (Kd.R_reads' HO_7.o).2.2 x9_2 p119 q119
             (try rw [← Nbq37.o] at hx119_0)
             cases e119
             replace p119 := eq_true p119; replace q119 := eq_true q119; obtain ⟨Ao42, co42, eo42⟩ := Kd.R_slice HO_8.o; subst eo42
             have p120 : 0 ≤ (x9_2 : Int) := of_decide_eq_true as_
             have q120 : x9_2 < (t109.length : Int) := of_decide_eq_true as_
             obtain ⟨ad120, e120, hx120_0⟩ := Kd.at_bool (Kd.R_reads' HO_8.o).2.2 x9_2 p120 q120
             (try rw [← Nbq37.o] at hx120_0)
             cases e120
             replace p120 := eq_true p120; replace q120 := eq_true q120
             have p40 : 0 ≤ (x9_2 : Int) := of_decide_eq_true as_
             have q40 : (x9_2 : Int) < ((x7_2.length : Int) : Int) := of_decide_eq_true as_
             obtain ⟨go40, co40, eo40, gb40, gl40, cl40, HG40⟩ := Kd.R_form HO_7.o (by omega)
             (first | cases eo40 | (injection eo40 with ea_ en_ ec_; (first | subst ea_ | (injection ea_ with ea_; subst ea_)); subst ec_; clear en_))
             have GB40 := q_ gb40; have GG40 := q_ HG40; clear gb40 gl40 HG40
             (first | simp only [add_plain] at hx119_0 | skip)
             obtain ⟨hx40_0, hf40_0⟩ := Kd.R_celln false HO_7.o (x9_2 : Int) p40 q40; replace p40 := eq_true p40; replace q40 := eq_true q40; have HP43 := Kd.R_putg HO_7.o (x9_2 : Int) (rdOf false t109 x9_2)
             go_wp2_with (first | ((with_reducible refine gate_store (t := 4) (p := 57) rfl ?_); refine store_event (t := 4) (p := 57) (v := ?vo_w44) (w1 := (wr.setCell ⟨go40, (x9_2 : Int).toNat, none⟩ (.bool (rdOf false t109 x9_2)))) ?hg ?ho ?hn ?hr ?_; (case ho => rfl); (case hg => rfl); (case hn => rfl); (case hr => first | (go_simp; done) | (go_simp; rfl)); intro w44 hw; have hg : wr.grownBy w44 (some go40) := (by rw [hw]; exact HP43.2); have hp_ : Kd.R Kd.bool 4 w44 w.heap.size (fun k_ => some k_ ≠ (.slice (some ad120) t109.length co42 : Value).ownBlock) (.slice (some ⟨go40, 0, none⟩) x7_2.length co41) y121 := (by rw [hw, Ny121.o]; exact HP43.1); clear HP43; replace HO_7 := q_ (hp_); replace HO_8 := q_ (Kd.R_after (v := (.slice (some ⟨go40, 0, none⟩) x7_2.length co41)) (v1 := (.slice (some ⟨go40, 0, none⟩) x7_2.length co41)) (ok := (fun _ => True)) (by (with_reducible repeat (first | apply Kd.R_alloc | apply Kd.R_drewN | apply Kd.R_drew)); exact Kd.R_mono HO_8.o (fun _ hk => ⟨trivial, hk⟩)) hg (.inl rfl)); replace HB := q_ ((by rw [hw]; exact below_set (HB.o) GB40.out : Below w.heap.size w w44)); clear hg hw hp_))
             go_roundg k2
             case measure => have := HJ3.o; have := HK2.o; omega
             case rel => exact ⟨(y121), (wrap64 (x9_2 + 1)), rs_, H', ⟨by have := HJ3.o; have := HK2.o; omega⟩, ⟨ra_ HO_7.o⟩, ⟨by (with_reducible repeat (first | apply Kd.R_alloc | apply Kd.R_drewN | apply Kd.R_drew)); exact Kd.R_mono HO_8.o (fun _ hk => hk.2)⟩, ⟨be_ HB.o⟩⟩
            ·rw [if_neg c39] at H
             exact absurd H (by simp)
           ·replace c38 := Bool.eq_false_iff.mpr c38; subst c38; rw [if_neg nft_] at H
            obtain ⟨y122, hy122⟩ : ∃ y_ : List Bool, y_ = (x7_2.set (x9_2 : Int).toNat false) := ⟨_, rfl⟩
            replace H : (spec_l1Both.l0 k2 a2 y122 t109 (wrap64 (x9_2 + 1))) = some r := by first | (rw [hy122]; with_reducible exact H) | (have H2_ := (Option.bind_some _ _).symm.trans H; rw [hy122]; with_reducible exact H2_) | (have H2_ := (Option.bind_some _ _).symm.trans H; with_reducible exact H2_) | with_reducible exact H | (rw [hy122]; exact H) | exact H
            have Ny122 := q_ hy122; clear hy122
            have H' := q_ H
            clear H; obtain ⟨Ao46, co46, eo46⟩ := Kd.R_slice HO_7.o; subst eo46
            have p119 : 0 ≤ (x9_2 : Int) := of_decide_eq_true as_
            have q119 : x9_2 < (x7_2.length : Int) := of_decide_eq_true as_
            obtain ⟨ad119, e119, hx119_0⟩ := Kd.at_bool (Kd.R_reads' HO_7.o).2.2 x9_2 p119 q119
            (try rw [← Nbq37.o] at hx119_0)
            cases e119
            replace p119 := eq_true p119; replace q119 := eq_true q119
            have p45 : 0 ≤ (x9_2 : Int) := of_decide_eq_true as_
            have q45 : (x9_2 : Int) < ((x7_2.length : Int) : Int) := of_decide_eq_true as_
            obtain ⟨go45, co45, eo45, gb45, gl45, cl45, HG45⟩ := Kd.R_form HO_7.o (by omega)
            (first | cases eo45 | (injection eo45 with ea_ en_ ec_; (first | subst ea_ | (injection ea_ with ea_; subst ea_)); subst ec_; clear en_))
            have GB45 := q_ gb45; have GG45 := q_ HG45; clear gb45 gl45 HG45
            (first | simp only [add_plain] at hx119_0 | skip)
            obtain ⟨hx45_0, hf45_0⟩ := Kd.R_celln false HO_7.o (x9_2 : Int) p45 q45; replace p45 := eq_true p45; replace q45 := eq_true q45; have HP47 := Kd.R_putg HO_7.o (x9_2 : Int) false
            go_wp2_with (first | ((with_reducible refine gate_store (t := 4) (p := 57) rfl ?_); refine store_event (t := 4) (p := 57) (v := ?vo_w48) (w1 := (wr.setCell ⟨go45, (x9_2 : Int).toNat, none⟩ (.bool false))) ?hg ?ho ?hn ?hr ?_; (case ho => rfl); (case hg => rfl); (case hn => rfl); (case hr => first | (go_simp; done) | (go_simp; rfl)); intro w48 hw; have hg : wr.grownBy w48 (some go45) := (by rw [hw]; exact HP47.2); have hp_ : Kd.R Kd.bool 4 w48 w.heap.size (fun k_ => some k_ ≠ (v110 : Value).ownBlock) (.slice (some ⟨go45, 0, none⟩) x7_2.length co46) y122 := (by rw [hw, Ny122.o]; exact HP47.1); clear HP47; replace HO_7 := q_ (hp_); replace HO_8 := q_ (Kd.R_after (v := (.slice (some ⟨go45, 0, none⟩) x7_2.length co46)) (v1 := (.slice (some ⟨go45, 0, none⟩) x7_2.length co46)) (ok := (fun _ => True)) (by (with_reducible repeat (first | apply Kd.R_alloc | apply Kd.R_drewN | apply Kd.R_drew)); exact Kd.R_mono HO_8.o (fun _ hk => ⟨trivial, hk⟩)) hg (.inl rfl)); replace HB := q_ ((by rw [hw]; exact below_set (HB.o) GB45.out : Below w.heap.size w w48)); clear hg hw hp_))
            go_roundg k2
            case measure => have := HJ3.o; have := HK2.o; omega
            case rel => exact ⟨(y122), (wrap64 (x9_2 + 1)), rs_, H', ⟨by have := HJ3.o; have := HK2.o; omega⟩, ⟨ra_ HO_7.o⟩, ⟨by (with_reducible repeat (first | apply Kd.R_alloc | apply Kd.R_drewN | apply Kd.R_drew)); exact Kd.R_mono HO_8.o (fun _ hk => hk.2)⟩, ⟨be_ HB.o⟩⟩
          ·rw [if_neg c36] at H
           exact absurd H (by simp)
         ·rw [if_neg c35] at H
          exact absurd H (by simp)
        ·rw [if_neg c34] at H
         have c34b0 : (a2 == 1) = false := beq_eq_false_iff_ne.mpr c34
         have c34b1 : (a2 != 1) = true := bne_iff_ne.mpr c34
         by_cases c49 : a2 = 2
         ·rw [if_pos c49] at H
          have c49b0 : (a2 == 2) = true := beq_iff_eq.mpr c49
          have c49b1 : (a2 != 2) = false := bne_eq_false_iff_eq.mpr c49
          clear c49
          by_cases c50 : 0 ≤ x9_2
          ·rw [if_pos c50] at H; have c50b0 := dt_ c50; clear c50
           by_cases c51 : x9_2 < (x7_2.length : Int)
           ·rw [if_pos c51] at H; have c51b0 := dt_ c51; clear c51
            obtain ⟨bq52, hbq52⟩ : ∃ b_ : Bool, b_ = (rdOf false x7_2 x9_2) := ⟨_, rfl⟩
            replace H : (if bq52 = true then (if x9_2 < (t109.length : Int) then (spec_l1Both.l0 k2 a2 (x7_2.set (x9_2 : Int).toNat (!(rdOf false t109 x9_2))) t109 (wrap64 (x9_2 + 1))) else (none)) else (spec_l1Both.l0 k2 a2 (x7_2.set (x9_2 : Int).toNat false) t109 (wrap64 (x9_2 + 1)))) = some r := by rw [← hbq52] at H; exact H
            have Nbq52 := q_ hbq52; clear hbq52
            by_cases c53 : bq52 = true
            ·subst c53; rw [if_pos rfl] at H
             by_cases c54 : x9_2 < (t109.length : Int)
             ·rw [if_pos c54] at H; have c54b0 := dt_ c54; clear c54
              obtain ⟨y125, hy125⟩ : ∃ y_ : List Bool, y_ = (x7_2.set (x9_2 : Int).toNat (!(rdOf false t109 x9_2))) := ⟨_, rfl⟩
              replace H : (spec_l1Both.l0 k2 a2 y125 t109 (wrap64 (x9_2 + 1))) = some r := by first | (rw [hy125]; with_reducible exact H) | (have H2_ := (Option.bind_some _ _).symm.trans H; rw [hy125]; with_reducible exact H2_) | (have H2_ := (Option.bind_some _ _).symm.trans H; with_reducible exact H2_) | with_reducible exact H | (rw [hy125]; exact H) | exact H
              have Ny125 := q_ hy125; clear hy125
              have H' := q_ H
              clear H; obtain ⟨Ao56, co56, eo56⟩ := Kd.R_slice HO_7.o; subst eo56
              have p123 : 0 ≤ (x9_2 : Int) := of_decide_eq_true as_
              have q123 : x9_2 < (x7_2.length : Int) := of_decide_eq_true as_
              obtain ⟨ad123, e123, hx123_0⟩ := Kd.at_bool (Kd.R_reads' HO_7.o).2.2 x9_2 p123 q123
              (try rw [← Nbq52.o] at hx123_0)
              cases e123
              replace p123 := eq_true p123; replace q123 := eq_true q123; obtain ⟨Ao57, co57, eo57⟩ := Kd.R_slice HO_8.o; subst eo57
              have p124 : 0 ≤ (x9_2 : Int) := of_decide_eq_true as_
              have q124 : x9_2 < (t109.length : Int) := of_decide_eq_true as_
              obtain ⟨ad124, e124, hx124_0⟩ := Kd.at_bool (Kd.R_reads' HO_8.o).2.2 x9_2 p124 q124
              (try rw [← Nbq52.o] at hx124_0)
              cases e124
              replace p124 := eq_true p124; replace q124 := eq_true q124
              have p55 : 0 ≤ (x9_2 : Int) := of_decide_eq_true as_
              have q55 : (x9_2 : Int) < ((x7_2.length : Int) : Int) := of_decide_eq_true as_
              obtain ⟨go55, co55, eo55, gb55, gl55, cl55, HG55⟩ := Kd.R_form HO_7.o (by omega)
              (first | cases eo55 | (injection eo55 with ea_ en_ ec_; (first | subst ea_ | (injection ea_ with ea_; subst ea_)); subst ec_; clear en_))
              have GB55 := q_ gb55; have GG55 := q_ HG55; clear gb55 gl55 HG55
              (first | simp only [add_plain] at hx123_0 | skip)
              obtain ⟨hx55_0, hf55_0⟩ := Kd.R_celln false HO_7.o (x9_2 : Int) p55 q55; replace p55 := eq_true p55; replace q55 := eq_true q55; have HP58 := Kd.R_putg HO_7.o (x9_2 : Int) (!(rdOf false t109 x9_2))
              go_wp2_with (first | ((with_reducible refine gate_store (t := 4) (p := 73) rfl ?_); refine store_event (t := 4) (p := 73) (v := ?vo_w59) (w1 := (wr.setCell ⟨go55, (x9_2 : Int).toNat, none⟩ (.bool (!(rdOf false t109 x9_2))))) ?hg ?ho ?hn ?hr ?_; (case ho => rfl); (case hg => rfl); (case hn => rfl); (case hr => first | (go_simp; done) | (go_simp; rfl)); intro w59 hw; have hg : wr.grownBy w59 (some go55) := (by rw [hw]; exact HP58.2); have hp_ : Kd.R Kd.bool 4 w59 w.heap.size (fun k_ => some k_ ≠ (.slice (some ad124) t109.length co57 : Value).ownBlock) (.slice (some ⟨go55, 0, none⟩) x7_2.length co56) y125 := (by rw [hw, Ny125.o]; exact HP58.1); clear HP58; replace HO_7 := q_ (hp_); replace HO_8 := q_ (Kd.R_after (v := (.slice (some ⟨go55, 0, none⟩) x7_2.length co56)) (v1 := (.slice (some ⟨go55, 0, none⟩) x7_2.length co56)) (ok := (fun _ => True)) (by (with_reducible repeat (first | apply Kd.R_alloc | apply Kd.R_drewN | apply Kd.R_drew)); exact Kd.R_mono HO_8.o (fun _ hk => ⟨trivial, hk⟩)) hg (.inl rfl)); replace HB := q_ ((by rw [hw]; exact below_set (HB.o) GB55.out : Below w.heap.size w w59)); clear hg hw hp_))
              go_roundg k2
              case measure => have := HJ3.o; have := HK2.o; omega
              case rel => exact ⟨(y125), (wrap64 (x9_2 + 1)), rs_, H', ⟨by have := HJ3.o; have := HK2.o; omega⟩, ⟨ra_ HO_7.o⟩, ⟨by (with_reducible repeat (first | apply Kd.R_alloc | apply Kd.R_drewN | apply Kd.R_drew)); exact Kd.R_mono HO_8.o (fun _ hk => hk.2)⟩, ⟨be_ HB.o⟩⟩
             ·rw [if_neg c54] at H
              exact absurd H (by simp)
            ·replace c53 := Bool.eq_false_iff.mpr c53; subst c53; rw [if_neg nft_] at H
             obtain ⟨y126, hy126⟩ : ∃ y_ : List Bool, y_ = (x7_2.set (x9_2 : Int).toNat false) := ⟨_, rfl⟩
             replace H : (spec_l1Both.l0 k2 a2 y126 t109 (wrap64 (x9_2 + 1))) = some r := by first | (rw [hy126]; with_reducible exact H) | (have H2_ := (Option.bind_some _ _).symm.trans H; rw [hy126]; with_reducible exact H2_) | (have H2_ := (Option.bind_some _ _).symm.trans H; with_reducible exact H2_) | with_reducible exact H | (rw [hy126]; exact H) | exact H
             have Ny126 := q_ hy126; clear hy126
             have H' := q_ H
             clear H; obtain ⟨Ao61, co61, eo61⟩ := Kd.R_slice HO_7.o; subst eo61
             have p123 : 0 ≤ (x9_2 : Int) := of_decide_eq_true as_
             have q123 : x9_2 < (x7_2.length : Int) := of_decide_eq_true as_
             obtain ⟨ad123, e123, hx123_0⟩ := Kd.at_bool (Kd.R_reads' HO_7.o).2.2 x9_2 p123 q123
             (try rw [← Nbq52.o] at hx123_0)
             cases e123
             replace p123 := eq_true p123; replace q123 := eq_true q123
             have p60 : 0 ≤ (x9_2 : Int) := of_decide_eq_true as_
             have q60 : (x9_2 : Int) < ((x7_2.length : Int) : Int) := of_decide_eq_true as_
             obtain ⟨go60, co60, eo60, gb60, gl60, cl60, HG60⟩ := Kd.R_form HO_7.o (by omega)
             (first | cases eo60 | (injection eo60 with ea_ en_ ec_; (first | subst ea_ | (injection ea_ with ea_; subst ea_)); subst ec_; clear en_))
             have GB60 := q_ gb60; have GG60 := q_ HG60; clear gb60 gl60 HG60
             (first | simp only [add_plain] at hx123_0 | skip)
             obtain ⟨hx60_0, hf60_0⟩ := Kd.R_celln false HO_7.o (x9_2 : Int) p60 q60; replace p60 := eq_true p60; replace q60 := eq_true q60; have HP62 := Kd.R_putg HO_7.o (x9_2 : Int) false
             go_wp2_with (first | ((with_reducible refine gate_store (t := 4) (p := 73) rfl ?_); refine store_event (t := 4) (p := 73) (v := ?vo_w63) (w1 := (wr.setCell ⟨go60, (x9_2 : Int).toNat, none⟩ (.bool false))) ?hg ?ho ?hn ?hr ?_; (case ho => rfl); (case hg => rfl); (case hn => rfl); (case hr => first | (go_simp; done) | (go_simp; rfl)); intro w63 hw; have hg : wr.grownBy w63 (some go60) := (by rw [hw]; exact HP62.2); have hp_ : Kd.R Kd.bool 4 w63 w.heap.size (fun k_ => some k_ ≠ (v110 : Value).ownBlock) (.slice (some ⟨go60, 0, none⟩) x7_2.length co61) y126 := (by rw [hw, Ny126.o]; exact HP62.1); clear HP62; replace HO_7 := q_ (hp_); replace HO_8 := q_ (Kd.R_after (v := (.slice (some ⟨go60, 0, none⟩) x7_2.length co61)) (v1 := (.slice (some ⟨go60, 0, none⟩) x7_2.length co61)) (ok := (fun _ => True)) (by (with_reducible repeat (first | apply Kd.R_alloc | apply Kd.R_drewN | apply Kd.R_drew)); exact Kd.R_mono HO_8.o (fun _ hk => ⟨trivial, hk⟩)) hg (.inl rfl)); replace HB := q_ ((by rw [hw]; exact below_set (HB.o) GB60.out : Below w.heap.size w w63)); clear hg hw hp_))
             go_roundg k2
             case measure => have := HJ3.o; have := HK2.o; omega
             case rel => exact ⟨(y126), (wrap64 (x9_2 + 1)), rs_, H', ⟨by have := HJ3.o; have := HK2.o; omega⟩, ⟨ra_ HO_7.o⟩, ⟨by (with_reducible repeat (first | apply Kd.R_alloc | apply Kd.R_drewN | apply Kd.R_drew)); exact Kd.R_mono HO_8.o (fun _ hk => hk.2)⟩, ⟨be_ HB.o⟩⟩
           ·rw [if_neg c51] at H
            exact absurd H (by simp)
          ·rw [if_neg c50] at H
           exact absurd H (by simp)
         ·rw [if_neg c49] at H
          have c49b0 : (a2 == 2) = false := beq_eq_false_iff_ne.mpr c49
          have c49b1 : (a2 != 2) = true := bne_iff_ne.mpr c49
          have H' := q_ H
          clear H
          go_wp2
          go_roundg k2
          case measure => have := HJ3.o; have := HK2.o; omega
          case rel => exact ⟨(x7_2), (wrap64 (x9_2 + 1)), rs_, H', ⟨by have := HJ3.o; have := HK2.o; omega⟩, ⟨ra_ HO_7.o⟩, ⟨ra_ HO_8.o⟩, ⟨be_ HB.o⟩⟩
      ·rw [if_neg c18] at H; have c18b0 := df_ c18; clear c18; obtain ⟨t112, A64, H⟩ := ob_ H; obtain rfl := Option.some.inj H; obtain ⟨Ao65, co65, eo65⟩ := Kd.R_slice HO_7.o; subst eo65
       go_wp2_with (first | ((with_reducible refine gate_callee (f := 79) rfl ?_); refine gl_ (some 75) rfl rfl Tryz.func79 #[.slice Ao65 x7_2.length co65] ?_; (with_reducible refine (spec_l1Class.calls k2 _ _ x7_2 t112 _ ?side1 ?side2 A64.o).mono ?_); (case side1 => repeat (first | exact (Kd.R_reads' HO_7.o).2.2 | (with_reducible refine Kd.C_alloc ?_ _) | (with_reducible refine Kd.C_drewN ?_ _) | (with_reducible refine Kd.C_drew ?_))); (case side2 => exact (Kd.R_reads' HO_7.o).2.1); rintro e w66 ⟨v113, rfl, ho0, hb⟩; refine ⟨_, rfl, ?_⟩; have HO114 := q_ (Kd.R_lower ho0 (below_size (be_ HB.o))); replace HO_7 := q_ (Kd.R_below (ra_ HO_7.o) hb); replace HO_8 := q_ (Kd.R_below (ra_ HO_8.o) hb); replace HB := sb_ HB hb; (try clear hb); (try clear ho0)))
       go_ret
       exact ⟨_, rt_, ra_ HO114.o, be_ HB.o⟩
/-! ### spec_Joined: function 26 -/
def spec_Joined.f (k : Nat) (l0 : List (S67)) (l1 : List (S67)) : Option ((List (S67))) := (spec_l1Both.f k l0 l1 0).bind fun t101 => (some t101)
theorem spec_Joined.calls (k : Nat) (A0 : Option Addr) (c0 : Nat) (l0 : List (S67)) (A1 : Option Addr) (c1 : Nat) (l1 : List (S67)) (r : List (S67)) (w : World) (hr0 : Kd.C k67 w A0 l0.length l0) (hc0 : l0.length ≤ c0) (hr1 : Kd.C k67 w A1 l1.length l1) (hc1 : l1.length ≤ c1) (h : spec_Joined.f k l0 l1 = some r) :
  Calls Tryz.prog 26 #[.slice A0 l0.length c0, .slice A1 l1.length c1] w fun e w' => ∃ v0_ : Value, e = .returned (v0_) ∧ Kd.R k67 67 w' w.heap.size (fun _ => True) v0_ r ∧ Below w.heap.size w w' := by
 have HR0 := q_ hr0; have HC0 := q_ hc0; clear hr0 hc0; have HR1 := q_ hr1; have HC1 := q_ hc1; clear hr1 hc1; have HB := q_ (Below.refl w.heap.size w)
 have H : ((spec_l1Both.f k l0 l1 0).bind fun t101 => (some t101)) = some r := h
 clear h; obtain ⟨t101, A3, H⟩ := ob_ H; obtain rfl := Option.some.inj H
 go_enter Tryz.func26, Tryz.ntmps26
 go_wp2_with (first | ((with_reducible refine gate_callee (f := 52) rfl ?_); refine gl_ (some 7) rfl rfl Tryz.func52 #[.slice A0 l0.length c0, .slice A1 l1.length c1, .int .i64 0] ?_; (with_reducible refine (spec_l1Both.calls k _ _ l0 _ _ l1 0 t101 _ ?side1 ?side2 ?side3 ?side4 A3.o).mono ?_); (case side1 => repeat (first | exact HR0.o | (with_reducible refine Kd.C_alloc ?_ _) | (with_reducible refine Kd.C_drewN ?_ _) | (with_reducible refine Kd.C_drew ?_))); (case side2 => exact HC0.o); (case side3 => repeat (first | exact HR1.o | (with_reducible refine Kd.C_alloc ?_ _) | (with_reducible refine Kd.C_drewN ?_ _) | (with_reducible refine Kd.C_drew ?_))); (case side4 => exact HC1.o); rintro e w4 ⟨v102, rfl, ho0, hb⟩; refine ⟨_, rfl, ?_⟩; have HO103 := q_ (Kd.R_lower ho0 (below_size (be_ HB.o))); replace HB := sb_ HB hb; (try clear hb); (try clear ho0)))
 go_ret
 exact ⟨_, rt_, ra_ HO103.o, be_ HB.o⟩
/-! ### spec_l4First: function 54 -/
def spec_l4First.f : Nat → List (S121) → Int → Option ((List (S67)) × Bool)
 | 0, _, _ => none
 | k + 1, l0_0, a1 => if 0 ≤ a1 then (if a1 < (l0_0.length : Int) then (if ((rd_T121 l0_0 a1).f0) = 1 then (some ((([] : List (S67))), true)) else (if ((rd_T121 l0_0 a1).f0) = 2 then ((some (([] : List (S67)) : List (S67))).bind fun y107 => (if y107.length + ((rd_T121 l0_0 a1).f1).length < 8796093022208 then (some ((y107 ++ ((rd_T121 l0_0 a1).f1)), false)) else (none))) else (if 0 < (((rd_T121 l0_0 a1).f2).length : Int) then ((spec_l4First.f k l0_0 (rd ((rd_T121 l0_0 a1).f2) 0)).bind fun bt114 => (if ((rd_T121 l0_0 a1).f0) = 3 then (if 1 < (((rd_T121 l0_0 a1).f2).length : Int) then ((spec_l4First.f k l0_0 (rd ((rd_T121 l0_0 a1).f2) 1)).bind fun bt119 => (if bt114.2 = true then ((spec_Joined.f k bt114.1 bt119.1).bind fun t123 => (some (t123, bt119.2))) else (some (bt114.1, false)))) else (none)) else (if ((rd_T121 l0_0 a1).f0) = 4 then (if 1 < (((rd_T121 l0_0 a1).f2).length : Int) then ((spec_l4First.f k l0_0 (rd ((rd_T121 l0_0 a1).f2) 1)).bind fun bt127 => ((spec_Joined.f k bt114.1 bt127.1).bind fun t131 => (if bt114.2 = true then (some (t131, true)) else (some (t131, bt127.2))))) else (none)) else (if ((rd_T121 l0_0 a1).f0) = 6 then (some (bt114.1, bt114.2)) else (if ((rd_T121 l0_0 a1).f0) = 8 then (if bt114.2 = true then (some (bt114.1, true)) else (some (bt114.1, (((rd_T121 l0_0 a1).f3) == 0)))) else (some (bt114.1, true))))))) else (none)))) else (none)) else (none)
theorem spec_l4First.calls (k : Nat) : ∀ (A : Option Addr) (c : Nat) (l : List S121) (i : Int) (r : List S67) (r2 : Bool) (w : World) (hr : Kd.C k121 w A l.length l) (hc : l.length ≤ c) (h : spec_l4First.f k l i = some (r, r2)),
    Calls Tryz.prog 54 #[.agg #[.slice A l.length c], .int .i64 i] w fun e w' => ∃ v0_ : Value, e = .returned (.tuple #[v0_, .bool r2]) ∧ Kd.R k67 67 w' w.heap.size (fun _ => True) v0_ r ∧ Below w.heap.size w w' := by
  induction k using Nat.strongRecOn with
  | _ k ih =>
  intro A c l i r r2 w hr hc h
  cases k with
  | zero => exact absurd h (by simp [spec_l4First.f])
  | succ k =>
  simp only [spec_l4First.f] at h
  by_cases p0 : 0 ≤ i
  rotate_left
  · rw [if_neg p0] at h; exact absurd h (by simp)
  by_cases q0 : i < (l.length : Int)
  rotate_left
  · rw [if_pos p0, if_neg q0] at h; exact absurd h (by simp)
  rw [if_pos p0, if_pos q0] at h
  obtain ⟨ad, A1, c1, A2, c2, e, hx0, hx1, hx2, hx3, hx4, hl1, hi1, hl2, hi2⟩ := at_T121 hr i p0 q0
  subst e
  have HR := q_ hr; have HC := q_ hc; have HI1 := q_ hi1; have HL1 := q_ hl1; have HI2 := q_ hi2; have HL2 := q_ hl2
  clear hr hc hi1 hl1 hi2 hl2
  generalize rd_T121 l i = n at *
  have IH := q_ (ih k (by omega)); clear ih
  have HH := q_ h; clear h
  have HB := q_ (Below.refl w.heap.size w)
  have T0 : J0 True := ⟨trivial⟩; have T1 : J0 True := ⟨trivial⟩; have T2 : J0 True := ⟨trivial⟩
  replace p0 := eq_true p0; replace q0 := eq_true q0
  have hu26 := Tryz.underlying26
  go_enter Tryz.func54, Tryz.ntmps54
  go_upto_region 3 with (first
    | ((with_reducible refine gate_dst (N := 2) rfl ?_); clear T0; refine bx_ 2 #[.slice (some ad) l.length c] 58 ?_; intro g1 hg w1 hbox hb; have BK1 := q_ hbox; have GE1 := ge_ hg HB; replace HB := sb_ HB hb; replace hx0 := mv_ HB.o hx0; replace hx1 := mv_ HB.o hx1; replace hx2 := mv_ HB.o hx2; replace hx3 := mv_ HB.o hx3; replace hx4 := mv_ HB.o hx4; clear hb hbox hg; obtain ⟨hcz, hfz⟩ := d1_ BK1)
    | ((with_reducible refine gate_dst (N := 6) rfl ?_); clear T1; refine bx_ 6 #[.int .i64 0, .slice none 0 0, .slice none 0 0, .int .i64 0, .int .i64 0] 121 ?_; intro g3 hg w3 hbox hb; have BK3 := q_ hbox; have GE3 := ge1_ hg HB GE1; have NB := nl_ hg BK1; replace BK1 := lb_ BK1 hb; replace HB := sb1_ HB GE1 hb; clear hb hbox hg; obtain ⟨hy0, hy1, hy2, hy3, hy4, hf0, hf1, hf2, hf3, hf4⟩ := d5_ BK3))
  generalize hW_ : (((((w3.setCell ⟨g3, 0, none⟩ (.int .i64 n.f0)).setCell ⟨g3, 1, none⟩ (.slice A1 n.f1.length c1)).setCell ⟨g3, 2, none⟩ (.slice A2 n.f2.length c2)).setCell ⟨g3, 3, none⟩ (.int .i64 n.f3)).setCell ⟨g3, 4, none⟩ (.int .i64 n.f4)) = w5
  replace BK1 := bf5_ hW_ BK1 NB; replace BK3 := bp5_ hW_ BK3; replace HB := bw5_ hW_ (be2_ HB.o GE1.o GE3.o)
  clear hW_ hx0 hx1 hx2 hx3 hx4 hcz hfz hy0 hy1 hy2 hy3 hy4 hf0 hf1 hf2 hf3 hf4 GE1 GE3 NB p0 q0
  have T1 : J0 True := ⟨trivial⟩
  have H := HH.o; clear HH
  by_cases c1 : n.f0 = 1
  · rw [if_pos c1] at H
    obtain ⟨rfl, rfl⟩ := Prod.mk.inj (Option.some.inj H)
    have e1 : (n.f0 == 1) = true := beq_iff_eq.mpr c1
    clear c1 H
    go_wp2_with (((with_reducible refine gate_dst (N := 22) rfl ?_); clear T1; refine Kd.R_lit k67 _ 67 ?hg (N := 22) ?hd (xs := ([] : List S67)) (inner := []) (ok := fun _ => True) (okp := fun _ => True) ?hr ?hp (fun _ hk => hk) trivial (Below.refl _ _) (Nat.le_refl _) (by simp) ?_; (case hd => rfl); (case hg => rfl); (case hr => first | (go_simp; done) | (go_simp; rfl)); (case hp => exact (Reps.none _ _)); intro v ww ho hb _ _; have HO := q_ (Kd.R_lower ho HB.o.size); replace BK3 := lb_ BK3 hb; replace HB := sb_ HB hb; clear ho hb; obtain ⟨hy0, hy1, hy2, hy3, hy4, hf0, hf1, hf2, hf3, hf4⟩ := d5_ BK3))
    go_ret2
    exact ⟨_, rfl, HO.o, HB.o⟩
  rw [if_neg c1] at H
  have e1 : (n.f0 == 1) = false := beq_eq_false_iff_ne.mpr c1
  clear c1
  by_cases c2 : n.f0 = 2
  · rw [if_pos c2] at H
    replace H := (Option.bind_some _ _).symm.trans H
    by_cases hl : ([] : List S67).length + n.f1.length < 8796093022208
    rotate_left
    · rw [if_neg hl] at H; exact absurd H (by simp)
    rw [if_pos hl] at H
    obtain ⟨rfl, rfl⟩ := Prod.mk.inj (Option.some.inj H)
    have e2 : (n.f0 == 2) = true := beq_iff_eq.mpr c2
    have HLM := q_ hl
    clear c2 H hl
    obtain ⟨hy0, hy1, hy2, hy3, hy4, hf0, hf1, hf2, hf3, hf4⟩ := d5_ BK3
    go_wp2_with (first
      | ((with_reducible refine gate_dst (N := 25) rfl ?_); clear T1; refine Kd.R_lit k67 _ 67 ?hg (N := 25) ?hd (xs := ([] : List S67)) (inner := []) (ok := fun _ => True) (okp := fun _ => True) ?hr ?hp (fun _ hk => hk) trivial (Below.refl _ _) (Nat.le_refl _) (by simp) ?_; (case hd => rfl); (case hg => rfl); (case hr => first | (go_simp; done) | (go_simp; rfl)); (case hp => exact (Reps.none _ _)); intro v ww ho hb _ _; have HO := q_ (Kd.R_lower ho HB.o.size); replace BK3 := lb_ BK3 hb; replace HB := sb_ HB hb; clear ho hb; obtain ⟨hy0, hy1, hy2, hy3, hy4, hf0, hf1, hf2, hf3, hf4⟩ := d5_ BK3)
      | ((with_reducible refine gate_builtin (b := .append) (xs := #[.tmp 25, .tmp 27]) rfl ?_); at_builtin; clear T2; refine Kd.R_append_rows k67 (w0 := w) w.heap.size rfl (.tmp 25) (.tmp 27) 26 67 (.agg #[(.int .i64 0), (.int .i64 0)]) 16 rfl Tryz.underlying26 info67 rfl (by decide) (by omega) v [] n.f1 _ _ _ (fun _ => True) (fun _ => False) rfl rfl ?aO ?aR (fun _ _ h => h) (fun _ h => h.elim) ?aF ?aB ?aS ?aL ?_; (case aO => exact HO.o); (case aR => exact Kd.C_below HI1.o HB.o); (case aF => exact fun _ _ => trivial); (case aB => exact HB.o); (case aS => exact HB.o.size); (case aL => have := HLM.o; simp at this ⊢; omega); intro v2 w2 ho hb _ _; have HV := q_ ho; replace HB := q_ hb; clear ho hb))
    go_ret2
    exact ⟨_, rfl, HV.o, HB.o⟩
  rw [if_neg c2] at H
  have e2 : (n.f0 == 2) = false := beq_eq_false_iff_ne.mpr c2
  clear c2
  by_cases q : 0 < (n.f2.length : Int)
  rotate_left
  · rw [if_neg q] at H
    exact absurd H (by simp)
  rw [if_pos q] at H
  obtain ⟨ad2, e, hk0⟩ := Kd.at_int HI2.o 0 (by omega) q
  subst e
  rw [show (0 : Int).toNat = 0 from rfl, Addr.add_zero'] at hk0
  have q2 : (0 < n.f2.length) = True := eq_true (by omega)
  replace q := eq_true q
  have z0 : (0 ≤ (0 : Int)) = True := eq_true (by omega)
  obtain ⟨⟨t0, b0⟩, E0, H⟩ := ob_ H
  dsimp only at H
  have HH := q_ H; clear H
  go_wp2
  replace BK1 := q_ (blk_drew BK1.o); replace BK3 := q_ (blk_drew BK3.o); replace HB := q_ (below_drew1 HB.o)
  refine start_ (n := 11) (S := fun w' => w'.cell? ⟨g1, 0, none⟩ = some (.slice (some ad) l.length c) ∧ w'.cell? ⟨g3, 2, none⟩ = some (.slice (some ad2) n.f2.length c2) ∧ w'.cell? ad2 = some (.int .i64 (rd n.f2 0))) (ds := []) (bb 11 0) (by kernel_rfl) rfl rfl ⟨(blk_cell BK1.o 0).trans rfl, (blk_cell BK3.o 2).trans rfl, mv_ HB.o hk0⟩ (fun hS => ?_)
  generalize World.drew _ = wd at BK1 BK3 HB hS ⊢
  refine pk_ 1 31 2 ?_; refine tk_ 0 30 3 hS ?_; refine tk_ 2 32 7 hS ?_; refine pk_ 3 33 15 ?_; refine tk_ 4 34 31 hS ?_
  refine one_ (i := 5) (N := some 35) (bb 11 63) rfl rfl (by kernel_rfl) (by decide) (fun K hK => ?_)
  refine gs_ Tryz.func54 #[.agg #[.slice (some ad) l.length c], .int .i64 (rd n.f2 0)] ?_
  with_reducible refine (IH.o _ _ l (rd n.f2 0) t0 b0 _ (Kd.C_below HR.o (be_ HB.o)) HC.o E0.o).mono ?_
  rintro e w7 ⟨v0, rfl, hO, hb⟩
  refine ⟨_, rfl, ?_⟩
  obtain ⟨B0, d0, rfl⟩ := Kd.R_slice hO
  have HO0 := q_ (Kd.R_lower hO HB.o.size); clear hO
  replace BK1 := lb_ BK1 hb; replace BK3 := lb_ BK3 hb; replace HB := sb_ HB hb; clear hb
  refine hK.out _ _ ⟨(blk_cell BK1.o 0).trans rfl, (blk_cell BK3.o 2).trans rfl, mv_ HB.o hk0⟩ (fun hS => ?_)
  clear hK K; refine no_ (some 35) ?_
  refine pk_ 6 29 127 ?_; refine pk_ 7 36 255 ?_; refine pk_ 8 37 511 ?_; refine pk_ 9 7 1023 ?_; refine pk_ 10 8 2047 ?_
  refine done_ (by kernel_rfl) ?_
  have H := HH.o; clear HH
  by_cases c3 : n.f0 = 3
  · rw [if_pos c3] at H
    have e3 : (n.f0 == 3) = true := beq_iff_eq.mpr c3
    clear c3
    by_cases qq : 1 < (n.f2.length : Int)
    rotate_left
    · rw [if_neg qq] at H
      exact absurd H (by simp)
    rw [if_pos qq] at H
    obtain ⟨⟨t1, b1⟩, E1, H⟩ := ob_ H
    dsimp only at H
    obtain ⟨ad3, e, hk1⟩ := Kd.at_int HI2.o 1 (by omega) qq
    obtain rfl : ad2 = ad3 := by injection e
    simp only [show (1 : Int).toNat = 1 from rfl, Go.Addr.add, Nat.reduceMul, Nat.reduceEqDiff, ↓reduceIte] at hk1
    have q3 : (1 < n.f2.length) = True := eq_true (by omega)
    replace qq := eq_true qq
    have z1 : (0 ≤ (1 : Int)) = True := eq_true (by omega)
    clear e
    have HH := q_ H; clear H
    obtain ⟨hy0, hy1, hy2, hy3, hy4, hf0, hf1, hf2, hf3, hf4⟩ := d5_ BK3
    go_wp2
    clear hy0 hy1 hy2 hy3 hy4 hf0 hf1 hf2 hf3 hf4
    replace BK1 := q_ (blk_drew BK1.o); replace BK3 := q_ (blk_drew BK3.o); replace HB := q_ (below_drew1 HB.o)
    replace HO0 := q_ (Kd.R_drew HO0.o)
    refine start_ (n := 11) (S := fun w' => w'.cell? ⟨g1, 0, none⟩ = some (.slice (some ad) l.length c) ∧ w'.cell? ⟨g3, 2, none⟩ = some (.slice (some ad2) n.f2.length c2) ∧ w'.cell? ⟨ad2.block, ad2.off + 1, none⟩ = some (.int .i64 (rd n.f2 1))) (ds := []) (bb 11 0) (by kernel_rfl) rfl rfl ⟨(blk_cell BK1.o 0).trans rfl, (blk_cell BK3.o 2).trans rfl, mv_ HB.o hk1⟩ (fun hS => ?_)
    generalize World.drew _ = wd at BK1 BK3 HB hS HO0 ⊢
    refine pk_ 1 44 2 ?_; refine tk_ 0 43 3 hS ?_; refine tk_ 2 45 7 hS ?_; refine pk_ 3 46 15 ?_; refine tk_ 4 47 31 hS ?_
    refine one_ (i := 5) (N := some 48) (bb 11 63) rfl rfl (by kernel_rfl) (by decide) (fun K hK => ?_)
    refine gs_ Tryz.func54 #[.agg #[.slice (some ad) l.length c], .int .i64 (rd n.f2 1)] ?_
    with_reducible refine (IH.o _ _ l (rd n.f2 1) t1 b1 _ (Kd.C_below HR.o (be_ HB.o)) HC.o E1.o).mono ?_
    rintro e w7 ⟨v1, rfl, hO, hb⟩
    refine ⟨_, rfl, ?_⟩
    obtain ⟨B1, d1, rfl⟩ := Kd.R_slice hO
    have HO1 := q_ (Kd.R_lower hO HB.o.size); clear hO
    replace HO0 := q_ (Kd.R_below HO0.o hb)
    replace BK1 := lb_ BK1 hb; replace BK3 := lb_ BK3 hb; replace HB := sb_ HB hb; clear hb
    refine hK.out _ _ ⟨(blk_cell BK1.o 0).trans rfl, (blk_cell BK3.o 2).trans rfl, mv_ HB.o hk1⟩ (fun hS => ?_)
    clear hK K; refine no_ (some 48) ?_
    refine pk_ 6 42 127 ?_; refine pk_ 7 49 255 ?_; refine pk_ 8 50 511 ?_; refine pk_ 9 9 1023 ?_; refine pk_ 10 10 2047 ?_
    refine done_ (by kernel_rfl) ?_
    have H := HH.o; clear HH
    cases b0
    · obtain ⟨rfl, rfl⟩ := Prod.mk.inj (Option.some.inj ((if_neg nft_).symm.trans H))
      clear H
      go_wp2
      go_ret2
      exact ⟨_, rfl, ra_ HO0.o, be_ HB.o⟩
    · replace H := (if_pos rfl).symm.trans H
      obtain ⟨t2, E2, H⟩ := ob_ H
      obtain ⟨rfl, rfl⟩ := Prod.mk.inj (Option.some.inj H)
      clear H
      go_wp2_with (go_at_call 26; clear T1; (with_reducible refine (spec_Joined.calls k _ _ t0 _ _ t1 _ _ (C_of_R HO0.o) (L_of_R HO0.o) (C_of_R HO1.o) (L_of_R HO1.o) E2.o).mono ?_); rintro e w9 ⟨v, rfl, hO, hb⟩; have HO := q_ (Kd.R_lower hO HB.o.size); replace HB := sb_ HB hb; clear hO hb)
      go_ret2
      exact ⟨_, rfl, HO.o, HB.o⟩
  rw [if_neg c3] at H
  have e3 : (n.f0 == 3) = false := beq_eq_false_iff_ne.mpr c3
  clear c3
  by_cases c4 : n.f0 = 4
  · rw [if_pos c4] at H
    have e4 : (n.f0 == 4) = true := beq_iff_eq.mpr c4
    clear c4
    by_cases qq : 1 < (n.f2.length : Int)
    rotate_left
    · rw [if_neg qq] at H
      exact absurd H (by simp)
    rw [if_pos qq] at H
    obtain ⟨⟨t1, b1⟩, E1, H⟩ := ob_ H
    dsimp only at H
    obtain ⟨ad3, e, hk1⟩ := Kd.at_int HI2.o 1 (by omega) qq
    obtain rfl : ad2 = ad3 := by injection e
    simp only [show (1 : Int).toNat = 1 from rfl, Go.Addr.add, Nat.reduceMul, Nat.reduceEqDiff, ↓reduceIte] at hk1
    have q3 : (1 < n.f2.length) = True := eq_true (by omega)
    replace qq := eq_true qq
    have z1 : (0 ≤ (1 : Int)) = True := eq_true (by omega)
    clear e
    have HH := q_ H; clear H
    obtain ⟨hy0, hy1, hy2, hy3, hy4, hf0, hf1, hf2, hf3, hf4⟩ := d5_ BK3
    go_wp2
    clear hy0 hy1 hy2 hy3 hy4 hf0 hf1 hf2 hf3 hf4
    replace BK1 := q_ (blk_drew BK1.o); replace BK3 := q_ (blk_drew BK3.o); replace HB := q_ (below_drew1 HB.o)
    replace HO0 := q_ (Kd.R_drew HO0.o)
    refine start_ (n := 11) (S := fun w' => w'.cell? ⟨g1, 0, none⟩ = some (.slice (some ad) l.length c) ∧ w'.cell? ⟨g3, 2, none⟩ = some (.slice (some ad2) n.f2.length c2) ∧ w'.cell? ⟨ad2.block, ad2.off + 1, none⟩ = some (.int .i64 (rd n.f2 1))) (ds := []) (bb 11 0) (by kernel_rfl) rfl rfl ⟨(blk_cell BK1.o 0).trans rfl, (blk_cell BK3.o 2).trans rfl, mv_ HB.o hk1⟩ (fun hS => ?_)
    generalize World.drew _ = wd at BK1 BK3 HB hS HO0 ⊢
    refine pk_ 1 64 2 ?_; refine tk_ 0 63 3 hS ?_; refine tk_ 2 65 7 hS ?_; refine pk_ 3 66 15 ?_; refine tk_ 4 67 31 hS ?_
    refine one_ (i := 5) (N := some 68) (bb 11 63) rfl rfl (by kernel_rfl) (by decide) (fun K hK => ?_)
    refine gs_ Tryz.func54 #[.agg #[.slice (some ad) l.length c], .int .i64 (rd n.f2 1)] ?_
    with_reducible refine (IH.o _ _ l (rd n.f2 1) t1 b1 _ (Kd.C_below HR.o (be_ HB.o)) HC.o E1.o).mono ?_
    rintro e w7 ⟨v1, rfl, hO, hb⟩
    refine ⟨_, rfl, ?_⟩
    obtain ⟨B1, d1, rfl⟩ := Kd.R_slice hO
    have HO1 := q_ (Kd.R_lower hO HB.o.size); clear hO
    replace HO0 := q_ (Kd.R_below HO0.o hb)
    replace BK1 := lb_ BK1 hb; replace BK3 := lb_ BK3 hb; replace HB := sb_ HB hb; clear hb
    refine hK.out _ _ ⟨(blk_cell BK1.o 0).trans rfl, (blk_cell BK3.o 2).trans rfl, mv_ HB.o hk1⟩ (fun hS => ?_)
    clear hK K; refine no_ (some 68) ?_
    refine pk_ 6 62 127 ?_; refine pk_ 7 69 255 ?_; refine pk_ 8 70 511 ?_; refine pk_ 9 11 1023 ?_; refine pk_ 10 12 2047 ?_
    refine done_ (by kernel_rfl) ?_
    have H := HH.o; clear HH
    obtain ⟨t2, E2, H⟩ := ob_ H
    cases b0
    · obtain ⟨rfl, rfl⟩ := Prod.mk.inj (Option.some.inj ((if_neg nft_).symm.trans H))
      clear H
      go_wp2_with (go_at_call 26; clear T1; (with_reducible refine (spec_Joined.calls k _ _ t0 _ _ t1 _ _ (C_of_R HO0.o) (L_of_R HO0.o) (C_of_R HO1.o) (L_of_R HO1.o) E2.o).mono ?_); rintro e w9 ⟨v, rfl, hO, hb⟩; have HO := q_ (Kd.R_lower hO HB.o.size); replace HB := sb_ HB hb; clear hO hb)
      go_ret2
      exact ⟨_, rfl, HO.o, HB.o⟩
    · obtain ⟨rfl, rfl⟩ := Prod.mk.inj (Option.some.inj ((if_pos rfl).symm.trans H))
      clear H
      go_wp2_with (go_at_call 26; clear T1; (with_reducible refine (spec_Joined.calls k _ _ t0 _ _ t1 _ _ (C_of_R HO0.o) (L_of_R HO0.o) (C_of_R HO1.o) (L_of_R HO1.o) E2.o).mono ?_); rintro e w9 ⟨v, rfl, hO, hb⟩; have HO := q_ (Kd.R_lower hO HB.o.size); replace HB := sb_ HB hb; clear hO hb)
      go_ret2
      exact ⟨_, rfl, HO.o, HB.o⟩
  rw [if_neg c4] at H
  have e4 : (n.f0 == 4) = false := beq_eq_false_iff_ne.mpr c4
  clear c4
  by_cases c6 : n.f0 = 6
  · rw [if_pos c6] at H
    have e6 : (n.f0 == 6) = true := beq_iff_eq.mpr c6
    obtain ⟨rfl, rfl⟩ := Prod.mk.inj (Option.some.inj H)
    clear c6 H
    obtain ⟨hy0, hy1, hy2, hy3, hy4, hf0, hf1, hf2, hf3, hf4⟩ := d5_ BK3
    go_wp2
    go_ret2
    exact ⟨_, rfl, HO0.o, HB.o⟩
  rw [if_neg c6] at H
  have e6 : (n.f0 == 6) = false := beq_eq_false_iff_ne.mpr c6
  clear c6
  by_cases c8 : n.f0 = 8
  · rw [if_pos c8] at H
    have e8 : (n.f0 == 8) = true := beq_iff_eq.mpr c8
    clear c8
    obtain ⟨hy0, hy1, hy2, hy3, hy4, hf0, hf1, hf2, hf3, hf4⟩ := d5_ BK3
    cases b0
    · obtain ⟨rfl, rfl⟩ := Prod.mk.inj (Option.some.inj ((if_neg nft_).symm.trans H))
      clear H
      go_wp2
      go_quiet (fail)
      go_wp2
      go_ret2
      exact ⟨_, rfl, ra_ HO0.o, be_ HB.o⟩
    · obtain ⟨rfl, rfl⟩ := Prod.mk.inj (Option.some.inj ((if_pos rfl).symm.trans H))
      clear H
      go_wp2
      go_quiet (fail)
      go_wp2
      go_ret2
      exact ⟨_, rfl, ra_ HO0.o, be_ HB.o⟩
  rw [if_neg c8] at H
  have e8 : (n.f0 == 8) = false := beq_eq_false_iff_ne.mpr c8
  obtain ⟨rfl, rfl⟩ := Prod.mk.inj (Option.some.inj H)
  clear c8 H
  obtain ⟨hy0, hy1, hy2, hy3, hy4, hf0, hf1, hf2, hf3, hf4⟩ := d5_ BK3
  go_wp2
  go_ret2
  exact ⟨_, rfl, HO0.o, HB.o⟩
/-! ### spec_FirstOf: function 27 -/
def spec_FirstOf.f (k : Nat) (l0_0 : List (S121)) : Option ((List (S67))) := (spec_RxOk.f k l0_0).bind fun t102 => (if t102 = true then ((spec_l4First.f k l0_0 (wrap64 ((l0_0.length : Int) - 1))).bind fun bt103 => (some bt103.1)) else (some (([] : List (S67)))))
theorem spec_FirstOf.calls (k : Nat) (A0_0 : Option Addr) (c0_0 : Nat) (l0_0 : List (S121)) (r : List (S67)) (w : World) (hr0_0 : Kd.C k121 w A0_0 l0_0.length l0_0) (hc0_0 : l0_0.length ≤ c0_0) (h : spec_FirstOf.f k l0_0 = some r) :
  Calls Tryz.prog 27 #[.agg #[.slice A0_0 l0_0.length c0_0]] w fun e w' => ∃ v0_ : Value, e = .returned (v0_) ∧ Kd.R k67 67 w' w.heap.size (fun _ => True) v0_ r ∧ Below w.heap.size w w' := by
 have hu58 := Tryz.underlying58; have HR0_0 := q_ hr0_0; have HC0_0 := q_ hc0_0; clear hr0_0 hc0_0; have HB := q_ (Below.refl w.heap.size w)
 have H : ((spec_RxOk.f k l0_0).bind fun t102 => (if t102 = true then ((spec_l4First.f k l0_0 (wrap64 ((l0_0.length : Int) - 1))).bind fun bt103 => (some bt103.1)) else (some (([] : List (S67)))))) = some r := h
 clear h; obtain ⟨t102, A2, H⟩ := ob_ H
 by_cases c3 : t102 = true
 ·subst c3; rw [if_pos rfl] at H; replace H := Option.bind_eq_some_iff.mp H
  obtain ⟨⟨t103, t106⟩, A40, H⟩ := H
  replace H : (some t103) = some r := H
  have A4 := q_ A40; clear A40; obtain rfl := Option.some.inj H
  go_enter Tryz.func27, Tryz.ntmps27
  go_wp2_with (first | ((with_reducible refine gate_dst (N := 1) rfl ?_); refine bx_ 1 #[.slice A0_0 l0_0.length c0_0] 58 ?_; intro gb101 hg w5 hbox hb; have BK101 := q_ (hbox); have GE101 := ge_ hg HB; replace HB := sb_ HB hb; clear hb hbox hg; obtain ⟨hcz6_0, hfz6_0⟩ := d1_ BK101) | ((with_reducible refine gate_callee (f := 53) rfl ?_); refine gl_ (some 6) rfl rfl Tryz.func53 #[.agg #[.slice A0_0 l0_0.length c0_0]] ?_; (with_reducible refine (spec_RxOk.calls k _ _ l0_0 true _ ?side1 ?side2 A2.o).mono ?_); (case side1 => exact Kd.C_below HR0_0.o (be_ HB.o)); (case side2 => exact HC0_0.o); rintro e w7 ⟨rfl, hb⟩; refine ⟨_, rfl, ?_⟩; replace BK101 := lb_ BK101 hb; replace HB := sb1_ HB GE101 hb; (try clear hb); obtain ⟨hcz8_0, hfz8_0⟩ := d1_ BK101) | ((with_reducible refine gate_callee (f := 54) rfl ?_); refine gl_ (some 15) rfl rfl Tryz.func54 #[.agg #[.slice A0_0 l0_0.length c0_0], .int .i64 (wrap64 ((l0_0.length : Int) - 1))] ?_; (with_reducible refine (spec_l4First.calls k _ _ l0_0 (wrap64 ((l0_0.length : Int) - 1)) t103 t106 _ ?side1 ?side2 A4.o).mono ?_); (case side1 => exact Kd.C_below HR0_0.o (be_ HB.o)); (case side2 => exact HC0_0.o); rintro e w9 ⟨v104, rfl, ho0, hb⟩; refine ⟨_, rfl, ?_⟩; have HO105 := q_ (Kd.R_lower ho0 (below_size (be1_ HB.o GE101.o))); replace BK101 := lb_ BK101 hb; replace HB := sb1_ HB GE101 hb; (try clear hb); (try clear ho0)))
  go_ret
  exact ⟨_, rt_, ra_ HO105.o, be1_ HB.o GE101.o⟩
 ·replace c3 := Bool.eq_false_iff.mpr c3; subst c3; rw [if_neg nft_] at H
  obtain ⟨y107, hy107⟩ : ∃ y_ : List (S67), y_ = (([] : List (S67))) := ⟨_, rfl⟩
  replace H : (some y107) = some r := by first | (rw [hy107]; with_reducible exact H) | (have H2_ := (Option.bind_some _ _).symm.trans H; rw [hy107]; with_reducible exact H2_) | (have H2_ := (Option.bind_some _ _).symm.trans H; with_reducible exact H2_) | with_reducible exact H | (rw [hy107]; exact H) | exact H
  have Ny107 := q_ hy107; clear hy107; obtain rfl := Option.some.inj H
  go_enter Tryz.func27, Tryz.ntmps27
  go_wp2_with (first | ((with_reducible refine gate_dst (N := 1) rfl ?_); refine bx_ 1 #[.slice A0_0 l0_0.length c0_0] 58 ?_; intro gb101 hg w10 hbox hb; have BK101 := q_ (hbox); have GE101 := ge_ hg HB; replace HB := sb_ HB hb; clear hb hbox hg; obtain ⟨hcz11_0, hfz11_0⟩ := d1_ BK101) | ((with_reducible refine gate_callee (f := 53) rfl ?_); refine gl_ (some 6) rfl rfl Tryz.func53 #[.agg #[.slice A0_0 l0_0.length c0_0]] ?_; (with_reducible refine (spec_RxOk.calls k _ _ l0_0 false _ ?side1 ?side2 A2.o).mono ?_); (case side1 => exact Kd.C_below HR0_0.o (be_ HB.o)); (case side2 => exact HC0_0.o); rintro e w12 ⟨rfl, hb⟩; refine ⟨_, rfl, ?_⟩; replace BK101 := lb_ BK101 hb; replace HB := sb1_ HB GE101 hb; (try clear hb)) | ((with_reducible refine gate_dst (N := 8) rfl ?_); refine Kd.R_lit k67 _ 67 ?hg (N := 8) ?hd (xs := ([] : List (S67))) (inner := []) (ok := fun _ => True) (okp := fun _ => True) ?hr ?hp (fun _ hk => hk) trivial (Below.refl _ _) (Nat.le_refl _) (by simp) ?_; (case hd => rfl); (case hg => rfl); (case hr => first | (go_simp; done) | (go_simp; rfl)); (case hp => exact (Reps.none _ _)); intro v108 w13 ho14 hb hg_ hnew_; clear hg_ hnew_; (first | rw [← Ny107.o] at ho14 | (simp only [Int.reduceToNat] at ho14; rw [← Ny107.o] at ho14)); have HO109 := q_ (Kd.R_lower ho14 (below_size (be1_ HB.o GE101.o))); replace BK101 := lb_ BK101 hb; replace HB := sb1_ HB GE101 hb; clear hb ho14))
  go_ret
  exact ⟨_, rt_, ra_ HO109.o, be1_ HB.o GE101.o⟩
end Go.Proofs.YtijmhelacmjggaaGreat.P
namespace Go.Proofs.YtijmhelacmjggaaGreat.P
open Go.RowKit Go.Proofs.YtijmhelacmjggaaGreatW.PrintWords Go.Proofs.YtijmhelacmjggaaGreatW.PrintLast Go.Proofs.YtijmhelacmjggaaGreatW.PrintMore Go.Proofs.YtijmhelacmjggaaGreatEv
set_option linter.unusedVariables false
set_option linter.unusedSimpArgs false
def flagsL (p : Nat → Bool) : List Bool := (List.range 256).map p
theorem flagsL_length (p : Nat → Bool) : (flagsL p).length = 256 := by simp [flagsL]
theorem flagsL_rd (p : Nat → Bool) (i : Nat) (h : i < 256) : rdOf false (flagsL p) (i : Int) = p i := by
  simp [rdOf, flagsL, h]
theorem flagsL_set (p : Nat → Bool) (i : Nat) (b : Bool) : (flagsL p).set i b = flagsL fun j => if j = i then b else p j := by
  apply List.ext_getElem
  · simp [flagsL]
  · intro n h1 h2
    simp only [flagsL, List.getElem_set, List.getElem_map, List.getElem_range]
    by_cases h : i = n
    · rw [if_pos h, if_pos h.symm]
    · rw [if_neg h, if_neg (Ne.symm h)]
theorem flagsL_congr (p q : Nat → Bool) (h : ∀ i, p i = q i) : flagsL p = flagsL q := by rw [funext h]
theorem spec_l1Marks_l1 (l : List S67) (i : Nat) (hi : i < l.length) (hf1 : (rd_T67 l (i : Int)).f1 ≤ 255) (hl : l.length ≤ 9223372036854775807)
    (ih : ∀ p : Nat → Bool, Ev (fun k => spec_l1Marks.l0 k l (flagsL p) ((i + 1 : Nat) : Int)) (flagsL fun b => p b || inAny (l.drop (i + 1)) b)) :
    ∀ (n x : Nat) (p : Nat → Bool), ((rd_T67 l (i : Int)).f1 + 1 - (x : Int)).toNat = n → Ev (fun k => spec_l1Marks.l1 k l (flagsL p) (i : Int) (x : Int)) (flagsL fun b => (p b || decide ((x : Int) ≤ (b : Int) ∧ (b : Int) ≤ (rd_T67 l (i : Int)).f1)) || inAny (l.drop (i + 1)) b) := by
  intro n
  induction n with
  | zero =>
    intro x p hn
    rw [ev_succ]
    simp only [spec_l1Marks.l1, ev_ite]
    rw [if_pos (by omega), if_pos (by omega), if_neg (by omega), wrap_succ hi hl]
    refine ev_congr (ih p) (flagsL_congr _ _ fun b => ?_)
    rw [decide_eq_false (by omega), Bool.or_false]
  | succ n ihn =>
    intro x p hn
    rw [ev_succ]
    simp only [spec_l1Marks.l1, ev_ite]
    rw [if_pos (by omega), if_pos (by omega), if_pos (by omega), if_pos (by omega), flagsL_length, if_pos (by omega), Int.toNat_natCast, flagsL_set, wrap_succ (m := 256) (by omega) (by omega)]
    refine ev_congr (ihn (x + 1) _ (by omega)) (flagsL_congr _ _ fun b => ?_)
    congr 1
    by_cases hb : b = x
    · subst hb
      rw [if_pos rfl, decide_eq_true (p := (b : Int) ≤ b ∧ _) (by omega), Bool.true_or, Bool.or_true]
    · rw [if_neg hb]
      congr 1
      exact decide_eq_decide.2 (by omega)
theorem spec_l1Marks_ev (l : List S67) (hc : classB l = true) : Ev (fun k => spec_l1Marks.f k l) (flagsL (inAny l)) := by
  have hl := classB_few hc
  have hbd := class_bounds l hc
  have key : ∀ i : Nat, i ≤ l.length → ∀ p : Nat → Bool, Ev (fun k => spec_l1Marks.l0 k l (flagsL p) (i : Int)) (flagsL fun b => p b || inAny (l.drop i) b) := by
    refine down l.length _ ?_ ?_
    · intro p
      rw [ev_succ]
      simp only [spec_l1Marks.l0, ev_ite]
      rw [if_neg (by omega)]
      exact ev_some.2 (flagsL_congr _ _ fun b => by simp [inAny])
    · intro i hi ih p
      have hm : rd_T67 l (i : Int) ∈ l := by
        unfold rd_T67
        rw [Int.toNat_natCast, List.getD_eq_getElem?_getD, List.getElem?_eq_getElem hi]
        exact List.getElem_mem _
      have hb := hbd _ hm
      have hx := spec_l1Marks_l1 l i hi hb.2 (by omega) ih _ (rd_T67 l (i : Int)).f0.toNat p rfl
      rw [Int.toNat_of_nonneg hb.1] at hx
      rw [ev_succ]
      simp only [spec_l1Marks.l0, ev_ite]
      rw [if_pos (by omega), if_pos (by omega)]
      refine ev_congr hx (flagsL_congr _ _ fun b => ?_)
      have hd : l.drop i = rd_T67 l (i : Int) :: l.drop (i + 1) := drop_cons l _ i hi
      rw [hd, Bool.or_assoc]
      rfl
  unfold spec_l1Marks.f
  rw [ev_ite, if_pos (by omega)]
  have h0 := key 0 (by omega) (fun _ => false)
  rw [show (List.replicate 256 false) = flagsL (fun _ => false) by unfold flagsL; rw [List.map_const', List.length_range]]
  exact ev_congr h0 (flagsL_congr _ _ fun b => by simp)
theorem spec_l1Class_ev (p : Nat → Bool) (N : Nat) (hN : N = 256) : Ev (fun k => spec_l1Class.f k (flagsL p)) (classTo p N) := by
  have key : ∀ i : Nat, i ≤ N → Ev (fun k => spec_l1Class.l0 k (flagsL p) (classTo p i) (i : Int)) (classTo p N) := by
    refine down N _ ?_ ?_
    · rw [ev_succ]
      simp only [spec_l1Class.l0, ev_ite]
      rw [if_neg (by omega)]
      exact ev_some.2 rfl
    · intro i hi ih
      have hlen := classTo_length p i
      rw [ev_succ]
      simp only [spec_l1Class.l0, ev_ite]
      rw [flagsL_length, if_pos (by omega), if_pos (by omega), if_pos (by omega), flagsL_rd p i (by omega), wrap_succ (m := 256) (by omega) (by omega)]
      have hst : classTo p (i + 1) = if p i = true then addRun (classTo p i) (i : Int) else classTo p i := rfl
      rw [hst] at ih
      generalize classTo p i = xs at *
      cases hp : p i
      · rw [hp, if_neg (by simp)] at ih
        rw [if_neg (by simp)]
        exact ih
      · rw [hp, if_pos rfl] at ih
        rw [if_pos rfl]
        unfold addRun at ih
        by_cases h0 : 0 < xs.length
        · rw [if_pos h0] at ih
          rw [if_pos (by omega), wrap_id (x := (xs.length : Int) - 1) (by omega) (by omega), wrap_id (x := (i : Int) - 1) (by omega) (by omega), if_pos (by omega), if_pos (by omega)]
          by_cases h1 : (rd_T67 xs ((xs.length : Int) - 1)).f1 = (i : Int) - 1
          · rw [if_pos h1] at ih ⊢
            exact ih
          · rw [if_neg h1] at ih ⊢
            rw [if_pos (by omega)]
            exact ih
        · rw [if_neg h0] at ih
          rw [if_neg (by omega), if_pos (by omega)]
          exact ih
  exact key 0 (by omega)
theorem spec_l1Both_l0 (p q : Nat → Bool) (N : Nat) (hN : N = 256) : ∀ i : Nat, i ≤ N → ∀ p : Nat → Bool, Ev (fun k => spec_l1Both.l0 k 0 (flagsL p) (flagsL q) (i : Int)) (classTo (fun j => p j || (decide (i ≤ j) && q j)) N) := by
  refine down N _ ?_ ?_
  · intro p
    rw [ev_succ]
    simp only [spec_l1Both.l0, ev_ite]
    rw [if_neg (by omega), ev_bind (spec_l1Class_ev p N hN)]
    subst hN
    refine ev_some.2 (classTo_congr _ _ (fun j hj => ?_) 256 (Nat.le_refl _))
    rw [decide_eq_false (by omega), Bool.false_and, Bool.or_false]
  · intro i hi ih p
    rw [ev_succ]
    simp only [spec_l1Both.l0, ev_ite]
    rw [flagsL_length, flagsL_length, if_pos (by omega), if_pos (by trivial), if_pos (by omega), if_pos (by omega), flagsL_rd p i (by omega), flagsL_rd q i (by omega), wrap_succ (m := 256) (by omega) (by omega), Int.toNat_natCast, flagsL_set, flagsL_set]
    have cg : ∀ b : Bool, (p i || q i) = b → classTo (fun j => (if j = i then b else p j) || (decide (i + 1 ≤ j) && q j)) N = classTo (fun j => p j || (decide (i ≤ j) && q j)) N := by
      intro b hb
      subst hN
      refine classTo_congr _ _ (fun j hj => ?_) 256 (Nat.le_refl _)
      by_cases hji : j = i
      · subst hji
        rw [if_pos rfl, decide_eq_false (p := j + 1 ≤ j) (by omega), decide_eq_true (p := j ≤ j) (by omega), ← hb]
        simp
      · rw [if_neg hji, decide_eq_decide.2 (show i + 1 ≤ j ↔ i ≤ j by omega)]
    cases hp : p i
    · rw [if_neg (by simp), if_pos (by omega)]
      exact ev_congr (ih _) (cg _ (by rw [hp]; rfl))
    · rw [if_pos rfl]
      exact ev_congr (ih _) (cg _ (by rw [hp]; rfl))
theorem spec_Joined_ev (a b : List S67) : Ev (fun k => spec_Joined.f k a b) (joinI a b) := by
  have h : Ev (fun k => spec_l1Both.f k a b 0) (joinI a b) := by
    unfold spec_l1Both.f joinI bothB
    rw [ev_bind (spec_ClassOk_ev a)]
    simp only [ev_ite]
    cases ha : classB a
    · rw [if_neg (by simp), ev_succ]
      simp only [spec_l1Both.j0, if_true]
      exact ev_some.2 rfl
    · rw [if_pos rfl, ev_bind (spec_ClassOk_ev b), ev_succ]
      cases hb : classB b
      · simp only [spec_l1Both.j0, Bool.not_false, if_true]
        exact ev_some.2 rfl
      · simp only [spec_l1Both.j0, Bool.not_true, Bool.false_eq_true, if_false]
        rw [ev_bind (spec_l1Marks_ev a ha), ev_bind (spec_l1Marks_ev b hb)]
        refine ev_congr (spec_l1Both_l0 (inAny a) (inAny b) 256 rfl 0 (by omega) (inAny a)) ?_
        rw [if_pos (by rfl)]
        exact classTo_congr _ _ (fun j _ => by simp) 256 (Nat.le_refl _)
  unfold spec_Joined.f
  rw [ev_bind h]
  exact ev_some.2 rfl
theorem node_class {l : List S121} {k : Nat} (h : nodeAt l k = true) (h2 : (rd_T121 l (k : Int)).f0 = 2) : classB (rd_T121 l (k : Int)).f1 = true := by
  unfold nodeAt nodeB at h
  simp only [Bool.and_eq_true, h2, if_true] at h
  exact h.1.2.1
theorem both_first (l : List S121) (hok : ∀ j, j < l.length → nodeAt l j = true) : ∀ n k : Nat, k < n → k < l.length → ∃ r : List S67, classB r = true ∧ Ev (fun q => impl_Rx_first.f q l (k : Int)) r ∧ Ev (fun q => spec_l4First.f q l (k : Int)) (r, nullE l k) := by
  intro n
  induction n with
  | zero => intro k hk; omega
  | succ n ih =>
    intro k hk hkl
    have kid : ∀ i : Nat, i < (rd_T121 l (k : Int)).f2.length → ∃ r : List S67, classB r = true ∧ Ev (fun q => impl_Rx_first.f q l (rd (rd_T121 l (k : Int)).f2 (i : Int))) r ∧ Ev (fun q => spec_l4First.f q l (rd (rd_T121 l (k : Int)).f2 (i : Int))) (r, nullK l k (rd (rd_T121 l (k : Int)).f2 (i : Int)).toNat) := by
      intro i hi
      obtain ⟨h1, h2⟩ := node_kid (hok k hkl) i hi
      obtain ⟨r, hr, e1, e2⟩ := ih _ (by omega) (Nat.lt_trans h2 hkl)
      rw [← h1] at e1 e2
      refine ⟨r, hr, e1, ?_⟩
      rw [nullK_stable hok l.length _ (by omega) (by omega) k h2]
      exact e2
    have knull : ∀ i : Nat, i < (rd_T121 l (k : Int)).f2.length → Ev (fun q => impl_Rx_nullable.f q l (rd (rd_T121 l (k : Int)).f2 (i : Int))) (nullK l k (rd (rd_T121 l (k : Int)).f2 (i : Int)).toNat) := by
      intro i hi
      obtain ⟨h1, h2⟩ := node_kid (hok k hkl) i hi
      have h3 := impl_nullable_ev l hok l.length _ (Nat.lt_trans h2 hkl) (Nat.lt_trans h2 hkl)
      rw [← h1] at h3
      rw [nullK_stable hok l.length _ (by omega) (by omega) k h2]
      exact h3
    have k0 := kid 0
    have k1 := kid 1
    have z0 := knull 0
    simp only [Int.ofNat_zero, Int.natCast_one, Int.cast_ofNat_Int] at k0 k1 z0
    have hE : nullE l k = nullK l (k + 1) k := rfl
    rw [hE]
    simp only [nullK]
    generalize nullK l k (rd (rd_T121 l (k : Int)).f2 0).toNat = b0 at *
    generalize nullK l k (rd (rd_T121 l (k : Int)).f2 1).toNat = b1 at *
    have joined : ∀ (x y : List S67) {β : Type} (F : List S67 → Option β) (r : β), F (joinI x y) = some r → Ev (fun q => (impl_Joined.f x y).bind F) r := by
      intro x y β F r h
      exact ev_const.2 h
    have one : ∀ (h1 : ¬ (rd_T121 l (k : Int)).f0 = 1) (h2 : ¬ (rd_T121 l (k : Int)).f0 = 2) (h3 : ¬ (rd_T121 l (k : Int)).f0 = 3) (h4 : ¬ (rd_T121 l (k : Int)).f0 = 4) (hl : 0 < (rd_T121 l (k : Int)).f2.length) (b : Bool) (hb : (if (rd_T121 l (k : Int)).f0 = 6 then b0 else if (rd_T121 l (k : Int)).f0 = 8 then (decide ((rd_T121 l (k : Int)).f3 = 0) || b0) else true) = b),
        ∃ r : List S67, classB r = true ∧ Ev (fun q => impl_Rx_first.f q l (k : Int)) r ∧ Ev (fun q => spec_l4First.f q l (k : Int)) (r, b) := by
      intro h1 h2 h3 h4 hl b hb
      obtain ⟨r, hr, e1, e2⟩ := k0 hl
      refine ⟨r, hr, ?_, ?_⟩
      · rw [ev_succ]
        simp only [impl_Rx_first.f, ev_ite]
        rw [if_pos (by omega), if_pos (by omega), if_neg h1, if_neg h2, if_neg h3, if_neg h4, if_pos (by omega), ev_bind e1]
        exact ev_some.2 rfl
      · rw [ev_succ]
        simp only [spec_l4First.f, ev_ite]
        rw [if_pos (by omega), if_pos (by omega), if_neg h1, if_neg h2, if_pos (by omega), ev_bind e2]
        simp only [ev_ite]
        rw [if_neg h3, if_neg h4]
        subst hb
        by_cases h6 : (rd_T121 l (k : Int)).f0 = 6
        · rw [if_pos h6, if_pos h6]
          exact ev_some.2 rfl
        · rw [if_neg h6, if_neg h6]
          by_cases h8 : (rd_T121 l (k : Int)).f0 = 8
          · rw [if_pos h8, if_pos h8]
            cases b0
            · rw [if_neg (by simp), Bool.or_false]
              exact ev_some.2 rfl
            · rw [if_pos rfl, Bool.or_true]
              exact ev_some.2 rfl
          · rw [if_neg h8, if_neg h8]
            exact ev_some.2 rfl
    rcases node_ops (hok k hkl) with (h | h) | ⟨h | h, hl⟩ | ⟨h | h | h | h, hl⟩
    · refine ⟨[], rfl, ?_, ?_⟩
      · rw [ev_succ]
        simp only [impl_Rx_first.f, ev_ite]
        rw [if_pos (by omega), if_pos (by omega), if_pos h]
        exact ev_some.2 rfl
      · rw [ev_succ]
        simp only [spec_l4First.f, ev_ite]
        rw [if_pos (by omega), if_pos (by omega), if_pos h, if_pos h]
        exact ev_some.2 rfl
    · have hc := node_class (hok k hkl) h
      have hf := classB_few hc
      refine ⟨_, hc, ?_, ?_⟩
      · rw [ev_succ]
        simp only [impl_Rx_first.f, ev_ite]
        rw [if_pos (by omega), if_pos (by omega), if_neg (by omega), if_pos h]
        exact ev_some.2 rfl
      · rw [ev_succ]
        simp only [spec_l4First.f, ev_ite, Option.bind_some, List.length_nil, Nat.zero_add, List.nil_append]
        rw [if_pos (by omega), if_pos (by omega), if_neg (by omega), if_pos h, if_pos (by omega), if_neg (by omega), if_pos h]
        exact ev_some.2 rfl
    · obtain ⟨r0, hr0, e0, f0⟩ := k0 (by omega)
      obtain ⟨r1, hr1, e1, f1⟩ := k1 (by omega)
      have y0 := z0 (by omega)
      refine ⟨if b0 = true then joinI r0 r1 else r0, ?_, ?_, ?_⟩
      · cases b0
        · rw [if_neg (by simp)]; exact hr0
        · rw [if_pos rfl]; exact joinI_right _ _
      · rw [ev_succ]
        simp only [impl_Rx_first.f, ev_ite]
        rw [if_pos (by omega), if_pos (by omega), if_neg (by omega), if_neg (by omega), if_pos h, if_pos (by omega), ev_bind y0]
        simp only [ev_ite]
        cases b0
        · rw [if_neg (by simp), if_neg (by simp), ev_bind e0]
          exact ev_some.2 rfl
        · rw [if_pos rfl, if_pos rfl, ev_bind e0]
          simp only [ev_ite]
          rw [if_pos (by omega), ev_bind e1]
          exact joined _ _ _ _ rfl
      · refine ev_congr (r := ((if b0 = true then joinI r0 r1 else r0), (b0 && b1))) ?_ (by rw [h]; rfl)
        rw [ev_succ]
        simp only [spec_l4First.f, ev_ite]
        rw [if_pos (by omega), if_pos (by omega), if_neg (by omega), if_neg (by omega), if_pos (by omega), ev_bind f0]
        simp only [ev_ite]
        rw [if_pos h, if_pos (by omega), ev_bind f1]
        simp only [ev_ite]
        cases b0
        · rw [if_neg (by simp), if_neg (by simp)]
          exact ev_some.2 rfl
        · rw [if_pos rfl, if_pos rfl, ev_bind (spec_Joined_ev r0 r1)]
          exact ev_some.2 rfl
    · obtain ⟨r0, hr0, e0, f0⟩ := k0 (by omega)
      obtain ⟨r1, hr1, e1, f1⟩ := k1 (by omega)
      refine ⟨joinI r0 r1, joinI_right _ _, ?_, ?_⟩
      · rw [ev_succ]
        simp only [impl_Rx_first.f, ev_ite]
        rw [if_pos (by omega), if_pos (by omega), if_neg (by omega), if_neg (by omega), if_neg (by omega), if_pos h, if_pos (by omega), ev_bind e0]
        simp only [ev_ite]
        rw [if_pos (by omega), ev_bind e1]
        exact joined _ _ _ _ rfl
      · refine ev_congr (r := (joinI r0 r1, (b0 || b1))) ?_ (by rw [h]; rfl)
        rw [ev_succ]
        simp only [spec_l4First.f, ev_ite]
        rw [if_pos (by omega), if_pos (by omega), if_neg (by omega), if_neg (by omega), if_pos (by omega), ev_bind f0]
        simp only [ev_ite]
        rw [if_neg (by omega), if_pos h, if_pos (by omega), ev_bind f1, ev_bind (spec_Joined_ev r0 r1)]
        simp only [ev_ite]
        cases b0
        · rw [if_neg (by simp)]
          exact ev_some.2 rfl
        · rw [if_pos rfl]
          exact ev_some.2 rfl
    · refine one (by omega) (by omega) (by omega) (by omega) (by omega) _ ?_
      simp [h]
    · refine one (by omega) (by omega) (by omega) (by omega) (by omega) _ ?_
      simp [h]
    · refine one (by omega) (by omega) (by omega) (by omega) (by omega) _ ?_
      simp [h]
    · refine one (by omega) (by omega) (by omega) (by omega) (by omega) _ ?_
      simp [h]
theorem first_both (l : List S121) (hl : l.length ≤ 1048576) (hkl : ∀ x ∈ l, x.f2.length ≤ 9223372036854775807) : ∃ r : List S67, r.length ≤ 128 ∧ Ev (fun k => impl_FirstOf.f k l) r ∧ Ev (fun k => spec_FirstOf.f k l) r := by
  have e1 := impl_RxOk_ev l (by omega)
  have e2 := spec_RxOk_ev l hl hkl
  cases hb : rxB l
  · rw [hb] at e1 e2
    refine ⟨[], by simp, ?_, ?_⟩
    · unfold impl_FirstOf.f
      rw [ev_bind e1, ev_ite, if_neg (by simp)]
      exact ev_some.2 rfl
    · unfold spec_FirstOf.f
      rw [ev_bind e2, ev_ite, if_neg (by simp)]
      exact ev_some.2 rfl
  · rw [hb] at e1 e2
    obtain ⟨h1, hn, hok⟩ := rxB_parts hb
    obtain ⟨r, hr, f1, f2⟩ := both_first l hok l.length (l.length - 1) (by omega) (by omega)
    rw [show ((l.length - 1 : Nat) : Int) = wrap64 ((l.length : Int) - 1) by rw [wrap_id (by omega) (by omega)]; omega] at f1 f2
    refine ⟨r, classB_few hr, ?_, ?_⟩
    · unfold impl_FirstOf.f
      rw [ev_bind e1, ev_ite, if_pos rfl]
      simp only [impl_Rx_last.f, impl_RNode.f, Option.bind_some]
      rw [ev_bind f1]
      refine ev_const.2 ?_
      show some (joinI r []) = some r
      rw [joinI_nil r hr]
    · unfold spec_FirstOf.f
      rw [ev_bind e2, ev_ite, if_pos rfl, ev_bind f2]
      exact ev_some.2 rfl
end Go.Proofs.YtijmhelacmjggaaGreat.P
namespace Go.Proofs.YtijmhelacmjggaaGreat.P
open Go.RowKit Go.Proofs.YtijmhelacmjggaaGreatW.PrintWords Go.Proofs.YtijmhelacmjggaaGreatW.PrintLast Go.Proofs.YtijmhelacmjggaaGreatW.PrintMore
attribute [local go_sem] max2_int min2_int max_two min_two max_three min_three max_four min_four
set_option linter.unusedVariables false
set_option linter.unusedSimpArgs false
/-! ### spec_l9Rxs: function 25 -/
def spec_l9Rxs.l0 : Nat → Int → List (S58) → Int → List (S62) → Option ((List (S58)))
 | 0, _, _, _, _ => none
 | k + 1, x1, x5, x6, x102000 => if 0 ≤ x1 then (if x1 < (x102000.length : Int) then (if x6 < (((rd_T62 x102000 x1).f1).length : Int) then (if 0 ≤ x6 then (if x5.length < 5864062014805 then (spec_l9Rxs.l0 k x1 (x5 ++ [(⟨(rd_T64 ((rd_T62 x102000 x1).f1) x6).f1.f0⟩ : S58)]) (wrap64 (x6 + 1)) x102000) else (none)) else (none)) else (some x5)) else (none)) else (none)
def spec_l9Rxs.f (k : Nat) (l0_0 : List (S62)) (a1 : Int) : Option ((List (S58))) := spec_l9Rxs.l0 k a1 (([] : List (S58))) 0 l0_0
theorem spec_l9Rxs.calls (k : Nat) (P0_0_ : Nat → Prop) (A0_0 : Option Addr) (c0_0 : Nat) (l0_0 : List (S62)) (a1 : Int) (r : List (S58)) (w : World) (hs0_0 : Kd.V k62 62 w w.heap.size (fun k_ => P0_0_ k_) (.slice A0_0 l0_0.length c0_0) l0_0) (h : spec_l9Rxs.f k l0_0 a1 = some r) :
  Calls Tryz.prog 25 #[.agg #[.slice A0_0 l0_0.length c0_0], .int .i64 a1] w fun e w' => ∃ v0_ : Value, e = .returned (v0_) ∧ Kd.N k58 58 w' w.heap.size (fun k_ => (P0_0_ k_ ∨ w.heap.size ≤ k_)) v0_ r ∧ Below w.heap.size w w' := by
 have hu31 := Tryz.underlying31; have hu58 := Tryz.underlying58
 have HO0_0 := q_ (show Kd.V k62 62 w w.heap.size (fun k_ => (P0_0_ k_ ∨ w.heap.size ≤ k_)) (.slice A0_0 l0_0.length c0_0) l0_0 from Kd.V_mono hs0_0 (fun k_ hk => .inl hk))
 have HB := q_ (Below.refl w.heap.size w)
 have H : (spec_l9Rxs.l0 k a1 (([] : List (S58))) 0 l0_0) = some r := h
 clear h
 obtain ⟨y102, hy102⟩ : ∃ y_ : List (S58), y_ = (([] : List (S58))) := ⟨_, rfl⟩
 replace H : (spec_l9Rxs.l0 k a1 y102 0 l0_0) = some r := by first | (rw [hy102]; with_reducible exact H) | (have H2_ := (Option.bind_some _ _).symm.trans H; rw [hy102]; with_reducible exact H2_) | (have H2_ := (Option.bind_some _ _).symm.trans H; with_reducible exact H2_) | with_reducible exact H | (rw [hy102]; exact H) | exact H
 have Ny102 := q_ hy102; clear hy102
 have H' := q_ H
 clear H
 go_enter Tryz.func25, Tryz.ntmps25
 go_wp2_with (first | ((with_reducible refine gate_dst (N := 2) rfl ?_); refine bx_ 2 #[.slice A0_0 l0_0.length c0_0] 31 ?_; intro gb101 hg w3 hbox hb; have BK101 := q_ (hbox); have GE101 := ge_ hg HB; replace HO0_0 := q_ (Kd.V_below (Kd.V_elderB (by (with_reducible repeat (first | apply Kd.V_alloc | apply Kd.V_drewN | apply Kd.V_drew)); exact HO0_0.o) gb101 (Nat.le_of_eq hg.symm)) hb); replace HB := sb_ HB hb; clear hb hbox hg) | ((with_reducible refine gate_dst (N := 7) rfl ?_); refine Kd.N_lit k58 _ 58 ?hg (N' := 7) ?hd (xs := ([] : List (S58))) (inner := []) (ok := (fun k_ => (P0_0_ k_ ∨ w.heap.size ≤ k_) ∧ k_ ≠ gb101)) (okp := (fun k_ => (P0_0_ k_ ∨ w.heap.size ≤ k_) ∧ k_ ≠ gb101)) ?hr ?hp (fun _ hk => hk) ((show ∀ k_, w3.heap.size ≤ k_ → (fun k_ => (P0_0_ k_ ∨ w.heap.size ≤ k_) ∧ k_ ≠ gb101) k_ from fun k_ hk => ⟨(.inr (Nat.le_trans (below_size (be1_ HB.o GE101.o)) hk)), Kd.freshB (g := gb101) (o := .cells #[.slice A0_0 l0_0.length c0_0] 31 (0, 0)) (bk_ BK101.o) k_ hk⟩) _ (Nat.le_refl _)) (Below.refl _ _) (Nat.le_refl _) (by simp) ?_; (case hd => rfl); (case hg => rfl); (case hr => first | (go_simp; done) | (go_simp; rfl)); (case hp => exact (Reps.none _ _)); intro v103 w4 ho5 hb hg_ hnew_; clear hg_ hnew_; (first | rw [← Ny102.o] at ho5 | (simp only [Int.reduceToNat] at ho5; rw [← Ny102.o] at ho5)); have HO104 := q_ (Kd.N_lower ho5 (below_size (be1_ HB.o GE101.o))); replace HO0_0 := q_ (Kd.V_elder' (by (with_reducible repeat (first | apply Kd.V_alloc | apply Kd.V_drewN | apply Kd.V_drew)); exact HO0_0.o) (Kd.N_base ho5) hb); replace BK101 := lb_ BK101 hb; replace HB := sb1_ HB GE101 hb; clear hb ho5))
 go_loopg [5, 6] k (fun kq v5 v6 w' => ∃ (x5_1 : List (S58)) (x6_1 : Int), v6 = .int .i64 x6_1 ∧ J0 (spec_l9Rxs.l0 kq a1 x5_1 x6_1 l0_0 = some r) ∧ J0 (kq ≤ k) ∧ J0 (Kd.N k58 58 w' w.heap.size (fun k_ => (P0_0_ k_ ∨ w.heap.size ≤ k_) ∧ k_ ≠ gb101) v5 x5_1) ∧ J0 (Kd.V k62 62 w' w.heap.size (fun k_ => (P0_0_ k_ ∨ w.heap.size ≤ k_) ∧ some k_ ≠ (v5 : Value).ownBlock ∧ k_ ≠ gb101) (.slice A0_0 l0_0.length c0_0) l0_0) ∧ J0 (w'.heap[gb101]? = some (.cells #[(.slice A0_0 l0_0.length c0_0)] 31 (0, 0))) ∧ J0 (Below w.heap.size w w'))
 case atStart => exact ⟨(y102), (0), rs_, H', ⟨Nat.le_refl _⟩, ⟨by (with_reducible repeat (first | apply Kd.N_alloc | apply Kd.N_drewN | apply Kd.N_drew)); exact HO104.o⟩, ⟨by (with_reducible repeat (first | apply Kd.V_alloc | apply Kd.V_drewN | apply Kd.V_drew)); exact Kd.V_mono HO0_0.o (fun _ hk => ⟨hk.1.1, ⟨hk.2, hk.1.2⟩⟩)⟩, ⟨bk_ BK101.o⟩, ⟨be1_ HB.o GE101.o⟩⟩
 case round =>
  clear H'; obtain ⟨x5_1, x6_1, rfl, HA, HK1, HO_5, HO_102000, BK101, HB⟩ := hrel
  cases gk with
  | zero => exact absurd HA.o (by simp [spec_l9Rxs.l0])
  | succ k1 =>
   have H := HA.o; clear HA
   simp only [spec_l9Rxs.l0] at H
   by_cases c6 : 0 ≤ a1
   ·rw [if_pos c6] at H; have c6b0 := dt_ c6; clear c6
    by_cases c7 : a1 < (l0_0.length : Int)
    ·rw [if_pos c7] at H; have c7b0 := dt_ c7; clear c7
     by_cases c8 : x6_1 < (((rd_T62 l0_0 a1).f1).length : Int)
     ·rw [if_pos c8] at H; have c8b0 := dt_ c8; clear c8
      by_cases c9 : 0 ≤ x6_1
      ·rw [if_pos c9] at H; have c9b0 := dt_ c9; clear c9
       by_cases c10 : x5_1.length < 5864062014805
       ·rw [if_pos c10] at H; have LMc10 := q_ c10; clear c10
        obtain ⟨y108, hy108⟩ : ∃ y_ : List (S58), y_ = (x5_1 ++ [(⟨(rd_T64 ((rd_T62 l0_0 a1).f1) x6_1).f1.f0⟩ : S58)]) := ⟨_, rfl⟩
        replace H : (spec_l9Rxs.l0 k1 a1 y108 (wrap64 (x6_1 + 1)) l0_0) = some r := by first | (rw [hy108]; with_reducible exact H) | (have H2_ := (Option.bind_some _ _).symm.trans H; rw [hy108]; with_reducible exact H2_) | (have H2_ := (Option.bind_some _ _).symm.trans H; with_reducible exact H2_) | with_reducible exact H | (rw [hy108]; exact H) | exact H
        have Ny108 := q_ hy108; clear hy108
        have H' := q_ H
        clear H; obtain ⟨hcz11_0, hfz11_0⟩ := d1_ BK101
        have p105 : 0 ≤ (a1 : Int) := of_decide_eq_true as_
        have q105 : a1 < (l0_0.length : Int) := of_decide_eq_true as_
        obtain ⟨ad105, A105_1, c105_1, e105, hx105_0, hx105_1, hl105_1, hi105_1⟩ := at_T62 (Kd.V_reads' HO_102000.o).2.2 a1 p105 q105
        cases e105
        obtain ⟨ce105, hce105, hMe105, hcc105⟩ := Kd.V_get HO_102000.o z62 a1 p105 (by first | exact q105 | exact of_decide_eq_true as_ | (have e_ := (Kd.V_reads' HO_102000.o).1; omega))
        obtain ⟨ua105_1, uc105_1, rfl, ul105_1, ge105_1⟩ := k62_openF hMe105; have hv105_1 := hcc105 1 _ rfl
        rw [add_field _ _ 1 (by omega)] at hv105_1
        replace hv105_1 := Option.some.inj (hv105_1.symm.trans hx105_1)
        injection hv105_1 with hva_ hvn_ hvc_
        rw [hva_] at ge105_1
        rw [hvc_] at ul105_1
        have HL105_1 := q_ (show Kd.V k64 64 _ w.heap.size _ _ ((rd_T62 l0_0 a1).f1) from Kd.V_mk ul105_1 ge105_1)
        clear hva_ hvn_ hvc_ ge105_1 ul105_1; clear hcc105 hce105; have HR105_1 := q_ hi105_1; have HC105_1 := q_ hl105_1; clear hi105_1 hl105_1; replace p105 := eq_true p105; replace q105 := eq_true q105
        have p106 : 0 ≤ (a1 : Int) := of_decide_eq_true as_
        have q106 : a1 < (l0_0.length : Int) := of_decide_eq_true as_
        obtain ⟨ad106, A106_1, c106_1, e106, hx106_0, hx106_1, hl106_1, hi106_1⟩ := at_T62 (Kd.V_reads' HO_102000.o).2.2 a1 p106 q106
        obtain rfl : ad105 = ad106 := (by injection e106)
        obtain ⟨ce106, hce106, hMe106, hcc106⟩ := Kd.V_get HO_102000.o z62 a1 p106 (by first | exact q106 | exact of_decide_eq_true as_ | (have e_ := (Kd.V_reads' HO_102000.o).1; omega))
        obtain ⟨ua106_1, uc106_1, rfl, ul106_1, ge106_1⟩ := k62_openF hMe106; have hv106_1 := hcc106 1 _ rfl
        rw [add_field _ _ 1 (by omega)] at hv106_1
        replace hv106_1 := Option.some.inj (hv106_1.symm.trans hx106_1)
        injection hv106_1 with hva_ hvn_ hvc_
        rw [hva_] at ge106_1
        rw [hvc_] at ul106_1
        have HL106_1 := q_ (show Kd.V k64 64 _ w.heap.size _ _ ((rd_T62 l0_0 a1).f1) from Kd.V_mk ul106_1 ge106_1)
        clear hva_ hvn_ hvc_ ge106_1 ul106_1; clear hcc106 hce106; have HR106_1 := q_ hi106_1; have HC106_1 := q_ hl106_1; clear hi106_1 hl106_1; replace p106 := eq_true p106; replace q106 := eq_true q106; have ea_ := Option.some.inj (hx105_1.symm.trans hx106_1)
        injection ea_ with ea_ en_ ec_
        subst ea_; subst ec_; clear en_
        have p107 : 0 ≤ (x6_1 : Int) := of_decide_eq_true as_
        have q107 : x6_1 < (((rd_T62 l0_0 a1).f1).length : Int) := of_decide_eq_true as_
        obtain ⟨ad107, A107_1, c107_1, e107, hx107_0, hx107_1, hx107_2, hx107_3, hx107_4, hl107_1, hi107_1⟩ := at_T64 (by repeat (first | (with_reducible exact HR106_1.o) | (with_reducible refine Kd.C_alloc ?_ _) | (with_reducible refine Kd.C_drewN ?_ _) | (with_reducible refine Kd.C_drew ?_) | exact HR106_1.o)) x6_1 p107 q107
        cases e107
        obtain ⟨ce107, hce107, hMe107, hcc107⟩ := Kd.V_get HL106_1.o z64 x6_1 p107 (by first | exact q107 | exact of_decide_eq_true as_ | (have e_ := (Kd.V_reads' HL106_1.o).1; omega))
        obtain ⟨ua107_1, uc107_1, rfl, ul107_1, ge107_1⟩ := k64_openF hMe107; have hv107_1 := hcc107 1 _ rfl
        rw [add_field _ _ 1 (by omega)] at hv107_1
        replace hv107_1 := Option.some.inj (hv107_1.symm.trans hx107_1)
        injection hv107_1 with hva_ hvn_ hvc_
        rw [hva_] at ge107_1
        rw [hvc_] at ul107_1
        have HL107_1 := q_ (show Kd.V k121 121 _ w.heap.size _ _ ((rd_T64 ((rd_T62 l0_0 a1).f1) x6_1).f1.f0) from Kd.V_mk ul107_1 ge107_1)
        clear hva_ hvn_ hvc_ ge107_1 ul107_1; clear hcc107 hce107; have HR107_1 := q_ hi107_1; have HC107_1 := q_ hl107_1; clear hi107_1 hl107_1; replace p107 := eq_true p107; replace q107 := eq_true q107
        go_wp2_with (first | ((with_reducible refine gate_builtin (b := .append) (xs := #[.tmp 19, .tmp 30]) rfl ?_); at_builtin; refine Kd.N_append k58 (w0 := w) w.heap.size rfl (.tmp 19) (.tmp 30) 52 58 (.agg #[(.slice none 0 0)]) 24 rfl Tryz.underlying52 info58 rfl (by decide) (by omega) u5 x5_1 (⟨(rd_T64 ((rd_T62 l0_0 a1).f1) x6_1).f1.f0⟩ : S58) [.slice A107_1 ((rd_T64 ((rd_T62 l0_0 a1).f1) x6_1).f1.f0).length c107_1] (fun k_ => (P0_0_ k_ ∨ w.heap.size ≤ k_) ∧ k_ ≠ gb101) (fun k_ => ((fun k_ => (P0_0_ k_ ∨ w.heap.size ≤ k_) ∧ k_ ≠ gb101)) k_ ∧ some k_ ≠ (u5 : Value).ownBlock) rfl rfl ?aP (fun _ hk => hk) ?aF ?aO ?aB ?aS ?aL ?_; (case aP => exact (k58_mkF _ _ (⟨(rd_T64 ((rd_T62 l0_0 a1).f1) x6_1).f1.f0⟩ : S58) (Kd.V_reads' (Kd.V_mono (ok' := (fun k_ => ((fun k_ => (P0_0_ k_ ∨ w.heap.size ≤ k_) ∧ k_ ≠ gb101)) k_ ∧ some k_ ≠ (u5 : Value).ownBlock)) (HL107_1.o) (fun k_ hk => ⟨⟨hk.1, hk.2.2⟩, hk.2.1⟩))).2.1 (Kd.V_F (Kd.V_mono (ok' := (fun k_ => ((fun k_ => (P0_0_ k_ ∨ w.heap.size ≤ k_) ∧ k_ ≠ gb101)) k_ ∧ some k_ ≠ (u5 : Value).ownBlock)) (HL107_1.o) (fun k_ hk => ⟨⟨hk.1, hk.2.2⟩, hk.2.1⟩))))); (case aB => exact (be1_ HB.o GE101.o)); (case aF => exact (fun k_ hk => ⟨(.inr (Nat.le_trans (below_size (be1_ HB.o GE101.o)) hk)), Kd.freshB (g := gb101) (o := .cells #[.slice (some ad105) l0_0.length c0_0] 31 (0, 0)) (bk_ BK101.o) k_ hk⟩)); (case aO => exact (by (with_reducible repeat (first | apply Kd.N_alloc | apply Kd.N_drewN | apply Kd.N_drew)); exact HO_5.o)); (case aS => exact (below_size (be1_ HB.o GE101.o))); (case aL => have := LMc10.o; omega); intro v109 w12 ho hb hg hat; rw [← Ny108.o] at ho; have HO110 := q_ (ho); replace HO_102000 := q_ (Kd.V_afterv (ok := (fun k_ => (P0_0_ k_ ∨ w.heap.size ≤ k_) ∧ k_ ≠ gb101)) (by (with_reducible repeat (first | apply Kd.V_alloc | apply Kd.V_drewN | apply Kd.V_drew)); exact Kd.V_mono HO_102000.o (fun _ hk => ⟨⟨hk.1, hk.2.2⟩, hk.2.1⟩)) hg hat); replace BK101 := q_ (blk_grown (g := gb101) (o := .cells #[.slice (some ad105) l0_0.length c0_0] 31 (0, 0)) (bk_ BK101.o) hg (Kd.N_ne HO_5.o BK101.o (by decide))); replace HL105_1 := q_ (Kd.V_afterv (ok := (fun k_ => (P0_0_ k_ ∨ w.heap.size ≤ k_) ∧ k_ ≠ gb101)) (by (with_reducible repeat (first | apply Kd.V_alloc | apply Kd.V_drewN | apply Kd.V_drew)); exact Kd.V_mono HL105_1.o (fun _ hk => ⟨⟨hk.1, hk.2.2⟩, hk.2.1⟩)) hg hat); replace HL106_1 := q_ (Kd.V_afterv (ok := (fun k_ => (P0_0_ k_ ∨ w.heap.size ≤ k_) ∧ k_ ≠ gb101)) (by (with_reducible repeat (first | apply Kd.V_alloc | apply Kd.V_drewN | apply Kd.V_drew)); exact Kd.V_mono HL106_1.o (fun _ hk => ⟨⟨hk.1, hk.2.2⟩, hk.2.1⟩)) hg hat); replace HL107_1 := q_ (Kd.V_afterv (ok := (fun k_ => (P0_0_ k_ ∨ w.heap.size ≤ k_) ∧ k_ ≠ gb101)) (by (with_reducible repeat (first | apply Kd.V_alloc | apply Kd.V_drewN | apply Kd.V_drew)); exact Kd.V_mono HL107_1.o (fun _ hk => ⟨⟨hk.1, hk.2.2⟩, hk.2.1⟩)) hg hat); replace HB := q_ (hb); clear HO_5; clear ho hb hg hat))
        go_roundg k1
        case measure => have := HK1.o; omega
        case rel => exact ⟨(y108), (wrap64 (x6_1 + 1)), rs_, H', ⟨by have := HK1.o; omega⟩, ⟨by (with_reducible repeat (first | apply Kd.N_alloc | apply Kd.N_drewN | apply Kd.N_drew)); exact HO110.o⟩, ⟨by (with_reducible repeat (first | apply Kd.V_alloc | apply Kd.V_drewN | apply Kd.V_drew)); exact Kd.V_mono HO_102000.o (fun _ hk => ⟨hk.1.1, ⟨hk.2, hk.1.2⟩⟩)⟩, ⟨bk_ BK101.o⟩, ⟨be1_ HB.o GE101.o⟩⟩
       ·rw [if_neg c10] at H
        exact absurd H (by simp)
      ·rw [if_neg c9] at H
       exact absurd H (by simp)
     ·rw [if_neg c8] at H; have c8b0 := df_ c8; clear c8; obtain rfl := Option.some.inj H; obtain ⟨hcz13_0, hfz13_0⟩ := d1_ BK101
      have p105 : 0 ≤ (a1 : Int) := of_decide_eq_true as_
      have q105 : a1 < (l0_0.length : Int) := of_decide_eq_true as_
      obtain ⟨ad105, A105_1, c105_1, e105, hx105_0, hx105_1, hl105_1, hi105_1⟩ := at_T62 (Kd.V_reads' HO_102000.o).2.2 a1 p105 q105
      cases e105
      obtain ⟨ce105, hce105, hMe105, hcc105⟩ := Kd.V_get HO_102000.o z62 a1 p105 (by first | exact q105 | exact of_decide_eq_true as_ | (have e_ := (Kd.V_reads' HO_102000.o).1; omega))
      obtain ⟨ua105_1, uc105_1, rfl, ul105_1, ge105_1⟩ := k62_openF hMe105; have hv105_1 := hcc105 1 _ rfl
      rw [add_field _ _ 1 (by omega)] at hv105_1
      replace hv105_1 := Option.some.inj (hv105_1.symm.trans hx105_1)
      injection hv105_1 with hva_ hvn_ hvc_
      rw [hva_] at ge105_1
      rw [hvc_] at ul105_1
      have HL105_1 := q_ (show Kd.V k64 64 _ w.heap.size _ _ ((rd_T62 l0_0 a1).f1) from Kd.V_mk ul105_1 ge105_1)
      clear hva_ hvn_ hvc_ ge105_1 ul105_1; clear hcc105 hce105; have HR105_1 := q_ hi105_1; have HC105_1 := q_ hl105_1; clear hi105_1 hl105_1; replace p105 := eq_true p105; replace q105 := eq_true q105
      go_wp2
      go_ret
      exact ⟨_, rt_, by (with_reducible repeat (first | apply Kd.N_alloc | apply Kd.N_drewN | apply Kd.N_drew)); exact Kd.N_mono HO_5.o (fun _ hk => hk.1), be1_ HB.o GE101.o⟩
    ·rw [if_neg c7] at H
     exact absurd H (by simp)
   ·rw [if_neg c6] at H
    exact absurd H (by simp)
/-! ### spec_Openers: function 6 -/
def spec_Openers.l0 : Nat → List (S67) → List (S58) → Int → Option ((List (S67)) × Bool)
 | 0, _, _, _ => none
 | k + 1, x6, x7, x8 => if x8 < (x7.length : Int) then (if 0 ≤ x8 then ((spec_FirstOf.f k ((rd_T58 x7 x8).f0)).bind fun t110 => ((spec_Joined.f k x6 t110).bind fun t113 => (spec_Openers.l0 k t113 x7 (wrap64 (x8 + 1))))) else (none)) else (some (x6, true))
def spec_Openers.f (k : Nat) (l0_0 : List (S62)) (a1 : Int) : Option ((List (S67)) × Bool) := (some (([] : List (S67)) : List (S67))).bind fun y102 => ((spec_l9Mode.f k l0_0 a1).bind fun t105 => (if t105 = true then ((spec_l9Rxs.f k l0_0 a1).bind fun t106 => (spec_Openers.l0 k y102 t106 0)) else (some (y102, false))))
theorem spec_Openers.calls (k : Nat) (A0_0 : Option Addr) (c0_0 : Nat) (l0_0 : List (S62)) (a1 : Int) (r1 : List (S67)) (r2 : Bool) (w : World) (hr0_0 : Kd.C k62 w A0_0 l0_0.length l0_0) (hc0_0 : l0_0.length ≤ c0_0) (h : spec_Openers.f k l0_0 a1 = some (r1, r2)) :
  Calls Tryz.prog 6 #[.agg #[.slice A0_0 l0_0.length c0_0], .int .i64 a1] w fun e w' => ∃ v0_ : Value, e = .returned (.tuple #[v0_, .bool r2]) ∧ Kd.R k67 67 w' w.heap.size (fun _ => True) v0_ r1 ∧ Below w.heap.size w w' := by
 have hu31 := Tryz.underlying31; have hu58 := Tryz.underlying58; have HR0_0 := q_ hr0_0; have HC0_0 := q_ hc0_0; clear hr0_0 hc0_0; have HB := q_ (Below.refl w.heap.size w)
 have H : ((some (([] : List (S67)) : List (S67))).bind fun y102 => ((spec_l9Mode.f k l0_0 a1).bind fun t105 => (if t105 = true then ((spec_l9Rxs.f k l0_0 a1).bind fun t106 => (spec_Openers.l0 k y102 t106 0)) else (some (y102, false))))) = some (r1, r2) := h
 clear h
 obtain ⟨y102, hy102⟩ : ∃ y_ : List (S67), y_ = (([] : List (S67))) := ⟨_, rfl⟩
 replace H : ((spec_l9Mode.f k l0_0 a1).bind fun t105 => (if t105 = true then ((spec_l9Rxs.f k l0_0 a1).bind fun t106 => (spec_Openers.l0 k y102 t106 0)) else (some (y102, false)))) = some (r1, r2) := by first | (rw [hy102]; with_reducible exact H) | (have H2_ := (Option.bind_some _ _).symm.trans H; rw [hy102]; with_reducible exact H2_) | (have H2_ := (Option.bind_some _ _).symm.trans H; with_reducible exact H2_) | with_reducible exact H | (rw [hy102]; exact H) | exact H
 have Ny102 := q_ hy102; clear hy102; obtain ⟨t105, A3, H⟩ := ob_ H
 by_cases c4 : t105 = true
 ·subst c4; rw [if_pos rfl] at H; obtain ⟨t106, A5, H⟩ := ob_ H
  have H' := q_ H
  clear H
  go_enter Tryz.func6, Tryz.ntmps6
  go_wp2_with (first | ((with_reducible refine gate_dst (N := 2) rfl ?_); refine bx_ 2 #[.slice A0_0 l0_0.length c0_0] 31 ?_; intro gb101 hg w6 hbox hb; have BK101 := q_ (hbox); have GW101 := ge_ hg HB; have GE101 := GW101; replace HB := sb_ HB hb; clear hb hbox hg) | ((with_reducible refine gate_dst (N := 9) rfl ?_); refine Kd.R_lit k67 _ 67 ?hg (N := 9) ?hd (xs := ([] : List (S67))) (inner := []) (ok := fun _ => True) (okp := fun _ => True) ?hr ?hp (fun _ hk => hk) trivial (Below.refl _ _) (Nat.le_refl _) (by simp) ?_; (case hd => rfl); (case hg => rfl); (case hr => first | (go_simp; done) | (go_simp; rfl)); (case hp => exact (Reps.none _ _)); intro v103 w7 ho8 hb hg_ hnew_; clear hg_ hnew_; (first | rw [← Ny102.o] at ho8 | (simp only [Int.reduceToNat] at ho8; rw [← Ny102.o] at ho8)); have HO104 := q_ (Kd.R_lower ho8 (below_size (be1_ HB.o GE101.o))); replace BK101 := lb_ BK101 hb; replace HB := sb1_ HB GE101 hb; clear hb ho8; obtain ⟨hcz9_0, hfz9_0⟩ := d1_ BK101) | ((with_reducible refine gate_callee (f := 24) rfl ?_); refine gl_ (some 12) rfl rfl Tryz.func24 #[.agg #[.slice A0_0 l0_0.length c0_0], .int .i64 a1] ?_; (with_reducible refine (spec_l9Mode.calls k _ _ l0_0 a1 true _ ?side1 ?side2 A3.o).mono ?_); (case side1 => exact Kd.C_below HR0_0.o (be_ HB.o)); (case side2 => exact HC0_0.o); rintro e w10 ⟨rfl, hb⟩; refine ⟨_, rfl, ?_⟩; replace HO104 := q_ (Kd.R_below (ra_ HO104.o) hb); replace BK101 := lb_ BK101 hb; replace HB := sb1_ HB GE101 hb; (try clear hb); obtain ⟨hcz11_0, hfz11_0⟩ := d1_ BK101) | ((with_reducible refine gate_callee (f := 25) rfl ?_); refine gl_ (some 17) rfl rfl Tryz.func25 #[.agg #[.slice A0_0 l0_0.length c0_0], .int .i64 a1] ?_; (with_reducible refine (spec_l9Rxs.calls k (fun k_ => k_ < w.heap.size) _ _ l0_0 a1 t106 _ ?side1 A5.o).mono ?_); (case side1 => exact Kd.V_mk HC0_0.o (Kd.F_below (Kd.C_F k62_heap HR0_0.o) (be1_ HB.o GE101.o))); rintro e w12 ⟨v107, rfl, ho0, hb⟩; refine ⟨_, rfl, ?_⟩; have HO108 := q_ (Kd.N_lower (Kd.N_mono (ok' := fun k_ => some k_ ≠ (v103 : Value).ownBlock ∧ k_ ≠ gb101) ho0 (fun k_ hk_ => ⟨Or.elim hk_ (fun hs_ => fun e_ => Nat.not_le.2 hs_ (Kd.R_base HO104.o k_ e_.symm)) (fun hn_ => (Kd.fresh' (Kd.R_lt (ra_ HO104.o)) k_ hn_)), Or.elim hk_ (fun hs_ => fun e_ => Nat.not_le.2 hs_ (by rw [e_]; exact GW101.o)) (fun hn_ => (Kd.freshB (g := gb101) (o := .cells #[.slice A0_0 l0_0.length c0_0] 31 (0, 0)) (bk_ BK101.o) k_ hn_))⟩)) (below_size (be1_ HB.o GE101.o))); replace HO104 := q_ (Kd.R_below (ra_ HO104.o) hb); replace BK101 := lb_ BK101 hb; replace HB := sb1_ HB GE101 hb; (try clear hb); (try clear ho0)))
  go_loopg [6, 8] k (fun kq v6 v8 w' => ∃ (x6_1 : List (S67)) (x8_1 : Int), v8 = .int .i64 x8_1 ∧ J0 (spec_Openers.l0 kq x6_1 t106 x8_1 = some (r1, r2)) ∧ J0 (kq ≤ k) ∧ J0 (Kd.R k67 67 w' w.heap.size (fun _ => True) v6 x6_1) ∧ J0 (Kd.N k58 58 w' w.heap.size (fun k_ => some k_ ≠ (v6 : Value).ownBlock ∧ k_ ≠ gb101) v107 t106) ∧ J0 (w'.heap[gb101]? = some (.cells #[(.slice A0_0 l0_0.length c0_0)] 31 (0, 0))) ∧ J0 (Below w.heap.size w w'))
  case atStart => exact ⟨(y102), (0), rs_, H', ⟨Nat.le_refl _⟩, ⟨ra_ HO104.o⟩, ⟨by (with_reducible repeat (first | apply Kd.N_alloc | apply Kd.N_drewN | apply Kd.N_drew)); exact HO108.o⟩, ⟨bk_ BK101.o⟩, ⟨be1_ HB.o GE101.o⟩⟩
  case round =>
   clear H'; (try clear c4); (try clear hcz11_0); (try clear hcz9_0); (try clear hfz11_0); (try clear hfz9_0); obtain ⟨x6_1, x8_1, rfl, HA, HK1, HO_6, HO_7, BK101, HB⟩ := hrel
   cases gk with
   | zero => exact absurd HA.o (by simp [spec_Openers.l0])
   | succ k1 =>
    have H := HA.o; clear HA
    simp only [spec_Openers.l0] at H
    by_cases c13 : x8_1 < (t106.length : Int)
    ·rw [if_pos c13] at H; have c13b0 := dt_ c13; clear c13
     by_cases c14 : 0 ≤ x8_1
     ·rw [if_pos c14] at H; have c14b0 := dt_ c14; clear c14; obtain ⟨t110, A15, H⟩ := ob_ H; obtain ⟨t113, A16, H⟩ := ob_ H
      have H' := q_ H
      clear H; obtain ⟨Ao17, co17, eo17⟩ := Kd.N_slice HO_7.o; subst eo17
      have p109 : 0 ≤ (x8_1 : Int) := of_decide_eq_true as_
      have q109 : x8_1 < (t106.length : Int) := of_decide_eq_true as_
      obtain ⟨ad109, A109_0, c109_0, e109, hx109_0, hl109_0, hi109_0⟩ := at_T58 (Kd.N_reads' HO_7.o).2.2 x8_1 p109 q109
      cases e109
      obtain ⟨ce109, hce109, hMe109, hcc109⟩ := Kd.N_get HO_7.o z58 x8_1 p109 (by first | exact q109 | exact of_decide_eq_true as_ | (have e_ := (Kd.N_reads' HO_7.o).1; omega))
      obtain ⟨ua109_0, uc109_0, rfl, ul109_0, ge109_0⟩ := k58_openF hMe109; have hv109_0 := hcc109 0 _ rfl
      rw [Nat.add_zero, show (k58).sz = 1 from rfl, Nat.mul_one] at hv109_0
      replace hv109_0 := Option.some.inj (hv109_0.symm.trans hx109_0)
      injection hv109_0 with hva_ hvn_ hvc_
      rw [hva_] at ge109_0
      rw [hvc_] at ul109_0
      have HL109_0 := q_ (show Kd.V k121 121 _ w.heap.size _ _ ((rd_T58 t106 x8_1).f0) from Kd.V_mk ul109_0 ge109_0)
      clear hva_ hvn_ hvc_ ge109_0 ul109_0; clear hcc109 hce109; have HR109_0 := q_ hi109_0; have HC109_0 := q_ hl109_0; clear hi109_0 hl109_0; replace p109 := eq_true p109; replace q109 := eq_true q109
      go_wp2_with (first | ((with_reducible refine gate_callee (f := 27) rfl ?_); refine gl_ (some 29) rfl rfl Tryz.func27 #[.agg #[.slice A109_0 ((rd_T58 t106 x8_1).f0).length c109_0]] ?_; (with_reducible refine (spec_FirstOf.calls k1 _ _ ((rd_T58 t106 x8_1).f0) t110 _ ?side1 ?side2 A15.o).mono ?_); (case side1 => repeat (first | exact (by repeat (first | (with_reducible exact HR109_0.o) | (with_reducible refine Kd.C_alloc ?_ _) | (with_reducible refine Kd.C_drewN ?_ _) | (with_reducible refine Kd.C_drew ?_) | exact HR109_0.o)) | (with_reducible refine Kd.C_alloc ?_ _) | (with_reducible refine Kd.C_drewN ?_ _) | (with_reducible refine Kd.C_drew ?_))); (case side2 => exact HC109_0.o); rintro e w18 ⟨v111, rfl, ho0, hb⟩; refine ⟨_, rfl, ?_⟩; have HO112 := q_ (Kd.R_lower (Kd.R_new' ho0 (Kd.R_lt (ra_ HO_6.o))) (below_size (be1_ HB.o GE101.o))); replace HO_6 := q_ (Kd.R_elder' (ra_ HO_6.o) (Kd.R_base ho0) hb); replace HO_7 := q_ (Kd.N_elder' (by (with_reducible repeat (first | apply Kd.N_alloc | apply Kd.N_drewN | apply Kd.N_drew)); exact HO_7.o) (Kd.R_base ho0) hb); replace HL109_0 := q_ (Kd.V_elder' (by (with_reducible repeat (first | apply Kd.V_alloc | apply Kd.V_drewN | apply Kd.V_drew)); exact HL109_0.o) (Kd.R_base ho0) hb); replace BK101 := lb_ BK101 hb; replace HR109_0 := q_ (Kd.C_below (by repeat (first | (with_reducible exact HR109_0.o) | (with_reducible refine Kd.C_alloc ?_ _) | (with_reducible refine Kd.C_drewN ?_ _) | (with_reducible refine Kd.C_drew ?_) | exact HR109_0.o)) hb); replace HB := sb1_ HB GE101 hb; (try clear hb); (try clear ho0); obtain ⟨Ao19, co19, eo19⟩ := Kd.R_slice HO_6.o; subst eo19; obtain ⟨Ao20, co20, eo20⟩ := Kd.R_slice HO112.o; subst eo20) | ((with_reducible refine gate_callee (f := 26) rfl ?_); refine gl_ (some 30) rfl rfl Tryz.func26 #[.slice Ao19 x6_1.length co19, .slice Ao20 t110.length co20] ?_; (with_reducible refine (spec_Joined.calls k1 _ _ x6_1 _ _ t110 t113 _ ?side1 ?side2 ?side3 ?side4 A16.o).mono ?_); (case side1 => repeat (first | exact (Kd.R_reads' HO_6.o).2.2 | (with_reducible refine Kd.C_alloc ?_ _) | (with_reducible refine Kd.C_drewN ?_ _) | (with_reducible refine Kd.C_drew ?_))); (case side2 => exact (Kd.R_reads' HO_6.o).2.1); (case side3 => repeat (first | exact (Kd.R_reads' HO112.o).2.2 | (with_reducible refine Kd.C_alloc ?_ _) | (with_reducible refine Kd.C_drewN ?_ _) | (with_reducible refine Kd.C_drew ?_))); (case side4 => exact (Kd.R_reads' HO112.o).2.1); rintro e w21 ⟨v114, rfl, ho0, hb⟩; refine ⟨_, rfl, ?_⟩; have HO115 := q_ (Kd.R_lower (Kd.R_new' (Kd.R_new' ho0 (Kd.R_lt (ra_ HO_6.o))) (Kd.R_lt (ra_ HO112.o))) (below_size (be1_ HB.o GE101.o))); replace HO_6 := q_ (Kd.R_elder' (ra_ HO_6.o) (Kd.R_base ho0) hb); replace HO_7 := q_ (Kd.N_elder' (by (with_reducible repeat (first | apply Kd.N_alloc | apply Kd.N_drewN | apply Kd.N_drew)); exact HO_7.o) (Kd.R_base ho0) hb); replace HL109_0 := q_ (Kd.V_elder' (by (with_reducible repeat (first | apply Kd.V_alloc | apply Kd.V_drewN | apply Kd.V_drew)); exact HL109_0.o) (Kd.R_base ho0) hb); replace HO112 := q_ (Kd.R_elder' (ra_ HO112.o) (Kd.R_base ho0) hb); replace BK101 := lb_ BK101 hb; replace HR109_0 := q_ (Kd.C_below (by repeat (first | (with_reducible exact HR109_0.o) | (with_reducible refine Kd.C_alloc ?_ _) | (with_reducible refine Kd.C_drewN ?_ _) | (with_reducible refine Kd.C_drew ?_) | exact HR109_0.o)) hb); replace HB := sb1_ HB GE101 hb; (try clear hb); (try clear ho0)))
      go_roundg k1
      case measure => have := HK1.o; omega
      case rel => exact ⟨(t113), (wrap64 (x8_1 + 1)), rs_, H', ⟨by have := HK1.o; omega⟩, ⟨by (with_reducible repeat (first | apply Kd.R_alloc | apply Kd.R_drewN | apply Kd.R_drew)); exact Kd.R_mono HO115.o (fun _ hk => trivial)⟩, ⟨by (with_reducible repeat (first | apply Kd.N_alloc | apply Kd.N_drewN | apply Kd.N_drew)); exact Kd.N_mono HO_7.o (fun _ hk => ⟨hk.2, hk.1.1.2⟩)⟩, ⟨bk_ BK101.o⟩, ⟨be1_ HB.o GE101.o⟩⟩
     ·rw [if_neg c14] at H
      exact absurd H (by simp)
    ·rw [if_neg c13] at H; have c13b0 := df_ c13; clear c13
     simp only [Option.some.injEq, Prod.mk.injEq] at H
     obtain ⟨rfl, rfl⟩ := H; obtain ⟨Ao22, co22, eo22⟩ := Kd.N_slice HO_7.o; subst eo22
     go_wp2
     go_ret2
     exact ⟨_, rt_, ra_ HO_6.o, be1_ HB.o GE101.o⟩
 ·replace c4 := Bool.eq_false_iff.mpr c4; subst c4; rw [if_neg nft_] at H
  simp only [Option.some.injEq, Prod.mk.injEq] at H
  obtain ⟨rfl, rfl⟩ := H
  go_enter Tryz.func6, Tryz.ntmps6
  go_wp2_with (first | ((with_reducible refine gate_dst (N := 2) rfl ?_); refine bx_ 2 #[.slice A0_0 l0_0.length c0_0] 31 ?_; intro gb101 hg w23 hbox hb; have BK101 := q_ (hbox); have GW101 := ge_ hg HB; have GE101 := GW101; replace HB := sb_ HB hb; clear hb hbox hg) | ((with_reducible refine gate_dst (N := 9) rfl ?_); refine Kd.R_lit k67 _ 67 ?hg (N := 9) ?hd (xs := ([] : List (S67))) (inner := []) (ok := fun _ => True) (okp := fun _ => True) ?hr ?hp (fun _ hk => hk) trivial (Below.refl _ _) (Nat.le_refl _) (by simp) ?_; (case hd => rfl); (case hg => rfl); (case hr => first | (go_simp; done) | (go_simp; rfl)); (case hp => exact (Reps.none _ _)); intro v103 w24 ho25 hb hg_ hnew_; clear hg_ hnew_; (first | rw [← Ny102.o] at ho25 | (simp only [Int.reduceToNat] at ho25; rw [← Ny102.o] at ho25)); have HO104 := q_ (Kd.R_lower ho25 (below_size (be1_ HB.o GE101.o))); replace BK101 := lb_ BK101 hb; replace HB := sb1_ HB GE101 hb; clear hb ho25; obtain ⟨hcz26_0, hfz26_0⟩ := d1_ BK101) | ((with_reducible refine gate_callee (f := 24) rfl ?_); refine gl_ (some 12) rfl rfl Tryz.func24 #[.agg #[.slice A0_0 l0_0.length c0_0], .int .i64 a1] ?_; (with_reducible refine (spec_l9Mode.calls k _ _ l0_0 a1 false _ ?side1 ?side2 A3.o).mono ?_); (case side1 => exact Kd.C_below HR0_0.o (be_ HB.o)); (case side2 => exact HC0_0.o); rintro e w27 ⟨rfl, hb⟩; refine ⟨_, rfl, ?_⟩; replace HO104 := q_ (Kd.R_below (ra_ HO104.o) hb); replace BK101 := lb_ BK101 hb; replace HB := sb1_ HB GE101 hb; (try clear hb)))
  go_ret2
  exact ⟨_, rt_, ra_ HO104.o, be1_ HB.o GE101.o⟩
end Go.Proofs.YtijmhelacmjggaaGreat.P
namespace Go.Proofs.YtijmhelacmjggaaGreat.P
open Go.RowKit Go.Proofs.YtijmhelacmjggaaGreatW.PrintWords Go.Proofs.YtijmhelacmjggaaGreatW.PrintLast Go.Proofs.YtijmhelacmjggaaGreatW.PrintMore Go.Proofs.YtijmhelacmjggaaGreatEv
set_option linter.unusedVariables false
set_option linter.unusedSimpArgs false
theorem Clone_Span (A : Option Addr) (c : Nat) (l : List S67) (w : World) (hr : Kd.C k67 w A l.length l) (hl : l.length ≤ 1048576) :
    Calls Tryz.prog 32 #[.slice A l.length c] w fun e w' => ∃ v, e = .returned v ∧ Kd.R k67 67 w' w.heap.size (fun _ => True) v l ∧ Below w.heap.size w w' := by
  have HR := q_ hr
  have HB := q_ (Below.refl w.heap.size w)
  have hu := Tryz.underlying26
  rcases A with _ | ad
  · have h0 : l = [] := by
      rcases l with _ | ⟨x, xs⟩
      · rfl
      · obtain ⟨ad, h, _⟩ := hr.2.2 (by simp)
        cases h
    subst h0
    clear hr
    go_enter Tryz.func32, Tryz.ntmps32
    go_wp2_with fail
    rw [Go.Lib.run_eql_slice_nil _ _ _ _ _ _ _ _ hu]
    go_wp2_with fail
    go_ret
    exact ⟨_, rfl, Kd.R_nil _ _ _ _ _, HB.o⟩
  · clear hr
    go_enter Tryz.func32, Tryz.ntmps32
    go_wp2_with fail
    rw [Go.Lib.run_eql_slice_nil _ _ _ _ _ _ _ _ hu]
    go_wp2_with (first
      | ((with_reducible refine gate_dst (N := 5) rfl ?_); refine Kd.R_lit k67 _ 67 ?hg (N := 5) ?hd (xs := ([] : List S67)) (inner := []) (ok := fun _ => True) (okp := fun _ => True) ?hr ?hp (fun _ hk => hk) trivial (Below.refl _ _) (Nat.le_refl _) (by simp) ?_; (case hd => rfl); (case hg => rfl); (case hr => first | (go_simp; done) | (go_simp; rfl)); (case hp => exact (Reps.none _ _)); intro v1 w1 ho hb _ _; have HO := q_ (Kd.R_lower ho HB.o.size); replace HB := q_ (below_step HB.o hb); clear ho hb)
      | ((with_reducible refine gate_builtin (b := .append) (xs := #[.tmp 5, .tmp 6]) rfl ?_); at_builtin; refine Kd.R_append_rows k67 (w0 := w) w.heap.size rfl (.tmp 5) (.tmp 6) 26 67 (.agg #[(.int .i64 0), (.int .i64 0)]) 16 rfl Tryz.underlying26 info67 rfl (by decide) (by omega) v1 [] l _ _ _ (fun _ => True) (fun _ => False) rfl rfl ?aO ?aR (fun _ _ h => h) (fun _ h => h.elim) ?aF ?aB ?aS ?aL ?_; (case aO => exact HO.o); (case aR => exact Kd.C_below HR.o HB.o); (case aF => exact fun _ _ => trivial); (case aB => exact HB.o); (case aS => exact HB.o.size); (case aL => simp; omega); intro v2 w2 ho hb _ _; have HV := q_ ho; replace HB := q_ hb; clear ho hb))
    go_ret
    exact ⟨_, rfl, HV.o, HB.o⟩
end Go.Proofs.YtijmhelacmjggaaGreat.P
namespace Go.Proofs.YtijmhelacmjggaaGreat.P
open Go.RowKit Go.Proofs.YtijmhelacmjggaaGreatW.PrintWords Go.Proofs.YtijmhelacmjggaaGreatW.PrintLast Go.Proofs.YtijmhelacmjggaaGreatW.PrintMore
attribute [local go_sem] max2_int min2_int max_two min_two max_three min_three max_four min_four
set_option linter.unusedVariables false
set_option linter.unusedSimpArgs false
/-! ### impl_Span: function 32 -/
def impl_Span.f (l0 : List (S67)) : Option (List (S67)) := if l0.length ≤ 1048576 then some l0 else none
theorem impl_Span.calls (A0 : Option Addr) (c0 : Nat) (l0 : List (S67)) (r : List (S67)) (w : World) (hr0 : Kd.C k67 w A0 l0.length l0) (hc0 : l0.length ≤ c0) (h : impl_Span.f l0 = some r) :
    Calls Tryz.prog 32 #[.slice A0 l0.length c0] w fun e w' => ∃ v0_ : Value, e = .returned (v0_) ∧ Kd.R k67 67 w' w.heap.size (fun _ => True) v0_ r ∧ Below w.heap.size w w' := by
  unfold impl_Span.f at h
  by_cases hp : l0.length ≤ 1048576
  · rw [if_pos hp] at h
    obtain rfl := Option.some.inj h
    exact Clone_Span A0 c0 l0 w hr0 hp
  · rw [if_neg hp] at h
    exact absurd h (by simp)
/-! ### impl_Openers: function 8 -/
def impl_Openers.l0 : Nat → List (S67) → List (S64) → Int → Int → Option ((List (S67)) × Bool)
 | 0, _, _, _, _ => none
 | k + 1, x6, x19, x20, x21 => if x21 < x20 then (if 0 ≤ x21 then (if x21 < (x19.length : Int) then ((impl_FirstOf.f k ((rd_T64 x19 x21).f1.f0)).bind fun t109 => ((impl_Joined.f x6 t109).bind fun t112 => (impl_Openers.l0 k t112 x19 x20 (wrap64 (x21 + 1))))) else (none)) else (none)) else ((impl_Span.f x6).bind fun t115 => (some (t115, true)))
def impl_Openers.f (k : Nat) (l0_0 : List (S62)) (a1 : Int) : Option ((List (S67)) × Bool) := (impl_isMode.f l0_0 a1).bind fun t102 => (if t102 = true then (if 0 ≤ a1 then (if a1 < (l0_0.length : Int) then (impl_Openers.l0 k (([] : List (S67))) ((rd_T62 l0_0 a1).f1) (((rd_T62 l0_0 a1).f1).length : Int) 0) else (none)) else (none)) else (some (([] : List (S67)), false)))
theorem impl_Openers.calls (k : Nat) (A0_0 : Option Addr) (c0_0 : Nat) (l0_0 : List (S62)) (a1 : Int) (r1 : List (S67)) (r2 : Bool) (w : World) (hr0_0 : Kd.C k62 w A0_0 l0_0.length l0_0) (hc0_0 : l0_0.length ≤ c0_0) (h : impl_Openers.f k l0_0 a1 = some (r1, r2)) :
  Calls Tryz.prog 8 #[.agg #[.slice A0_0 l0_0.length c0_0], .int .i64 a1] w fun e w' => ∃ v0_ : Value, e = .returned (.tuple #[v0_, .bool r2]) ∧ Kd.R k67 67 w' w.heap.size (fun _ => True) v0_ r1 ∧ Below w.heap.size w w' := by
 have hu31 := Tryz.underlying31; have hu64 := Tryz.underlying64; have hu58 := Tryz.underlying58; have HR0_0 := q_ hr0_0; have HC0_0 := q_ hc0_0; clear hr0_0 hc0_0; have HB := q_ (Below.refl w.heap.size w)
 have H : ((impl_isMode.f l0_0 a1).bind fun t102 => (if t102 = true then (if 0 ≤ a1 then (if a1 < (l0_0.length : Int) then (impl_Openers.l0 k (([] : List (S67))) ((rd_T62 l0_0 a1).f1) (((rd_T62 l0_0 a1).f1).length : Int) 0) else (none)) else (none)) else (some (([] : List (S67)), false)))) = some (r1, r2) := h
 clear h; obtain ⟨t102, A3, H⟩ := ob_ H
 by_cases c4 : t102 = true
 ·subst c4; rw [if_pos rfl] at H
  obtain ⟨y103, hy103⟩ : ∃ y_ : List (S67), y_ = (([] : List (S67))) := ⟨_, rfl⟩
  replace H : (if 0 ≤ a1 then (if a1 < (l0_0.length : Int) then (impl_Openers.l0 k y103 ((rd_T62 l0_0 a1).f1) (((rd_T62 l0_0 a1).f1).length : Int) 0) else (none)) else (none)) = some (r1, r2) := by first | (rw [hy103]; with_reducible exact H) | (have H2_ := (Option.bind_some _ _).symm.trans H; rw [hy103]; with_reducible exact H2_) | (have H2_ := (Option.bind_some _ _).symm.trans H; with_reducible exact H2_) | with_reducible exact H | (rw [hy103]; exact H) | exact H
  have Ny103 := q_ hy103; clear hy103
  by_cases c5 : 0 ≤ a1
  ·rw [if_pos c5] at H; have c5b0 := dt_ c5; clear c5
   by_cases c6 : a1 < (l0_0.length : Int)
   ·rw [if_pos c6] at H; have c6b0 := dt_ c6; clear c6
    have H' := q_ H
    clear H
    go_enter Tryz.func8, Tryz.ntmps8
    go_wp2_with (first | ((with_reducible refine gate_dst (N := 2) rfl ?_); refine bx_ 2 #[.slice A0_0 l0_0.length c0_0] 31 ?_; intro gb101 hg w7 hbox hb; have BK101 := q_ (hbox); have GE101 := ge_ hg HB; replace HB := sb_ HB hb; clear hb hbox hg; obtain ⟨hcz8_0, hfz8_0⟩ := d1_ BK101) | ((with_reducible refine gate_callee (f := 29) rfl ?_); refine gl_ (some 11) rfl rfl Tryz.func29 #[.agg #[.slice A0_0 l0_0.length c0_0], .int .i64 a1] ?_; (with_reducible refine (impl_isMode.calls _ _ l0_0 a1 true _ ?side1 ?side2 A3.o).mono ?_); (case side1 => exact Kd.C_below HR0_0.o (be_ HB.o)); (case side2 => exact HC0_0.o); rintro e w9 ⟨rfl, hb⟩; refine ⟨_, rfl, ?_⟩; replace BK101 := lb_ BK101 hb; replace HB := sb1_ HB GE101 hb; (try clear hb)) | ((with_reducible refine gate_dst (N := 13) rfl ?_); refine Kd.R_lit k67 _ 67 ?hg (N := 13) ?hd (xs := ([] : List (S67))) (inner := []) (ok := fun _ => True) (okp := fun _ => True) ?hr ?hp (fun _ hk => hk) trivial (Below.refl _ _) (Nat.le_refl _) (by simp) ?_; (case hd => rfl); (case hg => rfl); (case hr => first | (go_simp; done) | (go_simp; rfl)); (case hp => exact (Reps.none _ _)); intro v104 w10 ho11 hb hg_ hnew_; clear hg_ hnew_; (first | rw [← Ny103.o] at ho11 | (simp only [Int.reduceToNat] at ho11; rw [← Ny103.o] at ho11)); have HO105 := q_ (Kd.R_lower ho11 (below_size (be1_ HB.o GE101.o))); replace BK101 := lb_ BK101 hb; replace HB := sb1_ HB GE101 hb; clear hb ho11; obtain ⟨hcz12_0, hfz12_0⟩ := d1_ BK101; have p106 : 0 ≤ (a1 : Int) := of_decide_eq_true as_; have q106 : a1 < (l0_0.length : Int) := of_decide_eq_true as_; obtain ⟨ad106, A106_1, c106_1, e106, hx106_0, hx106_1, hl106_1, hi106_1⟩ := at_T62 HR0_0.o a1 p106 q106; cases e106; replace hx106_0 := mv_ HB.o hx106_0; replace hx106_1 := mv_ HB.o hx106_1; have HR106_1 := q_ hi106_1; have HC106_1 := q_ hl106_1; clear hi106_1 hl106_1; replace p106 := eq_true p106; replace q106 := eq_true q106))
    go_loopg [6, 21] k (fun kq v6 v21 w' => ∃ (x6_1 : List (S67)) (x21_1 : Int), v21 = .int .i64 x21_1 ∧ J0 (impl_Openers.l0 kq x6_1 ((rd_T62 l0_0 a1).f1) (((rd_T62 l0_0 a1).f1).length : Int) x21_1 = some (r1, r2)) ∧ J0 (kq ≤ k) ∧ J0 (Kd.R k67 67 w' w.heap.size (fun _ => True) v6 x6_1) ∧ J0 (w'.heap[gb101]? = some (.cells #[(.slice (some ad106) l0_0.length c0_0)] 31 (0, 0))) ∧ J0 (Below w.heap.size w w'))
    case atStart => exact ⟨(y103), (0), rs_, H', ⟨Nat.le_refl _⟩, ⟨ra_ HO105.o⟩, ⟨bk_ BK101.o⟩, ⟨be1_ HB.o GE101.o⟩⟩
    case round =>
     clear H'; (try clear c4); (try clear c5); (try clear c5b0); (try clear c6); (try clear c6b0); (try clear hcz12_0); (try clear hcz8_0); (try clear hfz12_0); (try clear hfz8_0); (try clear hx106_0); (try clear hx106_1); (try clear p106); (try clear q106); obtain ⟨x6_1, x21_1, rfl, HA, HK1, HO_6, BK101, HB⟩ := hrel
     cases gk with
     | zero => exact absurd HA.o (by simp [impl_Openers.l0])
     | succ k1 =>
      have H := HA.o; clear HA
      simp only [impl_Openers.l0] at H
      by_cases c13 : x21_1 < (((rd_T62 l0_0 a1).f1).length : Int)
      ·rw [if_pos c13] at H; have c13b0 := dt_ c13; clear c13
       by_cases c14 : 0 ≤ x21_1
       ·rw [if_pos c14] at H; have c14b0 := dt_ c14; clear c14
        by_cases c15 : x21_1 < (((rd_T62 l0_0 a1).f1).length : Int)
        ·rw [if_pos c15] at H; have c15b0 := dt_ c15; clear c15; obtain ⟨t109, A16, H⟩ := ob_ H; obtain ⟨t112, A17, H⟩ := ob_ H
         have H' := q_ H
         clear H
         have p107 : 0 ≤ (x21_1 : Int) := of_decide_eq_true as_
         have q107 : x21_1 < (((rd_T62 l0_0 a1).f1).length : Int) := of_decide_eq_true as_
         obtain ⟨ad107, A107_1, c107_1, e107, hx107_0, hx107_1, hx107_2, hx107_3, hx107_4, hl107_1, hi107_1⟩ := at_T64 HR106_1.o x21_1 p107 q107
         cases e107
         replace hx107_0 := mv_ HB.o hx107_0; replace hx107_1 := mv_ HB.o hx107_1; replace hx107_2 := mv_ HB.o hx107_2; replace hx107_3 := mv_ HB.o hx107_3; replace hx107_4 := mv_ HB.o hx107_4; have HR107_1 := q_ hi107_1; have HC107_1 := q_ hl107_1; clear hi107_1 hl107_1; replace p107 := eq_true p107; replace q107 := eq_true q107
         go_wp2_with (first | ((with_reducible refine gate_dst (N := 8) rfl ?_); refine bx_ 8 #[.string (⟨#[]⟩ : ByteArray), .slice none 0 0, .bool false, .int .i64 0, .string (⟨#[]⟩ : ByteArray)] 64 ?_; intro gb108 hg w18 hbox hb; have BK108 := q_ (hbox); have GE108 := ge1_ hg HB GE101; have NB101_108 := nl_ hg BK101; have NB108_101 := ng_ hg BK101; replace HO_6 := q_ (Kd.R_below (ra_ HO_6.o) hb); replace BK101 := lb_ BK101 hb; replace HB := sb1_ HB GE101 hb; clear hb hbox hg; have hnb19 := NB108_101.o; have hnc19 := NB101_108.o; obtain ⟨hcz20_0, hcz20_1, hcz20_2, hcz20_3, hcz20_4, hfz20_0, hfz20_1, hfz20_2, hfz20_3, hfz20_4⟩ := d5_ BK108) | ((with_reducible refine gate_callee (f := 31) rfl ?_); refine gl_ (some 28) rfl rfl Tryz.func31 #[.agg #[.slice A107_1 ((rd_T64 ((rd_T62 l0_0 a1).f1) x21_1).f1.f0).length c107_1]] ?_; (with_reducible refine (impl_FirstOf.calls k1 _ _ ((rd_T64 ((rd_T62 l0_0 a1).f1) x21_1).f1.f0) t109 _ ?side1 ?side2 A16.o).mono ?_); (case side1 => exact Kd.C_below HR107_1.o (be2_ HB.o GE101.o GE108.o)); (case side2 => exact HC107_1.o); rintro e w21 ⟨v110, rfl, ho0, hb⟩; refine ⟨_, rfl, ?_⟩; have HO111 := q_ (Kd.R_lower (Kd.R_new' ho0 (Kd.R_lt (by (with_reducible repeat (first | apply Kd.R_alloc | apply Kd.R_drewN | apply Kd.R_drew)); exact (Kd.R_mono (Kd.R_far (p := ⟨gb108, 4, none⟩) (Kd.R_far (p := ⟨gb108, 3, none⟩) (Kd.R_far (p := ⟨gb108, 2, none⟩) (Kd.R_far (p := ⟨gb108, 1, none⟩) (Kd.R_far (p := ⟨gb108, 0, none⟩) (Kd.R_types HO_6.o BK108.o (by decide)) (fun _ hk => hk.2) (.string ((rd_T64 ((rd_T62 l0_0 a1).f1) x21_1).f0))) (fun _ hk => hk.2) (.slice A107_1 ((rd_T64 ((rd_T62 l0_0 a1).f1) x21_1).f1.f0).length c107_1)) (fun _ hk => hk.2) (.bool ((rd_T64 ((rd_T62 l0_0 a1).f1) x21_1).f2))) (fun _ hk => hk.2) (.int .i64 ((rd_T64 ((rd_T62 l0_0 a1).f1) x21_1).f3))) (fun _ hk => hk.2) (.string ((rd_T64 ((rd_T62 l0_0 a1).f1) x21_1).f4))) (fun _ h_ => h_.1))))) (below_size (be2_ HB.o GE101.o GE108.o))); replace HO_6 := q_ (Kd.R_elder' (by (with_reducible repeat (first | apply Kd.R_alloc | apply Kd.R_drewN | apply Kd.R_drew)); exact (Kd.R_mono (Kd.R_far (p := ⟨gb108, 4, none⟩) (Kd.R_far (p := ⟨gb108, 3, none⟩) (Kd.R_far (p := ⟨gb108, 2, none⟩) (Kd.R_far (p := ⟨gb108, 1, none⟩) (Kd.R_far (p := ⟨gb108, 0, none⟩) (Kd.R_types HO_6.o BK108.o (by decide)) (fun _ hk => hk.2) (.string ((rd_T64 ((rd_T62 l0_0 a1).f1) x21_1).f0))) (fun _ hk => hk.2) (.slice A107_1 ((rd_T64 ((rd_T62 l0_0 a1).f1) x21_1).f1.f0).length c107_1)) (fun _ hk => hk.2) (.bool ((rd_T64 ((rd_T62 l0_0 a1).f1) x21_1).f2))) (fun _ hk => hk.2) (.int .i64 ((rd_T64 ((rd_T62 l0_0 a1).f1) x21_1).f3))) (fun _ hk => hk.2) (.string ((rd_T64 ((rd_T62 l0_0 a1).f1) x21_1).f4))) (fun _ h_ => h_.1))) (Kd.R_base ho0) hb); replace BK101 := q_ (blk_below (g := gb101) (o := .cells #[.slice (some ad106) l0_0.length c0_0] 31 (0, 0)) (by (with_reducible repeat (first | refine blk_drewN ?_ _ | refine blk_drew ?_ | refine blk_alloc ?_ _)); refine blk_far ?_ NB101_108.o _; (with_reducible repeat (first | refine blk_drewN ?_ _ | refine blk_drew ?_ | refine blk_alloc ?_ _)); refine blk_far ?_ NB101_108.o _; (with_reducible repeat (first | refine blk_drewN ?_ _ | refine blk_drew ?_ | refine blk_alloc ?_ _)); refine blk_far ?_ NB101_108.o _; (with_reducible repeat (first | refine blk_drewN ?_ _ | refine blk_drew ?_ | refine blk_alloc ?_ _)); refine blk_far ?_ NB101_108.o _; (with_reducible repeat (first | refine blk_drewN ?_ _ | refine blk_drew ?_ | refine blk_alloc ?_ _)); refine blk_far ?_ NB101_108.o _; (with_reducible repeat (first | refine blk_drewN ?_ _ | refine blk_drew ?_ | refine blk_alloc ?_ _)); exact BK101.o) hb); replace BK108 := q_ (blk_below (g := gb108) (o := .cells #[.string ((rd_T64 ((rd_T62 l0_0 a1).f1) x21_1).f0), .slice A107_1 ((rd_T64 ((rd_T62 l0_0 a1).f1) x21_1).f1.f0).length c107_1, .bool ((rd_T64 ((rd_T62 l0_0 a1).f1) x21_1).f2), .int .i64 ((rd_T64 ((rd_T62 l0_0 a1).f1) x21_1).f3), .string ((rd_T64 ((rd_T62 l0_0 a1).f1) x21_1).f4)] 64 (0, 0)) (by (with_reducible repeat (first | refine blk_drewN ?_ _ | refine blk_drew ?_ | refine blk_alloc ?_ _)); refine blk_put (cs := #[.string ((rd_T64 ((rd_T62 l0_0 a1).f1) x21_1).f0), .slice A107_1 ((rd_T64 ((rd_T62 l0_0 a1).f1) x21_1).f1.f0).length c107_1, .bool ((rd_T64 ((rd_T62 l0_0 a1).f1) x21_1).f2), .int .i64 ((rd_T64 ((rd_T62 l0_0 a1).f1) x21_1).f3), .string (⟨#[]⟩ : ByteArray)]) ?_ 4 _ rfl; (with_reducible repeat (first | refine blk_drewN ?_ _ | refine blk_drew ?_ | refine blk_alloc ?_ _)); refine blk_put (cs := #[.string ((rd_T64 ((rd_T62 l0_0 a1).f1) x21_1).f0), .slice A107_1 ((rd_T64 ((rd_T62 l0_0 a1).f1) x21_1).f1.f0).length c107_1, .bool ((rd_T64 ((rd_T62 l0_0 a1).f1) x21_1).f2), .int .i64 0, .string (⟨#[]⟩ : ByteArray)]) ?_ 3 _ rfl; (with_reducible repeat (first | refine blk_drewN ?_ _ | refine blk_drew ?_ | refine blk_alloc ?_ _)); refine blk_put (cs := #[.string ((rd_T64 ((rd_T62 l0_0 a1).f1) x21_1).f0), .slice A107_1 ((rd_T64 ((rd_T62 l0_0 a1).f1) x21_1).f1.f0).length c107_1, .bool false, .int .i64 0, .string (⟨#[]⟩ : ByteArray)]) ?_ 2 _ rfl; (with_reducible repeat (first | refine blk_drewN ?_ _ | refine blk_drew ?_ | refine blk_alloc ?_ _)); refine blk_put (cs := #[.string ((rd_T64 ((rd_T62 l0_0 a1).f1) x21_1).f0), .slice none 0 0, .bool false, .int .i64 0, .string (⟨#[]⟩ : ByteArray)]) ?_ 1 _ rfl; (with_reducible repeat (first | refine blk_drewN ?_ _ | refine blk_drew ?_ | refine blk_alloc ?_ _)); refine blk_put (cs := #[.string (⟨#[]⟩ : ByteArray), .slice none 0 0, .bool false, .int .i64 0, .string (⟨#[]⟩ : ByteArray)]) ?_ 0 _ rfl; (with_reducible repeat (first | refine blk_drewN ?_ _ | refine blk_drew ?_ | refine blk_alloc ?_ _)); exact BK108.o) hb); replace HB := sb2_ HB GE101 GE108 hb; (try clear hb); (try clear ho0); obtain ⟨Ao22, co22, eo22⟩ := Kd.R_slice HO_6.o; subst eo22; obtain ⟨Ao23, co23, eo23⟩ := Kd.R_slice HO111.o; subst eo23) | ((with_reducible refine gate_callee (f := 30) rfl ?_); refine gl_ (some 29) rfl rfl Tryz.func30 #[.slice Ao22 x6_1.length co22, .slice Ao23 t109.length co23] ?_; (with_reducible refine (impl_Joined.calls _ _ x6_1 _ _ t109 t112 _ ?side1 ?side2 ?side3 ?side4 A17.o).mono ?_); (case side1 => repeat (first | exact (Kd.R_reads' HO_6.o).2.2 | (with_reducible refine Kd.C_alloc ?_ _) | (with_reducible refine Kd.C_drewN ?_ _) | (with_reducible refine Kd.C_drew ?_))); (case side2 => exact (Kd.R_reads' HO_6.o).2.1); (case side3 => repeat (first | exact (Kd.R_reads' HO111.o).2.2 | (with_reducible refine Kd.C_alloc ?_ _) | (with_reducible refine Kd.C_drewN ?_ _) | (with_reducible refine Kd.C_drew ?_))); (case side4 => exact (Kd.R_reads' HO111.o).2.1); rintro e w24 ⟨v113, rfl, ho0, hb⟩; refine ⟨_, rfl, ?_⟩; have HO114 := q_ (Kd.R_lower (Kd.R_new' (Kd.R_new' ho0 (Kd.R_lt (ra_ HO_6.o))) (Kd.R_lt (ra_ HO111.o))) (below_size (be2_ HB.o GE101.o GE108.o))); replace HO_6 := q_ (Kd.R_elder' (ra_ HO_6.o) (Kd.R_base ho0) hb); replace HO111 := q_ (Kd.R_elder' (ra_ HO111.o) (Kd.R_base ho0) hb); replace BK101 := lb_ BK101 hb; replace BK108 := lb_ BK108 hb; replace HB := sb2_ HB GE101 GE108 hb; (try clear hb); (try clear ho0)))
         go_roundg k1
         case measure => have := HK1.o; omega
         case rel => exact ⟨(t112), (wrap64 (x21_1 + 1)), rs_, H', ⟨by have := HK1.o; omega⟩, ⟨by (with_reducible repeat (first | apply Kd.R_alloc | apply Kd.R_drewN | apply Kd.R_drew)); exact Kd.R_mono HO114.o (fun _ hk => trivial)⟩, ⟨bk_ BK101.o⟩, ⟨be2_ HB.o GE101.o GE108.o⟩⟩
        ·rw [if_neg c15] at H
         exact absurd H (by simp)
       ·rw [if_neg c14] at H
        exact absurd H (by simp)
      ·rw [if_neg c13] at H; have c13b0 := df_ c13; clear c13; obtain ⟨t115, A25, H⟩ := ob_ H
       simp only [Option.some.injEq, Prod.mk.injEq] at H
       obtain ⟨rfl, rfl⟩ := H; obtain ⟨Ao26, co26, eo26⟩ := Kd.R_slice HO_6.o; subst eo26
       go_wp2_with (first | ((with_reducible refine gate_callee (f := 32) rfl ?_); refine gl_ (some 32) rfl rfl Tryz.func32 #[.slice Ao26 x6_1.length co26] ?_; (with_reducible refine (impl_Span.calls _ _ x6_1 t115 _ ?side1 ?side2 A25.o).mono ?_); (case side1 => repeat (first | exact (Kd.R_reads' HO_6.o).2.2 | (with_reducible refine Kd.C_alloc ?_ _) | (with_reducible refine Kd.C_drewN ?_ _) | (with_reducible refine Kd.C_drew ?_))); (case side2 => exact (Kd.R_reads' HO_6.o).2.1); rintro e w27 ⟨v116, rfl, ho0, hb⟩; refine ⟨_, rfl, ?_⟩; have HO117 := q_ (Kd.R_lower (Kd.R_new' ho0 (Kd.R_lt (ra_ HO_6.o))) (below_size (be1_ HB.o GE101.o))); replace HO_6 := q_ (Kd.R_elder' (ra_ HO_6.o) (Kd.R_base ho0) hb); replace BK101 := lb_ BK101 hb; replace HB := sb1_ HB GE101 hb; (try clear hb); (try clear ho0)))
       go_ret2
       exact ⟨_, rt_, by (with_reducible repeat (first | apply Kd.R_alloc | apply Kd.R_drewN | apply Kd.R_drew)); exact Kd.R_mono HO117.o (fun _ hk => trivial), be1_ HB.o GE101.o⟩
   ·rw [if_neg c6] at H
    exact absurd H (by simp)
  ·rw [if_neg c5] at H
   exact absurd H (by simp)
 ·replace c4 := Bool.eq_false_iff.mpr c4; subst c4; rw [if_neg nft_] at H
  simp only [Option.some.injEq, Prod.mk.injEq] at H
  obtain ⟨rfl, rfl⟩ := H
  go_enter Tryz.func8, Tryz.ntmps8
  go_wp2_with (first | ((with_reducible refine gate_dst (N := 2) rfl ?_); refine bx_ 2 #[.slice A0_0 l0_0.length c0_0] 31 ?_; intro gb101 hg w28 hbox hb; have BK101 := q_ (hbox); have GE101 := ge_ hg HB; replace HB := sb_ HB hb; clear hb hbox hg; obtain ⟨hcz29_0, hfz29_0⟩ := d1_ BK101) | ((with_reducible refine gate_callee (f := 29) rfl ?_); refine gl_ (some 11) rfl rfl Tryz.func29 #[.agg #[.slice A0_0 l0_0.length c0_0], .int .i64 a1] ?_; (with_reducible refine (impl_isMode.calls _ _ l0_0 a1 false _ ?side1 ?side2 A3.o).mono ?_); (case side1 => exact Kd.C_below HR0_0.o (be_ HB.o)); (case side2 => exact HC0_0.o); rintro e w30 ⟨rfl, hb⟩; refine ⟨_, rfl, ?_⟩; replace BK101 := lb_ BK101 hb; replace HB := sb1_ HB GE101 hb; (try clear hb)))
  go_ret2
  exact ⟨_, rt_, by first | exact Kd.R_nil _ _ _ _ _ | exact Kd.N_nil _ _ _ _ _ | exact Kd.V_nil _ _ _ _ _ | exact Kd.Q_nil _ _ _ _ _ | exact Kd.S_nil _ _ _ _ _, be1_ HB.o GE101.o⟩
end Go.Proofs.YtijmhelacmjggaaGreat.P
namespace Go.Proofs.YtijmhelacmjggaaGreat.P
open Go.RowKit Go.Proofs.YtijmhelacmjggaaGreatW.PrintWords Go.Proofs.YtijmhelacmjggaaGreatW.PrintLast Go.Proofs.YtijmhelacmjggaaGreatEv
set_option linter.unusedVariables false
set_option linter.unusedSimpArgs false
theorem spec_l9Rxs_ev (g : List S62) (m : Int) (h0 : 0 ≤ m) (h1 : m < (g.length : Int)) (hl : (rd_T62 g m).f1.length ≤ 1048576) :
    Ev (fun k => spec_l9Rxs.f k g m) ((rd_T62 g m).f1.map fun r => r.f1) := by
  unfold spec_l9Rxs.f
  have key : ∀ i : Nat, i ≤ (rd_T62 g m).f1.length → Ev (fun k => spec_l9Rxs.l0 k m (((rd_T62 g m).f1.take i).map fun r => r.f1) (i : Int) g) ((rd_T62 g m).f1.map fun r => r.f1) := by
    refine down _ _ ?_ ?_
    · rw [ev_succ]
      simp only [spec_l9Rxs.l0, ev_ite]
      rw [if_pos h0, if_pos h1, if_neg (by omega), List.take_length]
      exact ev_some.2 rfl
    · intro i hi ih
      have e : (((rd_T62 g m).f1.take (i + 1)).map fun r => r.f1) = (((rd_T62 g m).f1.take i).map fun r => r.f1) ++ [(rd_T64 (rd_T62 g m).f1 (i : Int)).f1] := by
        rw [List.take_succ_eq_append_getElem hi, List.map_append]
        unfold rd_T64
        rw [Int.toNat_natCast, List.getD_eq_getElem?_getD, List.getElem?_eq_getElem hi]
        rfl
      rw [e] at ih
      have hlen : (((rd_T62 g m).f1.take i).map fun r => r.f1).length ≤ i := by rw [List.length_map]; exact List.length_take_le _ _
      rw [ev_succ]
      simp only [spec_l9Rxs.l0, ev_ite]
      rw [if_pos h0, if_pos h1, if_pos (by omega), if_pos (by omega), if_pos (by omega), wrap_succ hi (by omega)]
      exact ih
  exact key 0 (by omega)
theorem openers_both (g : List S62) (hg : smallG g) (m : Int) : ∃ (W : List S67) (b : Bool), W.length ≤ 128 ∧ Ev (fun k => impl_Openers.f k g m) (W, b) ∧ Ev (fun k => spec_Openers.f k g m) (W, b) := by
  have e1 := impl_isMode_eq g hg m
  have e2 := spec_l9Mode_ev g hg m
  cases hb : isModeB g m
  · rw [hb] at e1 e2
    refine ⟨[], false, by simp, ?_, ?_⟩
    · unfold impl_Openers.f
      simp only [e1, Option.bind_some, ev_ite]
      rw [if_neg (by simp)]
      exact ev_some.2 rfl
    · unfold spec_Openers.f
      simp only [Option.bind_some]
      rw [ev_bind e2, ev_ite, if_neg (by simp)]
      exact ev_some.2 rfl
  · rw [hb] at e1 e2
    obtain ⟨h0, h1⟩ := isMode_in hb
    have hm := hg.2 _ (rd_mode_mem' g m h0 h1)
    have hl := hm.2.1
    have hr := hm.2.2
    have f2 := spec_l9Rxs_ev g m h0 h1 hl
    generalize hrs : (rd_T62 g m).f1 = rs at *
    have key : ∀ i : Nat, i ≤ rs.length → ∀ acc : List S67, classB acc = true → ∃ W : List S67, classB W = true ∧ Ev (fun k => impl_Openers.l0 k acc rs (rs.length : Int) (i : Int)) (W, true) ∧ Ev (fun k => spec_Openers.l0 k acc (rs.map fun r => r.f1) (i : Int)) (W, true) := by
      refine down _ _ ?_ ?_
      · intro acc ha
        have := classB_few ha
        refine ⟨acc, ha, ?_, ?_⟩
        · rw [ev_succ]
          simp only [impl_Openers.l0, ev_ite]
          rw [if_neg (by omega)]
          unfold impl_Span.f
          rw [if_pos (by omega)]
          exact ev_some.2 rfl
        · rw [ev_succ]
          simp only [spec_Openers.l0, ev_ite, List.length_map]
          rw [if_neg (by omega)]
          exact ev_some.2 rfl
      · intro i hi ih acc ha
        have hx : rd_T64 rs (i : Int) ∈ rs := rd_rule_mem rs i hi
        have hs := hr _ hx
        obtain ⟨t, _, t1, t2⟩ := first_both (rd_T64 rs (i : Int)).f1.f0 hs.2.1 hs.2.2
        obtain ⟨W, hW, w1, w2⟩ := ih (joinI acc t) (joinI_right _ _)
        refine ⟨W, hW, ?_, ?_⟩
        · rw [ev_succ]
          simp only [impl_Openers.l0, ev_ite]
          rw [if_pos (by omega), if_pos (by omega), if_pos (by omega), ev_bind t1, wrap_succ hi (by omega)]
          have hj : ∀ k, (impl_Joined.f acc t).bind (fun t112 => impl_Openers.l0 k t112 rs (rs.length : Int) ((i + 1 : Nat) : Int)) = impl_Openers.l0 k (joinI acc t) rs (rs.length : Int) ((i + 1 : Nat) : Int) := fun k => rfl
          simp only [hj]
          exact w1
        · rw [ev_succ]
          simp only [spec_Openers.l0, ev_ite, List.length_map]
          have er : (rd_T58 (rs.map fun r => r.f1) (i : Int)) = (rd_T64 rs (i : Int)).f1 := by
            unfold rd_T58 rd_T64
            rw [Int.toNat_natCast, List.getD_eq_getElem?_getD, List.getD_eq_getElem?_getD, List.getElem?_map, List.getElem?_eq_getElem hi]
            rfl
          rw [if_pos (by omega), if_pos (by omega), er, ev_bind t2, ev_bind (spec_Joined_ev acc t), wrap_succ hi (by omega)]
          exact w2
    obtain ⟨W, hW, w1, w2⟩ := key 0 (by omega) [] rfl
    refine ⟨W, true, classB_few hW, ?_, ?_⟩
    · unfold impl_Openers.f
      simp only [e1, Option.bind_some, ev_ite]
      (try rw [if_pos rfl])
      rw [if_pos h0, if_pos h1, hrs]
      exact w1
    · unfold spec_Openers.f
      simp only [Option.bind_some]
      rw [ev_bind e2]
      (try rw [ev_ite, if_pos rfl])
      rw [ev_bind f2]
      exact w2
end Go.Proofs.YtijmhelacmjggaaGreat.P
namespace Go.Proofs.YtijmhelacmjggaaGreat.P
open Go.RowKit Go.Proofs.YtijmhelacmjggaaGreatW.PrintWords Go.Proofs.YtijmhelacmjggaaGreatW.PrintLast Go.Proofs.YtijmhelacmjggaaGreatW.PrintMore
attribute [local go_sem] max2_int min2_int max_two min_two max_three min_three max_four min_four
set_option linter.unusedVariables false
set_option linter.unusedSimpArgs false
/-! ### laws_markSpanS: function 12 -/
def laws_markSpanS.l0 : Nat → List (S67) → Int → Int → Option (Int × (List (S67)))
 | 0, _, _, _ => none
 | k + 1, x0, x1, x5 => if x5 < (x0.length : Int) then (if 0 ≤ x5 then ((some (x0.set (x5 : Int).toNat (⟨x1, (rd_T67 x0 x5).f1⟩ : S67) : List (S67))).bind fun y101 => (laws_markSpanS.l0 k (y101.set (x5 : Int).toNat (⟨(rd_T67 y101 x5).f0, wrap64 (x1 + 1)⟩ : S67)) (wrap64 ((wrap64 (x1 + 1)) + 1)) (wrap64 (x5 + 1)))) else (none)) else (some (x1, x0))
def laws_markSpanS.f (k : Nat) (l0 : List (S67)) (a1 : Int) : Option (Int × (List (S67))) := laws_markSpanS.l0 k l0 a1 0
theorem laws_markSpanS.calls (k : Nat) (P0_ : Nat → Prop) (u9000_ : Value) (l0 : List (S67)) (a1 : Int) (r1 : Int) (r2 : List (S67)) (w0 w : World) (hB : Below w0.heap.size w0 w) (ho0 : Kd.R k67 67 w w0.heap.size P0_ u9000_ l0) (h : laws_markSpanS.f k l0 a1 = some (r1, r2)) :
  Calls Tryz.prog 12 #[u9000_, .int .i64 a1] w fun e w' => e = .returned (.int .i64 r1) ∧ Kd.R k67 67 w' w0.heap.size (fun k_ => (P0_ k_ ∨ w.heap.size ≤ k_)) u9000_ r2 ∧ Below w0.heap.size w0 w' ∧ Kept w w' (fun k_ => P0_ k_) := by
 have HO0 := q_ (show Kd.R k67 67 w w0.heap.size (fun k_ => (P0_ k_ ∨ w.heap.size ≤ k_)) u9000_ l0 from Kd.R_mono ho0 (fun k_ hk => (.inl hk)))
 have HK := q_ (Kept.refl w (fun k_ => P0_ k_))
 have HW0 := q_ hB.size; have HB := q_ hB; clear hB
 have H : (laws_markSpanS.l0 k l0 a1 0) = some (r1, r2) := h
 clear h
 have H' := q_ H
 clear H
 go_enter Tryz.func12, Tryz.ntmps12
 go_wp2
 go_loopg [1, 5] k (fun kq v1 v5 w' => ∃ (x0_1 : List (S67)) (x1_1 : Int) (x5_1 : Int), v1 = .int .i64 x1_1 ∧ v5 = .int .i64 x5_1 ∧ J0 (laws_markSpanS.l0 kq x0_1 x1_1 x5_1 = some (r1, r2)) ∧ J0 (kq ≤ k) ∧ J0 (Kd.R k67 67 w' w0.heap.size (fun k_ => (P0_ k_ ∨ w.heap.size ≤ k_)) u9000_ x0_1) ∧ J0 (Kept w w' (fun k_ => P0_ k_)) ∧ J0 (Below w0.heap.size w0 w'))
 case atStart => exact ⟨(l0), (a1), (0), rs_, rs_, H', ⟨Nat.le_refl _⟩, ⟨ra_ HO0.o⟩, ⟨by repeat (first | (with_reducible first | exact HK.o | apply Kept.alloc | apply Kept.drewN | apply Kept.drew) | exact HK.o)⟩, ⟨be_ HB.o⟩⟩
 case round =>
  clear H'; obtain ⟨x0_1, x1_1, x5_1, rfl, rfl, HA, HK1, HO_0, HK, HB⟩ := hrel
  cases gk with
  | zero => exact absurd HA.o (by simp [laws_markSpanS.l0])
  | succ k1 =>
   have H := HA.o; clear HA
   simp only [laws_markSpanS.l0] at H
   by_cases c3 : x5_1 < (x0_1.length : Int)
   ·rw [if_pos c3] at H; have c3b0 := dt_ c3; clear c3
    by_cases c4 : 0 ≤ x5_1
    ·rw [if_pos c4] at H; have c4b0 := dt_ c4; clear c4
     obtain ⟨y101, hy101⟩ : ∃ y_ : List (S67), y_ = (x0_1.set (x5_1 : Int).toNat (⟨x1_1, (rd_T67 x0_1 x5_1).f1⟩ : S67)) := ⟨_, rfl⟩
     replace H : (laws_markSpanS.l0 k1 (y101.set (x5_1 : Int).toNat (⟨(rd_T67 y101 x5_1).f0, wrap64 (x1_1 + 1)⟩ : S67)) (wrap64 ((wrap64 (x1_1 + 1)) + 1)) (wrap64 (x5_1 + 1))) = some (r1, r2) := by first | (rw [hy101]; with_reducible exact H) | (have H2_ := (Option.bind_some _ _).symm.trans H; rw [hy101]; with_reducible exact H2_) | (have H2_ := (Option.bind_some _ _).symm.trans H; with_reducible exact H2_) | with_reducible exact H | (rw [hy101]; exact H) | exact H
     have Ny101 := q_ hy101; clear hy101
     obtain ⟨y102, hy102⟩ : ∃ y_ : List (S67), y_ = (y101.set (x5_1 : Int).toNat (⟨(rd_T67 y101 x5_1).f0, wrap64 (x1_1 + 1)⟩ : S67)) := ⟨_, rfl⟩
     replace H : (laws_markSpanS.l0 k1 y102 (wrap64 ((wrap64 (x1_1 + 1)) + 1)) (wrap64 (x5_1 + 1))) = some (r1, r2) := by first | (rw [hy102]; with_reducible exact H) | (have H2_ := (Option.bind_some _ _).symm.trans H; rw [hy102]; with_reducible exact H2_) | (have H2_ := (Option.bind_some _ _).symm.trans H; with_reducible exact H2_) | with_reducible exact H | (rw [hy102]; exact H) | exact H
     have Ny102 := q_ hy102; clear hy102
     have H' := q_ H
     clear H; obtain ⟨Ao7, co7, eo7⟩ := Kd.R_slice HO_0.o; subst eo7
     have p5 : 0 ≤ (x5_1 : Int) := of_decide_eq_true as_
     have q5 : (x5_1 : Int) < ((x0_1.length : Int) : Int) := of_decide_eq_true as_
     obtain ⟨go5, co5, eo5, gb5, gl5, cl5, HG5⟩ := Kd.R_form HO_0.o (by omega)
     (first | cases eo5 | (injection eo5 with ea_ en_ ec_; (first | subst ea_ | (injection ea_ with ea_; subst ea_)); subst ec_; clear en_))
     have GB5 := q_ gb5; have GG5 := q_ HG5; clear gb5 gl5 HG5
     have HMgo5 := q_ (show (P0_ go5 ∨ w.heap.size ≤ go5) from (HO_0.o.1 _ rfl))
     obtain ⟨ce5, hcl5, hM5, hcc5, hfr5⟩ := Kd.R_elem HO_0.o z67 (x5_1 : Int) p5 q5
     obtain rfl := k67_openM hM5
     have hx5_0 : wr.cell? ⟨go5, (x5_1 : Int).toNat * 2, none⟩ = some (.int .i64 ((rd_T67 x0_1 x5_1).f0)) := hcc5 0 _ rfl
     have hx5_1 : wr.cell? ⟨go5, (x5_1 : Int).toNat * 2 + 1, none⟩ = some (.int .i64 ((rd_T67 x0_1 x5_1).f1)) := hcc5 1 _ rfl
     have hf5_0 : wr.frozen? ⟨go5, (x5_1 : Int).toNat * 2, none⟩ = false := hfr5 0
     have hf5_1 : wr.frozen? ⟨go5, (x5_1 : Int).toNat * 2 + 1, none⟩ = false := hfr5 1
     clear hcl5 hcc5 hfr5 hM5; replace p5 := eq_true p5; replace q5 := eq_true q5
     have HX8 := q_ (show Kd.R k67 67 wr w0.heap.size (fun k_ => (P0_ k_ ∨ w.heap.size ≤ k_)) (.slice (some ⟨go5, 0, none⟩) x0_1.length co7) x0_1 from (ra_ HO_0.o))
     obtain ⟨ce8, hcl8, hM8, hcc8, hfr8⟩ := Kd.R_elem HX8.o z67 (x5_1 : Int) (of_decide_eq_true as_) (by have h_ : (x5_1 : Int) < ((x0_1.length : Int) : Int) := of_decide_eq_true as_; first | exact h_ | (have e_ := (Kd.R_reads' HO_0.o).1; omega) | simpa using h_)
     obtain rfl := k67_openM hM8
     have HP8 := Kd.R_seg HX8.o (x5_1 : Int) (of_decide_eq_true as_) (by have h_ : (x5_1 : Int) < ((x0_1.length : Int) : Int) := of_decide_eq_true as_; first | exact h_ | (have e_ := (Kd.R_reads' HO_0.o).1; omega) | simpa using h_) (seg := [.int .i64 x1_1]) (j := 0) hcl8 hcc8 (show 1 ≤ 2 from by decide) (x' := (⟨x1_1, (rd_T67 x0_1 x5_1).f1⟩ : S67)) (k67_mkM _ _ _ (⟨x1_1, (rd_T67 x0_1 x5_1).f1⟩ : S67) ) (fun _ hk => hk)
     have hx8_0 := hcc8 0 _ rfl
     (try simp only [show (k67).sz = 2 from rfl, Nat.mul_one, Nat.add_zero] at hx8_0)
     have hf8_0 := hfr8 0
     (try simp only [show (k67).sz = 2 from rfl, Nat.mul_one, Nat.add_zero] at hf8_0)
     clear hcl8 hcc8 hfr8 hM8
     go_wp2_with (first | ((with_reducible refine gate_store (t := 2) (p := 16) rfl ?_); refine store_event (t := 2) (p := 16) (v := ?vo_w9) (w1 := (wr.setCell ⟨go5, (x5_1 : Int).toNat * 2, none⟩ (.int .i64 x1_1))) ?hg ?ho ?hn ?hr ?_; (case ho => rfl); (case hg => rfl); (case hn => rfl); (case hr => first | (go_simp; done) | (go_simp; rfl)); intro w9 hw; have hg : wr.grownBy w9 (some go5) := (by rw [hw]; exact HP8.2); have hp_ : Kd.R k67 67 w9 w0.heap.size (fun k_ => (P0_ k_ ∨ w.heap.size ≤ k_)) (.slice (some ⟨go5, 0, none⟩) x0_1.length co7) y101 := (by rw [hw, Ny101.o]; exact HP8.1); clear HP8; replace HB := q_ ((by rw [hw]; exact below_set (HB.o) GB5.out : Below w0.heap.size w0 w9)); replace HK := q_ (Kept.of_grown (S := (fun k_ => P0_ k_)) hg (by repeat (first | (with_reducible first | exact HK.o | apply Kept.alloc | apply Kept.drewN | apply Kept.drew) | exact HK.o)) (fun k_ e_ => (HO_0.o.1 k_ e_))); replace HO_0 := q_ (hp_); clear hg hw hp_; have p6 : 0 ≤ (x5_1 : Int) := of_decide_eq_true as_; have q6 : (x5_1 : Int) < ((x0_1.length : Int) : Int) := of_decide_eq_true as_; obtain ⟨ce6, hcl6, hM6, hcc6, hfr6⟩ := Kd.R_elem HO_0.o z67 (x5_1 : Int) p6 q6; obtain rfl := k67_openM hM6; have hx6_0 : w9.cell? ⟨go5, (x5_1 : Int).toNat * 2, none⟩ = some (.int .i64 ((rd_T67 y101 x5_1).f0)) := hcc6 0 _ rfl; have hx6_1 : w9.cell? ⟨go5, (x5_1 : Int).toNat * 2 + 1, none⟩ = some (.int .i64 ((rd_T67 y101 x5_1).f1)) := hcc6 1 _ rfl; have hf6_0 : w9.frozen? ⟨go5, (x5_1 : Int).toNat * 2, none⟩ = false := hfr6 0; have hf6_1 : w9.frozen? ⟨go5, (x5_1 : Int).toNat * 2 + 1, none⟩ = false := hfr6 1; clear hcl6 hcc6 hfr6 hM6; replace p6 := eq_true p6; replace q6 := eq_true q6; have HX10 := q_ (show Kd.R k67 67 w9 w0.heap.size (fun k_ => (P0_ k_ ∨ w.heap.size ≤ k_)) (.slice (some ⟨go5, 0, none⟩) x0_1.length co7) y101 from (ra_ HO_0.o)); obtain ⟨ce10, hcl10, hM10, hcc10, hfr10⟩ := Kd.R_elem HX10.o z67 (x5_1 : Int) (of_decide_eq_true as_) (by have h_ : (x5_1 : Int) < ((x0_1.length : Int) : Int) := of_decide_eq_true as_; first | exact h_ | (have e_ := (Kd.R_reads' HO_0.o).1; omega) | simpa using h_); obtain rfl := k67_openM hM10; have HP10 := Kd.R_seg HX10.o (x5_1 : Int) (of_decide_eq_true as_) (by have h_ : (x5_1 : Int) < ((x0_1.length : Int) : Int) := of_decide_eq_true as_; first | exact h_ | (have e_ := (Kd.R_reads' HO_0.o).1; omega) | simpa using h_) (seg := [.int .i64 (wrap64 (x1_1 + 1))]) (j := 1) hcl10 hcc10 (show 2 ≤ 2 from by decide) (x' := (⟨(rd_T67 y101 x5_1).f0, wrap64 (x1_1 + 1)⟩ : S67)) (k67_mkM _ _ _ (⟨(rd_T67 y101 x5_1).f0, wrap64 (x1_1 + 1)⟩ : S67) ) (fun _ hk => hk); have hx10_1 := hcc10 1 _ rfl; (try simp only [show (k67).sz = 2 from rfl, Nat.mul_one, Nat.add_zero] at hx10_1); have hf10_1 := hfr10 1; (try simp only [show (k67).sz = 2 from rfl, Nat.mul_one, Nat.add_zero] at hf10_1); clear hcl10 hcc10 hfr10 hM10) | ((with_reducible refine gate_store (t := 2) (p := 23) rfl ?_); refine store_event (t := 2) (p := 23) (v := ?vo_w11) (w1 := (w9.setCell ⟨go5, (x5_1 : Int).toNat * 2 + 1, none⟩ (.int .i64 (wrap64 (x1_1 + 1))))) ?hg ?ho ?hn ?hr ?_; (case ho => rfl); (case hg => rfl); (case hn => rfl); (case hr => first | (go_simp; done) | (go_simp; rfl)); intro w11 hw; have hg : w9.grownBy w11 (some go5) := (by rw [hw]; exact HP10.2); have hp_ : Kd.R k67 67 w11 w0.heap.size (fun k_ => (P0_ k_ ∨ w.heap.size ≤ k_)) (.slice (some ⟨go5, 0, none⟩) x0_1.length co7) y102 := (by rw [hw, Ny102.o]; exact HP10.1); clear HP10; replace HB := q_ ((by rw [hw]; exact below_set (HB.o) GB5.out : Below w0.heap.size w0 w11)); replace HK := q_ (Kept.of_grown (S := (fun k_ => P0_ k_)) hg (by repeat (first | (with_reducible first | exact HK.o | apply Kept.alloc | apply Kept.drewN | apply Kept.drew) | exact HK.o)) (fun k_ e_ => (HO_0.o.1 k_ e_))); replace HO_0 := q_ (hp_); clear hg hw hp_))
     go_roundg k1
     case measure => have := HK1.o; omega
     case rel => exact ⟨(y102), (wrap64 ((wrap64 (x1_1 + 1)) + 1)), (wrap64 (x5_1 + 1)), rs_, rs_, H', ⟨by have := HK1.o; omega⟩, ⟨ra_ HO_0.o⟩, ⟨by repeat (first | (with_reducible first | exact HK.o | apply Kept.alloc | apply Kept.drewN | apply Kept.drew) | exact HK.o)⟩, ⟨be_ HB.o⟩⟩
    ·rw [if_neg c4] at H
     exact absurd H (by simp)
   ·rw [if_neg c3] at H; have c3b0 := df_ c3; clear c3
    simp only [Option.some.injEq, Prod.mk.injEq] at H
    obtain ⟨rfl, rfl⟩ := H; obtain ⟨Ao12, co12, eo12⟩ := Kd.R_slice HO_0.o; subst eo12
    go_wp2
    go_ret
    exact ⟨rt_, ra_ HO_0.o, be_ HB.o, by repeat (first | (with_reducible first | exact HK.o | apply Kept.alloc | apply Kept.drewN | apply Kept.drew) | exact HK.o)⟩
/-! ### laws_heldSpanS: function 13 -/
def laws_heldSpanS.l0 : Nat → List (S67) → Int → Int → Option (Int)
 | 0, _, _, _ => none
 | k + 1, x0, x1, x5 => if x5 < (x0.length : Int) then (if 0 ≤ x5 then (if ((rd_T67 x0 x5).f0) = x1 then (if ((rd_T67 x0 x5).f1) = (wrap64 (x1 + 1)) then (laws_heldSpanS.l0 k x0 (wrap64 ((wrap64 (x1 + 1)) + 1)) (wrap64 (x5 + 1))) else (some (-1))) else (some (-1))) else (none)) else (some x1)
def laws_heldSpanS.f (k : Nat) (l0 : List (S67)) (a1 : Int) : Option (Int) := laws_heldSpanS.l0 k l0 a1 0
theorem laws_heldSpanS.calls (k : Nat) (A0 : Option Addr) (c0 : Nat) (l0 : List (S67)) (a1 : Int) (r : Int) (w : World) (hr0 : Kd.C k67 w A0 l0.length l0) (hc0 : l0.length ≤ c0) (h : laws_heldSpanS.f k l0 a1 = some r) :
  Calls Tryz.prog 13 #[.slice A0 l0.length c0, .int .i64 a1] w fun e w' => e = .returned (.int .i64 r) ∧ Drawn0 w w' := by
 have HR0 := q_ hr0; have HC0 := q_ hc0; clear hr0 hc0
 have H : (laws_heldSpanS.l0 k l0 a1 0) = some r := h
 clear h
 have H' := q_ H
 clear H
 go_enter Tryz.func13, Tryz.ntmps13
 go_wp2
 go_loopg [1, 5] k (fun kq v1 v5 w' => ∃ (x1_1 : Int) (x5_1 : Int), v1 = .int .i64 x1_1 ∧ v5 = .int .i64 x5_1 ∧ J0 (laws_heldSpanS.l0 kq l0 x1_1 x5_1 = some r) ∧ J0 (kq ≤ k) ∧ Drawn0 w w')
 case atStart => exact ⟨(a1), (0), rs_, rs_, H', ⟨Nat.le_refl _⟩, by repeat (first | exact Drawn0.refl _ | apply Drawn0.step)⟩
 case round =>
  clear H'
  obtain ⟨x1_1, x5_1, rfl, rfl, HA, HK1, ⟨m1, rfl⟩⟩ := hrel
  cases gk with
  | zero => exact absurd HA.o (by simp [laws_heldSpanS.l0])
  | succ k1 =>
   have H := HA.o; clear HA
   simp only [laws_heldSpanS.l0] at H
   by_cases c3 : x5_1 < (l0.length : Int)
   ·rw [if_pos c3] at H; have c3b0 := dt_ c3; clear c3
    by_cases c4 : 0 ≤ x5_1
    ·rw [if_pos c4] at H; have c4b0 := dt_ c4; clear c4
     by_cases c5 : ((rd_T67 l0 x5_1).f0) = x1_1
     ·rw [if_pos c5] at H
      have c5b0 : (((rd_T67 l0 x5_1).f0) == x1_1) = true := beq_iff_eq.mpr c5
      have c5b1 : (((rd_T67 l0 x5_1).f0) != x1_1) = false := bne_eq_false_iff_eq.mpr c5
      clear c5
      by_cases c6 : ((rd_T67 l0 x5_1).f1) = (wrap64 (x1_1 + 1))
      ·rw [if_pos c6] at H
       have c6b0 : (((rd_T67 l0 x5_1).f1) == (wrap64 (x1_1 + 1))) = true := beq_iff_eq.mpr c6
       have c6b1 : (((rd_T67 l0 x5_1).f1) != (wrap64 (x1_1 + 1))) = false := bne_eq_false_iff_eq.mpr c6
       clear c6
       have H' := q_ H
       clear H
       have p101 : 0 ≤ (x5_1 : Int) := of_decide_eq_true as_
       have q101 : x5_1 < (l0.length : Int) := of_decide_eq_true as_
       obtain ⟨ad101, e101, hx101_0, hx101_1⟩ := at_T67 HR0.o x5_1 p101 q101
       cases e101
       replace p101 := eq_true p101; replace q101 := eq_true q101
       go_wp2
       go_roundg k1
       case measure => have := HK1.o; omega
       case rel => exact ⟨(wrap64 ((wrap64 (x1_1 + 1)) + 1)), (wrap64 (x5_1 + 1)), rs_, rs_, H', ⟨by have := HK1.o; omega⟩, by repeat (first | exact Drawn0.refl _ | apply Drawn0.step)⟩
      ·rw [if_neg c6] at H
       have c6b0 : (((rd_T67 l0 x5_1).f1) == (wrap64 (x1_1 + 1))) = false := beq_eq_false_iff_ne.mpr c6
       have c6b1 : (((rd_T67 l0 x5_1).f1) != (wrap64 (x1_1 + 1))) = true := bne_iff_ne.mpr c6
       obtain rfl := Option.some.inj H
       have p101 : 0 ≤ (x5_1 : Int) := of_decide_eq_true as_
       have q101 : x5_1 < (l0.length : Int) := of_decide_eq_true as_
       obtain ⟨ad101, e101, hx101_0, hx101_1⟩ := at_T67 HR0.o x5_1 p101 q101
       cases e101
       replace p101 := eq_true p101; replace q101 := eq_true q101
       go_wp2
       go_ret
       exact ⟨by first | rfl | (simp; done) | (simp [*]; done), by repeat (first | exact Drawn0.refl _ | apply Drawn0.step)⟩
     ·rw [if_neg c5] at H
      have c5b0 : (((rd_T67 l0 x5_1).f0) == x1_1) = false := beq_eq_false_iff_ne.mpr c5
      have c5b1 : (((rd_T67 l0 x5_1).f0) != x1_1) = true := bne_iff_ne.mpr c5
      obtain rfl := Option.some.inj H
      have p101 : 0 ≤ (x5_1 : Int) := of_decide_eq_true as_
      have q101 : x5_1 < (l0.length : Int) := of_decide_eq_true as_
      obtain ⟨ad101, e101, hx101_0, hx101_1⟩ := at_T67 HR0.o x5_1 p101 q101
      cases e101
      replace p101 := eq_true p101; replace q101 := eq_true q101
      go_wp2
      go_ret
      exact ⟨by first | rfl | (simp; done) | (simp [*]; done), by repeat (first | exact Drawn0.refl _ | apply Drawn0.step)⟩
    ·rw [if_neg c4] at H
     exact absurd H (by simp)
   ·rw [if_neg c3] at H; have c3b0 := df_ c3; clear c3; obtain rfl := Option.some.inj H
    go_wp2
    go_ret
    exact ⟨by first | rfl | (simp; done) | (simp [*]; done), by repeat (first | exact Drawn0.refl _ | apply Drawn0.step)⟩
end Go.Proofs.YtijmhelacmjggaaGreat.P
namespace Go.Proofs.YtijmhelacmjggaaGreat.P
open Go.RowKit Go.Proofs.YtijmhelacmjggaaGreatW.PrintWords Go.Proofs.YtijmhelacmjggaaGreatW.PrintLast Go.Proofs.YtijmhelacmjggaaGreatEv
set_option linter.unusedVariables false
set_option linter.unusedSimpArgs false
def mkSpan (a : Int) (j : Nat) : S67 := ⟨a + 2 * (j : Int), a + 2 * (j : Int) + 1⟩
theorem rd_T67_set (l : List S67) (i : Nat) (v : S67) (h : i < l.length) : rd_T67 (l.set i v) (i : Int) = v := by
  simp [rd_T67, h]
theorem laws_markSpanS_ev (l : List S67) (a : Int) (h0 : 0 ≤ a) (h1 : a + 2 * l.length ≤ 9000000000000000000) : Ev (fun k => laws_markSpanS.f k l a) (a + 2 * l.length, (List.range l.length).map (mkSpan a)) := by
  unfold laws_markSpanS.f
  have h := ev_loop l.length (fun k i => laws_markSpanS.l0 k (marked (mkSpan a) l i) (a + 2 * (i : Int)) (i : Nat)) (fun _ => (a + 2 * l.length, (List.range l.length).map (mkSpan a))) ?_ ?_ 0 (by omega)
  · simpa [marked] using h
  · rw [ev_succ]
    simp [laws_markSpanS.l0, ev_some, marked]
  · intro i hi ih
    rw [ev_succ]
    have hl : (marked (mkSpan a) l i).length = l.length := marked_length _ _ _ (by omega)
    simp only [laws_markSpanS.l0, Option.bind_some, ev_ite, hl, Int.toNat_natCast]
    rw [if_pos (by omega), if_pos (by omega)]
    simp only [rd_T67_set, List.length_set, hl, hi, List.set_set]
    rw [wrap_succ hi (by omega)]
    have e : ∀ x : Int, 0 ≤ x → x ≤ 9000000000000000100 → wrap64 (x + 1) = x + 1 := fun x hx hy => wrap_id (by omega) (by omega)
    rw [e _ (by omega) (by omega)]
    repeat rw [e _ (by omega) (by omega)]
    have hm := marked_set (mkSpan a) l i hi
    have ih' : Ev (fun k => laws_markSpanS.l0 k (marked (mkSpan a) l (i + 1)) (a + 2 * ((i + 1 : Nat) : Int)) ((i + 1 : Nat) : Int)) _ := ih
    rw [← hm, show a + 2 * ((i + 1 : Nat) : Int) = a + 2 * (i : Int) + 2 by omega] at ih'
    simpa [mkSpan, Int.add_assoc] using ih'
theorem laws_heldSpanS_ev (n : Nat) (a : Int) (h0 : 0 ≤ a) (h1 : a + 2 * n ≤ 9000000000000000000) : Ev (fun k => laws_heldSpanS.f k ((List.range n).map (mkSpan a)) a) (a + 2 * n) := by
  unfold laws_heldSpanS.f
  have h := ev_loop n (fun k i => laws_heldSpanS.l0 k ((List.range n).map (mkSpan a)) (a + 2 * (i : Int)) (i : Nat)) (fun _ => a + 2 * n) ?_ ?_ 0 (by omega)
  · simpa using h
  · rw [ev_succ]
    simp [laws_heldSpanS.l0, ev_some]
  · intro i hi ih
    rw [ev_succ]
    have hr : rd_T67 ((List.range n).map (mkSpan a)) (i : Int) = mkSpan a i := by simp [rd_T67, hi]
    have e : ∀ x : Int, 0 ≤ x → x ≤ 9000000000000000100 → wrap64 (x + 1) = x + 1 := fun x hx hy => wrap_id (by omega) (by omega)
    simp only [laws_heldSpanS.l0, ev_ite, hr, mkSpan, List.length_map, List.length_range]
    rw [if_pos (by omega), if_pos (by omega), wrap_succ hi (by omega)]
    repeat rw [e _ (by omega) (by omega)]
    have ih' : Ev (fun k => laws_heldSpanS.l0 k ((List.range n).map (mkSpan a)) (a + 2 * ((i + 1 : Nat) : Int)) ((i + 1 : Nat) : Int)) _ := ih
    rw [show a + 2 * ((i + 1 : Nat) : Int) = a + 2 * (i : Int) + 2 by omega] at ih'
    simpa [Int.add_assoc] using ih'
end Go.Proofs.YtijmhelacmjggaaGreat.P
namespace Go.Proofs.YtijmhelacmjggaaGreat.P
open Go.RowKit Go.Proofs.YtijmhelacmjggaaGreatW.PrintWords Go.Proofs.YtijmhelacmjggaaGreatW.PrintLast Go.Proofs.YtijmhelacmjggaaGreatW.PrintMore Go.Proofs.YtijmhelacmjggaaGreatEv
set_option linter.unusedVariables false
set_option linter.unusedSimpArgs false
def sk : Value → Value → Prop
  | .int k _, .int k' _ => k = k'
  | .string _, .string _ => True
  | .bool _, .bool _ => True
  | v, v' => v' = v
theorem sk_refl (v : Value) : sk v v := by
  cases v <;> simp [sk]
theorem sk_int {k : IntKind} {x : Int} {u : Value} (h : sk (.int k x) u) : ∃ y, u = .int k y := by
  cases u with
  | int k' y => simp [sk] at h; exact ⟨y, by rw [h]⟩
  | _ => simp [sk] at h
theorem sk_string {x : ByteArray} {u : Value} (h : sk (.string x) u) : ∃ y, u = .string y := by
  cases u with
  | string y => exact ⟨y, rfl⟩
  | _ => simp [sk] at h
theorem sk_bool {x : Bool} {u : Value} (h : sk (.bool x) u) : ∃ y, u = .bool y := by
  cases u with
  | bool y => exact ⟨y, rfl⟩
  | _ => simp [sk] at h
theorem sk_slice {A : Option Addr} {n c : Nat} {u : Value} (h : sk (.slice A n c) u) : u = .slice A n c := by
  cases u <;> exact h
theorem sk_trans {u v x : Value} (h : sk u v) (h2 : sk v x) : sk u x := by
  cases u with
  | int k a =>
    obtain ⟨b, rfl⟩ := sk_int h
    obtain ⟨c, rfl⟩ := sk_int h2
    simp [sk]
  | string a =>
    obtain ⟨b, rfl⟩ := sk_string h
    obtain ⟨c, rfl⟩ := sk_string h2
    simp [sk]
  | bool a =>
    obtain ⟨b, rfl⟩ := sk_bool h
    obtain ⟨c, rfl⟩ := sk_bool h2
    simp [sk]
  | _ =>
    have e : v = _ := h
    subst e
    exact h2
structure Like (w w' : World) : Prop where
  size : w.heap.size ≤ w'.heap.size
  block : ∀ (g : Nat) (cs : Array Value) (t : TypeId), w.heap[g]? = some (.cells cs t (0, 0)) → ∃ cs' : Array Value, w'.heap[g]? = some (.cells cs' t (0, 0)) ∧ cs'.size = cs.size ∧ ∀ (i : Nat) u, cs[i]? = some u → ∃ u', cs'[i]? = some u' ∧ sk u u'
theorem Like.refl (w : World) : Like w w := ⟨Nat.le_refl _, fun g cs t h => ⟨cs, h, rfl, fun i u hu => ⟨u, hu, sk_refl u⟩⟩⟩
theorem Like.trans {w w1 w2 : World} (h : Like w w1) (k : Like w1 w2) : Like w w2 := ⟨Nat.le_trans h.size k.size, fun g cs t hb => by
  obtain ⟨cs1, hb1, hs1, hc1⟩ := h.block g cs t hb
  obtain ⟨cs2, hb2, hs2, hc2⟩ := k.block g cs1 t hb1
  refine ⟨cs2, hb2, hs2.trans hs1, fun i u hu => ?_⟩
  obtain ⟨u1, hu1, k1⟩ := hc1 i u hu
  obtain ⟨u2, hu2, k2⟩ := hc2 i u1 hu1
  exact ⟨u2, hu2, sk_trans k1 k2⟩⟩
theorem Like.below {w w1 w2 : World} (h : Like w w1) (hb : Below w1.heap.size w1 w2) : Like w w2 := h.trans ⟨hb.size, fun g cs t hg => ⟨cs, blk_below hg hb, rfl, fun i u hu => ⟨u, hu, sk_refl u⟩⟩⟩
theorem Like.set {w w1 : World} (h : Like w w1) {g i : Nat} {t : TypeId} {cs : Array Value} {u u' : Value} (hg : w1.heap[g]? = some (.cells cs t (0, 0))) (hc : w1.cell? ⟨g, i, none⟩ = some u) (hs : sk u u') : Like w (w1.setCell ⟨g, i, none⟩ u') := h.trans ⟨by simp [World.setCell], fun b cs2 t2 hb => by
  by_cases e : b = g
  · subst e
    rw [hg] at hb
    injection hb with hb
    injection hb with e1 e2
    subst e1
    subst e2
    refine ⟨_, blk_set hg i u', by simp, fun j x hx => ?_⟩
    rw [blk_cell hg i] at hc
    by_cases e2 : i = j
    · subst e2
      have hu : x = u := by rw [hc] at hx; injection hx with hx; exact hx.symm
      have hi : i < cs.size := (Array.getElem?_eq_some_iff.1 hc).1
      exact ⟨u', by simp [Array.getElem?_setIfInBounds, hi], by rw [hu]; exact hs⟩
    · exact ⟨x, by rw [Array.getElem?_setIfInBounds_ne e2]; exact hx, sk_refl x⟩
  · exact ⟨cs2, blk_far hb e u', rfl, fun j x hx => ⟨x, hx, sk_refl x⟩⟩⟩
theorem Like.cell {w w1 : World} (h : Like w w1) {g i : Nat} {t : TypeId} {cs : Array Value} {u : Value} (hg : w.heap[g]? = some (.cells cs t (0, 0))) (hc : w.cell? ⟨g, i, none⟩ = some u) : ∃ u', w1.cell? ⟨g, i, none⟩ = some u' ∧ sk u u' ∧ w1.frozen? ⟨g, i, none⟩ = false ∧ ∃ cs', w1.heap[g]? = some (.cells cs' t (0, 0)) := by
  obtain ⟨cs', hb, _, hcc⟩ := h.block g cs t hg
  rw [blk_cell hg i] at hc
  obtain ⟨u', hu, k⟩ := hcc i u hc
  exact ⟨u', (blk_cell hb i).trans hu, k, blk_frozen hb i, cs', hb⟩
theorem like_int {w w1 : World} {g i : Nat} {t : TypeId} {cs : Array Value} {k : IntKind} {x : Int} (h : Like w w1) (hg : w.heap[g]? = some (.cells cs t (0, 0))) (hc : w.cell? ⟨g, i, none⟩ = some (.int k x)) : ∃ y, w1.cell? ⟨g, i, none⟩ = some (.int k y) ∧ w1.frozen? ⟨g, i, none⟩ = false := by
  obtain ⟨u, h1, h2, h3, _⟩ := h.cell hg hc
  obtain ⟨y, rfl⟩ := sk_int h2
  exact ⟨y, h1, h3⟩
theorem like_string {w w1 : World} {g i : Nat} {t : TypeId} {cs : Array Value} {x : ByteArray} (h : Like w w1) (hg : w.heap[g]? = some (.cells cs t (0, 0))) (hc : w.cell? ⟨g, i, none⟩ = some (.string x)) : ∃ y, w1.cell? ⟨g, i, none⟩ = some (.string y) ∧ w1.frozen? ⟨g, i, none⟩ = false := by
  obtain ⟨u, h1, h2, h3, _⟩ := h.cell hg hc
  obtain ⟨y, rfl⟩ := sk_string h2
  exact ⟨y, h1, h3⟩
theorem like_bool {w w1 : World} {g i : Nat} {t : TypeId} {cs : Array Value} {x : Bool} (h : Like w w1) (hg : w.heap[g]? = some (.cells cs t (0, 0))) (hc : w.cell? ⟨g, i, none⟩ = some (.bool x)) : ∃ y, w1.cell? ⟨g, i, none⟩ = some (.bool y) ∧ w1.frozen? ⟨g, i, none⟩ = false := by
  obtain ⟨u, h1, h2, h3, _⟩ := h.cell hg hc
  obtain ⟨y, rfl⟩ := sk_bool h2
  exact ⟨y, h1, h3⟩
theorem like_slice {w w1 : World} {g i : Nat} {t : TypeId} {cs : Array Value} {A : Option Addr} {n c : Nat} (h : Like w w1) (hg : w.heap[g]? = some (.cells cs t (0, 0))) (hc : w.cell? ⟨g, i, none⟩ = some (.slice A n c)) : w1.cell? ⟨g, i, none⟩ = some (.slice A n c) := by
  obtain ⟨u, h1, h2, _⟩ := h.cell hg hc
  rw [h1, sk_slice h2]
theorem Like.put_int {w w1 : World} {g i : Nat} {t : TypeId} {cs : Array Value} {k : IntKind} {x y : Int} (h : Like w w1) (hg : w.heap[g]? = some (.cells cs t (0, 0))) (hc : w.cell? ⟨g, i, none⟩ = some (.int k x)) : Like w (w1.setCell ⟨g, i, none⟩ (.int k y)) := by
  obtain ⟨u, h1, h2, h3, cs', h4⟩ := h.cell hg hc
  obtain ⟨z, rfl⟩ := sk_int h2
  exact h.set h4 h1 rfl
theorem Like.put_string {w w1 : World} {g i : Nat} {t : TypeId} {cs : Array Value} {x y : ByteArray} (h : Like w w1) (hg : w.heap[g]? = some (.cells cs t (0, 0))) (hc : w.cell? ⟨g, i, none⟩ = some (.string x)) : Like w (w1.setCell ⟨g, i, none⟩ (.string y)) := by
  obtain ⟨u, h1, h2, h3, cs', h4⟩ := h.cell hg hc
  obtain ⟨z, rfl⟩ := sk_string h2
  exact h.set h4 h1 trivial
theorem Like.put_bool {w w1 : World} {g i : Nat} {t : TypeId} {cs : Array Value} {x y : Bool} (h : Like w w1) (hg : w.heap[g]? = some (.cells cs t (0, 0))) (hc : w.cell? ⟨g, i, none⟩ = some (.bool x)) : Like w (w1.setCell ⟨g, i, none⟩ (.bool y)) := by
  obtain ⟨u, h1, h2, h3, cs', h4⟩ := h.cell hg hc
  obtain ⟨z, rfl⟩ := sk_bool h2
  exact h.set h4 h1 trivial
def sks (cs cs' : List Value) : Prop := cs'.length = cs.length ∧ ∀ (i : Nat) u, cs[i]? = some u → ∃ u', cs'[i]? = some u' ∧ sk u u'
theorem sks_one {u : Value} {cs' : List Value} (h : sks [u] cs') : ∃ u', cs' = [u'] ∧ sk u u' := by
  obtain ⟨h1, h2⟩ := h
  obtain ⟨u', h3, h4⟩ := h2 0 u rfl
  match cs', h1, h3 with
  | [x], _, h3 => exact ⟨x, rfl, by injection h3 with h3; rw [h3]; exact h4⟩
theorem sks_append {a b cs' : List Value} (h : sks (a ++ b) cs') : ∃ a' b', cs' = a' ++ b' ∧ sks a a' ∧ sks b b' := by
  obtain ⟨h1, h2⟩ := h
  rw [List.length_append] at h1
  refine ⟨cs'.take a.length, cs'.drop a.length, (List.take_append_drop _ _).symm, ⟨by rw [List.length_take]; omega, fun i u hu => ?_⟩, ⟨by rw [List.length_drop]; omega, fun i u hu => ?_⟩⟩
  · have hi : i < a.length := (List.getElem?_eq_some_iff.1 hu).1
    obtain ⟨u', h3, h4⟩ := h2 i u (by rw [List.getElem?_append_left hi]; exact hu)
    exact ⟨u', by rw [List.getElem?_take_of_lt hi]; exact h3, h4⟩
  · obtain ⟨u', h3, h4⟩ := h2 (a.length + i) u (by rw [List.getElem?_append_right (by omega)]; simpa using hu)
    exact ⟨u', by rw [List.getElem?_drop]; exact h3, h4⟩
def sumN {α : Type} (m : α → Nat) : List α → Nat
  | [] => 0
  | x :: xs => m x + sumN m xs
theorem sumN_len {α : Type} (m : α → Nat) (h : ∀ x, 1 ≤ m x) : ∀ l : List α, l.length ≤ sumN m l
  | [] => Nat.le_refl _
  | x :: xs => by have := sumN_len m h xs; have := h x; simp only [sumN, List.length_cons]; omega
theorem sumN_take {α : Type} (m : α → Nat) : ∀ (l : List α) (i : Nat) (h : i < l.length), sumN m (l.take (i + 1)) = sumN m (l.take i) + m l[i]
  | x :: xs, 0, _ => by simp [sumN]
  | x :: xs, i + 1, h => by
    simp only [List.take_succ_cons, sumN, List.getElem_cons_succ]
    rw [sumN_take m xs i (by simpa using h)]
    omega
theorem sumN_le {α : Type} (m : α → Nat) (l : List α) (i : Nat) : sumN m (l.take i) ≤ sumN m l := by
  induction l generalizing i with
  | nil => simp [sumN]
  | cons x xs ih =>
    cases i with
    | zero => simp [sumN]
    | succ i => simp only [List.take_succ_cons, sumN]; have := ih i; omega
theorem sumN_map {α : Type} (m : α → Nat) : ∀ l l' : List α, l'.map m = l.map m → sumN m l' = sumN m l
  | [], [], _ => rfl
  | x :: xs, [], h => by simp at h
  | [], x :: xs, h => by simp at h
  | x :: xs, y :: ys, h => by
    simp only [List.map_cons, List.cons.injEq] at h
    simp only [sumN, h.1, sumN_map m xs ys h.2]
def Keeps {α : Type} (d : Kd α) (m : α → Nat) : Prop := ∀ {w w' : World} {base : Nat} {ok : Nat → Prop} {x : α} {cs cs' : List Value}, Like w w' → d.M w base ok x cs → sks cs cs' → ∃ x', d.M w' base ok x' cs' ∧ m x' = m x
theorem like_list {α : Type} (P : Nat → α → Prop) : ∀ n : Nat, (∀ i, i < n → ∃ x, P i x) → ∃ l : List α, l.length = n ∧ ∀ i x, l[i]? = some x → P i x
  | 0, _ => ⟨[], rfl, fun i x h => by simp at h⟩
  | n + 1, h => by
    obtain ⟨l, hl, hp⟩ := like_list P n (fun i hi => h i (by omega))
    obtain ⟨x, hx⟩ := h n (by omega)
    refine ⟨l ++ [x], by simp [hl], fun i y hy => ?_⟩
    by_cases hi : i < n
    · rw [List.getElem?_append_left (by omega)] at hy
      exact hp i y hy
    · have hlt : i < (l ++ [x]).length := (List.getElem?_eq_some_iff.1 hy).1
      have e : i = n := by simp at hlt; omega
      subst e
      rw [List.getElem?_append_right (by omega), hl, Nat.sub_self] at hy
      injection hy with hy
      rw [← hy]
      exact hx
theorem R_like {α : Type} {d : Kd α} {m : α → Nat} (hd : Keeps d m) {e : Nat} {w w' : World} {base : Nat} {ok : Nat → Prop} {v : Value} {xs : List α} (h : d.R e w base ok v xs) (hl : Like w w') : ∃ xs', d.R e w' base ok v xs' ∧ xs'.map m = xs.map m := by
  obtain ⟨h0, inner, ⟨hi, ho⟩, hr⟩ := h
  rcases ho with ⟨rfl, hn⟩ | ⟨g, cap, cur, rfl, hg, hh, hnc, hcm, hcs, htk⟩
  · have : xs = [] := List.length_eq_zero_iff.1 hn
    subst this
    exact ⟨[], Kd.R_nil _ _ _ _ _, rfl⟩
  · obtain ⟨cur', hh', hs', hc'⟩ := hl.block g cur e hh
    have hsk : sks inner (cur'.toList.take (xs.length * d.sz)) := by
      rw [← htk]
      refine ⟨by simp [hs'], fun i u hu => ?_⟩
      have hlt : i < xs.length * d.sz := by
        have := (List.getElem?_eq_some_iff.1 hu).1
        rw [List.length_take] at this
        omega
      rw [List.getElem?_take_of_lt hlt] at hu ⊢
      obtain ⟨u', h1, h2⟩ := hc' i u (by simpa using hu)
      exact ⟨u', by simpa using h1, h2⟩
    have hx : ∀ i, i < xs.length → ∃ x', d.M w' base (fun k => ok k ∧ some k ≠ (Value.slice (some ⟨g, 0, none⟩) xs.length cap).ownBlock) x' (((cur'.toList.take (xs.length * d.sz)).drop (i * d.sz)).take d.sz) ∧ (∃ x, xs[i]? = some x ∧ m x' = m x) := by
      intro i hi2
      obtain ⟨x', h1, h2⟩ := hd hl (hr.2 i xs[i] (List.getElem?_eq_getElem hi2)) (cs' := ((cur'.toList.take (xs.length * d.sz)).drop (i * d.sz)).take d.sz) (by
        obtain ⟨s1, s2⟩ := hsk
        refine ⟨by simp only [List.length_take, List.length_drop] at s1 ⊢; omega, fun j u hu => ?_⟩
        have hj : j < d.sz := by
          have := (List.getElem?_eq_some_iff.1 hu).1
          rw [List.length_take] at this
          omega
        rw [List.getElem?_take_of_lt hj, List.getElem?_drop] at hu ⊢
        exact s2 _ u hu)
      exact ⟨x', h1, xs[i], List.getElem?_eq_getElem hi2, h2⟩
    obtain ⟨xs', hlen, hp⟩ := like_list _ xs.length hx
    refine ⟨xs', ⟨?_, cur'.toList.take (xs.length * d.sz), ⟨?_, .inr ⟨g, cap, cur', by rw [hlen], hg, hh', by rw [hlen]; exact hnc, hcm, by rw [hs', hcs], by rw [hlen]⟩⟩, ⟨?_, fun j p hj => (hp j p hj).1⟩⟩, ?_⟩
    · intro k hk
      exact h0 k hk
    · rw [hlen]
      exact hsk.1.trans hi
    · rw [hlen]
      exact hsk.1.trans hi
    · apply List.ext_getElem?
      intro i
      rw [List.getElem?_map, List.getElem?_map]
      by_cases hi2 : i < xs.length
      · obtain ⟨_, x, h1, h2⟩ := hp i xs'[i] (List.getElem?_eq_getElem (by omega))
        rw [List.getElem?_eq_getElem (by omega : i < xs'.length), h1]
        simp [h2]
      · rw [List.getElem?_eq_none (by omega), List.getElem?_eq_none (by omega)]
theorem keeps_int (k : IntKind) : Keeps (Kd.int k) (fun _ => 1) := by
  intro w w' base ok x cs cs' hl hM hs
  have e : cs = [.int k x] := hM
  subst e
  obtain ⟨u, rfl, hu⟩ := sks_one hs
  obtain ⟨y, rfl⟩ := sk_int hu
  exact ⟨y, rfl, rfl⟩
theorem keeps_string : Keeps Kd.string (fun _ => 1) := by
  intro w w' base ok x cs cs' hl hM hs
  have e : cs = [.string x] := hM
  subst e
  obtain ⟨u, rfl, hu⟩ := sks_one hs
  obtain ⟨y, rfl⟩ := sk_string hu
  exact ⟨y, rfl, rfl⟩
theorem keeps_bool : Keeps Kd.bool (fun _ => 1) := by
  intro w w' base ok x cs cs' hl hM hs
  have e : cs = [.bool x] := hM
  subst e
  obtain ⟨u, rfl, hu⟩ := sks_one hs
  obtain ⟨y, rfl⟩ := sk_bool hu
  exact ⟨y, rfl, rfl⟩
theorem keeps_pair {α β : Type} {a : Kd α} {b : Kd β} {m : α → Nat} {n : β → Nat} (ha : Keeps a m) (hb : Keeps b n) : Keeps (Kd.pair a b) (fun x => m x.1 + n x.2) := by
  intro w w' base ok x cs cs' hl hM hs
  obtain ⟨c0, c1, rfl, h0, h1⟩ := hM
  obtain ⟨a', b', rfl, s0, s1⟩ := sks_append hs
  obtain ⟨x0, k0, e0⟩ := ha hl h0 s0
  obtain ⟨x1, k1, e1⟩ := hb hl h1 s1
  exact ⟨(x0, x1), ⟨a', b', rfl, k0, k1⟩, by simp only [e0, e1]⟩
theorem keeps_slice {α : Type} {d : Kd α} {m : α → Nat} (hd : Keeps d m) (e : Nat) : Keeps (Kd.slice e d) (sumN m) := by
  intro w w' base ok x cs cs' hl hM hs
  obtain ⟨v, rfl, h⟩ := hM
  obtain ⟨u, rfl, hu⟩ := sks_one hs
  obtain ⟨A, c, rfl⟩ := Kd.R_slice h
  have e2 := sk_slice hu
  subst e2
  obtain ⟨xs', h1, h2⟩ := R_like hd h hl
  exact ⟨xs', ⟨_, rfl, h1⟩, sumN_map m _ _ h2⟩
theorem keeps_iso {α β : Type} {d : Kd α} {m : α → Nat} (hd : Keeps d m) (f : β → α) (g : α → β) (hfg : ∀ y, f (g y) = y) : Keeps (Kd.iso d f) (fun x => m (f x)) := by
  intro w w' base ok x cs cs' hl hM hs
  obtain ⟨y, h1, h2⟩ := hd hl (show d.M w base ok (f x) cs from hM) hs
  exact ⟨g y, show d.M w' base ok (f (g y)) cs' by rw [hfg]; exact h1, by show m (f (g y)) = m (f x); rw [hfg]; exact h2⟩
theorem R_at {α : Type} {d : Kd α} {e : Nat} {w : World} {base : Nat} {ok : Nat → Prop} {g n c : Nat} {xs : List α} (h : d.R e w base ok (.slice (some ⟨g, 0, none⟩) n c) xs) (i : Nat) (hi : i < xs.length) : ∃ cs, ∃ cur : Array Value, d.M w base ok xs[i] cs ∧ (∀ (j : Nat) u, cs[j]? = some u → w.cell? ⟨g, i * d.sz + j, none⟩ = some u) ∧ w.heap[g]? = some (.cells cur e (0, 0)) ∧ ok g ∧ base ≤ g := by
  obtain ⟨h0, inner, ⟨hl, ho⟩, hr⟩ := h
  rcases ho with ⟨he, _⟩ | ⟨g2, cap, cur, he, hg, hh, hnc, hcm, hcs, htk⟩
  · exact absurd he (by simp)
  · injection he with e1 e2 e3
    injection e1 with e1
    injection e1 with e1
    subst e1
    refine ⟨_, cur, d.M_mono (fun _ hk => hk.1) (hr.2 i xs[i] (List.getElem?_eq_getElem hi)), fun j u hu => ?_, hh, h0 g (by simp [Value.ownBlock]), hg⟩
    rw [blk_cell hh, ← Array.getElem?_toList]
    have hj : j < d.sz := by
      have := (List.getElem?_eq_some_iff.1 hu).1
      rw [List.length_take] at this
      omega
    rw [List.getElem?_take_of_lt hj, List.getElem?_drop, ← htk] at hu
    have hlt := (List.getElem?_eq_some_iff.1 hu).1
    rw [List.length_take] at hlt
    rw [List.getElem?_take_of_lt (by omega)] at hu
    exact hu
end Go.Proofs.YtijmhelacmjggaaGreat.P
namespace Go.Proofs.YtijmhelacmjggaaGreat.P
set_option linter.unusedVariables false
set_option linter.unusedSimpArgs false
open Go.RowKit Go.Proofs.YtijmhelacmjggaaGreatW.PrintWords Go.Proofs.YtijmhelacmjggaaGreatW.PrintLast Go.Proofs.YtijmhelacmjggaaGreatW.PrintMore Go.Proofs.YtijmhelacmjggaaGreatEv
def nm_Span (x : S67) : Nat := 1 + 1
theorem one_Span (x : S67) : 1 ≤ nm_Span x := by
  unfold nm_Span
  omega
theorem keeps_Span : Keeps k67 nm_Span := keeps_iso (keeps_pair (keeps_int _) (keeps_int _)) _ (fun y => ⟨y.1, y.2⟩) (fun _ => rfl)
theorem markSpanS_walk (P_ : Nat → Prop) (u : Value) (l0 : List S67) (a1 : Int) (n : Nat) (hn : sumN nm_Span l0 = n) (h0 : 0 ≤ a1) (h1 : a1 + n ≤ 9000000000000000000) (w0 w : World) (hB : Below w0.heap.size w0 w) (ho0 : Kd.R k67 67 w w0.heap.size P_ u l0) :
    Calls Tryz.prog 12 #[u, .int .i64 a1] w fun e w' => e = .returned (.int .i64 (a1 + n)) ∧ Like w w' ∧ Below w0.heap.size w0 w' ∧ Kept w w' P_ := by
  have hlen := sumN_len nm_Span one_Span l0
  obtain ⟨A, c, rfl⟩ := Kd.R_slice ho0
  have HO := q_ ho0
  have HB := q_ hB
  clear ho0 hB
  go_enter Tryz.func12, Tryz.ntmps12
  go_wp2
  go_loopg [1, 5] l0.length (fun gg v1 v5 w' => ∃ kk : Nat, kk ≤ l0.length ∧ l0.length - kk ≤ gg ∧ v1 = .int .i64 (a1 + (sumN nm_Span (l0.take kk) : Nat)) ∧ v5 = .int .i64 kk ∧ J0 (Like w w') ∧ J0 (Below w0.heap.size w0 w') ∧ J0 (Kept w w' P_))
  case atStart => exact ⟨0, Nat.zero_le _, by omega, by simp [sumN], rfl, ⟨Like.refl _⟩, HB, ⟨Kept.refl _ _⟩⟩
  case round =>
    obtain ⟨kk, hkk, hg, rfl, rfl, HW, HB2, HK⟩ := hrel
    clear HB
    by_cases hlt : kk < l0.length
    · have hltz : (kk : Int) < (l0.length : Int) := by omega
      obtain ⟨ls, hR, hm⟩ := R_like keeps_Span HO.o HW.o
      have hlen2 : ls.length = l0.length := by simpa using congrArg List.length hm
      obtain ⟨g, cap, hv, hgw, _, _⟩ := Kd.R_form hR (by omega)
      have hA : A = some ⟨g, 0, none⟩ := by injection hv
      subst hA
      obtain ⟨cs, cur, hM, hcc, hG, hP, _⟩ := R_at hR kk (by omega)
      have hmk : nm_Span ls[kk] = nm_Span l0[kk] := by
        have := congrArg (fun q => q[kk]?) hm
        simp only [List.getElem?_map] at this
        rw [List.getElem?_eq_getElem (by omega), List.getElem?_eq_getElem hlt] at this
        simpa using this
      have hcnt := sumN_take nm_Span l0 kk hlt
      have hcle := sumN_le nm_Span l0 (kk + 1)
      rw [← hmk] at hcnt
      obtain ⟨x, hxe⟩ : ∃ x, x = ls[kk] := ⟨_, rfl⟩
      rw [← hxe] at hM hcnt
      clear hxe hmk
      obtain rfl := k67_openM hM
      have hx0 : wr.cell? ⟨g, kk * 2, none⟩ = some (.int .i64 x.f0) := hcc 0 _ rfl
      have hx1 : wr.cell? ⟨g, kk * 2 + 1, none⟩ = some (.int .i64 x.f1) := hcc 1 _ rfl
      have X0 := q_ hx0
      have X1 := q_ hx1
      have HG := q_ hG
      have HP := q_ hP
      have HL := q_ (Like.refl wr)
      obtain ⟨K, hK⟩ : ∃ K : Int, a1 + (sumN nm_Span (l0.take kk) : Nat) = K := ⟨_, rfl⟩
      have hmx : nm_Span x = 1 + 1 := rfl
      rw [hmx] at hcnt
      clear hmx
      have hK0 : 0 ≤ K := by omega
      have hK1 : K + 1 + 1 = a1 + (sumN nm_Span (l0.take (kk + 1)) : Nat) := by omega
      have hK2 : K + 1 + 1 ≤ 9000000000000000000 := by omega
      rw [hK]
      clear hcc hM hG hP hv hm hR hcnt hcle hx0 hx1
      have qw0 : IntKind.i64.wrap (K + 1) = K + 1 := by rw [i64_w]; exact wrap_id (by omega) (by omega)
      have qw1 : IntKind.i64.wrap (K + 1 + 1) = K + 1 + 1 := by rw [i64_w]; exact wrap_id (by omega) (by omega)
      have T1 : J0 True := ⟨trivial⟩
      have T2 : J0 True := ⟨trivial⟩
      obtain ⟨y0, hc0, hf0⟩ := like_int HL.o HG.o X0.o
      go_wp2_with (first | ((with_reducible refine gate_store (t := 2) (p := 16) rfl ?_); clear T1; refine store_event (t := 2) (p := 16) (v := ?vo_w10) (w1 := (wr.setCell ⟨g, kk * 2, none⟩ (.int .i64 (K)))) ?hg ?ho ?hn ?hr ?_; (case ho => rfl); (case hg => rfl); (case hn => rfl); (case hr => first | (go_simp; done) | (go_simp; rfl)); intro w10 hw; replace HL := q_ (show Like wr w10 from (by rw [hw]; exact Like.put_int HL.o HG.o X0.o)); replace HB2 := q_ (show Below w0.heap.size w0 w10 from (by rw [hw]; exact below_set HB2.o hgw)); replace HK := q_ (show Kept w w10 P_ from (by rw [hw]; exact Kept.setCell HK.o (.inl HP.out) _)); clear hw hc0 hf0; obtain ⟨y1, hc1, hf1⟩ := like_int HL.o HG.o X1.o) | ((with_reducible refine gate_store (t := 2) (p := 23) rfl ?_); clear T2; refine store_event (t := 2) (p := 23) (v := ?vo_w11) (w1 := (w10.setCell ⟨g, kk * 2 + 1, none⟩ (.int .i64 (K + 1)))) ?hg ?ho ?hn ?hr ?_; (case ho => rfl); (case hg => rfl); (case hn => rfl); (case hr => first | (go_simp; done) | (go_simp; rfl)); intro w11 hw; replace HL := q_ (show Like wr w11 from (by rw [hw]; exact Like.put_int HL.o HG.o X1.o)); replace HB2 := q_ (show Below w0.heap.size w0 w11 from (by rw [hw]; exact below_set HB2.o hgw)); replace HK := q_ (show Kept w w11 P_ from (by rw [hw]; exact Kept.setCell HK.o (.inl HP.out) _)); clear hw hc1 hf1))
      go_roundg (l0.length - (kk + 1))
      case measure => omega
      case rel => exact ⟨kk + 1, by omega, by omega, by (first | (congr 1; omega) | (congr 1; done) | (congr 2; omega)), by go_num, ⟨HW.o.trans HL.o⟩, ⟨HB2.o⟩, ⟨HK.o⟩⟩
    · have hltz : ¬ (kk : Int) < (l0.length : Int) := by omega
      have hk : kk = l0.length := by omega
      subst hk
      rw [List.take_length, hn]
      go_wp2
      go_ret
      exact ⟨rfl, HW.o, HB2.o, HK.o⟩
theorem markInt64S_walk (P_ : Nat → Prop) (u : Value) (l0 : List Int) (a1 : Int) (n : Nat) (hn : sumN (fun _ => 1) l0 = n) (h0 : 0 ≤ a1) (h1 : a1 + n ≤ 9000000000000000000) (w0 w : World) (hB : Below w0.heap.size w0 w) (ho0 : Kd.R (Kd.int .i64) 2 w w0.heap.size P_ u l0) :
    Calls Tryz.prog 106 #[u, .int .i64 a1] w fun e w' => e = .returned (.int .i64 (a1 + n)) ∧ Like w w' ∧ Below w0.heap.size w0 w' ∧ Kept w w' P_ := by
  have hlen := sumN_len (fun _ => 1) (fun _ => Nat.le_refl _) l0
  obtain ⟨A, c, rfl⟩ := Kd.R_slice ho0
  have HO := q_ ho0
  have HB := q_ hB
  clear ho0 hB
  go_enter Tryz.func106, Tryz.ntmps106
  go_wp2
  go_loopg [1, 5] l0.length (fun gg v1 v5 w' => ∃ kk : Nat, kk ≤ l0.length ∧ l0.length - kk ≤ gg ∧ v1 = .int .i64 (a1 + (sumN (fun _ => 1) (l0.take kk) : Nat)) ∧ v5 = .int .i64 kk ∧ J0 (Like w w') ∧ J0 (Below w0.heap.size w0 w') ∧ J0 (Kept w w' P_))
  case atStart => exact ⟨0, Nat.zero_le _, by omega, by simp [sumN], rfl, ⟨Like.refl _⟩, HB, ⟨Kept.refl _ _⟩⟩
  case round =>
    obtain ⟨kk, hkk, hg, rfl, rfl, HW, HB2, HK⟩ := hrel
    clear HB
    by_cases hlt : kk < l0.length
    · have hltz : (kk : Int) < (l0.length : Int) := by omega
      obtain ⟨ls, hR, hm⟩ := R_like (keeps_int .i64) HO.o HW.o
      have hlen2 : ls.length = l0.length := by simpa using congrArg List.length hm
      obtain ⟨g, cap, hv, hgw, _, _⟩ := Kd.R_form hR (by omega)
      have hA : A = some ⟨g, 0, none⟩ := by injection hv
      subst hA
      obtain ⟨cs, cur, hM, hcc, hG, hP, _⟩ := R_at hR kk (by omega)
      have hcnt := sumN_take (fun _ => 1) l0 kk hlt
      have hcle := sumN_le (fun _ => 1) l0 (kk + 1)
      obtain ⟨x, hxe⟩ : ∃ x, x = ls[kk] := ⟨_, rfl⟩
      rw [← hxe] at hM
      clear hxe
      have hM : cs = [.int .i64 x] := hM
      subst hM
      have hx0 := hcc 0 _ rfl
      rw [show kk * (Kd.int .i64).sz + 0 = kk from Nat.mul_one kk] at hx0
      have X0 := q_ hx0
      have HG := q_ hG
      have HP := q_ hP
      have HL := q_ (Like.refl wr)
      obtain ⟨K, hK⟩ : ∃ K : Int, a1 + (sumN (fun _ => 1) (l0.take kk) : Nat) = K := ⟨_, rfl⟩
      have hK0 : 0 ≤ K := by omega
      have hK1 : K + 1 = a1 + (sumN (fun _ => 1) (l0.take (kk + 1)) : Nat) := by omega
      have hK2 : K + 1 ≤ 9000000000000000000 := by omega
      rw [hK]
      clear hcc hG hP hv hm hR hcnt hcle hx0
      have qw0 : IntKind.i64.wrap (K + 1) = K + 1 := by rw [i64_w]; exact wrap_id (by omega) (by omega)
      have T1 : J0 True := ⟨trivial⟩
      obtain ⟨y0, hc0, hf0⟩ := like_int HL.o HG.o X0.o
      go_wp2_with ((with_reducible refine gate_store (t := 2) (p := 15) rfl ?_); clear T1; refine store_event (t := 2) (p := 15) (v := ?vo_w10) (w1 := (wr.setCell ⟨g, kk, none⟩ (.int .i64 (K)))) ?hg ?ho ?hn ?hr ?_; (case ho => rfl); (case hg => rfl); (case hn => rfl); (case hr => first | (go_simp; done) | (go_simp; rfl)); intro w10 hw; replace HL := q_ (show Like wr w10 from (by rw [hw]; exact Like.put_int HL.o HG.o X0.o)); replace HB2 := q_ (show Below w0.heap.size w0 w10 from (by rw [hw]; exact below_set HB2.o hgw)); replace HK := q_ (show Kept w w10 P_ from (by rw [hw]; exact Kept.setCell HK.o (.inl HP.out) _)); clear hw hc0 hf0)
      go_roundg (l0.length - (kk + 1))
      case measure => omega
      case rel => exact ⟨kk + 1, by omega, by omega, by (first | (congr 1; omega) | (congr 1; done) | (congr 2; omega)), by go_num, ⟨HW.o.trans HL.o⟩, ⟨HB2.o⟩, ⟨HK.o⟩⟩
    · have hltz : ¬ (kk : Int) < (l0.length : Int) := by omega
      have hk : kk = l0.length := by omega
      subst hk
      rw [List.take_length, hn]
      go_wp2
      go_ret
      exact ⟨rfl, HW.o, HB2.o, HK.o⟩
def nm_RNode (x : S121) : Nat := 1 + (sumN nm_Span x.f1 + (sumN (fun _ => 1) x.f2 + (1 + 1)))
theorem one_RNode (x : S121) : 1 ≤ nm_RNode x := by
  unfold nm_RNode
  omega
theorem keeps_RNode : Keeps k121 nm_RNode := keeps_iso (keeps_pair (keeps_int _) (keeps_pair (keeps_slice keeps_Span _) (keeps_pair (keeps_slice (keeps_int .i64) _) (keeps_pair (keeps_int _) (keeps_int _))))) _ (fun y => ⟨y.1, y.2.1, y.2.2.1, y.2.2.2.1, y.2.2.2.2⟩) (fun _ => rfl)
theorem markRNodeS_walk (P_ : Nat → Prop) (u : Value) (l0 : List S121) (a1 : Int) (n : Nat) (hn : sumN nm_RNode l0 = n) (h0 : 0 ≤ a1) (h1 : a1 + n ≤ 9000000000000000000) (w0 w : World) (hB : Below w0.heap.size w0 w) (ho0 : Kd.R k121 121 w w0.heap.size P_ u l0) :
    Calls Tryz.prog 89 #[u, .int .i64 a1] w fun e w' => e = .returned (.int .i64 (a1 + n)) ∧ Like w w' ∧ Below w0.heap.size w0 w' ∧ Kept w w' P_ := by
  have hlen := sumN_len nm_RNode one_RNode l0
  obtain ⟨A, c, rfl⟩ := Kd.R_slice ho0
  have HO := q_ ho0
  have HB := q_ hB
  clear ho0 hB
  go_enter Tryz.func89, Tryz.ntmps89
  go_wp2
  go_loopg [1, 5] l0.length (fun gg v1 v5 w' => ∃ kk : Nat, kk ≤ l0.length ∧ l0.length - kk ≤ gg ∧ v1 = .int .i64 (a1 + (sumN nm_RNode (l0.take kk) : Nat)) ∧ v5 = .int .i64 kk ∧ J0 (Like w w') ∧ J0 (Below w0.heap.size w0 w') ∧ J0 (Kept w w' P_))
  case atStart => exact ⟨0, Nat.zero_le _, by omega, by simp [sumN], rfl, ⟨Like.refl _⟩, HB, ⟨Kept.refl _ _⟩⟩
  case round =>
    obtain ⟨kk, hkk, hg, rfl, rfl, HW, HB2, HK⟩ := hrel
    clear HB
    by_cases hlt : kk < l0.length
    · have hltz : (kk : Int) < (l0.length : Int) := by omega
      obtain ⟨ls, hR, hm⟩ := R_like keeps_RNode HO.o HW.o
      have hlen2 : ls.length = l0.length := by simpa using congrArg List.length hm
      obtain ⟨g, cap, hv, hgw, _, _⟩ := Kd.R_form hR (by omega)
      have hA : A = some ⟨g, 0, none⟩ := by injection hv
      subst hA
      obtain ⟨cs, cur, hM, hcc, hG, hP, _⟩ := R_at hR kk (by omega)
      have hmk : nm_RNode ls[kk] = nm_RNode l0[kk] := by
        have := congrArg (fun q => q[kk]?) hm
        simp only [List.getElem?_map] at this
        rw [List.getElem?_eq_getElem (by omega), List.getElem?_eq_getElem hlt] at this
        simpa using this
      have hcnt := sumN_take nm_RNode l0 kk hlt
      have hcle := sumN_le nm_RNode l0 (kk + 1)
      rw [← hmk] at hcnt
      obtain ⟨x, hxe⟩ : ∃ x, x = ls[kk] := ⟨_, rfl⟩
      rw [← hxe] at hM hcnt
      clear hxe hmk
      obtain ⟨v1, v2, rfl, hR1, hR2⟩ := k121_openM hM
      obtain ⟨A1, c1, rfl⟩ := Kd.R_slice hR1
      obtain ⟨A2, c2, rfl⟩ := Kd.R_slice hR2
      have hx0 : wr.cell? ⟨g, kk * 5, none⟩ = some (.int .i64 x.f0) := hcc 0 _ rfl
      have hx1 : wr.cell? ⟨g, kk * 5 + 1, none⟩ = some (.slice A1 x.f1.length c1) := hcc 1 _ rfl
      have hx2 : wr.cell? ⟨g, kk * 5 + 2, none⟩ = some (.slice A2 x.f2.length c2) := hcc 2 _ rfl
      have hx3 : wr.cell? ⟨g, kk * 5 + 3, none⟩ = some (.int .i64 x.f3) := hcc 3 _ rfl
      have hx4 : wr.cell? ⟨g, kk * 5 + 4, none⟩ = some (.int .i64 x.f4) := hcc 4 _ rfl
      have X0 := q_ hx0
      have X1 := q_ hx1
      have X2 := q_ hx2
      have X3 := q_ hx3
      have X4 := q_ hx4
      have HR1 := q_ hR1
      obtain ⟨n1, hn1⟩ : ∃ n_ : Nat, sumN nm_Span x.f1 = n_ := ⟨_, rfl⟩
      have HR2 := q_ hR2
      obtain ⟨n2, hn2⟩ : ∃ n_ : Nat, sumN (fun _ => 1) x.f2 = n_ := ⟨_, rfl⟩
      have HG := q_ hG
      have HP := q_ hP
      have HL := q_ (Like.refl wr)
      obtain ⟨K, hK⟩ : ∃ K : Int, a1 + (sumN nm_RNode (l0.take kk) : Nat) = K := ⟨_, rfl⟩
      have hmx : nm_RNode x = 1 + (sumN nm_Span x.f1 + (sumN (fun _ => 1) x.f2 + (1 + 1))) := rfl
      rw [hmx] at hcnt
      clear hmx
      rw [hn1, hn2] at hcnt
      have hK0 : 0 ≤ K := by omega
      have hK1 : K + 1 + (n1 : Int) + (n2 : Int) + 1 + 1 = a1 + (sumN nm_RNode (l0.take (kk + 1)) : Nat) := by omega
      have hK2 : K + 1 + (n1 : Int) + (n2 : Int) + 1 + 1 ≤ 9000000000000000000 := by omega
      rw [hK]
      clear hcc hM hG hP hv hm hR hcnt hcle hx0 hx1 hx2 hx3 hx4 hR1 hR2
      have qw0 : IntKind.i64.wrap (K + 1) = K + 1 := by rw [i64_w]; exact wrap_id (by omega) (by omega)
      have qw3 : IntKind.i64.wrap (K + 1 + (n1 : Int) + (n2 : Int) + 1) = K + 1 + (n1 : Int) + (n2 : Int) + 1 := by rw [i64_w]; exact wrap_id (by omega) (by omega)
      have qw4 : IntKind.i64.wrap (K + 1 + (n1 : Int) + (n2 : Int) + 1 + 1) = K + 1 + (n1 : Int) + (n2 : Int) + 1 + 1 := by rw [i64_w]; exact wrap_id (by omega) (by omega)
      have T1 : J0 True := ⟨trivial⟩
      have T2 : J0 True := ⟨trivial⟩
      have T3 : J0 True := ⟨trivial⟩
      have T4 : J0 True := ⟨trivial⟩
      have T5 : J0 True := ⟨trivial⟩
      obtain ⟨y0, hc0, hf0⟩ := like_int HL.o HG.o X0.o
      go_wp2_with (first | ((with_reducible refine gate_store (t := 2) (p := 16) rfl ?_); clear T1; refine store_event (t := 2) (p := 16) (v := ?vo_w10) (w1 := (wr.setCell ⟨g, kk * 5, none⟩ (.int .i64 (K)))) ?hg ?ho ?hn ?hr ?_; (case ho => rfl); (case hg => rfl); (case hn => rfl); (case hr => first | (go_simp; done) | (go_simp; rfl)); intro w10 hw; replace HL := q_ (show Like wr w10 from (by rw [hw]; exact Like.put_int HL.o HG.o X0.o)); replace HB2 := q_ (show Below w0.heap.size w0 w10 from (by rw [hw]; exact below_set HB2.o hgw)); replace HK := q_ (show Kept w w10 P_ from (by rw [hw]; exact Kept.setCell HK.o (.inl HP.out) _)); clear hw hc0 hf0; have hc1 := like_slice HL.o HG.o X1.o) | (go_at_call 12; clear T2; obtain ⟨ys, hRy, hmy⟩ := R_like keeps_Span HR1.o HL.o; refine (markSpanS_walk P_ _ ys (K + 1) n1 ((sumN_map _ _ _ hmy).trans hn1) (by omega) (by omega) w0 _ HB2.o hRy).mono ?_; rintro e w11 ⟨rfl, hL_, hB3, hK3⟩; replace HL := q_ (HL.o.trans hL_); replace HB2 := q_ hB3; replace HK := q_ (HK.o.then_ hK3 (fun k hk => .inl hk)); clear hRy hmy hL_ hB3 hK3 hc1; have hc2 := like_slice HL.o HG.o X2.o) | (go_at_call 106; clear T3; obtain ⟨ys, hRy, hmy⟩ := R_like (keeps_int .i64) HR2.o HL.o; refine (markInt64S_walk P_ _ ys (K + 1 + (n1 : Int)) n2 ((sumN_map _ _ _ hmy).trans hn2) (by omega) (by omega) w0 _ HB2.o hRy).mono ?_; rintro e w12 ⟨rfl, hL_, hB3, hK3⟩; replace HL := q_ (HL.o.trans hL_); replace HB2 := q_ hB3; replace HK := q_ (HK.o.then_ hK3 (fun k hk => .inl hk)); clear hRy hmy hL_ hB3 hK3 hc2; obtain ⟨y3, hc3, hf3⟩ := like_int HL.o HG.o X3.o) | ((with_reducible refine gate_store (t := 2) (p := 37) rfl ?_); clear T4; refine store_event (t := 2) (p := 37) (v := ?vo_w13) (w1 := (w12.setCell ⟨g, kk * 5 + 3, none⟩ (.int .i64 (K + 1 + (n1 : Int) + (n2 : Int))))) ?hg ?ho ?hn ?hr ?_; (case ho => rfl); (case hg => rfl); (case hn => rfl); (case hr => first | (go_simp; done) | (go_simp; rfl)); intro w13 hw; replace HL := q_ (show Like wr w13 from (by rw [hw]; exact Like.put_int HL.o HG.o X3.o)); replace HB2 := q_ (show Below w0.heap.size w0 w13 from (by rw [hw]; exact below_set HB2.o hgw)); replace HK := q_ (show Kept w w13 P_ from (by rw [hw]; exact Kept.setCell HK.o (.inl HP.out) _)); clear hw hc3 hf3; obtain ⟨y4, hc4, hf4⟩ := like_int HL.o HG.o X4.o) | ((with_reducible refine gate_store (t := 2) (p := 44) rfl ?_); clear T5; refine store_event (t := 2) (p := 44) (v := ?vo_w14) (w1 := (w13.setCell ⟨g, kk * 5 + 4, none⟩ (.int .i64 (K + 1 + (n1 : Int) + (n2 : Int) + 1)))) ?hg ?ho ?hn ?hr ?_; (case ho => rfl); (case hg => rfl); (case hn => rfl); (case hr => first | (go_simp; done) | (go_simp; rfl)); intro w14 hw; replace HL := q_ (show Like wr w14 from (by rw [hw]; exact Like.put_int HL.o HG.o X4.o)); replace HB2 := q_ (show Below w0.heap.size w0 w14 from (by rw [hw]; exact below_set HB2.o hgw)); replace HK := q_ (show Kept w w14 P_ from (by rw [hw]; exact Kept.setCell HK.o (.inl HP.out) _)); clear hw hc4 hf4))
      go_roundg (l0.length - (kk + 1))
      case measure => omega
      case rel => exact ⟨kk + 1, by omega, by omega, by (first | (congr 1; omega) | (congr 1; done) | (congr 2; omega)), by go_num, ⟨HW.o.trans HL.o⟩, ⟨HB2.o⟩, ⟨HK.o⟩⟩
    · have hltz : ¬ (kk : Int) < (l0.length : Int) := by omega
      have hk : kk = l0.length := by omega
      subst hk
      rw [List.take_length, hn]
      go_wp2
      go_ret
      exact ⟨rfl, HW.o, HB2.o, HK.o⟩
end Go.Proofs.YtijmhelacmjggaaGreat.P
namespace Go.Proofs.YtijmhelacmjggaaGreat.P
open Go.RowKit Go.Proofs.YtijmhelacmjggaaGreatW.PrintWords Go.Proofs.YtijmhelacmjggaaGreatW.PrintLast Go.Proofs.YtijmhelacmjggaaGreatW.PrintMore
attribute [local go_sem] max2_int min2_int max_two min_two max_three min_three max_four min_four
set_option linter.unusedVariables false
set_option linter.unusedSimpArgs false
/-! ### laws_markText: function 64 -/
def laws_markText.l0 : Nat → Int → ByteArray → Option (ByteArray)
 | 0, _, _ => none
 | k + 1, x0, x3 => if x0 > 0 then ((some (([(wrap64 (48 + (Int.tmod x0 10))) % 256] : List Int) : List Int)).bind fun y101 => (if (strOfNums y101).size + x3.size ≤ 9223372036854775807 then (laws_markText.l0 k (wrap64 (Int.tdiv x0 10)) ((strOfNums y101) ++ x3)) else (none))) else (if 1 + x3.size ≤ 9223372036854775807 then (some ((⟨#[109]⟩ : ByteArray) ++ x3)) else (none))
def laws_markText.f (k : Nat) (a0 : Int) : Option (ByteArray) := if a0 ≤ 0 then (some (⟨#[109, 48]⟩ : ByteArray)) else (laws_markText.l0 k a0 (⟨#[]⟩ : ByteArray))
theorem laws_markText.calls (k : Nat) (a0 : Int) (r : ByteArray) (w : World) (h : laws_markText.f k a0 = some r) :
  Calls Tryz.prog 64 #[.int .i64 a0] w fun e w' => e = .returned (.string r) ∧ Below w.heap.size w w' := by
 have HB := q_ (Below.refl w.heap.size w)
 have H : (if a0 ≤ 0 then (some (⟨#[109, 48]⟩ : ByteArray)) else (laws_markText.l0 k a0 (⟨#[]⟩ : ByteArray))) = some r := h
 clear h
 by_cases c2 : a0 ≤ 0
 ·rw [if_pos c2] at H; have c2b0 := dt_ c2; clear c2; obtain rfl := Option.some.inj H
  go_enter Tryz.func64, Tryz.ntmps64
  go_wp2
  go_ret
  exact ⟨rt_, be_ HB.o⟩
 ·rw [if_neg c2] at H; have c2b0 := df_ c2; clear c2
  have H' := q_ H
  clear H
  go_enter Tryz.func64, Tryz.ntmps64
  go_wp2
  go_loopg [0, 3] k (fun kq v0 v3 w' => ∃ (x0_1 : Int) (x3_1 : ByteArray), v0 = .int .i64 x0_1 ∧ v3 = .string x3_1 ∧ J0 (laws_markText.l0 kq x0_1 x3_1 = some r) ∧ J0 (kq ≤ k) ∧ J0 (Below w.heap.size w w'))
  case atStart => exact ⟨(a0), ((⟨#[]⟩ : ByteArray)), rs_, rs_, H', ⟨Nat.le_refl _⟩, ⟨be_ HB.o⟩⟩
  case round =>
   clear H'; (try clear c2); (try clear c2b0); obtain ⟨x0_1, x3_1, rfl, rfl, HA, HK1, HB⟩ := hrel
   cases gk with
   | zero => exact absurd HA.o (by simp [laws_markText.l0])
   | succ k1 =>
    have H := HA.o; clear HA
    simp only [laws_markText.l0] at H
    by_cases c3 : x0_1 > 0
    ·rw [if_pos c3] at H
     have c3b0 : decide (0 < x0_1) = true := dt_ c3
     clear c3
     obtain ⟨y101, hy101⟩ : ∃ y_ : List Int, y_ = (([(wrap64 (48 + (Int.tmod x0_1 10))) % 256] : List Int)) := ⟨_, rfl⟩
     replace H : (if (strOfNums y101).size + x3_1.size ≤ 9223372036854775807 then (laws_markText.l0 k1 (wrap64 (Int.tdiv x0_1 10)) ((strOfNums y101) ++ x3_1)) else (none)) = some r := by first | (rw [hy101]; with_reducible exact H) | (have H2_ := (Option.bind_some _ _).symm.trans H; rw [hy101]; with_reducible exact H2_) | (have H2_ := (Option.bind_some _ _).symm.trans H; with_reducible exact H2_) | with_reducible exact H | (rw [hy101]; exact H) | exact H
     have Ny101 := q_ hy101; clear hy101
     by_cases c4 : (strOfNums y101).size + x3_1.size ≤ 9223372036854775807
     ·rw [if_pos c4] at H; have c4b0 := eq_true c4; have c4b1 := dt_ c4
      try have c4b2 : (9223372036854775807 < (strOfNums y101).size + x3_1.size) = False := eq_false (Nat.not_lt.2 c4)
      have H' := q_ H
      clear H
      go_wp2_with (first | ((with_reducible refine gate_dst (N := 12) rfl ?_); refine Kd.R_lit (Kd.int .u8) _ 5 ?hg (N := 12) ?hd (xs := ([(wrap64 (48 + (Int.tmod x0_1 10))) % 256] : List Int)) (inner := [.int .u8 ((wrap64 (48 + (Int.tmod x0_1 10))) % 256)]) (ok := fun _ => True) (okp := fun _ => True) ?hr ?hp (fun _ hk => hk) trivial (Below.refl _ _) (Nat.le_refl _) (by simp) ?_; (case hd => rfl); (case hg => rfl); (case hr => first | (go_simp; done) | (go_simp; rfl)); (case hp => exact (Reps.one (show Kd.M (Kd.int .u8) _ _ _ ((wrap64 (48 + (Int.tmod x0_1 10))) % 256) [.int .u8 ((wrap64 (48 + (Int.tmod x0_1 10))) % 256)] from rfl) (Reps.none _ _))); intro v102 w5 ho6 hb hg_ hnew_; clear hg_ hnew_; (first | rw [← Ny101.o] at ho6 | (simp only [Int.reduceToNat] at ho6; rw [← Ny101.o] at ho6)); have HO103 := q_ (Kd.R_lower ho6 (below_size (be_ HB.o))); replace HB := sb_ HB hb; clear hb ho6; have hcv7 := own_string (P := Tryz.prog) Tryz.underlying131 Tryz.underlying5 Tryz.underlying9 (Kd.own_of_R HO103.o)))
      go_roundg k1
      case measure => have := HK1.o; omega
      case rel => exact ⟨(wrap64 (Int.tdiv x0_1 10)), ((strOfNums y101) ++ x3_1), rs_, rs_, H', ⟨by have := HK1.o; omega⟩, ⟨be_ HB.o⟩⟩
     ·rw [if_neg c4] at H
      exact absurd H (by simp)
    ·rw [if_neg c3] at H
     have c3b0 : decide (0 < x0_1) = false := df_ c3
     clear c3
     by_cases c8 : 1 + x3_1.size ≤ 9223372036854775807
     ·rw [if_pos c8] at H; have c8b0 := eq_true c8; have c8b1 := dt_ c8
      try have c8b2 : (9223372036854775807 < 1 + x3_1.size) = False := eq_false (Nat.not_lt.2 c8)
      obtain rfl := Option.some.inj H
      go_wp2
      go_ret
      exact ⟨rt_, be_ HB.o⟩
     ·rw [if_neg c8] at H
      exact absurd H (by simp)
end Go.Proofs.YtijmhelacmjggaaGreat.P
namespace Go.Proofs.YtijmhelacmjggaaGreat.P
open Go.RowKit Go.Proofs.YtijmhelacmjggaaGreatW.PrintWords Go.Proofs.YtijmhelacmjggaaGreatW.PrintLast Go.Proofs.YtijmhelacmjggaaGreatEv
set_option linter.unusedVariables false
set_option linter.unusedSimpArgs false
theorem strOfNums_one (x : Int) : (strOfNums [x]).size = 1 := rfl
theorem markText_l0 : ∀ (n : Nat) (a : Int) (s : ByteArray), 0 ≤ a → a < 10 ^ n → a ≤ 9223372036854775807 → s.size + n ≤ 1000 → ∃ r, Ev (fun k => laws_markText.l0 k a s) r := by
  intro n
  induction n with
  | zero =>
    intro a s h0 h1 _ hs
    have ha : a = 0 := by simp at h1; omega
    subst ha
    refine ⟨(⟨#[109]⟩ : ByteArray) ++ s, ?_⟩
    rw [ev_succ]
    simp only [laws_markText.l0, ev_ite]
    rw [if_neg (by omega), if_pos (by omega)]
    exact ev_some.2 rfl
  | succ n ih =>
    intro a s h0 h1 h2 hs
    by_cases ha : a > 0
    · have hd : Int.tdiv a 10 = a / 10 := Int.tdiv_eq_ediv_of_nonneg h0
      obtain ⟨r, hr⟩ := ih (a / 10) (strOfNums [(wrap64 (48 + (Int.tmod a 10))) % 256] ++ s) (by omega) (by rw [Int.pow_succ] at h1; omega) (by omega) (by rw [ByteArray.size_append, strOfNums_one]; omega)
      refine ⟨r, ?_⟩
      rw [ev_succ]
      simp only [laws_markText.l0, ev_ite, Option.bind_some]
      rw [if_pos ha, strOfNums_one, if_pos (by omega), hd, wrap_id (by omega) (by omega)]
      exact hr
    · refine ⟨(⟨#[109]⟩ : ByteArray) ++ s, ?_⟩
      rw [ev_succ]
      simp only [laws_markText.l0, ev_ite]
      rw [if_neg ha, if_pos (by omega)]
      exact ev_some.2 rfl
theorem markText_ev (a : Int) (h0 : 0 ≤ a) (h1 : a ≤ 9000000000000000000) : ∃ r, Ev (fun k => laws_markText.f k a) r := by
  unfold laws_markText.f
  by_cases ha : a ≤ 0
  · exact ⟨_, by rw [ev_ite, if_pos ha]; exact ev_some.2 rfl⟩
  · obtain ⟨r, hr⟩ := markText_l0 19 a ⟨#[]⟩ h0 (by omega) (by omega) (by decide)
    exact ⟨r, by rw [ev_ite, if_neg ha]; exact hr⟩
theorem markText_ok (a : Int) (h0 : 0 ≤ a) (h1 : a ≤ 9000000000000000000) : ∃ k s, laws_markText.f k a = some s := by
  obtain ⟨r, hr⟩ := markText_ev a h0 h1
  obtain ⟨k, hk⟩ := ev_get hr
  exact ⟨k, r, hk⟩
end Go.Proofs.YtijmhelacmjggaaGreat.P
namespace Go.Proofs.YtijmhelacmjggaaGreat.P
set_option linter.unusedVariables false
set_option linter.unusedSimpArgs false
open Go.RowKit Go.Proofs.YtijmhelacmjggaaGreatW.PrintWords Go.Proofs.YtijmhelacmjggaaGreatW.PrintLast Go.Proofs.YtijmhelacmjggaaGreatW.PrintMore Go.Proofs.YtijmhelacmjggaaGreatEv
def nm_Rule (x : S64) : Nat := 1 + (sumN nm_RNode x.f1.f0 + (1 + (1 + 1)))
theorem one_Rule (x : S64) : 1 ≤ nm_Rule x := by
  unfold nm_Rule
  omega
theorem keeps_Rule : Keeps k64 nm_Rule := keeps_iso (keeps_pair keeps_string (keeps_pair (keeps_iso (keeps_slice keeps_RNode _) (fun x : S58 => x.f0) (fun y => ⟨y⟩) (fun _ => rfl)) (keeps_pair keeps_bool (keeps_pair (keeps_int _) keeps_string)))) _ (fun y => ⟨y.1, y.2.1, y.2.2.1, y.2.2.2.1, y.2.2.2.2⟩) (fun _ => rfl)
theorem markRuleS_walk (P_ : Nat → Prop) (u : Value) (l0 : List S64) (a1 : Int) (n : Nat) (hn : sumN nm_Rule l0 = n) (h0 : 0 ≤ a1) (h1 : a1 + n ≤ 9000000000000000000) (w0 w : World) (hB : Below w0.heap.size w0 w) (ho0 : Kd.R k64 64 w w0.heap.size P_ u l0) :
    Calls Tryz.prog 65 #[u, .int .i64 a1] w fun e w' => e = .returned (.int .i64 (a1 + n)) ∧ Like w w' ∧ Below w0.heap.size w0 w' ∧ Kept w w' P_ := by
  have hlen := sumN_len nm_Rule one_Rule l0
  obtain ⟨A, c, rfl⟩ := Kd.R_slice ho0
  have HO := q_ ho0
  have HB := q_ hB
  clear ho0 hB
  go_enter Tryz.func65, Tryz.ntmps65
  go_wp2
  go_loopg [1, 5] l0.length (fun gg v1 v5 w' => ∃ kk : Nat, kk ≤ l0.length ∧ l0.length - kk ≤ gg ∧ v1 = .int .i64 (a1 + (sumN nm_Rule (l0.take kk) : Nat)) ∧ v5 = .int .i64 kk ∧ J0 (Like w w') ∧ J0 (Below w0.heap.size w0 w') ∧ J0 (Kept w w' P_))
  case atStart => exact ⟨0, Nat.zero_le _, by omega, by simp [sumN], rfl, ⟨Like.refl _⟩, HB, ⟨Kept.refl _ _⟩⟩
  case round =>
    obtain ⟨kk, hkk, hg, rfl, rfl, HW, HB2, HK⟩ := hrel
    clear HB
    by_cases hlt : kk < l0.length
    · have hltz : (kk : Int) < (l0.length : Int) := by omega
      obtain ⟨ls, hR, hm⟩ := R_like keeps_Rule HO.o HW.o
      have hlen2 : ls.length = l0.length := by simpa using congrArg List.length hm
      obtain ⟨g, cap, hv, hgw, _, _⟩ := Kd.R_form hR (by omega)
      have hA : A = some ⟨g, 0, none⟩ := by injection hv
      subst hA
      obtain ⟨cs, cur, hM, hcc, hG, hP, _⟩ := R_at hR kk (by omega)
      have hmk : nm_Rule ls[kk] = nm_Rule l0[kk] := by
        have := congrArg (fun q => q[kk]?) hm
        simp only [List.getElem?_map] at this
        rw [List.getElem?_eq_getElem (by omega), List.getElem?_eq_getElem hlt] at this
        simpa using this
      have hcnt := sumN_take nm_Rule l0 kk hlt
      have hcle := sumN_le nm_Rule l0 (kk + 1)
      rw [← hmk] at hcnt
      obtain ⟨x, hxe⟩ : ∃ x, x = ls[kk] := ⟨_, rfl⟩
      rw [← hxe] at hM hcnt
      clear hxe hmk
      obtain ⟨v1, rfl, hR1⟩ := k64_openM hM
      obtain ⟨A1, c1, rfl⟩ := Kd.R_slice hR1
      have hx0 : wr.cell? ⟨g, kk * 5, none⟩ = some (.string x.f0) := hcc 0 _ rfl
      have hx1 : wr.cell? ⟨g, kk * 5 + 1, none⟩ = some (.slice A1 x.f1.f0.length c1) := hcc 1 _ rfl
      have hx2 : wr.cell? ⟨g, kk * 5 + 2, none⟩ = some (.bool x.f2) := hcc 2 _ rfl
      have hx3 : wr.cell? ⟨g, kk * 5 + 3, none⟩ = some (.int .i64 x.f3) := hcc 3 _ rfl
      have hx4 : wr.cell? ⟨g, kk * 5 + 4, none⟩ = some (.string x.f4) := hcc 4 _ rfl
      have X0 := q_ hx0
      have X1 := q_ hx1
      have X2 := q_ hx2
      have X3 := q_ hx3
      have X4 := q_ hx4
      have HR1 := q_ hR1
      obtain ⟨n1, hn1⟩ : ∃ n_ : Nat, sumN nm_RNode x.f1.f0 = n_ := ⟨_, rfl⟩
      have HG := q_ hG
      have HP := q_ hP
      have HL := q_ (Like.refl wr)
      obtain ⟨K, hK⟩ : ∃ K : Int, a1 + (sumN nm_Rule (l0.take kk) : Nat) = K := ⟨_, rfl⟩
      have hmx : nm_Rule x = 1 + (sumN nm_RNode x.f1.f0 + (1 + (1 + 1))) := rfl
      rw [hmx] at hcnt
      clear hmx
      rw [hn1] at hcnt
      have hK0 : 0 ≤ K := by omega
      have hK1 : K + 1 + (n1 : Int) + 1 + 1 + 1 = a1 + (sumN nm_Rule (l0.take (kk + 1)) : Nat) := by omega
      have hK2 : K + 1 + (n1 : Int) + 1 + 1 + 1 ≤ 9000000000000000000 := by omega
      rw [hK]
      clear hcc hM hG hP hv hm hR hcnt hcle hx0 hx1 hx2 hx3 hx4 hR1
      have qw0 : IntKind.i64.wrap (K + 1) = K + 1 := by rw [i64_w]; exact wrap_id (by omega) (by omega)
      have qw2 : IntKind.i64.wrap (K + 1 + (n1 : Int) + 1) = K + 1 + (n1 : Int) + 1 := by rw [i64_w]; exact wrap_id (by omega) (by omega)
      have qw3 : IntKind.i64.wrap (K + 1 + (n1 : Int) + 1 + 1) = K + 1 + (n1 : Int) + 1 + 1 := by rw [i64_w]; exact wrap_id (by omega) (by omega)
      have qw4 : IntKind.i64.wrap (K + 1 + (n1 : Int) + 1 + 1 + 1) = K + 1 + (n1 : Int) + 1 + 1 + 1 := by rw [i64_w]; exact wrap_id (by omega) (by omega)
      obtain ⟨kt0, st0, ht0⟩ := markText_ok (K) (by omega) (by omega)
      have HT0 := q_ ht0
      clear ht0
      obtain ⟨kt4, st4, ht4⟩ := markText_ok (K + 1 + (n1 : Int) + 1 + 1) (by omega) (by omega)
      have HT4 := q_ ht4
      clear ht4
      have T1 : J0 True := ⟨trivial⟩
      have T2 : J0 True := ⟨trivial⟩
      have T3 : J0 True := ⟨trivial⟩
      have T4 : J0 True := ⟨trivial⟩
      have T5 : J0 True := ⟨trivial⟩
      have T6 : J0 True := ⟨trivial⟩
      have T7 : J0 True := ⟨trivial⟩
      go_wp2_with (first | (go_at_call 64; clear T1; refine (laws_markText.calls kt0 (K) st0 _ HT0.o).mono ?_; rintro e w10 ⟨rfl, hb⟩; replace HL := q_ (HL.o.below hb); replace HB2 := q_ (below_step HB2.o hb); replace HK := q_ (HK.o.below hb); clear hb; obtain ⟨y0, hc0, hf0⟩ := like_string HL.o HG.o X0.o) | ((with_reducible refine gate_store (t := 9) (p := 17) rfl ?_); clear T2; refine store_event (t := 9) (p := 17) (v := ?vo_w11) (w1 := (w10.setCell ⟨g, kk * 5, none⟩ (.string st0))) ?hg ?ho ?hn ?hr ?_; (case ho => rfl); (case hg => rfl); (case hn => rfl); (case hr => first | (go_simp; done) | (go_simp; rfl)); intro w11 hw; replace HL := q_ (show Like wr w11 from (by rw [hw]; exact Like.put_string HL.o HG.o X0.o)); replace HB2 := q_ (show Below w0.heap.size w0 w11 from (by rw [hw]; exact below_set HB2.o hgw)); replace HK := q_ (show Kept w w11 P_ from (by rw [hw]; exact Kept.setCell HK.o (.inl HP.out) _)); clear hw hc0 hf0; have hc1 := like_slice HL.o HG.o X1.o) | (go_at_call 89; clear T3; obtain ⟨ys, hRy, hmy⟩ := R_like keeps_RNode HR1.o HL.o; refine (markRNodeS_walk P_ _ ys (K + 1) n1 ((sumN_map _ _ _ hmy).trans hn1) (by omega) (by omega) w0 _ HB2.o hRy).mono ?_; rintro e w12 ⟨rfl, hL_, hB3, hK3⟩; replace HL := q_ (HL.o.trans hL_); replace HB2 := q_ hB3; replace HK := q_ (HK.o.then_ hK3 (fun k hk => .inl hk)); clear hRy hmy hL_ hB3 hK3 hc1; obtain ⟨y2, hc2, hf2⟩ := like_bool HL.o HG.o X2.o) | ((with_reducible refine gate_store (t := 4) (p := 34) rfl ?_); clear T4; refine store_event (t := 4) (p := 34) (v := ?vo_w13) (w1 := ?w1q) ?hg ?ho ?hn ?hr ?_; (case ho => rfl); (case hg => rfl); (case hn => rfl); (case hr => first | (go_simp; done) | (go_simp; rfl)); intro w13 hw; replace HL := q_ (show Like wr w13 from (by rw [hw]; exact Like.put_bool HL.o HG.o X2.o)); replace HB2 := q_ (show Below w0.heap.size w0 w13 from (by rw [hw]; exact below_set HB2.o hgw)); replace HK := q_ (show Kept w w13 P_ from (by rw [hw]; exact Kept.setCell HK.o (.inl HP.out) _)); clear hw hc2 hf2; obtain ⟨y3, hc3, hf3⟩ := like_int HL.o HG.o X3.o) | ((with_reducible refine gate_store (t := 2) (p := 41) rfl ?_); clear T5; refine store_event (t := 2) (p := 41) (v := ?vo_w14) (w1 := (w13.setCell ⟨g, kk * 5 + 3, none⟩ (.int .i64 (K + 1 + (n1 : Int) + 1)))) ?hg ?ho ?hn ?hr ?_; (case ho => rfl); (case hg => rfl); (case hn => rfl); (case hr => first | (go_simp; done) | (go_simp; rfl)); intro w14 hw; replace HL := q_ (show Like wr w14 from (by rw [hw]; exact Like.put_int HL.o HG.o X3.o)); replace HB2 := q_ (show Below w0.heap.size w0 w14 from (by rw [hw]; exact below_set HB2.o hgw)); replace HK := q_ (show Kept w w14 P_ from (by rw [hw]; exact Kept.setCell HK.o (.inl HP.out) _)); clear hw hc3 hf3) | (go_at_call 64; clear T6; refine (laws_markText.calls kt4 (K + 1 + (n1 : Int) + 1 + 1) st4 _ HT4.o).mono ?_; rintro e w15 ⟨rfl, hb⟩; replace HL := q_ (HL.o.below hb); replace HB2 := q_ (below_step HB2.o hb); replace HK := q_ (HK.o.below hb); clear hb; obtain ⟨y4, hc4, hf4⟩ := like_string HL.o HG.o X4.o) | ((with_reducible refine gate_store (t := 9) (p := 49) rfl ?_); clear T7; refine store_event (t := 9) (p := 49) (v := ?vo_w16) (w1 := (w15.setCell ⟨g, kk * 5 + 4, none⟩ (.string st4))) ?hg ?ho ?hn ?hr ?_; (case ho => rfl); (case hg => rfl); (case hn => rfl); (case hr => first | (go_simp; done) | (go_simp; rfl)); intro w16 hw; replace HL := q_ (show Like wr w16 from (by rw [hw]; exact Like.put_string HL.o HG.o X4.o)); replace HB2 := q_ (show Below w0.heap.size w0 w16 from (by rw [hw]; exact below_set HB2.o hgw)); replace HK := q_ (show Kept w w16 P_ from (by rw [hw]; exact Kept.setCell HK.o (.inl HP.out) _)); clear hw hc4 hf4))
      go_roundg (l0.length - (kk + 1))
      case measure => omega
      case rel => exact ⟨kk + 1, by omega, by omega, by (first | (congr 1; omega) | (congr 1; done) | (congr 2; omega)), by go_num, ⟨HW.o.trans HL.o⟩, ⟨HB2.o⟩, ⟨HK.o⟩⟩
    · have hltz : ¬ (kk : Int) < (l0.length : Int) := by omega
      have hk : kk = l0.length := by omega
      subst hk
      rw [List.take_length, hn]
      go_wp2
      go_ret
      exact ⟨rfl, HW.o, HB2.o, HK.o⟩
def nm_Mode (x : S62) : Nat := 1 + sumN nm_Rule x.f1
theorem one_Mode (x : S62) : 1 ≤ nm_Mode x := by
  unfold nm_Mode
  omega
theorem keeps_Mode : Keeps k62 nm_Mode := keeps_iso (keeps_pair keeps_string (keeps_slice keeps_Rule _)) _ (fun y => ⟨y.1, y.2⟩) (fun _ => rfl)
theorem markModeS_walk (P_ : Nat → Prop) (u : Value) (l0 : List S62) (a1 : Int) (n : Nat) (hn : sumN nm_Mode l0 = n) (h0 : 0 ≤ a1) (h1 : a1 + n ≤ 9000000000000000000) (w0 w : World) (hB : Below w0.heap.size w0 w) (ho0 : Kd.R k62 62 w w0.heap.size P_ u l0) :
    Calls Tryz.prog 35 #[u, .int .i64 a1] w fun e w' => e = .returned (.int .i64 (a1 + n)) ∧ Like w w' ∧ Below w0.heap.size w0 w' ∧ Kept w w' P_ := by
  have hlen := sumN_len nm_Mode one_Mode l0
  obtain ⟨A, c, rfl⟩ := Kd.R_slice ho0
  have HO := q_ ho0
  have HB := q_ hB
  clear ho0 hB
  go_enter Tryz.func35, Tryz.ntmps35
  go_wp2
  go_loopg [1, 5] l0.length (fun gg v1 v5 w' => ∃ kk : Nat, kk ≤ l0.length ∧ l0.length - kk ≤ gg ∧ v1 = .int .i64 (a1 + (sumN nm_Mode (l0.take kk) : Nat)) ∧ v5 = .int .i64 kk ∧ J0 (Like w w') ∧ J0 (Below w0.heap.size w0 w') ∧ J0 (Kept w w' P_))
  case atStart => exact ⟨0, Nat.zero_le _, by omega, by simp [sumN], rfl, ⟨Like.refl _⟩, HB, ⟨Kept.refl _ _⟩⟩
  case round =>
    obtain ⟨kk, hkk, hg, rfl, rfl, HW, HB2, HK⟩ := hrel
    clear HB
    by_cases hlt : kk < l0.length
    · have hltz : (kk : Int) < (l0.length : Int) := by omega
      obtain ⟨ls, hR, hm⟩ := R_like keeps_Mode HO.o HW.o
      have hlen2 : ls.length = l0.length := by simpa using congrArg List.length hm
      obtain ⟨g, cap, hv, hgw, _, _⟩ := Kd.R_form hR (by omega)
      have hA : A = some ⟨g, 0, none⟩ := by injection hv
      subst hA
      obtain ⟨cs, cur, hM, hcc, hG, hP, _⟩ := R_at hR kk (by omega)
      have hmk : nm_Mode ls[kk] = nm_Mode l0[kk] := by
        have := congrArg (fun q => q[kk]?) hm
        simp only [List.getElem?_map] at this
        rw [List.getElem?_eq_getElem (by omega), List.getElem?_eq_getElem hlt] at this
        simpa using this
      have hcnt := sumN_take nm_Mode l0 kk hlt
      have hcle := sumN_le nm_Mode l0 (kk + 1)
      rw [← hmk] at hcnt
      obtain ⟨x, hxe⟩ : ∃ x, x = ls[kk] := ⟨_, rfl⟩
      rw [← hxe] at hM hcnt
      clear hxe hmk
      obtain ⟨v1, rfl, hR1⟩ := k62_openM hM
      obtain ⟨A1, c1, rfl⟩ := Kd.R_slice hR1
      have hx0 : wr.cell? ⟨g, kk * 2, none⟩ = some (.string x.f0) := hcc 0 _ rfl
      have hx1 : wr.cell? ⟨g, kk * 2 + 1, none⟩ = some (.slice A1 x.f1.length c1) := hcc 1 _ rfl
      have X0 := q_ hx0
      have X1 := q_ hx1
      have HR1 := q_ hR1
      obtain ⟨n1, hn1⟩ : ∃ n_ : Nat, sumN nm_Rule x.f1 = n_ := ⟨_, rfl⟩
      have HG := q_ hG
      have HP := q_ hP
      have HL := q_ (Like.refl wr)
      obtain ⟨K, hK⟩ : ∃ K : Int, a1 + (sumN nm_Mode (l0.take kk) : Nat) = K := ⟨_, rfl⟩
      have hmx : nm_Mode x = 1 + sumN nm_Rule x.f1 := rfl
      rw [hmx] at hcnt
      clear hmx
      rw [hn1] at hcnt
      have hK0 : 0 ≤ K := by omega
      have hK1 : K + 1 + (n1 : Int) = a1 + (sumN nm_Mode (l0.take (kk + 1)) : Nat) := by omega
      have hK2 : K + 1 + (n1 : Int) ≤ 9000000000000000000 := by omega
      rw [hK]
      clear hcc hM hG hP hv hm hR hcnt hcle hx0 hx1 hR1
      have qw0 : IntKind.i64.wrap (K + 1) = K + 1 := by rw [i64_w]; exact wrap_id (by omega) (by omega)
      obtain ⟨kt0, st0, ht0⟩ := markText_ok (K) (by omega) (by omega)
      have HT0 := q_ ht0
      clear ht0
      have T1 : J0 True := ⟨trivial⟩
      have T2 : J0 True := ⟨trivial⟩
      have T3 : J0 True := ⟨trivial⟩
      go_wp2_with (first | (go_at_call 64; clear T1; refine (laws_markText.calls kt0 (K) st0 _ HT0.o).mono ?_; rintro e w10 ⟨rfl, hb⟩; replace HL := q_ (HL.o.below hb); replace HB2 := q_ (below_step HB2.o hb); replace HK := q_ (HK.o.below hb); clear hb; obtain ⟨y0, hc0, hf0⟩ := like_string HL.o HG.o X0.o) | ((with_reducible refine gate_store (t := 9) (p := 17) rfl ?_); clear T2; refine store_event (t := 9) (p := 17) (v := ?vo_w11) (w1 := (w10.setCell ⟨g, kk * 2, none⟩ (.string st0))) ?hg ?ho ?hn ?hr ?_; (case ho => rfl); (case hg => rfl); (case hn => rfl); (case hr => first | (go_simp; done) | (go_simp; rfl)); intro w11 hw; replace HL := q_ (show Like wr w11 from (by rw [hw]; exact Like.put_string HL.o HG.o X0.o)); replace HB2 := q_ (show Below w0.heap.size w0 w11 from (by rw [hw]; exact below_set HB2.o hgw)); replace HK := q_ (show Kept w w11 P_ from (by rw [hw]; exact Kept.setCell HK.o (.inl HP.out) _)); clear hw hc0 hf0; have hc1 := like_slice HL.o HG.o X1.o) | (go_at_call 65; clear T3; obtain ⟨ys, hRy, hmy⟩ := R_like keeps_Rule HR1.o HL.o; refine (markRuleS_walk P_ _ ys (K + 1) n1 ((sumN_map _ _ _ hmy).trans hn1) (by omega) (by omega) w0 _ HB2.o hRy).mono ?_; rintro e w12 ⟨rfl, hL_, hB3, hK3⟩; replace HL := q_ (HL.o.trans hL_); replace HB2 := q_ hB3; replace HK := q_ (HK.o.then_ hK3 (fun k hk => .inl hk)); clear hRy hmy hL_ hB3 hK3 hc1))
      go_roundg (l0.length - (kk + 1))
      case measure => omega
      case rel => exact ⟨kk + 1, by omega, by omega, by (first | (congr 1; omega) | (congr 1; done) | (congr 2; omega)), by go_num, ⟨HW.o.trans HL.o⟩, ⟨HB2.o⟩, ⟨HK.o⟩⟩
    · have hltz : ¬ (kk : Int) < (l0.length : Int) := by omega
      have hk : kk = l0.length := by omega
      subst hk
      rw [List.take_length, hn]
      go_wp2
      go_ret
      exact ⟨rfl, HW.o, HB2.o, HK.o⟩
end Go.Proofs.YtijmhelacmjggaaGreat.P
namespace Go.Proofs.YtijmhelacmjggaaGreat.P
set_option linter.unusedVariables false
open Go.RowKit Go.Proofs.YtijmhelacmjggaaGreatW.PrintWords Go.Proofs.YtijmhelacmjggaaGreatW.PrintLast Go.Proofs.YtijmhelacmjggaaGreatW.PrintMore Go.Proofs.YtijmhelacmjggaaGreatEv
theorem markGrammar_walk (P_ : Nat → Prop) (A : Option Addr) (q c : Nat) (l0 : List S62) (a1 : Int) (n : Nat) (hn : sumN nm_Mode l0 = n) (h0 : 0 ≤ a1) (h1 : a1 + n ≤ 9000000000000000000) (w0 w : World) (hB : Below w0.heap.size w0 w) (ho0 : Kd.R k62 62 w w0.heap.size P_ (.slice A q c) l0) :
    Calls Tryz.prog 11 #[.agg #[.slice A q c], .int .i64 a1] w fun e w' => e = .returned (.int .i64 (a1 + n)) ∧ Below w0.heap.size w0 w' ∧ Kept w w' P_ := by
  have HO := q_ ho0
  have HB := q_ hB
  clear ho0 hB
  go_enter Tryz.func11, Tryz.ntmps11
  go_wp2_with fail
  refine (markModeS_walk P_ _ l0 a1 n hn h0 h1 w0 _ ?hb ?ho).mono ?_
  case hb => repeat (first | exact HB.o | apply below_alloc | apply pw_below_drewN | apply below_drew1)
  case ho => (with_reducible repeat (first | apply Kd.R_alloc | apply Kd.R_drewN | apply Kd.R_drew)); exact HO.o
  rintro e w1 ⟨rfl, _, hB2, hK⟩
  have HB2 := q_ hB2
  have HK : J0 (Kept w w1 P_) := ⟨Kept.then_ (by repeat (first | exact Kept.refl _ _ | apply Kept.alloc | apply Kept.drewN | apply Kept.drew)) hK (fun k hk => .inl hk)⟩
  clear hB2 hK
  go_wp2_with fail
  go_ret
  exact ⟨rfl, HB2.o, HK.o⟩
end Go.Proofs.YtijmhelacmjggaaGreat.P
namespace Go.Proofs.YtijmhelacmjggaaGreat.P
open Go.RowKit Go.Proofs.YtijmhelacmjggaaGreatW.PrintWords Go.Proofs.YtijmhelacmjggaaGreatW.PrintLast Go.Proofs.YtijmhelacmjggaaGreatEv
set_option linter.unusedVariables false
set_option linter.unusedSimpArgs false
theorem sumN_few {α β : Type} (m : β → Nat) (f : α → β) (v : α → Nat) (c : Nat) (h : ∀ x, m (f x) ≤ c + c * v x) : ∀ l : List α, sumN m (l.map f) ≤ c * (l.length + ws v l)
  | [] => by simp [sumN]
  | x :: xs => by
    have h1 := sumN_few m f v c h xs
    have h2 := h x
    simp only [List.map_cons, sumN, List.length_cons, ws]
    have e : c * (xs.length + 1 + (v x + ws v xs)) = c * (xs.length + ws v xs) + (c + c * v x) := by
      simp only [Nat.mul_add, Nat.mul_one]
      omega
    omega
theorem sumN_one {α : Type} : ∀ l : List α, sumN (fun _ => 1) l = l.length
  | [] => rfl
  | x :: xs => by simp only [sumN, sumN_one xs, List.length_cons]; omega
theorem sumN_span : ∀ l : List S67, sumN nm_Span l = 2 * l.length
  | [] => rfl
  | x :: xs => by simp only [sumN, sumN_span xs, List.length_cons, nm_Span]; omega
theorem nm_RNode_few (x : S168) : nm_RNode (cRNode x) ≤ 3 + 3 * wRNode x := by
  have e : nm_RNode (cRNode x) = 1 + (sumN nm_Span (x.f1.map cSpan) + (sumN (fun _ => 1) x.f2 + (1 + 1))) := rfl
  have e2 : wRNode x = x.f1.length + x.f2.length := rfl
  rw [e, e2, sumN_one, sumN_span, List.length_map]
  omega
theorem nm_Rule_few (x : S144) : nm_Rule (cRule x) ≤ 4 + 4 * wRule x := by
  have e : nm_Rule (cRule x) = 1 + (sumN nm_RNode (x.f1.f0.map cRNode) + (1 + (1 + 1))) := rfl
  have e2 : wRule x = x.f0.size + (x.f1.f0.length + ws wRNode x.f1.f0) + x.f4.size := rfl
  have h := sumN_few nm_RNode cRNode wRNode 3 nm_RNode_few x.f1.f0
  omega
theorem nm_Mode_few (x : S91) : nm_Mode (cMode x) ≤ 4 + 4 * wMode x := by
  have e : nm_Mode (cMode x) = 1 + sumN nm_Rule (x.f1.map cRule) := rfl
  have e2 : wMode x = x.f0.size + (x.f1.length + ws wRule x.f1) := rfl
  have h := sumN_few nm_Rule cRule wRule 4 nm_Rule_few x.f1
  omega
theorem nm_few (l : List S91) (h : l.length + ws wMode l ≤ 1048576) : sumN nm_Mode (l.map cMode) ≤ 4194304 := by
  have := sumN_few nm_Mode cMode wMode 4 nm_Mode_few l
  omega
end Go.Proofs.YtijmhelacmjggaaGreat.P
set_option linter.unusedVariables false
set_option linter.unusedSimpArgs false
namespace Go.Proofs.YtijmhelacmjggaaGreat.P
open Go.RowKit Go.Proofs.YtijmhelacmjggaaGreatW.PrintWords Go.Proofs.YtijmhelacmjggaaGreatW.PrintLast Go.Proofs.YtijmhelacmjggaaGreatW.PrintMore Go.Proofs.YtijmhelacmjggaaGreatEv
def laws_FnExactOpeners.dom_ (l0_0 : List S91) (a1 : Int) : Prop := (l0_0.length ≤ maxLen ∧ ∀ y ∈ l0_0, g91 y)
open Classical in
noncomputable def laws_FnExactOpeners.f (k : Nat) (l0_0 : List S91) (a1 : Int) : Option Bool := if laws_FnExactOpeners.dom_ l0_0 a1 then some true else none
theorem laws_FnExactOpeners.calls (k : Nat) (A0_0 : Option Addr) (c0_0 : Nat) (l0_0 : List S91) (a1 : Int) (r : Bool) (w : World) (hr0_0 : Kd.C k91 w A0_0 l0_0.length l0_0) (hc0_0 : l0_0.length ≤ c0_0) (h : laws_FnExactOpeners.f k l0_0 a1 = some r) :
  Calls Tryz.prog 3 #[.agg #[.slice A0_0 l0_0.length c0_0], .int .i64 a1] w fun e w' => e = .returned (.bool r) ∧ Below w.heap.size w w' := by
  have hok : laws_FnExactOpeners.dom_ l0_0 a1 := by
    unfold laws_FnExactOpeners.f at h
    split at h
    · assumption
    · simp at h
  have hr : r = true := by
    unfold laws_FnExactOpeners.f at h
    rw [if_pos hok] at h
    simpa using h.symm
  subst hr
  clear h
  have HR_l0_0 := q_ hr0_0
  have HC_l0_0 := q_ hc0_0
  clear hr0_0 hc0_0
  have HB := q_ (Below.refl w.heap.size w)
  by_cases hsmall : l0_0.length + ws wMode l0_0 ≤ 1048576
  · obtain ⟨hm0, hg⟩ := hok
    have hm := Nat.le_trans hm0 maxLen_le
    have hs := smallG_of l0_0 hsmall hg
    have hl' := hs.1
    have hh := hMode_all l0_0 hg
    have hcn := nm_few l0_0 hsmall
    obtain ⟨W, b, hf, ei, es⟩ := openers_both (l0_0.map cMode) hs a1
    obtain ⟨_, g0⟩ := ev_get (laws_szGrammar_ev l0_0 1048576 (by omega) (by omega) hm hg)
    rw [if_neg (by omega)] at g0
    obtain ⟨_, g1⟩ := ev_get (laws_toGrammar_ev l0_0 hsmall)
    obtain ⟨_, g2⟩ := ev_get es
    obtain ⟨_, g3⟩ := ev_get ei
    obtain ⟨_, g4⟩ := ev_get (laws_eqSpanS_ev W (by omega))
    obtain ⟨_, g5⟩ := ev_get (laws_eqGrammar_ev (l0_0.map cMode) (by omega) hh)
    obtain ⟨_, g6⟩ := ev_get (laws_markSpanS_ev W 1 (by omega) (by omega))
    obtain ⟨_, g7⟩ := ev_get (laws_heldSpanS_ev W.length 1 (by omega) (by omega))
    obtain ⟨M, hM⟩ : ∃ M : Nat, sumN nm_Mode (l0_0.map cMode) = M := ⟨_, rfl⟩
    rw [hM] at hcn
    have n1 : decide ((1048576 : Int) - ((l0_0.length + ws wMode l0_0 : Nat) : Int) < 0) = false := decide_eq_false (by omega)
    have n2 : decide ((1 : Int) + (M : Int) < 0) = false := decide_eq_false (by omega)
    have F1 := q_ (by omega : (1 : Int) + M ≤ 9000000000000000000)
    have F2 := q_ hM
    have n3 : decide ((1 : Int) + 2 * (W.length : Int) < 0) = false := decide_eq_false (by omega)
    have n4 : (b != b) = false := bne_self_eq_false b
    have E0 := q_ g0
    have E1 := q_ g1
    have E2 := q_ g2
    have E3 := q_ g3
    have E4 := q_ g4
    have E5 := q_ g5
    have E6 := q_ g6
    have E7 := q_ g7
    clear g0 g1 g2 g3 g4 g5 g6 g7 hcn hf hh hl' hm hm0 hg hs hM ei es
    generalize l0_0.map cMode = X at *
    have T1 : J0 True := ⟨trivial⟩
    have T2 : J0 True := ⟨trivial⟩
    have T3 : J0 True := ⟨trivial⟩
    have T4 : J0 True := ⟨trivial⟩
    have T5 : J0 True := ⟨trivial⟩
    have T6 : J0 True := ⟨trivial⟩
    have T7 : J0 True := ⟨trivial⟩
    have T8 : J0 True := ⟨trivial⟩
    have T9 : J0 True := ⟨trivial⟩
    have T10 : J0 True := ⟨trivial⟩
    have T11 : J0 True := ⟨trivial⟩
    have T12 : J0 True := ⟨trivial⟩
    have T13 : J0 True := ⟨trivial⟩
    have T14 : J0 True := ⟨trivial⟩
    have T15 : J0 True := ⟨trivial⟩
    go_enter Tryz.func3, Tryz.ntmps3
    go_wp2_with ((with_reducible refine gate_dst (N := 2) rfl ?_); clear T1; refine box_event ?hg (N := 2) ?hd (cs := #[.slice A0_0 l0_0.length c0_0]) (t := 24) ?hr ?_; (case hd => rfl); (case hg => rfl); (case hr => first | (go_simp; done) | (go_simp; rfl)); intro gb_p0 hg w1 hbox hb; have BK_p0 := q_ hbox; have GB_p0 := q_ hg; have LB_p0 := q_ (blk_lt hbox); have Y1 := q_ hb.size; replace HB := sb_ HB hb; have hcz_p0_0 : w1.cell? ⟨gb_p0, 0, none⟩ = some (.slice A0_0 l0_0.length c0_0) := (blk_cell BK_p0.o 0).trans rfl; clear hb hg hbox)
    go_wp2_with (go_at_call 5; clear T2; refine (laws_szGrammar.calls _ _ _ _ _ _ _ (Kd.C_below HR_l0_0.o HB.o) (HC_l0_0.o) E0.o).mono ?_; rintro e w2 ⟨rfl, hb⟩; replace BK_p0 := lb_ BK_p0 hb; replace hcz_p0_0 := (d1_ BK_p0).1; have Y2 := q_ hb.size; replace HB := sb_ HB hb; clear hb)
    go_wp2_with (go_at_call 7; clear T3; refine (laws_toGrammar.calls _ _ _ _ _ _ (Kd.C_below HR_l0_0.o HB.o) (HC_l0_0.o) E1.o).mono ?_; rintro e w3 ⟨v_a, rfl, hO, hb⟩; replace BK_p0 := lb_ BK_p0 hb; replace hcz_p0_0 := (d1_ BK_p0).1; obtain ⟨lo_a, hi_a, hz, hO⟩ := R_born hO HB.o; have Z_a := q_ hz; clear hz; obtain ⟨A_a, c_a, rfl⟩ := Kd.R_slice hO; have O_a := q_ hO; clear hO; have Y3 := q_ hb.size; replace HB := sb_ HB hb; clear hb)
    go_wp2_with (go_at_call 6; clear T4; refine (spec_Openers.calls _ _ _ _ _ _ _ _ (C_of_R O_a.o) (L_of_R O_a.o) E2.o).mono ?_; rintro e w4 ⟨v_w0, rfl, hO, hb⟩; replace O_a := Rb_ O_a hb; replace BK_p0 := lb_ BK_p0 hb; replace hcz_p0_0 := (d1_ BK_p0).1; obtain ⟨lo_w0, hi_w0, hz, hO⟩ := R_born hO HB.o; have Z_w0 := q_ hz; clear hz; obtain ⟨A_w0, c_w0, rfl⟩ := Kd.R_slice hO; have O_w0 := q_ hO; clear hO; have Y4 := q_ hb.size; replace HB := sb_ HB hb; clear hb)
    go_wp2_with (go_at_call 7; clear T5; refine (laws_toGrammar.calls _ _ _ _ _ _ (Kd.C_below HR_l0_0.o HB.o) (HC_l0_0.o) E1.o).mono ?_; rintro e w5 ⟨v_x, rfl, hO, hb⟩; replace O_a := Rb_ O_a hb; replace O_w0 := Rb_ O_w0 hb; replace BK_p0 := lb_ BK_p0 hb; replace hcz_p0_0 := (d1_ BK_p0).1; obtain ⟨lo_x, hi_x, hz, hO⟩ := R_born hO HB.o; have Z_x := q_ hz; clear hz; obtain ⟨A_x, c_x, rfl⟩ := Kd.R_slice hO; have O_x := q_ hO; clear hO; have Y5 := q_ hb.size; replace HB := sb_ HB hb; clear hb)
    go_wp2_with (go_at_call 8; clear T6; obtain ⟨w6, hW⟩ : ∃ w_ : World, w_ = w5.alloc (.cells #[.slice A_x X.length c_x] 31) := ⟨_, rfl⟩; obtain ⟨gb_x, hg⟩ : ∃ g_ : Nat, g_ = w5.heap.size := ⟨_, rfl⟩; rw [← hW, ← hg]; have hb : Below w5.heap.size w5 w6 := (by rw [hW]; exact below_alloc (Below.refl _ _) _); have hbox : w6.heap[gb_x]? = some (.cells #[.slice A_x X.length c_x] 31 (0, 0)) := (by rw [hW, hg]; exact blk_new _ _); replace O_a := Rb_ O_a hb; replace O_w0 := Rb_ O_w0 hb; replace O_x := Rb_ O_x hb; replace BK_p0 := lb_ BK_p0 hb; replace hcz_p0_0 := (d1_ BK_p0).1; have BK_x := q_ hbox; have GB_x := q_ hg; have LB_x := q_ (blk_lt hbox); have Y6 := q_ hb.size; replace HB := sb_ HB hb; have hcz_x_0 : w6.cell? ⟨gb_x, 0, none⟩ = some (.slice A_x X.length c_x) := (blk_cell BK_x.o 0).trans rfl; clear hb hg hbox hW; refine (impl_Openers.calls _ _ _ _ _ _ _ _ (C_of_R O_x.o) (L_of_R O_x.o) E3.o).mono ?_; rintro e w7 ⟨v_g, rfl, hO, hb⟩; replace O_a := Rb_ O_a hb; replace O_w0 := Rb_ O_w0 hb; replace O_x := Rb_ O_x hb; replace BK_p0 := lb_ BK_p0 hb; replace hcz_p0_0 := (d1_ BK_p0).1; replace BK_x := lb_ BK_x hb; replace hcz_x_0 := (d1_ BK_x).1; obtain ⟨lo_g, hi_g, hz, hO⟩ := R_born hO HB.o; have Z_g := q_ hz; clear hz; obtain ⟨A_g, c_g, rfl⟩ := Kd.R_slice hO; have O_g := q_ hO; clear hO; have Y7 := q_ hb.size; replace HB := sb_ HB hb; clear hb)
    go_wp2_with (go_at_call 9; clear T7; refine (laws_eqSpanS.calls _ _ _ _ _ _ _ _ _ (C_of_R O_g.o) (L_of_R O_g.o) (C_of_R O_w0.o) (L_of_R O_w0.o) E4.o).mono ?_; rintro e w8 ⟨rfl, hb⟩; replace O_a := Rb_ O_a hb; replace O_w0 := Rb_ O_w0 hb; replace O_x := Rb_ O_x hb; replace O_g := Rb_ O_g hb; replace BK_p0 := lb_ BK_p0 hb; replace hcz_p0_0 := (d1_ BK_p0).1; replace BK_x := lb_ BK_x hb; replace hcz_x_0 := (d1_ BK_x).1; have Y8 := q_ hb.size; replace HB := sb_ HB hb; clear hb)
    have hb : Below w8.heap.size w8 w8.drew := below_drew (Below.refl _ _)
    replace O_a := Rb_ O_a hb
    replace O_w0 := Rb_ O_w0 hb
    replace O_x := Rb_ O_x hb
    replace O_g := Rb_ O_g hb
    replace BK_p0 := q_ (blk_drew BK_p0.o)
    replace hcz_p0_0 : w8.drew.cell? ⟨gb_p0, 0, none⟩ = some (.slice A0_0 l0_0.length c0_0) := (blk_cell BK_p0.o 0).trans rfl
    replace BK_x := q_ (blk_drew BK_x.o)
    replace hcz_x_0 : w8.drew.cell? ⟨gb_x, 0, none⟩ = some (.slice A_x X.length c_x) := (blk_cell BK_x.o 0).trans rfl
    have Y9 := q_ hb.size
    replace HB := sb_ HB hb
    clear hb
    refine start_ (n := 5) (S := fun w' => w'.cell? ⟨gb_x, 0, none⟩ = some (.slice A_x X.length c_x) ∧ w'.cell? ⟨gb_p0, 0, none⟩ = some (.slice A0_0 l0_0.length c0_0)) (ds := []) #[false, false, false, false, false] (by kernel_rfl) rfl rfl ⟨hcz_x_0, hcz_p0_0⟩ (fun hHeld => ?_)
    generalize w8.drew = w9 at O_a O_w0 O_x O_g BK_p0 BK_x hcz_p0_0 hcz_x_0 Y9 HB hHeld ⊢
    refine take_ (i := 0) (N := some 45) (v := ?_) (a' := ?_) #[true, false, false, false, false] rfl rfl (by kernel_rfl) (fun _ _ _ h => h) (Or.inl ⟨by rfl, ?_⟩) hHeld ?_ ?_
    rotate_left
    · rintro w' ⟨s0, s1⟩
      go_simp
      with_reducible rfl
    rotate_left
    · simp only [Act.put, List.setIfInBounds_toArray, List.set_cons_zero, List.set_cons_succ, i64_w, i32_w]
      rfl
    refine take_ (i := 1) (N := some 46) (v := ?_) (a' := ?_) #[true, true, false, false, false] rfl rfl (by kernel_rfl) (fun _ _ _ h => h) (Or.inl ⟨by rfl, ?_⟩) hHeld ?_ ?_
    rotate_left
    · rintro w' ⟨s0, s1⟩
      go_simp
      with_reducible rfl
    rotate_left
    · simp only [Act.put, List.setIfInBounds_toArray, List.set_cons_zero, List.set_cons_succ, i64_w, i32_w]
      rfl
    refine one_ (i := 2) (N := some 47) #[true, true, true, false, false] rfl rfl (by kernel_rfl) (by decide) (fun K hK => ?_)
    refine goes_ Tryz.func7 (by kernel_rfl) rfl #[.agg #[.slice A0_0 l0_0.length c0_0]] (by rfl) rfl rfl (by (try simp only [List.map_toArray, List.map_cons, List.map_nil]); first | done | rfl | (simp only [List.length_drop, List.length_take]; rfl)) ?_
    with_reducible refine (laws_toGrammar.calls _ _ _ _ _ _ (Kd.C_below HR_l0_0.o HB.o) (HC_l0_0.o) E1.o).mono ?_
    rintro e w10 ⟨v_b, rfl, hO, hb⟩
    refine ⟨_, rfl, ?_⟩
    replace O_a := Rb_ O_a hb
    replace O_w0 := Rb_ O_w0 hb
    replace O_x := Rb_ O_x hb
    replace O_g := Rb_ O_g hb
    replace BK_p0 := lb_ BK_p0 hb
    replace hcz_p0_0 := (d1_ BK_p0).1
    replace BK_x := lb_ BK_x hb
    replace hcz_x_0 := (d1_ BK_x).1
    obtain ⟨lo_b, hi_b, hz, hO⟩ := R_born hO HB.o
    have Z_b := q_ hz
    clear hz
    obtain ⟨A_b, c_b, rfl⟩ := Kd.R_slice hO
    have O_b := q_ hO
    clear hO
    have Y10 := q_ hb.size
    replace HB := sb_ HB hb
    clear hb
    refine hK.out _ _ ⟨hcz_x_0, hcz_p0_0⟩ (fun hHeld => ?_)
    clear hK K
    refine norm_ (a' := ?_) ?_ ?_
    rotate_left
    · show Act.put _ (some 47) _ = _
      simp only [Act.put, List.setIfInBounds_toArray, List.set_cons_zero, List.set_cons_succ, i64_w, i32_w]
      rfl
    refine one_ (i := 3) (N := some 48) #[true, true, true, true, false] rfl rfl (by kernel_rfl) (by decide) (fun K hK => ?_)
    refine goes_ Tryz.func10 (by kernel_rfl) rfl #[.agg #[.slice A_x X.length c_x], .agg #[.slice A_b X.length c_b]] (by rfl) rfl rfl (by (try simp only [List.map_toArray, List.map_cons, List.map_nil]); first | done | rfl | (simp only [List.length_drop, List.length_take]; rfl)) ?_
    with_reducible refine (laws_eqGrammar.calls _ _ _ _ _ _ _ _ _ (C_of_R O_x.o) (L_of_R O_x.o) (C_of_R O_b.o) (L_of_R O_b.o) E5.o).mono ?_
    rintro e w11 ⟨rfl, hb⟩
    refine ⟨_, rfl, ?_⟩
    replace O_a := Rb_ O_a hb
    replace O_w0 := Rb_ O_w0 hb
    replace O_x := Rb_ O_x hb
    replace O_g := Rb_ O_g hb
    replace O_b := Rb_ O_b hb
    replace BK_p0 := lb_ BK_p0 hb
    replace hcz_p0_0 := (d1_ BK_p0).1
    replace BK_x := lb_ BK_x hb
    replace hcz_x_0 := (d1_ BK_x).1
    have Y11 := q_ hb.size
    replace HB := sb_ HB hb
    clear hb
    refine hK.out _ _ ⟨hcz_x_0, hcz_p0_0⟩ (fun hHeld => ?_)
    clear hK K
    refine norm_ (a' := ?_) ?_ ?_
    rotate_left
    · show Act.put _ (some 48) _ = _
      simp only [Act.put, List.setIfInBounds_toArray, List.set_cons_zero, List.set_cons_succ, i64_w, i32_w]
      rfl
    refine pure_ (i := 4) (N := some 49) (v := ?_) (a' := ?_) #[true, true, true, true, true] rfl rfl (by kernel_rfl) (fun _ _ _ h => h) (Or.inl ⟨by rfl, ?_⟩) ?_ ?_
    rotate_left
    · intro w'
      go_simp
      with_reducible rfl
    rotate_left
    · simp only [Act.put, List.setIfInBounds_toArray, List.set_cons_zero, List.set_cons_succ, i64_w, i32_w]
      rfl
    refine done_ (by kernel_rfl) ?_
    go_wp2_with (go_at_call 11; clear T8; refine (markGrammar_walk _ _ _ _ X 1 M F2.o (by omega) F1.o w _ HB.o O_x.o).mono ?_; rintro e w12 ⟨rfl, hB2, hK⟩; have z0 := GB_p0.o; have z1 := LB_p0.o; have z2 := Y1.o; have z3 := Y2.o; have z4 := Z_a.o; have z5 := Y3.o; have z6 := Z_w0.o; have z7 := Y4.o; have z8 := Z_x.o; have z9 := Y5.o; have z10 := GB_x.o; have z11 := LB_x.o; have z12 := Y6.o; have z13 := Z_g.o; have z14 := Y7.o; have z15 := Y8.o; have z16 := Y9.o; have z17 := Z_b.o; have z18 := Y10.o; have z19 := Y11.o; replace O_a := q_ (R_beside O_a.o (by omega) hK (by omega)); replace O_w0 := q_ (R_beside O_w0.o (by omega) hK (by omega)); replace O_g := q_ (R_beside O_g.o (by omega) hK (by omega)); replace O_b := q_ (R_beside O_b.o (by omega) hK (by omega)); replace BK_p0 := q_ ((hK.2 gb_p0 (by omega) (fun h2 => by have y0 := h2.1; have y1 := h2.2; omega)).trans BK_p0.o); replace hcz_p0_0 := (d1_ BK_p0).1; replace BK_x := q_ ((hK.2 gb_x (by omega) (fun h2 => by have y0 := h2.1; have y1 := h2.2; omega)).trans BK_x.o); replace hcz_x_0 := (d1_ BK_x).1; clear z0 z1 z2 z3 z4 z5 z6 z7 z8 z9 z10 z11 z12 z13 z14 z15 z16 z17 z18 z19; clear O_x; have Y12 := q_ hK.1; replace HB := q_ hB2; clear hB2 hK)
    go_wp2_with (go_at_call 9; clear T9; refine (laws_eqSpanS.calls _ _ _ _ _ _ _ _ _ (C_of_R O_g.o) (L_of_R O_g.o) (C_of_R O_w0.o) (L_of_R O_w0.o) E4.o).mono ?_; rintro e w13 ⟨rfl, hb⟩; replace O_a := Rb_ O_a hb; replace O_w0 := Rb_ O_w0 hb; replace O_g := Rb_ O_g hb; replace O_b := Rb_ O_b hb; replace BK_p0 := lb_ BK_p0 hb; replace hcz_p0_0 := (d1_ BK_p0).1; replace BK_x := lb_ BK_x hb; replace hcz_x_0 := (d1_ BK_x).1; have Y13 := q_ hb.size; replace HB := sb_ HB hb; clear hb)
    go_wp2_with (go_at_call 12; clear T10; refine (laws_markSpanS.calls _ _ _ _ _ _ _ w _ HB.o O_g.o E6.o).mono ?_; rintro e w14 ⟨rfl, hO, hB2, hK⟩; have z0 := GB_p0.o; have z1 := LB_p0.o; have z2 := Y1.o; have z3 := Y2.o; have z4 := Z_a.o; have z5 := Y3.o; have z6 := Z_w0.o; have z7 := Y4.o; have z8 := Z_x.o; have z9 := Y5.o; have z10 := GB_x.o; have z11 := LB_x.o; have z12 := Y6.o; have z13 := Z_g.o; have z14 := Y7.o; have z15 := Y8.o; have z16 := Y9.o; have z17 := Z_b.o; have z18 := Y10.o; have z19 := Y11.o; have z20 := Y12.o; have z21 := Y13.o; replace O_a := q_ (R_beside O_a.o (by omega) hK (by omega)); replace O_w0 := q_ (R_beside O_w0.o (by omega) hK (by omega)); replace O_b := q_ (R_beside O_b.o (by omega) hK (by omega)); replace BK_p0 := q_ ((hK.2 gb_p0 (by omega) (fun h2 => by have y0 := h2.1; have y1 := h2.2; omega)).trans BK_p0.o); replace hcz_p0_0 := (d1_ BK_p0).1; replace BK_x := q_ ((hK.2 gb_x (by omega) (fun h2 => by have y0 := h2.1; have y1 := h2.2; omega)).trans BK_x.o); replace hcz_x_0 := (d1_ BK_x).1; clear z0 z1 z2 z3 z4 z5 z6 z7 z8 z9 z10 z11 z12 z13 z14 z15 z16 z17 z18 z19 z20 z21; replace O_g := q_ (R_marked O_g.o hO rfl); have Y14 := q_ hK.1; replace HB := q_ hB2; clear hO hB2 hK)
    go_wp2_with (go_at_call 13; clear T11; refine (len_R O_g.o (laws_heldSpanS.calls _ _ _ _ _ _ _ (C_of_R O_g.o) (L_of_R O_g.o) E7.o)).mono ?_; rintro e w15 ⟨rfl, hd⟩; have hb := below_drawn hd; replace O_a := Rb_ O_a hb; replace O_w0 := Rb_ O_w0 hb; replace O_g := Rb_ O_g hb; replace O_b := Rb_ O_b hb; replace BK_p0 := lb_ BK_p0 hb; replace hcz_p0_0 := (d1_ BK_p0).1; replace BK_x := lb_ BK_x hb; replace hcz_x_0 := (d1_ BK_x).1; have Y15 := q_ hb.size; replace HB := sb_ HB hb; clear hb)
    go_wp2_with (go_at_call 7; clear T12; refine (laws_toGrammar.calls _ _ _ _ _ _ (Kd.C_below HR_l0_0.o HB.o) (HC_l0_0.o) E1.o).mono ?_; rintro e w16 ⟨v_c, rfl, hO, hb⟩; replace O_a := Rb_ O_a hb; replace O_w0 := Rb_ O_w0 hb; replace O_g := Rb_ O_g hb; replace O_b := Rb_ O_b hb; replace BK_p0 := lb_ BK_p0 hb; replace hcz_p0_0 := (d1_ BK_p0).1; replace BK_x := lb_ BK_x hb; replace hcz_x_0 := (d1_ BK_x).1; obtain ⟨lo_c, hi_c, hz, hO⟩ := R_born hO HB.o; have Z_c := q_ hz; clear hz; obtain ⟨A_c, c_c, rfl⟩ := Kd.R_slice hO; have O_c := q_ hO; clear hO; have Y16 := q_ hb.size; replace HB := sb_ HB hb; clear hb)
    go_wp2_with (go_at_call 8; clear T13; refine (impl_Openers.calls _ _ _ _ _ _ _ _ (C_of_R O_c.o) (L_of_R O_c.o) E3.o).mono ?_; rintro e w17 ⟨v_h, rfl, hO, hb⟩; replace O_a := Rb_ O_a hb; replace O_w0 := Rb_ O_w0 hb; replace O_g := Rb_ O_g hb; replace O_b := Rb_ O_b hb; replace O_c := Rb_ O_c hb; replace BK_p0 := lb_ BK_p0 hb; replace hcz_p0_0 := (d1_ BK_p0).1; replace BK_x := lb_ BK_x hb; replace hcz_x_0 := (d1_ BK_x).1; obtain ⟨lo_h, hi_h, hz, hO⟩ := R_born hO HB.o; have Z_h := q_ hz; clear hz; obtain ⟨A_h, c_h, rfl⟩ := Kd.R_slice hO; have O_h := q_ hO; clear hO; have Y17 := q_ hb.size; replace HB := sb_ HB hb; clear hb)
    go_wp2_with (go_at_call 9; clear T14; refine (laws_eqSpanS.calls _ _ _ _ _ _ _ _ _ (C_of_R O_h.o) (L_of_R O_h.o) (C_of_R O_w0.o) (L_of_R O_w0.o) E4.o).mono ?_; rintro e w18 ⟨rfl, hb⟩; replace O_a := Rb_ O_a hb; replace O_w0 := Rb_ O_w0 hb; replace O_g := Rb_ O_g hb; replace O_b := Rb_ O_b hb; replace O_c := Rb_ O_c hb; replace O_h := Rb_ O_h hb; replace BK_p0 := lb_ BK_p0 hb; replace hcz_p0_0 := (d1_ BK_p0).1; replace BK_x := lb_ BK_x hb; replace hcz_x_0 := (d1_ BK_x).1; have Y18 := q_ hb.size; replace HB := sb_ HB hb; clear hb)
    go_wp2_with (go_at_call 13; clear T15; refine (len_R O_g.o (laws_heldSpanS.calls _ _ _ _ _ _ _ (C_of_R O_g.o) (L_of_R O_g.o) E7.o)).mono ?_; rintro e w19 ⟨rfl, hd⟩; have hb := below_drawn hd; replace O_a := Rb_ O_a hb; replace O_w0 := Rb_ O_w0 hb; replace O_g := Rb_ O_g hb; replace O_b := Rb_ O_b hb; replace O_c := Rb_ O_c hb; replace O_h := Rb_ O_h hb; replace BK_p0 := lb_ BK_p0 hb; replace hcz_p0_0 := (d1_ BK_p0).1; replace BK_x := lb_ BK_x hb; replace hcz_x_0 := (d1_ BK_x).1; have Y19 := q_ hb.size; replace HB := sb_ HB hb; clear hb)
    go_ret
    exact ⟨rfl, HB.o⟩
  · obtain ⟨hm0, hg⟩ := hok
    have hm := Nat.le_trans hm0 maxLen_le
    obtain ⟨_, g0⟩ := ev_get (laws_szGrammar_ev l0_0 1048576 (by omega) (by omega) hm hg)
    rw [if_pos (by omega)] at g0
    have E0 := q_ g0
    clear g0
    have T1 : J0 True := ⟨trivial⟩
    have T2 : J0 True := ⟨trivial⟩
    go_enter Tryz.func3, Tryz.ntmps3
    go_wp2_with ((with_reducible refine gate_dst (N := 2) rfl ?_); clear T1; refine box_event ?hg (N := 2) ?hd (cs := #[.slice A0_0 l0_0.length c0_0]) (t := 24) ?hr ?_; (case hd => rfl); (case hg => rfl); (case hr => first | (go_simp; done) | (go_simp; rfl)); intro gb_p0 hg w1 hbox hb; have BK_p0 := q_ hbox; have GB_p0 := q_ hg; have LB_p0 := q_ (blk_lt hbox); have Y1 := q_ hb.size; replace HB := sb_ HB hb; have hcz_p0_0 : w1.cell? ⟨gb_p0, 0, none⟩ = some (.slice A0_0 l0_0.length c0_0) := (blk_cell BK_p0.o 0).trans rfl; clear hb hg hbox)
    go_wp2_with (go_at_call 5; clear T2; refine (laws_szGrammar.calls _ _ _ _ _ _ _ (Kd.C_below HR_l0_0.o HB.o) (HC_l0_0.o) E0.o).mono ?_; rintro e w2 ⟨rfl, hb⟩; replace BK_p0 := lb_ BK_p0 hb; replace hcz_p0_0 := (d1_ BK_p0).1; have Y2 := q_ hb.size; replace HB := sb_ HB hb; clear hb)
    go_ret
    exact ⟨rfl, HB.o⟩
end Go.Proofs.YtijmhelacmjggaaGreat.P
namespace Go.Proofs.YtijmhelacmjggaaGreatOpen
open Go.RowKit Go.ChangeShapes Go.WideShapes Go.Proofs.YtijmhelacmjggaaGreatW.PrintWords
set_option linter.unusedVariables false
set_option linter.unusedSimpArgs false
structure Opens {α : Type} (P : Program) (t : TypeId) (k : Kd α) (G : α → Prop) : Prop where
  sz : P.cellsOf t = k.sz
  op : ∀ {H : Type} (enc : TypeId × Value → H) (w : World) (base : Nat) (spare : Nat → Bool) (held : Bool) (fuel : Nat) (cs : List Value) (x : DataW H × List MemPlace), DataW.trod enc P w base spare held fuel t cs = some x → ∃ v, k.K w v cs ∧ G v
variable {P : Program} {t e : TypeId}
theorem opens_int {k : IntKind} (ht : P.underlying t = some (.int k)) (hc : P.cellsOf t = 1) : Opens P t (Kd.int k) (fun n => (Lit.int k n).wf = true) where
  sz := hc
  op := fun enc w base spare held fuel cs x h => by
    obtain ⟨n, rfl, _, hw⟩ := DataW.trod_int ht h
    exact ⟨n, rfl, hw⟩
theorem opens_bool (ht : P.underlying t = some .bool) (hc : P.cellsOf t = 1) : Opens P t Kd.bool (fun _ => True) where
  sz := hc
  op := fun enc w base spare held fuel cs x h => by
    obtain ⟨b, rfl, _⟩ := DataW.trod_bool ht h
    exact ⟨b, rfl, trivial⟩
theorem opens_string (ht : P.underlying t = some .string) (hc : P.cellsOf t = 1) : Opens P t Kd.string (fun s => s.size ≤ maxLen) where
  sz := hc
  op := fun enc w base spare held fuel cs x h => by
    obtain ⟨s, rfl, _, hs⟩ := DataW.trod_string ht h
    exact ⟨s, rfl, hs⟩
theorem exists_list {α : Type} {p : Nat → α → Prop} : ∀ n, (∀ i, i < n → ∃ v, p i v) → ∃ xs : List α, xs.length = n ∧ ∀ i v, xs[i]? = some v → p i v
  | 0, _ => ⟨[], rfl, fun i v h => by simp at h⟩
  | n + 1, h => by
    obtain ⟨xs, hl, hx⟩ := exists_list n (fun i hi => h i (by omega))
    obtain ⟨v, hv⟩ := h n (by omega)
    refine ⟨xs ++ [v], by simp [hl], fun i u hu => ?_⟩
    by_cases hi : i < n
    · rw [List.getElem?_append_left (by omega)] at hu
      exact hx i u hu
    · rw [List.getElem?_append_right (by omega)] at hu
      have : i - xs.length = 0 := by
        have := (List.getElem?_eq_some_iff.1 hu).1
        simp at this
        omega
      rw [this] at hu
      have hi' : i = n := by omega
      subst hi'
      simp at hu
      subst hu
      exact hv
theorem opens_slice {α : Type} {k : Kd α} {G : α → Prop} (ht : P.underlying t = some (.slice e)) (hc : P.cellsOf t = 1) (h : Opens P e k G) : Opens P t (Kd.slice e k) (fun xs => xs.length ≤ maxLen ∧ ∀ x ∈ xs, G x) where
  sz := hc
  op := fun enc w base spare held fuel cs x hx => by
    rcases DataW.trod_slice ht hx with ⟨rfl, rfl⟩ | ⟨a, len, cap, elems, rest, n, _, rfl, _, _, hl, hm, hlen, hel, _, _⟩
    · exact ⟨[], ⟨none, 0, rfl, Nat.le_refl _, Kd.C_nil k w⟩, by simp, fun x hx => absurd hx List.not_mem_nil⟩
    · have each : ∀ i, i < len → ∃ v, G v ∧ ∃ c, c.length = k.sz ∧ k.K w v c ∧ ∀ j u, c[j]? = some u → w.cell? (a.add (i * k.sz + j)) = some u := by
        intro i hi
        have h1 := hel i hi
        rw [List.getElem?_eq_getElem (by omega), Option.bind_eq_some_iff, h.sz] at h1
        obtain ⟨c, hc1, hc2⟩ := h1
        obtain ⟨v, hv, hg⟩ := h.op enc w base spare held n c _ hc2
        obtain ⟨_, hcl, hcell⟩ := World.cells?_some hc1
        refine ⟨v, hg, c, hcl, hv, fun j u hu => ?_⟩
        have hj : j < k.sz := by
          have := (List.getElem?_eq_some_iff.1 hu).1
          omega
        rw [← Addr.add_add, hcell j hj]
        exact hu
      obtain ⟨xs, hxl, hx⟩ := exists_list len each
      have hmx : (maxLen : Nat) ≤ 9223372036854775807 := by unfold maxLen; omega
      refine ⟨xs, ⟨some a, cap, by rw [hxl], by omega, ?_⟩, by omega, fun x hx' => ?_⟩
      · refine ⟨rfl, by omega, fun _ => ⟨a, rfl, fun j p hp => ?_⟩⟩
        obtain ⟨_, c, h1, h2, h3⟩ := hx j p hp
        exact ⟨c, h1, h2, h3⟩
      · obtain ⟨i, hi⟩ := List.mem_iff_getElem?.1 hx'
        exact (hx i x hi).1
structure Fields {α : Type} (P : Program) (fs : List Field) (off : Nat) (k : Kd α) (G : α → Prop) : Prop where
  from_ : ∀ f ∈ fs, off ≤ f.offset
  op : ∀ {H : Type} (enc : TypeId × Value → H) (w : World) (base : Nat) (spare : Nat → Bool) (held : Bool) (n : Nat) (cs : List Value), cs.length = k.sz → (∀ f ∈ fs, ∃ y, DataW.trod enc P w base spare held n f.type ((cs.drop (f.offset - off)).take (P.cellsOf f.type)) = some y) → ∃ v, k.K w v cs ∧ G v
theorem fields_one {α : Type} {k : Kd α} {G : α → Prop} {f : Field} (h : Opens P f.type k G) : Fields P [f] f.offset k G where
  from_ := fun g hg => by rw [List.mem_singleton.1 hg]; exact Nat.le_refl _
  op := fun enc w base spare held n cs hl hf => by
    obtain ⟨y, hy⟩ := hf f (by simp)
    rw [Nat.sub_self, List.drop_zero, h.sz, ← hl, List.take_length] at hy
    exact h.op enc w base spare held n cs y hy
theorem fields_cons {α β : Type} {k : Kd α} {k' : Kd β} {G : α → Prop} {G' : β → Prop} {f : Field} {fs : List Field} (h : Opens P f.type k G) (hs : Fields P fs (f.offset + k.sz) k' G') : Fields P (f :: fs) f.offset (Kd.pair k k') (fun x => G x.1 ∧ G' x.2) where
  from_ := fun g hg => by
    rcases List.mem_cons.1 hg with rfl | hg
    · exact Nat.le_refl _
    · have := hs.from_ g hg
      omega
  op := fun enc w base spare held n cs hl hf => by
    have hl' : cs.length = k.sz + k'.sz := hl
    obtain ⟨y, hy⟩ := hf f (by simp)
    rw [Nat.sub_self, List.drop_zero, h.sz] at hy
    obtain ⟨v, hv, hg⟩ := h.op enc w base spare held n _ y hy
    obtain ⟨u, hu, hg'⟩ := hs.op enc w base spare held n (cs.drop k.sz) (by rw [List.length_drop]; omega) (fun g hg => by
      obtain ⟨y, hy⟩ := hf g (by simp [hg])
      refine ⟨y, ?_⟩
      have := hs.from_ g hg
      rw [List.drop_drop, show k.sz + (g.offset - (f.offset + k.sz)) = g.offset - f.offset by omega]
      exact hy)
    exact ⟨(v, u), ⟨cs.take k.sz, cs.drop k.sz, (List.take_append_drop _ _).symm, hv, hu⟩, hg, hg'⟩
theorem opens_struct {α : Type} {k : Kd α} {G : α → Prop} {fs : Array Field} (ht : P.underlying t = some (.struct fs)) (hc : P.cellsOf t = k.sz) (h : Fields P fs.toList 0 k G) : Opens P t k G where
  sz := hc
  op := fun enc w base spare held fuel cs x hx => by
    obtain ⟨xs, n, _, _, hl, hlen, hf⟩ := DataW.trod_struct ht hx
    refine h.op enc w base spare held n cs (hl.trans hc) (fun f hf' => ?_)
    obtain ⟨i, hi⟩ := List.mem_iff_getElem?.1 hf'
    rw [Array.getElem?_toList] at hi
    have h1 := hf i f hi
    have : i < fs.size := by
      have := (Array.getElem?_eq_some_iff.1 hi).1
      exact this
    rw [List.getElem?_eq_getElem (by omega)] at h1
    rw [Nat.sub_zero]
    exact ⟨_, h1⟩
theorem opens_iso {α β : Type} {k : Kd α} {G : α → Prop} (f : β → α) (g : α → β) (hfg : ∀ x, f (g x) = x) (h : Opens P t k G) : Opens P t (Kd.iso k f) (fun y => G (f y)) where
  sz := h.sz
  op := fun enc w base spare held fuel cs x hx => by
    obtain ⟨v, hv, hg⟩ := h.op enc w base spare held fuel cs x hx
    exact ⟨g v, by show k.K w (f (g v)) cs; rw [hfg]; exact hv, by rw [hfg]; exact hg⟩
theorem opens_imp {α : Type} {k : Kd α} {G G' : α → Prop} (h : Opens P t k G) (hg : ∀ x, G x → G' x) : Opens P t k G' where
  sz := h.sz
  op := fun enc w base spare held fuel cs x hx => by
    obtain ⟨v, hv, hh⟩ := h.op enc w base spare held fuel cs x hx
    exact ⟨v, hv, hg v hh⟩
end Go.Proofs.YtijmhelacmjggaaGreatOpen
set_option linter.unusedVariables false
namespace Go.Proofs.YtijmhelacmjggaaGreat.fnExactOpeners.Pure
open Go.RowKit Go.Proofs.YtijmhelacmjggaaGreatW.PrintWords Go.Proofs.YtijmhelacmjggaaGreatW.PrintLast Go.Proofs.YtijmhelacmjggaaGreat.P Go.Proofs.YtijmhelacmjggaaGreatEv
theorem pure_FnExactOpeners : ∀ (l0_0 : List S91) (a1 : Int), (l0_0.length ≤ maxLen ∧ ∀ y ∈ l0_0, g91 y) → (Lit.int .i64 a1).wf = true → ∃ k, laws_FnExactOpeners.f k l0_0 a1 = some true := by
  intro l0_0 a1 h0 h1
  exact ⟨0, if_pos (h0)⟩
end Go.Proofs.YtijmhelacmjggaaGreat.fnExactOpeners.Pure
namespace Go.Proofs.YtijmhelacmjggaaGreat.fnExactOpeners
open Go.ChangeShapes Go.WideShapes Go.ChangeAt Go.RowKit Go.Proofs.YtijmhelacmjggaaGreatW.PrintWords Go.Proofs.YtijmhelacmjggaaGreatOpen Go.Proofs.YtijmhelacmjggaaGreat.P
open Go.ChangeMaps (open_string shut_string)
set_option linter.unusedVariables false
set_option linter.unusedSimpArgs false
theorem own : ownKnob Tryz.prog.godebug = none := by kernel_rfl
theorem laidOut : laidOutB Tryz.prog = true := by kernel_rfl
theorem o178 : Opens Tryz.prog 178 k178 g178 := opens_imp (opens_iso (fun x : S178 => (x.f0, x.f1)) (fun p => ⟨p.1, p.2⟩) (fun _ => rfl) (opens_struct Tryz.underlying178 (by kernel_rfl) (fields_cons (opens_int Tryz.underlying2 (by kernel_rfl)) (fields_one (opens_int Tryz.underlying2 (by kernel_rfl)))))) (fun _ h => h)
theorem o168 : Opens Tryz.prog 168 k168 g168 := opens_imp (opens_iso (fun x : S168 => (x.f0, x.f1, x.f2, x.f3, x.f4)) (fun p => ⟨p.1, p.2.1, p.2.2.1, p.2.2.2.1, p.2.2.2.2⟩) (fun _ => rfl) (opens_struct Tryz.underlying168 (by kernel_rfl) (fields_cons (opens_int Tryz.underlying2 (by kernel_rfl)) (fields_cons (opens_slice Tryz.underlying166 (by kernel_rfl) o178) (fields_cons (opens_slice Tryz.underlying119 (by kernel_rfl) (opens_int Tryz.underlying2 (by kernel_rfl))) (fields_cons (opens_int Tryz.underlying2 (by kernel_rfl)) (fields_one (opens_int Tryz.underlying2 (by kernel_rfl))))))))) (fun _ h => h)
theorem o142 : Opens Tryz.prog 142 k142 g142 := opens_imp (opens_iso (fun x : S142 => x.f0) (fun p => ⟨p⟩) (fun _ => rfl) (opens_struct Tryz.underlying142 (by kernel_rfl) (fields_one (opens_slice Tryz.underlying140 (by kernel_rfl) o168)))) (fun _ h => h)
theorem o144 : Opens Tryz.prog 144 k144 g144 := opens_imp (opens_iso (fun x : S144 => (x.f0, x.f1, x.f2, x.f3, x.f4)) (fun p => ⟨p.1, p.2.1, p.2.2.1, p.2.2.2.1, p.2.2.2.2⟩) (fun _ => rfl) (opens_struct Tryz.underlying144 (by kernel_rfl) (fields_cons (opens_string Tryz.underlying9 (by kernel_rfl)) (fields_cons o142 (fields_cons (opens_bool Tryz.underlying4 (by kernel_rfl)) (fields_cons (opens_int Tryz.underlying2 (by kernel_rfl)) (fields_one (opens_string Tryz.underlying9 (by kernel_rfl))))))))) (fun _ h => h)
theorem o91 : Opens Tryz.prog 91 k91 g91 := opens_imp (opens_iso (fun x : S91 => (x.f0, x.f1)) (fun p => ⟨p.1, p.2⟩) (fun _ => rfl) (opens_struct Tryz.underlying91 (by kernel_rfl) (fields_cons (opens_string Tryz.underlying9 (by kernel_rfl)) (fields_one (opens_slice Tryz.underlying89 (by kernel_rfl) o144))))) (fun _ h => h)
theorem lifted (os : Os) (started : os.Started) (H : Type) (enc : TypeId × Value → H) :
    ReturnsInHanded {} Tryz.checked os 3 .any (Rows.fnExactOpenersSpec.pre6 enc Tryz.prog Tryz.f3 Rows.fnExactOpenersRow.domain false) (Rows.fnExactOpenersSpec.post enc Tryz.prog Tryz.f3 false true false false) := by
  refine returnsInHanded_of_change_sized (C := Tryz.checked) own started (by kernel_rfl) Tryz.func3
    (ChangeSpec.witness6 (enc := enc) (C := Tryz.checked) false ⟨#[], #[.agg #[.slice none 0 0], .int .i64 0], []⟩ 8 (by kernel_rfl) (by kernel_rfl) (by kernel_rfl) (by kernel_rfl)) ?_
  intro W base args ds gs before hval0 hW hcnd hsz0 _
  have hsz : (DataW.weightsEach Tryz.prog (Tryz.f3.params.toList ++ Rows.fnExactOpenersSpec.plain.varTypes Tryz.prog) (ds ++ gs)).all (· ≤ reachBytes) = true := hsz0
  have hval : ∀ (j : Nat) t v, Tryz.f3.params[j]? = some t → args[j]? = some v → Value.okWide Tryz.prog W .any base t v := hval0
  have hW' := hW
  obtain ⟨p, q, hA0, hV, rfl, hfz, hnd⟩ := hW
  have hA : DataW.TrodAll enc Tryz.prog W 0 (fun _ => true) true Tryz.f3.params.toList args.toList ds p := hA0
  rw [Tryz.params3] at hA hval hsz
  obtain ⟨v0, vs0, d0, ds0, p0, q0, hargs, rfl, rfl, h0, r0⟩ := trodAll_cons hA
  obtain ⟨v1, vs1, d1, ds1, p1, q1, rfl, rfl, rfl, h1, r1⟩ := trodAll_cons r0
  obtain ⟨rfl, rfl, rfl⟩ := trodAll_nil r1
  obtain rfl : args = #[v0, v1] := by cases args; simp_all
  obtain ⟨rfl, rfl⟩ := trodVars_none hV
  have k0' := h0
  have lt0 : ∀ x ∈ p0, x.block < W.heap.size := by obtain ⟨m, hm⟩ := k0'; exact DataW.trod_lt m _ _ _ hm
  obtain ⟨cs0, rfl, hn0⟩ := okWide_struct Tryz.underlying24 (hval 0 24 v0 rfl rfl)
  obtain ⟨fuel0, hf0⟩ := h0
  have hf0' : DataW.trod enc Tryz.prog W 0 (fun _ => true) true fuel0 24 cs0.toList = some (d0, p0) := hf0
  obtain ⟨x0, hK0, hG0⟩ := (opens_struct Tryz.underlying24 (by kernel_rfl) (fields_one (opens_slice Tryz.underlying22 (by kernel_rfl) o91))).op enc W 0 (fun _ => true) true fuel0 _ _ hf0'
  have hG0' := hG0
  obtain ⟨A0_0, c0_0, hs0_0, hl0_0, hC0_0⟩ := hK0
  obtain rfl : cs0 = #[.slice A0_0 x0.length c0_0] := by
    apply Array.ext'
    simp only [hs0_0, List.cons_append, List.nil_append]
  obtain ⟨a1, rfl, rfl, rfl, w1⟩ := open_int Tryz.underlying2 (hval 1 2 v1 rfl rfl) h1
  clear hA0 hval0 hsz0 hsz
  obtain ⟨k, hk⟩ := Pure.pure_FnExactOpeners _ a1 hG0' w1
  refine (laws_FnExactOpeners.calls k A0_0 c0_0 _ a1 true W hC0_0 hl0_0 hk).mono fun e W' ⟨he, bel0⟩ => ?_
  have bel : Below W.heap.size W W' := bel0
  subst he
  exact ⟨_, rfl, _, _, _, [], _, [], hW', trodAll_mk1 (shut_bool Tryz.underlying4 _), (trodAll_cons_mk (Below.trod laidOut (by kernel_rfl) (of_decide_eq_true (by kernel_rfl)) k0' bel lt0) (trodAll_cons_mk (shut_int Tryz.underlying2 w1) trodAll_mk0)), rfl, bel.frame _, fun h => by cases h⟩
theorem over : Rows.fnExactOpenersRow.holds Tryz.pinned (OpenSpec.ofChange Rows.fnExactOpenersSpec) :=
  OpenClaim.holds_of_wide 3 Tryz.f3 rfl rfl rfl rfl rfl rfl rfl ⟨rfl, rfl, rfl, rfl, rfl⟩ rfl rfl rfl rfl rfl (by kernel_rfl) Tryz.func3 (by kernel_rfl)
    (of_decide_eq_true (by kernel_rfl)) (by unfold Func.isWrapper; first | (rw [if_pos (by decide +kernel)]; kernel_rfl) | (rw [if_neg (by decide +kernel)]; exact ⟨rfl, rfl⟩))
    (fun os started H enc _ => lifted os started H enc)
theorem proved : Rows.FnExactOpenersSaid := over
#print axioms proved
end Go.Proofs.YtijmhelacmjggaaGreat.fnExactOpeners
namespace Go.Proofs.YtijmhelacmjggaaGreat
theorem fnExactOpeners_holds : Rows.FnExactOpenersSaid := fnExactOpeners.proved
end Go.Proofs.YtijmhelacmjggaaGreat
