/- The law FnExactFirstOf holds for every call: part 5 of 6 of the proof (walks of functions, and what they answer). Conditions: none beyond what the given row says. -/
import Derived.Test.YtijmhelacmjggaaMFnExactFirstOf0
import Derived.Test.YtijmhelacmjggaaMFnExactFirstOf1
import Derived.Test.YtijmhelacmjggaaMFnExactFirstOf3
import Derived.Test.YtijmhelacmjggaaMFnExactFirstOf2
set_option maxHeartbeats 16000000
set_option maxRecDepth 100000
namespace Go.Proofs.Ytijmhelacmjggaa.P
open Go.RowKit Go.Proofs.YtijmhelacmjggaaW.PrintWords Go.Proofs.YtijmhelacmjggaaW.PrintLast Go.Proofs.YtijmhelacmjggaaW.PrintMore
attribute [local go_sem] max2_int min2_int max_two min_two max_three min_three max_four min_four
set_option linter.unusedVariables false
set_option linter.unusedSimpArgs false
/-! ### spec_l1Both: function 158 -/
mutual
def spec_l1Both.j0 : Nat → List (S103) → List (S103) → Int → Bool → Option ((List (S103)))
 | 0, _, _, _, _ => none
 | k + 1, x0, x1, x2, x17 => if x17 = true then (some (([] : List (S103)))) else ((spec_l1Marks.f k x0).bind fun t106 => ((spec_l1Marks.f k x1).bind fun t109 => (spec_l1Both.l0 k x2 t106 t109 0)))
def spec_l1Both.l0 : Nat → Int → List Bool → List Bool → Int → Option ((List (S103)))
 | 0, _, _, _, _ => none
 | k + 1, x2, x7, x8, x9 => if x9 < 256 then (if x2 = 0 then (if 0 ≤ x9 then (if x9 < (x7.length : Int) then (if rdOf false x7 x9 = true then (spec_l1Both.l0 k x2 (x7.set (x9 : Int).toNat true) x8 (wrap64 (x9 + 1))) else (if x9 < (x8.length : Int) then (spec_l1Both.l0 k x2 (x7.set (x9 : Int).toNat (rdOf false x8 x9)) x8 (wrap64 (x9 + 1))) else (none))) else (none)) else (none)) else (if x2 = 1 then (if 0 ≤ x9 then (if x9 < (x7.length : Int) then (if rdOf false x7 x9 = true then (if x9 < (x8.length : Int) then (spec_l1Both.l0 k x2 (x7.set (x9 : Int).toNat (rdOf false x8 x9)) x8 (wrap64 (x9 + 1))) else (none)) else (spec_l1Both.l0 k x2 (x7.set (x9 : Int).toNat false) x8 (wrap64 (x9 + 1)))) else (none)) else (none)) else (if x2 = 2 then (if 0 ≤ x9 then (if x9 < (x7.length : Int) then (if rdOf false x7 x9 = true then (if x9 < (x8.length : Int) then (spec_l1Both.l0 k x2 (x7.set (x9 : Int).toNat (!(rdOf false x8 x9))) x8 (wrap64 (x9 + 1))) else (none)) else (spec_l1Both.l0 k x2 (x7.set (x9 : Int).toNat false) x8 (wrap64 (x9 + 1)))) else (none)) else (none)) else (spec_l1Both.l0 k x2 x7 x8 (wrap64 (x9 + 1)))))) else ((spec_l1Class.f k x7).bind fun t112 => (some t112))
end
def spec_l1Both.f (k : Nat) (l0 : List (S103)) (l1 : List (S103)) (a2 : Int) : Option ((List (S103))) := (spec_ClassOk.f k l0).bind fun t101 => (if t101 = true then ((spec_ClassOk.f k l1).bind fun t102 => (spec_l1Both.j0 k l0 l1 a2 (!t102))) else (spec_l1Both.j0 k l0 l1 a2 true))
theorem spec_l1Both.calls (k : Nat) (A0 : Option Addr) (c0 : Nat) (l0 : List (S103)) (A1 : Option Addr) (c1 : Nat) (l1 : List (S103)) (a2 : Int) (r : List (S103)) (w : World) (hr0 : Kd.C k103 w A0 l0.length l0) (hc0 : l0.length ≤ c0) (hr1 : Kd.C k103 w A1 l1.length l1) (hc1 : l1.length ≤ c1) (h : spec_l1Both.f k l0 l1 a2 = some r) :
  Calls Try.prog 158 #[.slice A0 l0.length c0, .slice A1 l1.length c1, .int .i64 a2] w fun e w' => ∃ v0_ : Value, e = .returned (v0_) ∧ Kd.R k103 103 w' w.heap.size (fun _ => True) v0_ r ∧ Below w.heap.size w w' := by
 have HR0 := q_ hr0; have HC0 := q_ hc0; clear hr0 hc0; have HR1 := q_ hr1; have HC1 := q_ hc1; clear hr1 hc1; have HB := q_ (Below.refl w.heap.size w)
 have H : ((spec_ClassOk.f k l0).bind fun t101 => (if t101 = true then ((spec_ClassOk.f k l1).bind fun t102 => (spec_l1Both.j0 k l0 l1 a2 (!t102))) else (spec_l1Both.j0 k l0 l1 a2 true))) = some r := h
 clear h; have HC4 := q_ H; clear H
 go_enter Try.func158, Try.ntmps158
 go_upto_region 1 with (fail)
 go_cut [17] (fun v17 wc => ∃ (kq : Nat) (x17_3 : Bool), v17 = .bool x17_3 ∧ J0 (spec_l1Both.j0 kq l0 l1 a2 x17_3 = some r) ∧ J0 (kq ≤ k) ∧ J0 (Below w.heap.size w wc))
 case first =>
  have H := HC4.o; clear HC4; obtain ⟨t101, A5, H⟩ := ob_ H
  by_cases c6 : t101 = true
  ·subst c6; rw [if_pos rfl] at H; obtain ⟨t102, A7, H⟩ := ob_ H
   have H' := q_ H
   clear H
   go_wp2_with (first | ((with_reducible refine gate_callee (f := 141) rfl ?_); refine gl_ (some 11) rfl rfl Try.func141 #[.slice A0 l0.length c0] ?_; (with_reducible refine (spec_ClassOk.calls k _ _ l0 true _ ?side1 ?side2 A5.o).mono ?_); (case side1 => exact Kd.C_below HR0.o (be_ HB.o)); (case side2 => exact HC0.o); rintro e w8 ⟨rfl, hb⟩; refine ⟨_, rfl, ?_⟩; replace HB := sb_ HB hb; (try clear hb)) | (go_at_call 141; (with_reducible refine (spec_ClassOk.calls k _ _ l1 t102 _ ?side1 ?side2 A7.o).mono ?_); (case side1 => exact Kd.C_below HR1.o (be_ HB.o)); (case side2 => exact HC1.o); rintro e w9 ⟨rfl, hb⟩; replace HB := sb_ HB hb; (try clear hb)))
   go_meet
   case rel => exact ⟨_, (!t102), rs_, H', ⟨by first | omega | exact Nat.le_refl _⟩, ⟨be_ HB.o⟩⟩
  ·replace c6 := Bool.eq_false_iff.mpr c6; subst c6; rw [if_neg nft_] at H
   have H' := q_ H
   clear H
   go_wp2_with (first | ((with_reducible refine gate_callee (f := 141) rfl ?_); refine gl_ (some 11) rfl rfl Try.func141 #[.slice A0 l0.length c0] ?_; (with_reducible refine (spec_ClassOk.calls k _ _ l0 false _ ?side1 ?side2 A5.o).mono ?_); (case side1 => exact Kd.C_below HR0.o (be_ HB.o)); (case side2 => exact HC0.o); rintro e w10 ⟨rfl, hb⟩; refine ⟨_, rfl, ?_⟩; replace HB := sb_ HB hb; (try clear hb)))
   go_meet
   case rel => exact ⟨_, (true), rs_, H', ⟨by first | omega | exact Nat.le_refl _⟩, ⟨be_ HB.o⟩⟩
 case rest =>
  clear HC4; (try clear c1); (try clear c6); obtain ⟨kq, x17_3, rfl, HA, HJ3, HB⟩ := hcut
  cases kq with
  | zero => exact absurd HA.o (by simp [spec_l1Both.j0])
  | succ kj3 =>
   have H := HA.o; clear HA
   simp only [spec_l1Both.j0] at H
   by_cases c11 : x17_3 = true
   ·subst c11; rw [if_pos rfl] at H
    obtain ⟨y103, hy103⟩ : ∃ y_ : List (S103), y_ = (([] : List (S103))) := ⟨_, rfl⟩
    replace H : (some y103) = some r := by first | (rw [hy103]; with_reducible exact H) | (have H2_ := (Option.bind_some _ _).symm.trans H; rw [hy103]; with_reducible exact H2_) | (have H2_ := (Option.bind_some _ _).symm.trans H; with_reducible exact H2_) | with_reducible exact H | (rw [hy103]; exact H) | exact H
    have Ny103 := q_ hy103; clear hy103; obtain rfl := Option.some.inj H
    go_wp2_with (first | ((with_reducible refine gate_dst (N := 18) rfl ?_); refine Kd.R_lit k103 _ 103 ?hg (N := 18) ?hd (xs := ([] : List (S103))) (inner := []) (ok := fun _ => True) (okp := fun _ => True) ?hr ?hp (fun _ hk => hk) trivial (Below.refl _ _) (Nat.le_refl _) (by simp) ?_; (case hd => rfl); (case hg => rfl); (case hr => first | (go_simp; done) | (go_simp; rfl)); (case hp => exact (Reps.none _ _)); intro v104 w12 ho13 hb hg_ hnew_; clear hg_ hnew_; (first | rw [← Ny103.o] at ho13 | (simp only [Int.reduceToNat] at ho13; rw [← Ny103.o] at ho13)); have HO105 := q_ (Kd.R_lower ho13 (below_size (be_ HB.o))); replace HB := sb_ HB hb; clear hb ho13))
    go_ret
    exact ⟨_, rt_, ra_ HO105.o, be_ HB.o⟩
   ·replace c11 := Bool.eq_false_iff.mpr c11; subst c11; rw [if_neg nft_] at H; obtain ⟨t106, A14, H⟩ := ob_ H; obtain ⟨t109, A15, H⟩ := ob_ H
    have H' := q_ H
    clear H
    go_wp2_with (first | ((with_reducible refine gate_callee (f := 169) rfl ?_); refine gl_ (some 20) rfl rfl Try.func169 #[.slice A0 l0.length c0] ?_; (with_reducible refine (spec_l1Marks.calls kj3 _ _ l0 t106 _ ?side1 ?side2 A14.o).mono ?_); (case side1 => exact Kd.C_below HR0.o (be_ HB.o)); (case side2 => exact HC0.o); rintro e w16 ⟨v107, rfl, ho0, hb⟩; refine ⟨_, rfl, ?_⟩; have HO108 := q_ (Kd.R_lower ho0 (below_size (be_ HB.o))); replace HB := sb_ HB hb; (try clear hb); (try clear ho0)) | ((with_reducible refine gate_callee (f := 169) rfl ?_); refine gl_ (some 22) rfl rfl Try.func169 #[.slice A1 l1.length c1] ?_; (with_reducible refine (spec_l1Marks.calls kj3 _ _ l1 t109 _ ?side1 ?side2 A15.o).mono ?_); (case side1 => exact Kd.C_below HR1.o (be_ HB.o)); (case side2 => exact HC1.o); rintro e w17 ⟨v110, rfl, ho0, hb⟩; refine ⟨_, rfl, ?_⟩; have HO111 := q_ (Kd.R_lower (Kd.R_new' ho0 (Kd.R_lt (ra_ HO108.o))) (below_size (be_ HB.o))); replace HO108 := q_ (Kd.R_elder' (ra_ HO108.o) (Kd.R_base ho0) hb); replace HB := sb_ HB hb; (try clear hb); (try clear ho0)))
    go_loopg [9] kj3 (fun kq v9 w' => ∃ (x7_2 : List Bool) (x9_2 : Int), v9 = .int .i64 x9_2 ∧ J0 (spec_l1Both.l0 kq a2 x7_2 t109 x9_2 = some r) ∧ J0 (kq ≤ kj3) ∧ J0 (Kd.R Kd.bool 4 w' w.heap.size (fun k_ => some k_ ≠ (v110 : Value).ownBlock) v107 x7_2) ∧ J0 (Kd.R Kd.bool 4 w' w.heap.size (fun k_ => some k_ ≠ (v107 : Value).ownBlock) v110 t109) ∧ J0 (Below w.heap.size w w'))
    case atStart => exact ⟨(t106), (0), rs_, H', ⟨Nat.le_refl _⟩, ⟨by (with_reducible repeat (first | apply Kd.R_alloc | apply Kd.R_drewN | apply Kd.R_drew)); exact Kd.R_mono HO108.o (fun _ hk => hk.2)⟩, ⟨by (with_reducible repeat (first | apply Kd.R_alloc | apply Kd.R_drewN | apply Kd.R_drew)); exact Kd.R_mono HO111.o (fun _ hk => hk.2)⟩, ⟨be_ HB.o⟩⟩
    case round =>
     clear H'; (try clear c1); (try clear c6); (try clear c11); obtain ⟨x7_2, x9_2, rfl, HA, HK2, HO_7, HO_8, HB⟩ := hrel
     cases gk with
     | zero => exact absurd HA.o (by simp [spec_l1Both.l0])
     | succ k2 =>
      have H := HA.o; clear HA
      simp only [spec_l1Both.l0] at H
      by_cases c18 : x9_2 < 256
      ·rw [if_pos c18] at H; have c18b0 := dt_ c18; clear c18
       by_cases c19 : a2 = 0
       ·rw [if_pos c19] at H
        have c19b0 : (a2 == 0) = true := beq_iff_eq.mpr c19
        have c19b1 : (a2 != 0) = false := bne_eq_false_iff_eq.mpr c19
        clear c19
        by_cases c20 : 0 ≤ x9_2
        ·rw [if_pos c20] at H; have c20b0 := dt_ c20; clear c20
         by_cases c21 : x9_2 < (x7_2.length : Int)
         ·rw [if_pos c21] at H; have c21b0 := dt_ c21; clear c21
          obtain ⟨bq22, hbq22⟩ : ∃ b_ : Bool, b_ = (rdOf false x7_2 x9_2) := ⟨_, rfl⟩
          replace H : (if bq22 = true then (spec_l1Both.l0 k2 a2 (x7_2.set (x9_2 : Int).toNat true) t109 (wrap64 (x9_2 + 1))) else (if x9_2 < (t109.length : Int) then (spec_l1Both.l0 k2 a2 (x7_2.set (x9_2 : Int).toNat (rdOf false t109 x9_2)) t109 (wrap64 (x9_2 + 1))) else (none))) = some r := by rw [← hbq22] at H; exact H
          have Nbq22 := q_ hbq22; clear hbq22
          by_cases c23 : bq22 = true
          ·subst c23; rw [if_pos rfl] at H
           obtain ⟨y116, hy116⟩ : ∃ y_ : List Bool, y_ = (x7_2.set (x9_2 : Int).toNat true) := ⟨_, rfl⟩
           replace H : (spec_l1Both.l0 k2 a2 y116 t109 (wrap64 (x9_2 + 1))) = some r := by first | (rw [hy116]; with_reducible exact H) | (have H2_ := (Option.bind_some _ _).symm.trans H; rw [hy116]; with_reducible exact H2_) | (have H2_ := (Option.bind_some _ _).symm.trans H; with_reducible exact H2_) | with_reducible exact H | (rw [hy116]; exact H) | exact H
           have Ny116 := q_ hy116; clear hy116
           have H' := q_ H
           clear H; obtain ⟨Ao25, co25, eo25⟩ := Kd.R_slice HO_7.o; subst eo25
           have p115 : 0 ≤ (x9_2 : Int) := of_decide_eq_true as_
           have q115 : x9_2 < (x7_2.length : Int) := of_decide_eq_true as_
           obtain ⟨ad115, e115, hx115_0⟩ := Kd.at_bool (Kd.R_reads' HO_7.o).2.2 x9_2 p115 q115
           (try rw [← Nbq22.o] at hx115_0)
           cases e115
           replace p115 := eq_true p115; replace q115 := eq_true q115
           have p24 : 0 ≤ (x9_2 : Int) := of_decide_eq_true as_
           have q24 : (x9_2 : Int) < ((x7_2.length : Int) : Int) := of_decide_eq_true as_
           obtain ⟨go24, co24, eo24, gb24, gl24, cl24, HG24⟩ := Kd.R_form HO_7.o (by omega)
           (first | cases eo24 | (injection eo24 with ea_ en_ ec_; (first | subst ea_ | (injection ea_ with ea_; subst ea_)); subst ec_; clear en_))
           have GB24 := q_ gb24; have GG24 := q_ HG24; clear gb24 gl24 HG24
           (first | simp only [add_plain] at hx115_0 | skip)
           obtain ⟨hx24_0, hf24_0⟩ := Kd.R_celln false HO_7.o (x9_2 : Int) p24 q24; replace p24 := eq_true p24; replace q24 := eq_true q24; have HP26 := Kd.R_putg HO_7.o (x9_2 : Int) true
           go_wp2_with (first | ((with_reducible refine gate_store (t := 4) (p := 42) rfl ?_); refine store_event (t := 4) (p := 42) (v := ?vo_w27) (w1 := (wr.setCell ⟨go24, (x9_2 : Int).toNat, none⟩ (.bool true))) ?hg ?ho ?hn ?hr ?_; (case ho => rfl); (case hg => rfl); (case hn => rfl); (case hr => first | (go_simp; done) | (go_simp; rfl)); intro w27 hw; have hg : wr.grownBy w27 (some go24) := (by rw [hw]; exact HP26.2); have hp_ : Kd.R Kd.bool 4 w27 w.heap.size (fun k_ => some k_ ≠ (v110 : Value).ownBlock) (.slice (some ⟨go24, 0, none⟩) x7_2.length co25) y116 := (by rw [hw, Ny116.o]; exact HP26.1); clear HP26; replace HO_7 := q_ (hp_); replace HO_8 := q_ (Kd.R_after (v := (.slice (some ⟨go24, 0, none⟩) x7_2.length co25)) (v1 := (.slice (some ⟨go24, 0, none⟩) x7_2.length co25)) (ok := (fun _ => True)) (by (with_reducible repeat (first | apply Kd.R_alloc | apply Kd.R_drewN | apply Kd.R_drew)); exact Kd.R_mono HO_8.o (fun _ hk => ⟨trivial, hk⟩)) hg (.inl rfl)); replace HB := q_ ((by rw [hw]; exact below_set (HB.o) GB24.out : Below w.heap.size w w27)); clear hg hw hp_))
           go_roundg k2
           case measure => have := HJ3.o; have := HK2.o; omega
           case rel => exact ⟨(y116), (wrap64 (x9_2 + 1)), rs_, H', ⟨by have := HJ3.o; have := HK2.o; omega⟩, ⟨ra_ HO_7.o⟩, ⟨by (with_reducible repeat (first | apply Kd.R_alloc | apply Kd.R_drewN | apply Kd.R_drew)); exact Kd.R_mono HO_8.o (fun _ hk => hk.2)⟩, ⟨be_ HB.o⟩⟩
          ·replace c23 := Bool.eq_false_iff.mpr c23; subst c23; rw [if_neg nft_] at H
           by_cases c28 : x9_2 < (t109.length : Int)
           ·rw [if_pos c28] at H; have c28b0 := dt_ c28; clear c28
            obtain ⟨y118, hy118⟩ : ∃ y_ : List Bool, y_ = (x7_2.set (x9_2 : Int).toNat (rdOf false t109 x9_2)) := ⟨_, rfl⟩
            replace H : (spec_l1Both.l0 k2 a2 y118 t109 (wrap64 (x9_2 + 1))) = some r := by first | (rw [hy118]; with_reducible exact H) | (have H2_ := (Option.bind_some _ _).symm.trans H; rw [hy118]; with_reducible exact H2_) | (have H2_ := (Option.bind_some _ _).symm.trans H; with_reducible exact H2_) | with_reducible exact H | (rw [hy118]; exact H) | exact H
            have Ny118 := q_ hy118; clear hy118
            have H' := q_ H
            clear H; obtain ⟨Ao30, co30, eo30⟩ := Kd.R_slice HO_7.o; subst eo30
            have p115 : 0 ≤ (x9_2 : Int) := of_decide_eq_true as_
            have q115 : x9_2 < (x7_2.length : Int) := of_decide_eq_true as_
            obtain ⟨ad115, e115, hx115_0⟩ := Kd.at_bool (Kd.R_reads' HO_7.o).2.2 x9_2 p115 q115
            (try rw [← Nbq22.o] at hx115_0)
            cases e115
            replace p115 := eq_true p115; replace q115 := eq_true q115; obtain ⟨Ao31, co31, eo31⟩ := Kd.R_slice HO_8.o; subst eo31
            have p117 : 0 ≤ (x9_2 : Int) := of_decide_eq_true as_
            have q117 : x9_2 < (t109.length : Int) := of_decide_eq_true as_
            obtain ⟨ad117, e117, hx117_0⟩ := Kd.at_bool (Kd.R_reads' HO_8.o).2.2 x9_2 p117 q117
            (try rw [← Nbq22.o] at hx117_0)
            cases e117
            replace p117 := eq_true p117; replace q117 := eq_true q117
            have p29 : 0 ≤ (x9_2 : Int) := of_decide_eq_true as_
            have q29 : (x9_2 : Int) < ((x7_2.length : Int) : Int) := of_decide_eq_true as_
            obtain ⟨go29, co29, eo29, gb29, gl29, cl29, HG29⟩ := Kd.R_form HO_7.o (by omega)
            (first | cases eo29 | (injection eo29 with ea_ en_ ec_; (first | subst ea_ | (injection ea_ with ea_; subst ea_)); subst ec_; clear en_))
            have GB29 := q_ gb29; have GG29 := q_ HG29; clear gb29 gl29 HG29
            (first | simp only [add_plain] at hx115_0 | skip)
            obtain ⟨hx29_0, hf29_0⟩ := Kd.R_celln false HO_7.o (x9_2 : Int) p29 q29; replace p29 := eq_true p29; replace q29 := eq_true q29; have HP32 := Kd.R_putg HO_7.o (x9_2 : Int) (rdOf false t109 x9_2)
            go_wp2_with (first | ((with_reducible refine gate_store (t := 4) (p := 42) rfl ?_); refine store_event (t := 4) (p := 42) (v := ?vo_w33) (w1 := (wr.setCell ⟨go29, (x9_2 : Int).toNat, none⟩ (.bool (rdOf false t109 x9_2)))) ?hg ?ho ?hn ?hr ?_; (case ho => rfl); (case hg => rfl); (case hn => rfl); (case hr => first | (go_simp; done) | (go_simp; rfl)); intro w33 hw; have hg : wr.grownBy w33 (some go29) := (by rw [hw]; exact HP32.2); have hp_ : Kd.R Kd.bool 4 w33 w.heap.size (fun k_ => some k_ ≠ (.slice (some ad117) t109.length co31 : Value).ownBlock) (.slice (some ⟨go29, 0, none⟩) x7_2.length co30) y118 := (by rw [hw, Ny118.o]; exact HP32.1); clear HP32; replace HO_7 := q_ (hp_); replace HO_8 := q_ (Kd.R_after (v := (.slice (some ⟨go29, 0, none⟩) x7_2.length co30)) (v1 := (.slice (some ⟨go29, 0, none⟩) x7_2.length co30)) (ok := (fun _ => True)) (by (with_reducible repeat (first | apply Kd.R_alloc | apply Kd.R_drewN | apply Kd.R_drew)); exact Kd.R_mono HO_8.o (fun _ hk => ⟨trivial, hk⟩)) hg (.inl rfl)); replace HB := q_ ((by rw [hw]; exact below_set (HB.o) GB29.out : Below w.heap.size w w33)); clear hg hw hp_))
            go_roundg k2
            case measure => have := HJ3.o; have := HK2.o; omega
            case rel => exact ⟨(y118), (wrap64 (x9_2 + 1)), rs_, H', ⟨by have := HJ3.o; have := HK2.o; omega⟩, ⟨ra_ HO_7.o⟩, ⟨by (with_reducible repeat (first | apply Kd.R_alloc | apply Kd.R_drewN | apply Kd.R_drew)); exact Kd.R_mono HO_8.o (fun _ hk => hk.2)⟩, ⟨be_ HB.o⟩⟩
           ·rw [if_neg c28] at H
            exact absurd H (by simp)
         ·rw [if_neg c21] at H
          exact absurd H (by simp)
        ·rw [if_neg c20] at H
         exact absurd H (by simp)
       ·rw [if_neg c19] at H
        have c19b0 : (a2 == 0) = false := beq_eq_false_iff_ne.mpr c19
        have c19b1 : (a2 != 0) = true := bne_iff_ne.mpr c19
        by_cases c34 : a2 = 1
        ·rw [if_pos c34] at H
         have c34b0 : (a2 == 1) = true := beq_iff_eq.mpr c34
         have c34b1 : (a2 != 1) = false := bne_eq_false_iff_eq.mpr c34
         clear c34
         by_cases c35 : 0 ≤ x9_2
         ·rw [if_pos c35] at H; have c35b0 := dt_ c35; clear c35
          by_cases c36 : x9_2 < (x7_2.length : Int)
          ·rw [if_pos c36] at H; have c36b0 := dt_ c36; clear c36
           obtain ⟨bq37, hbq37⟩ : ∃ b_ : Bool, b_ = (rdOf false x7_2 x9_2) := ⟨_, rfl⟩
           replace H : (if bq37 = true then (if x9_2 < (t109.length : Int) then (spec_l1Both.l0 k2 a2 (x7_2.set (x9_2 : Int).toNat (rdOf false t109 x9_2)) t109 (wrap64 (x9_2 + 1))) else (none)) else (spec_l1Both.l0 k2 a2 (x7_2.set (x9_2 : Int).toNat false) t109 (wrap64 (x9_2 + 1)))) = some r := by rw [← hbq37] at H; exact H
           have Nbq37 := q_ hbq37; clear hbq37
           by_cases c38 : bq37 = true
           ·subst c38; rw [if_pos rfl] at H
            by_cases c39 : x9_2 < (t109.length : Int)
            ·rw [if_pos c39] at H; have c39b0 := dt_ c39; clear c39
             obtain ⟨y121, hy121⟩ : ∃ y_ : List Bool, y_ = (x7_2.set (x9_2 : Int).toNat (rdOf false t109 x9_2)) := ⟨_, rfl⟩
             replace H : (spec_l1Both.l0 k2 a2 y121 t109 (wrap64 (x9_2 + 1))) = some r := by first | (rw [hy121]; with_reducible exact H) | (have H2_ := (Option.bind_some _ _).symm.trans H; rw [hy121]; with_reducible exact H2_) | (have H2_ := (Option.bind_some _ _).symm.trans H; with_reducible exact H2_) | with_reducible exact H | (rw [hy121]; exact H) | exact H
             have Ny121 := q_ hy121; clear hy121
             have H' := q_ H
             clear H; obtain ⟨Ao41, co41, eo41⟩ := Kd.R_slice HO_7.o; subst eo41
             have p119 : 0 ≤ (x9_2 : Int) := of_decide_eq_true as_
             have q119 : x9_2 < (x7_2.length : Int) := of_decide_eq_true as_
             obtain ⟨ad119, e119, hx119_0⟩ := Kd.at_bool (Kd.R_reads' HO_7.o).2.2 x9_2 p119 q119
             (try rw [← Nbq37.o] at hx119_0)
             cases e119
             replace p119 := eq_true p119; replace q119 := eq_true q119; obtain ⟨Ao42, co42, eo42⟩ := Kd.R_slice HO_8.o; subst eo42
             have p120 : 0 ≤ (x9_2 : Int) := of_decide_eq_true as_
             have q120 : x9_2 < (t109.length : Int) := of_decide_eq_true as_
             obtain ⟨ad120, e120, hx120_0⟩ := Kd.at_bool (Kd.R_reads' HO_8.o).2.2 x9_2 p120 q120
             (try rw [← Nbq37.o] at hx120_0)
             cases e120
             replace p120 := eq_true p120; replace q120 := eq_true q120
             have p40 : 0 ≤ (x9_2 : Int) := of_decide_eq_true as_
             have q40 : (x9_2 : Int) < ((x7_2.length : Int) : Int) := of_decide_eq_true as_
             obtain ⟨go40, co40, eo40, gb40, gl40, cl40, HG40⟩ := Kd.R_form HO_7.o (by omega)
             (first | cases eo40 | (injection eo40 with ea_ en_ ec_; (first | subst ea_ | (injection ea_ with ea_; subst ea_)); subst ec_; clear en_))
             have GB40 := q_ gb40; have GG40 := q_ HG40; clear gb40 gl40 HG40
             (first | simp only [add_plain] at hx119_0 | skip)
             obtain ⟨hx40_0, hf40_0⟩ := Kd.R_celln false HO_7.o (x9_2 : Int) p40 q40; replace p40 := eq_true p40; replace q40 := eq_true q40; have HP43 := Kd.R_putg HO_7.o (x9_2 : Int) (rdOf false t109 x9_2)
             go_wp2_with (first | ((with_reducible refine gate_store (t := 4) (p := 57) rfl ?_); refine store_event (t := 4) (p := 57) (v := ?vo_w44) (w1 := (wr.setCell ⟨go40, (x9_2 : Int).toNat, none⟩ (.bool (rdOf false t109 x9_2)))) ?hg ?ho ?hn ?hr ?_; (case ho => rfl); (case hg => rfl); (case hn => rfl); (case hr => first | (go_simp; done) | (go_simp; rfl)); intro w44 hw; have hg : wr.grownBy w44 (some go40) := (by rw [hw]; exact HP43.2); have hp_ : Kd.R Kd.bool 4 w44 w.heap.size (fun k_ => some k_ ≠ (.slice (some ad120) t109.length co42 : Value).ownBlock) (.slice (some ⟨go40, 0, none⟩) x7_2.length co41) y121 := (by rw [hw, Ny121.o]; exact HP43.1); clear HP43; replace HO_7 := q_ (hp_); replace HO_8 := q_ (Kd.R_after (v := (.slice (some ⟨go40, 0, none⟩) x7_2.length co41)) (v1 := (.slice (some ⟨go40, 0, none⟩) x7_2.length co41)) (ok := (fun _ => True)) (by (with_reducible repeat (first | apply Kd.R_alloc | apply Kd.R_drewN | apply Kd.R_drew)); exact Kd.R_mono HO_8.o (fun _ hk => ⟨trivial, hk⟩)) hg (.inl rfl)); replace HB := q_ ((by rw [hw]; exact below_set (HB.o) GB40.out : Below w.heap.size w w44)); clear hg hw hp_))
             go_roundg k2
             case measure => have := HJ3.o; have := HK2.o; omega
             case rel => exact ⟨(y121), (wrap64 (x9_2 + 1)), rs_, H', ⟨by have := HJ3.o; have := HK2.o; omega⟩, ⟨ra_ HO_7.o⟩, ⟨by (with_reducible repeat (first | apply Kd.R_alloc | apply Kd.R_drewN | apply Kd.R_drew)); exact Kd.R_mono HO_8.o (fun _ hk => hk.2)⟩, ⟨be_ HB.o⟩⟩
            ·rw [if_neg c39] at H
             exact absurd H (by simp)
           ·replace c38 := Bool.eq_false_iff.mpr c38; subst c38; rw [if_neg nft_] at H
            obtain ⟨y122, hy122⟩ : ∃ y_ : List Bool, y_ = (x7_2.set (x9_2 : Int).toNat false) := ⟨_, rfl⟩
            replace H : (spec_l1Both.l0 k2 a2 y122 t109 (wrap64 (x9_2 + 1))) = some r := by first | (rw [hy122]; with_reducible exact H) | (have H2_ := (Option.bind_some _ _).symm.trans H; rw [hy122]; with_reducible exact H2_) | (have H2_ := (Option.bind_some _ _).symm.trans H; with_reducible exact H2_) | with_reducible exact H | (rw [hy122]; exact H) | exact H
            have Ny122 := q_ hy122; clear hy122
            have H' := q_ H
            clear H; obtain ⟨Ao46, co46, eo46⟩ := Kd.R_slice HO_7.o; subst eo46
            have p119 : 0 ≤ (x9_2 : Int) := of_decide_eq_true as_
            have q119 : x9_2 < (x7_2.length : Int) := of_decide_eq_true as_
            obtain ⟨ad119, e119, hx119_0⟩ := Kd.at_bool (Kd.R_reads' HO_7.o).2.2 x9_2 p119 q119
            (try rw [← Nbq37.o] at hx119_0)
            cases e119
            replace p119 := eq_true p119; replace q119 := eq_true q119
            have p45 : 0 ≤ (x9_2 : Int) := of_decide_eq_true as_
            have q45 : (x9_2 : Int) < ((x7_2.length : Int) : Int) := of_decide_eq_true as_
            obtain ⟨go45, co45, eo45, gb45, gl45, cl45, HG45⟩ := Kd.R_form HO_7.o (by omega)
            (first | cases eo45 | (injection eo45 with ea_ en_ ec_; (first | subst ea_ | (injection ea_ with ea_; subst ea_)); subst ec_; clear en_))
            have GB45 := q_ gb45; have GG45 := q_ HG45; clear gb45 gl45 HG45
            (first | simp only [add_plain] at hx119_0 | skip)
            obtain ⟨hx45_0, hf45_0⟩ := Kd.R_celln false HO_7.o (x9_2 : Int) p45 q45; replace p45 := eq_true p45; replace q45 := eq_true q45; have HP47 := Kd.R_putg HO_7.o (x9_2 : Int) false
            go_wp2_with (first | ((with_reducible refine gate_store (t := 4) (p := 57) rfl ?_); refine store_event (t := 4) (p := 57) (v := ?vo_w48) (w1 := (wr.setCell ⟨go45, (x9_2 : Int).toNat, none⟩ (.bool false))) ?hg ?ho ?hn ?hr ?_; (case ho => rfl); (case hg => rfl); (case hn => rfl); (case hr => first | (go_simp; done) | (go_simp; rfl)); intro w48 hw; have hg : wr.grownBy w48 (some go45) := (by rw [hw]; exact HP47.2); have hp_ : Kd.R Kd.bool 4 w48 w.heap.size (fun k_ => some k_ ≠ (v110 : Value).ownBlock) (.slice (some ⟨go45, 0, none⟩) x7_2.length co46) y122 := (by rw [hw, Ny122.o]; exact HP47.1); clear HP47; replace HO_7 := q_ (hp_); replace HO_8 := q_ (Kd.R_after (v := (.slice (some ⟨go45, 0, none⟩) x7_2.length co46)) (v1 := (.slice (some ⟨go45, 0, none⟩) x7_2.length co46)) (ok := (fun _ => True)) (by (with_reducible repeat (first | apply Kd.R_alloc | apply Kd.R_drewN | apply Kd.R_drew)); exact Kd.R_mono HO_8.o (fun _ hk => ⟨trivial, hk⟩)) hg (.inl rfl)); replace HB := q_ ((by rw [hw]; exact below_set (HB.o) GB45.out : Below w.heap.size w w48)); clear hg hw hp_))
            go_roundg k2
            case measure => have := HJ3.o; have := HK2.o; omega
            case rel => exact ⟨(y122), (wrap64 (x9_2 + 1)), rs_, H', ⟨by have := HJ3.o; have := HK2.o; omega⟩, ⟨ra_ HO_7.o⟩, ⟨by (with_reducible repeat (first | apply Kd.R_alloc | apply Kd.R_drewN | apply Kd.R_drew)); exact Kd.R_mono HO_8.o (fun _ hk => hk.2)⟩, ⟨be_ HB.o⟩⟩
          ·rw [if_neg c36] at H
           exact absurd H (by simp)
         ·rw [if_neg c35] at H
          exact absurd H (by simp)
        ·rw [if_neg c34] at H
         have c34b0 : (a2 == 1) = false := beq_eq_false_iff_ne.mpr c34
         have c34b1 : (a2 != 1) = true := bne_iff_ne.mpr c34
         by_cases c49 : a2 = 2
         ·rw [if_pos c49] at H
          have c49b0 : (a2 == 2) = true := beq_iff_eq.mpr c49
          have c49b1 : (a2 != 2) = false := bne_eq_false_iff_eq.mpr c49
          clear c49
          by_cases c50 : 0 ≤ x9_2
          ·rw [if_pos c50] at H; have c50b0 := dt_ c50; clear c50
           by_cases c51 : x9_2 < (x7_2.length : Int)
           ·rw [if_pos c51] at H; have c51b0 := dt_ c51; clear c51
            obtain ⟨bq52, hbq52⟩ : ∃ b_ : Bool, b_ = (rdOf false x7_2 x9_2) := ⟨_, rfl⟩
            replace H : (if bq52 = true then (if x9_2 < (t109.length : Int) then (spec_l1Both.l0 k2 a2 (x7_2.set (x9_2 : Int).toNat (!(rdOf false t109 x9_2))) t109 (wrap64 (x9_2 + 1))) else (none)) else (spec_l1Both.l0 k2 a2 (x7_2.set (x9_2 : Int).toNat false) t109 (wrap64 (x9_2 + 1)))) = some r := by rw [← hbq52] at H; exact H
            have Nbq52 := q_ hbq52; clear hbq52
            by_cases c53 : bq52 = true
            ·subst c53; rw [if_pos rfl] at H
             by_cases c54 : x9_2 < (t109.length : Int)
             ·rw [if_pos c54] at H; have c54b0 := dt_ c54; clear c54
              obtain ⟨y125, hy125⟩ : ∃ y_ : List Bool, y_ = (x7_2.set (x9_2 : Int).toNat (!(rdOf false t109 x9_2))) := ⟨_, rfl⟩
              replace H : (spec_l1Both.l0 k2 a2 y125 t109 (wrap64 (x9_2 + 1))) = some r := by first | (rw [hy125]; with_reducible exact H) | (have H2_ := (Option.bind_some _ _).symm.trans H; rw [hy125]; with_reducible exact H2_) | (have H2_ := (Option.bind_some _ _).symm.trans H; with_reducible exact H2_) | with_reducible exact H | (rw [hy125]; exact H) | exact H
              have Ny125 := q_ hy125; clear hy125
              have H' := q_ H
              clear H; obtain ⟨Ao56, co56, eo56⟩ := Kd.R_slice HO_7.o; subst eo56
              have p123 : 0 ≤ (x9_2 : Int) := of_decide_eq_true as_
              have q123 : x9_2 < (x7_2.length : Int) := of_decide_eq_true as_
              obtain ⟨ad123, e123, hx123_0⟩ := Kd.at_bool (Kd.R_reads' HO_7.o).2.2 x9_2 p123 q123
              (try rw [← Nbq52.o] at hx123_0)
              cases e123
              replace p123 := eq_true p123; replace q123 := eq_true q123; obtain ⟨Ao57, co57, eo57⟩ := Kd.R_slice HO_8.o; subst eo57
              have p124 : 0 ≤ (x9_2 : Int) := of_decide_eq_true as_
              have q124 : x9_2 < (t109.length : Int) := of_decide_eq_true as_
              obtain ⟨ad124, e124, hx124_0⟩ := Kd.at_bool (Kd.R_reads' HO_8.o).2.2 x9_2 p124 q124
              (try rw [← Nbq52.o] at hx124_0)
              cases e124
              replace p124 := eq_true p124; replace q124 := eq_true q124
              have p55 : 0 ≤ (x9_2 : Int) := of_decide_eq_true as_
              have q55 : (x9_2 : Int) < ((x7_2.length : Int) : Int) := of_decide_eq_true as_
              obtain ⟨go55, co55, eo55, gb55, gl55, cl55, HG55⟩ := Kd.R_form HO_7.o (by omega)
              (first | cases eo55 | (injection eo55 with ea_ en_ ec_; (first | subst ea_ | (injection ea_ with ea_; subst ea_)); subst ec_; clear en_))
              have GB55 := q_ gb55; have GG55 := q_ HG55; clear gb55 gl55 HG55
              (first | simp only [add_plain] at hx123_0 | skip)
              obtain ⟨hx55_0, hf55_0⟩ := Kd.R_celln false HO_7.o (x9_2 : Int) p55 q55; replace p55 := eq_true p55; replace q55 := eq_true q55; have HP58 := Kd.R_putg HO_7.o (x9_2 : Int) (!(rdOf false t109 x9_2))
              go_wp2_with (first | ((with_reducible refine gate_store (t := 4) (p := 73) rfl ?_); refine store_event (t := 4) (p := 73) (v := ?vo_w59) (w1 := (wr.setCell ⟨go55, (x9_2 : Int).toNat, none⟩ (.bool (!(rdOf false t109 x9_2))))) ?hg ?ho ?hn ?hr ?_; (case ho => rfl); (case hg => rfl); (case hn => rfl); (case hr => first | (go_simp; done) | (go_simp; rfl)); intro w59 hw; have hg : wr.grownBy w59 (some go55) := (by rw [hw]; exact HP58.2); have hp_ : Kd.R Kd.bool 4 w59 w.heap.size (fun k_ => some k_ ≠ (.slice (some ad124) t109.length co57 : Value).ownBlock) (.slice (some ⟨go55, 0, none⟩) x7_2.length co56) y125 := (by rw [hw, Ny125.o]; exact HP58.1); clear HP58; replace HO_7 := q_ (hp_); replace HO_8 := q_ (Kd.R_after (v := (.slice (some ⟨go55, 0, none⟩) x7_2.length co56)) (v1 := (.slice (some ⟨go55, 0, none⟩) x7_2.length co56)) (ok := (fun _ => True)) (by (with_reducible repeat (first | apply Kd.R_alloc | apply Kd.R_drewN | apply Kd.R_drew)); exact Kd.R_mono HO_8.o (fun _ hk => ⟨trivial, hk⟩)) hg (.inl rfl)); replace HB := q_ ((by rw [hw]; exact below_set (HB.o) GB55.out : Below w.heap.size w w59)); clear hg hw hp_))
              go_roundg k2
              case measure => have := HJ3.o; have := HK2.o; omega
              case rel => exact ⟨(y125), (wrap64 (x9_2 + 1)), rs_, H', ⟨by have := HJ3.o; have := HK2.o; omega⟩, ⟨ra_ HO_7.o⟩, ⟨by (with_reducible repeat (first | apply Kd.R_alloc | apply Kd.R_drewN | apply Kd.R_drew)); exact Kd.R_mono HO_8.o (fun _ hk => hk.2)⟩, ⟨be_ HB.o⟩⟩
             ·rw [if_neg c54] at H
              exact absurd H (by simp)
            ·replace c53 := Bool.eq_false_iff.mpr c53; subst c53; rw [if_neg nft_] at H
             obtain ⟨y126, hy126⟩ : ∃ y_ : List Bool, y_ = (x7_2.set (x9_2 : Int).toNat false) := ⟨_, rfl⟩
             replace H : (spec_l1Both.l0 k2 a2 y126 t109 (wrap64 (x9_2 + 1))) = some r := by first | (rw [hy126]; with_reducible exact H) | (have H2_ := (Option.bind_some _ _).symm.trans H; rw [hy126]; with_reducible exact H2_) | (have H2_ := (Option.bind_some _ _).symm.trans H; with_reducible exact H2_) | with_reducible exact H | (rw [hy126]; exact H) | exact H
             have Ny126 := q_ hy126; clear hy126
             have H' := q_ H
             clear H; obtain ⟨Ao61, co61, eo61⟩ := Kd.R_slice HO_7.o; subst eo61
             have p123 : 0 ≤ (x9_2 : Int) := of_decide_eq_true as_
             have q123 : x9_2 < (x7_2.length : Int) := of_decide_eq_true as_
             obtain ⟨ad123, e123, hx123_0⟩ := Kd.at_bool (Kd.R_reads' HO_7.o).2.2 x9_2 p123 q123
             (try rw [← Nbq52.o] at hx123_0)
             cases e123
             replace p123 := eq_true p123; replace q123 := eq_true q123
             have p60 : 0 ≤ (x9_2 : Int) := of_decide_eq_true as_
             have q60 : (x9_2 : Int) < ((x7_2.length : Int) : Int) := of_decide_eq_true as_
             obtain ⟨go60, co60, eo60, gb60, gl60, cl60, HG60⟩ := Kd.R_form HO_7.o (by omega)
             (first | cases eo60 | (injection eo60 with ea_ en_ ec_; (first | subst ea_ | (injection ea_ with ea_; subst ea_)); subst ec_; clear en_))
             have GB60 := q_ gb60; have GG60 := q_ HG60; clear gb60 gl60 HG60
             (first | simp only [add_plain] at hx123_0 | skip)
             obtain ⟨hx60_0, hf60_0⟩ := Kd.R_celln false HO_7.o (x9_2 : Int) p60 q60; replace p60 := eq_true p60; replace q60 := eq_true q60; have HP62 := Kd.R_putg HO_7.o (x9_2 : Int) false
             go_wp2_with (first | ((with_reducible refine gate_store (t := 4) (p := 73) rfl ?_); refine store_event (t := 4) (p := 73) (v := ?vo_w63) (w1 := (wr.setCell ⟨go60, (x9_2 : Int).toNat, none⟩ (.bool false))) ?hg ?ho ?hn ?hr ?_; (case ho => rfl); (case hg => rfl); (case hn => rfl); (case hr => first | (go_simp; done) | (go_simp; rfl)); intro w63 hw; have hg : wr.grownBy w63 (some go60) := (by rw [hw]; exact HP62.2); have hp_ : Kd.R Kd.bool 4 w63 w.heap.size (fun k_ => some k_ ≠ (v110 : Value).ownBlock) (.slice (some ⟨go60, 0, none⟩) x7_2.length co61) y126 := (by rw [hw, Ny126.o]; exact HP62.1); clear HP62; replace HO_7 := q_ (hp_); replace HO_8 := q_ (Kd.R_after (v := (.slice (some ⟨go60, 0, none⟩) x7_2.length co61)) (v1 := (.slice (some ⟨go60, 0, none⟩) x7_2.length co61)) (ok := (fun _ => True)) (by (with_reducible repeat (first | apply Kd.R_alloc | apply Kd.R_drewN | apply Kd.R_drew)); exact Kd.R_mono HO_8.o (fun _ hk => ⟨trivial, hk⟩)) hg (.inl rfl)); replace HB := q_ ((by rw [hw]; exact below_set (HB.o) GB60.out : Below w.heap.size w w63)); clear hg hw hp_))
             go_roundg k2
             case measure => have := HJ3.o; have := HK2.o; omega
             case rel => exact ⟨(y126), (wrap64 (x9_2 + 1)), rs_, H', ⟨by have := HJ3.o; have := HK2.o; omega⟩, ⟨ra_ HO_7.o⟩, ⟨by (with_reducible repeat (first | apply Kd.R_alloc | apply Kd.R_drewN | apply Kd.R_drew)); exact Kd.R_mono HO_8.o (fun _ hk => hk.2)⟩, ⟨be_ HB.o⟩⟩
           ·rw [if_neg c51] at H
            exact absurd H (by simp)
          ·rw [if_neg c50] at H
           exact absurd H (by simp)
         ·rw [if_neg c49] at H
          have c49b0 : (a2 == 2) = false := beq_eq_false_iff_ne.mpr c49
          have c49b1 : (a2 != 2) = true := bne_iff_ne.mpr c49
          have H' := q_ H
          clear H
          go_wp2
          go_roundg k2
          case measure => have := HJ3.o; have := HK2.o; omega
          case rel => exact ⟨(x7_2), (wrap64 (x9_2 + 1)), rs_, H', ⟨by have := HJ3.o; have := HK2.o; omega⟩, ⟨ra_ HO_7.o⟩, ⟨ra_ HO_8.o⟩, ⟨be_ HB.o⟩⟩
      ·rw [if_neg c18] at H; have c18b0 := df_ c18; clear c18; obtain ⟨t112, A64, H⟩ := ob_ H; obtain rfl := Option.some.inj H; obtain ⟨Ao65, co65, eo65⟩ := Kd.R_slice HO_7.o; subst eo65
       go_wp2_with (first | ((with_reducible refine gate_callee (f := 173) rfl ?_); refine gl_ (some 75) rfl rfl Try.func173 #[.slice Ao65 x7_2.length co65] ?_; (with_reducible refine (spec_l1Class.calls k2 _ _ x7_2 t112 _ ?side1 ?side2 A64.o).mono ?_); (case side1 => repeat (first | exact (Kd.R_reads' HO_7.o).2.2 | (with_reducible refine Kd.C_alloc ?_ _) | (with_reducible refine Kd.C_drewN ?_ _) | (with_reducible refine Kd.C_drew ?_))); (case side2 => exact (Kd.R_reads' HO_7.o).2.1); rintro e w66 ⟨v113, rfl, ho0, hb⟩; refine ⟨_, rfl, ?_⟩; have HO114 := q_ (Kd.R_lower ho0 (below_size (be_ HB.o))); replace HO_7 := q_ (Kd.R_below (ra_ HO_7.o) hb); replace HO_8 := q_ (Kd.R_below (ra_ HO_8.o) hb); replace HB := sb_ HB hb; (try clear hb); (try clear ho0)))
       go_ret
       exact ⟨_, rt_, ra_ HO114.o, be_ HB.o⟩
/-! ### spec_Joined: function 122 -/
def spec_Joined.f (k : Nat) (l0 : List (S103)) (l1 : List (S103)) : Option ((List (S103))) := (spec_l1Both.f k l0 l1 0).bind fun t101 => (some t101)
theorem spec_Joined.calls (k : Nat) (A0 : Option Addr) (c0 : Nat) (l0 : List (S103)) (A1 : Option Addr) (c1 : Nat) (l1 : List (S103)) (r : List (S103)) (w : World) (hr0 : Kd.C k103 w A0 l0.length l0) (hc0 : l0.length ≤ c0) (hr1 : Kd.C k103 w A1 l1.length l1) (hc1 : l1.length ≤ c1) (h : spec_Joined.f k l0 l1 = some r) :
  Calls Try.prog 122 #[.slice A0 l0.length c0, .slice A1 l1.length c1] w fun e w' => ∃ v0_ : Value, e = .returned (v0_) ∧ Kd.R k103 103 w' w.heap.size (fun _ => True) v0_ r ∧ Below w.heap.size w w' := by
 have HR0 := q_ hr0; have HC0 := q_ hc0; clear hr0 hc0; have HR1 := q_ hr1; have HC1 := q_ hc1; clear hr1 hc1; have HB := q_ (Below.refl w.heap.size w)
 have H : ((spec_l1Both.f k l0 l1 0).bind fun t101 => (some t101)) = some r := h
 clear h; obtain ⟨t101, A3, H⟩ := ob_ H; obtain rfl := Option.some.inj H
 go_enter Try.func122, Try.ntmps122
 go_wp2_with (first | ((with_reducible refine gate_callee (f := 158) rfl ?_); refine gl_ (some 7) rfl rfl Try.func158 #[.slice A0 l0.length c0, .slice A1 l1.length c1, .int .i64 0] ?_; (with_reducible refine (spec_l1Both.calls k _ _ l0 _ _ l1 0 t101 _ ?side1 ?side2 ?side3 ?side4 A3.o).mono ?_); (case side1 => repeat (first | exact HR0.o | (with_reducible refine Kd.C_alloc ?_ _) | (with_reducible refine Kd.C_drewN ?_ _) | (with_reducible refine Kd.C_drew ?_))); (case side2 => exact HC0.o); (case side3 => repeat (first | exact HR1.o | (with_reducible refine Kd.C_alloc ?_ _) | (with_reducible refine Kd.C_drewN ?_ _) | (with_reducible refine Kd.C_drew ?_))); (case side4 => exact HC1.o); rintro e w4 ⟨v102, rfl, ho0, hb⟩; refine ⟨_, rfl, ?_⟩; have HO103 := q_ (Kd.R_lower ho0 (below_size (be_ HB.o))); replace HB := sb_ HB hb; (try clear hb); (try clear ho0)))
 go_ret
 exact ⟨_, rt_, ra_ HO103.o, be_ HB.o⟩
/-! ### spec_l4First: function 69 -/
def spec_l4First.f : Nat → List (S156) → Int → Option ((List (S103)) × Bool)
 | 0, _, _ => none
 | k + 1, l0_0, a1 => if 0 ≤ a1 then (if a1 < (l0_0.length : Int) then (if ((rd_T156 l0_0 a1).f0) = 1 then (some ((([] : List (S103))), true)) else (if ((rd_T156 l0_0 a1).f0) = 2 then ((some (([] : List (S103)) : List (S103))).bind fun y107 => (if y107.length + ((rd_T156 l0_0 a1).f1).length < 8796093022208 then (some ((y107 ++ ((rd_T156 l0_0 a1).f1)), false)) else (none))) else (if 0 < (((rd_T156 l0_0 a1).f2).length : Int) then ((spec_l4First.f k l0_0 (rd ((rd_T156 l0_0 a1).f2) 0)).bind fun bt114 => (if ((rd_T156 l0_0 a1).f0) = 3 then (if 1 < (((rd_T156 l0_0 a1).f2).length : Int) then ((spec_l4First.f k l0_0 (rd ((rd_T156 l0_0 a1).f2) 1)).bind fun bt119 => (if bt114.2 = true then ((spec_Joined.f k bt114.1 bt119.1).bind fun t123 => (some (t123, bt119.2))) else (some (bt114.1, false)))) else (none)) else (if ((rd_T156 l0_0 a1).f0) = 4 then (if 1 < (((rd_T156 l0_0 a1).f2).length : Int) then ((spec_l4First.f k l0_0 (rd ((rd_T156 l0_0 a1).f2) 1)).bind fun bt127 => ((spec_Joined.f k bt114.1 bt127.1).bind fun t131 => (if bt114.2 = true then (some (t131, true)) else (some (t131, bt127.2))))) else (none)) else (if ((rd_T156 l0_0 a1).f0) = 6 then (some (bt114.1, bt114.2)) else (if ((rd_T156 l0_0 a1).f0) = 8 then (if bt114.2 = true then (some (bt114.1, true)) else (some (bt114.1, (((rd_T156 l0_0 a1).f3) == 0)))) else (some (bt114.1, true))))))) else (none)))) else (none)) else (none)
def spec_l4First.T7 : Bool × List (List Nat × List Nat) := (true, [([], []), ([], []), ([1], [1]), ([2], [2]), ([3], [3]), ([0, 4], [0, 4]), ([5], [5]), ([6], [6]), ([6], [6]), ([7, 5, 0, 1, 2, 3, 4, 5, 6, 7], [7]), ([8, 9, 0, 1, 2, 3, 4, 5, 6, 7, 8, 9], [8])])
def spec_l4First.B7 : List Nat := [0, 0, 2, 6, 14, 31, 63, 127, 127, 255, 1023]
theorem spec_l4First.tab7 : rtab .any (opsOf Try.f69 7) = spec_l4First.T7 := by kernel_rfl
theorem spec_l4First.bits7 : waitsOk spec_l4First.T7.2 spec_l4First.B7 = true := by kernel_rfl
def spec_l4First.T10 : Bool × List (List Nat × List Nat) := (true, [([], []), ([], []), ([1], [1]), ([2], [2]), ([3], [3]), ([0, 4], [0, 4]), ([5], [5]), ([6], [6]), ([6], [6]), ([7, 5, 0, 1, 2, 3, 4, 5, 6, 7], [7]), ([8, 9, 0, 1, 2, 3, 4, 5, 6, 7, 8, 9], [8])])
def spec_l4First.B10 : List Nat := [0, 0, 2, 6, 14, 31, 63, 127, 127, 255, 1023]
theorem spec_l4First.tab10 : rtab .any (opsOf Try.f69 10) = spec_l4First.T10 := by kernel_rfl
theorem spec_l4First.bits10 : waitsOk spec_l4First.T10.2 spec_l4First.B10 = true := by kernel_rfl
def spec_l4First.T15 : Bool × List (List Nat × List Nat) := (true, [([], []), ([], []), ([1], [1]), ([2], [2]), ([3], [3]), ([0, 4], [0, 4]), ([5], [5]), ([6], [6]), ([6], [6]), ([7, 5, 0, 1, 2, 3, 4, 5, 6, 7], [7]), ([8, 9, 0, 1, 2, 3, 4, 5, 6, 7, 8, 9], [8])])
def spec_l4First.B15 : List Nat := [0, 0, 2, 6, 14, 31, 63, 127, 127, 255, 1023]
theorem spec_l4First.tab15 : rtab .any (opsOf Try.f69 15) = spec_l4First.T15 := by kernel_rfl
theorem spec_l4First.bits15 : waitsOk spec_l4First.T15.2 spec_l4First.B15 = true := by kernel_rfl
def spec_l4First.T20 : Bool × List (List Nat × List Nat) := (true, [([], []), ([], []), ([1], [1]), ([2], [2]), ([3, 2], [2, 3]), ([4, 2], [2, 4]), ([2, 5], [2, 5]), ([0, 2, 0], [0]), ([6, 7, 0, 1, 2, 3, 4, 5, 6, 7], [6])])
def spec_l4First.B20 : List Nat := [0, 0, 2, 6, 14, 30, 62, 7, 255]
theorem spec_l4First.tab20 : rtab .any (opsOf Try.f69 20) = spec_l4First.T20 := by kernel_rfl
theorem spec_l4First.bits20 : waitsOk spec_l4First.T20.2 spec_l4First.B20 = true := by kernel_rfl
theorem spec_l4First.calls (k : Nat) : ∀ (A0_0 : Option Addr) (c0_0 : Nat) (l0_0 : List (S156)) (a1 : Int) (r1 : List (S103)) (r2 : Bool) (w : World) (hr0_0 : Kd.C k156 w A0_0 l0_0.length l0_0) (hc0_0 : l0_0.length ≤ c0_0) (h : spec_l4First.f k l0_0 a1 = some (r1, r2)),
  Calls Try.prog 69 #[.agg #[.slice A0_0 l0_0.length c0_0], .int .i64 a1] w fun e w' => ∃ v0_ : Value, e = .returned (.tuple #[v0_, .bool r2]) ∧ Kd.R k103 103 w' w.heap.size (fun _ => True) v0_ r1 ∧ Below w.heap.size w w' := by
 induction k using Nat.strongRecOn with
 | _ k ih =>
 intro A0_0 c0_0 l0_0 a1 r1 r2 w hr0_0 hc0_0 h
 cases k with
 | zero => exact absurd h (by simp [spec_l4First.f])
 | succ k =>
 simp only [spec_l4First.f] at h
 have hu29 := Try.underlying29; have hu156 := Try.underlying156; have HR0_0 := q_ hr0_0; have HC0_0 := q_ hc0_0; clear hr0_0 hc0_0; have HB := q_ (Below.refl w.heap.size w)
 have H : (if 0 ≤ a1 then (if a1 < (l0_0.length : Int) then (if ((rd_T156 l0_0 a1).f0) = 1 then (some ((([] : List (S103))), true)) else (if ((rd_T156 l0_0 a1).f0) = 2 then ((some (([] : List (S103)) : List (S103))).bind fun y107 => (if y107.length + ((rd_T156 l0_0 a1).f1).length < 8796093022208 then (some ((y107 ++ ((rd_T156 l0_0 a1).f1)), false)) else (none))) else (if 0 < (((rd_T156 l0_0 a1).f2).length : Int) then ((spec_l4First.f k l0_0 (rd ((rd_T156 l0_0 a1).f2) 0)).bind fun bt114 => (if ((rd_T156 l0_0 a1).f0) = 3 then (if 1 < (((rd_T156 l0_0 a1).f2).length : Int) then ((spec_l4First.f k l0_0 (rd ((rd_T156 l0_0 a1).f2) 1)).bind fun bt119 => (if bt114.2 = true then ((spec_Joined.f k bt114.1 bt119.1).bind fun t123 => (some (t123, bt119.2))) else (some (bt114.1, false)))) else (none)) else (if ((rd_T156 l0_0 a1).f0) = 4 then (if 1 < (((rd_T156 l0_0 a1).f2).length : Int) then ((spec_l4First.f k l0_0 (rd ((rd_T156 l0_0 a1).f2) 1)).bind fun bt127 => ((spec_Joined.f k bt114.1 bt127.1).bind fun t131 => (if bt114.2 = true then (some (t131, true)) else (some (t131, bt127.2))))) else (none)) else (if ((rd_T156 l0_0 a1).f0) = 6 then (some (bt114.1, bt114.2)) else (if ((rd_T156 l0_0 a1).f0) = 8 then (if bt114.2 = true then (some (bt114.1, true)) else (some (bt114.1, (((rd_T156 l0_0 a1).f3) == 0)))) else (some (bt114.1, true))))))) else (none)))) else (none)) else (none)) = some (r1, r2) := h
 clear h
 by_cases c3 : 0 ≤ a1
 ·rw [if_pos c3] at H; have c3b0 := dt_ c3; clear c3
  by_cases c4 : a1 < (l0_0.length : Int)
  ·rw [if_pos c4] at H; have c4b0 := dt_ c4; clear c4
   by_cases c5 : ((rd_T156 l0_0 a1).f0) = 1
   ·rw [if_pos c5] at H
    have c5b0 : (((rd_T156 l0_0 a1).f0) == 1) = true := beq_iff_eq.mpr c5
    have c5b1 : (((rd_T156 l0_0 a1).f0) != 1) = false := bne_eq_false_iff_eq.mpr c5
    clear c5
    obtain ⟨y104, hy104⟩ : ∃ y_ : List (S103), y_ = (([] : List (S103))) := ⟨_, rfl⟩
    replace H : (some (y104, true)) = some (r1, r2) := by first | (rw [hy104]; with_reducible exact H) | (have H2_ := (Option.bind_some _ _).symm.trans H; rw [hy104]; with_reducible exact H2_) | (have H2_ := (Option.bind_some _ _).symm.trans H; with_reducible exact H2_) | with_reducible exact H | (rw [hy104]; exact H) | exact H
    have Ny104 := q_ hy104; clear hy104
    simp only [Option.some.injEq, Prod.mk.injEq] at H
    obtain ⟨rfl, rfl⟩ := H
    go_enter Try.func69, Try.ntmps69
    go_wp2_with (first | ((with_reducible refine gate_dst (N := 2) rfl ?_); refine bx_ 2 #[.slice A0_0 l0_0.length c0_0] 29 ?_; intro gb101 hg w6 hbox hb; have BK101 := q_ (hbox); have GE101 := ge_ hg HB; replace HB := sb_ HB hb; clear hb hbox hg; obtain ⟨hcz7_0, hfz7_0⟩ := d1_ BK101; have p102 : 0 ≤ (a1 : Int) := of_decide_eq_true as_; have q102 : a1 < (l0_0.length : Int) := of_decide_eq_true as_; obtain ⟨ad102, A102_1, c102_1, A102_2, c102_2, e102, hx102_0, hx102_1, hx102_2, hx102_3, hx102_4, hl102_1, hi102_1, hl102_2, hi102_2⟩ := at_T156 HR0_0.o a1 p102 q102; cases e102; replace hx102_0 := mv_ HB.o hx102_0; replace hx102_1 := mv_ HB.o hx102_1; replace hx102_2 := mv_ HB.o hx102_2; replace hx102_3 := mv_ HB.o hx102_3; replace hx102_4 := mv_ HB.o hx102_4; have HR102_1 := q_ hi102_1; have HC102_1 := q_ hl102_1; clear hi102_1 hl102_1; have HR102_2 := q_ hi102_2; have HC102_2 := q_ hl102_2; clear hi102_2 hl102_2; replace p102 := eq_true p102; replace q102 := eq_true q102) | ((with_reducible refine gate_dst (N := 6) rfl ?_); refine bx_ 6 #[.int .i64 0, .slice none 0 0, .slice none 0 0, .int .i64 0, .int .i64 0] 156 ?_; intro gb103 hg w8 hbox hb; have BK103 := q_ (hbox); have GE103 := ge1_ hg HB GE101; have NB101_103 := nl_ hg BK101; have NB103_101 := ng_ hg BK101; replace BK101 := lb_ BK101 hb; replace HB := sb1_ HB GE101 hb; clear hb hbox hg; have hnb9 := NB103_101.o; have hnc9 := NB101_103.o; obtain ⟨hcz10_0, hcz10_1, hcz10_2, hcz10_3, hcz10_4, hfz10_0, hfz10_1, hfz10_2, hfz10_3, hfz10_4⟩ := d5_ BK103) | ((with_reducible refine gate_dst (N := 22) rfl ?_); refine Kd.R_lit k103 _ 103 ?hg (N := 22) ?hd (xs := ([] : List (S103))) (inner := []) (ok := fun _ => True) (okp := fun _ => True) ?hr ?hp (fun _ hk => hk) trivial (Below.refl _ _) (Nat.le_refl _) (by simp) ?_; (case hd => rfl); (case hg => rfl); (case hr => first | (go_simp; done) | (go_simp; rfl)); (case hp => exact (Reps.none _ _)); intro v105 w11 ho12 hb hg_ hnew_; clear hg_ hnew_; (first | rw [← Ny104.o] at ho12 | (simp only [Int.reduceToNat] at ho12; rw [← Ny104.o] at ho12)); have HO106 := q_ (Kd.R_lower ho12 (below_size (be2_ HB.o GE101.o GE103.o))); replace BK101 := q_ (blk_below (g := gb101) (o := .cells #[.slice (some ad102) l0_0.length c0_0] 29 (0, 0)) (by (with_reducible repeat (first | refine blk_drewN ?_ _ | refine blk_drew ?_ | refine blk_alloc ?_ _)); refine blk_far ?_ NB101_103.o _; (with_reducible repeat (first | refine blk_drewN ?_ _ | refine blk_drew ?_ | refine blk_alloc ?_ _)); refine blk_far ?_ NB101_103.o _; (with_reducible repeat (first | refine blk_drewN ?_ _ | refine blk_drew ?_ | refine blk_alloc ?_ _)); refine blk_far ?_ NB101_103.o _; (with_reducible repeat (first | refine blk_drewN ?_ _ | refine blk_drew ?_ | refine blk_alloc ?_ _)); refine blk_far ?_ NB101_103.o _; (with_reducible repeat (first | refine blk_drewN ?_ _ | refine blk_drew ?_ | refine blk_alloc ?_ _)); refine blk_far ?_ NB101_103.o _; (with_reducible repeat (first | refine blk_drewN ?_ _ | refine blk_drew ?_ | refine blk_alloc ?_ _)); exact BK101.o) hb); replace BK103 := q_ (blk_below (g := gb103) (o := .cells #[.int .i64 ((rd_T156 l0_0 a1).f0), .slice A102_1 ((rd_T156 l0_0 a1).f1).length c102_1, .slice A102_2 ((rd_T156 l0_0 a1).f2).length c102_2, .int .i64 ((rd_T156 l0_0 a1).f3), .int .i64 ((rd_T156 l0_0 a1).f4)] 156 (0, 0)) (by (with_reducible repeat (first | refine blk_drewN ?_ _ | refine blk_drew ?_ | refine blk_alloc ?_ _)); refine blk_put (cs := #[.int .i64 ((rd_T156 l0_0 a1).f0), .slice A102_1 ((rd_T156 l0_0 a1).f1).length c102_1, .slice A102_2 ((rd_T156 l0_0 a1).f2).length c102_2, .int .i64 ((rd_T156 l0_0 a1).f3), .int .i64 0]) ?_ 4 _ rfl; (with_reducible repeat (first | refine blk_drewN ?_ _ | refine blk_drew ?_ | refine blk_alloc ?_ _)); refine blk_put (cs := #[.int .i64 ((rd_T156 l0_0 a1).f0), .slice A102_1 ((rd_T156 l0_0 a1).f1).length c102_1, .slice A102_2 ((rd_T156 l0_0 a1).f2).length c102_2, .int .i64 0, .int .i64 0]) ?_ 3 _ rfl; (with_reducible repeat (first | refine blk_drewN ?_ _ | refine blk_drew ?_ | refine blk_alloc ?_ _)); refine blk_put (cs := #[.int .i64 ((rd_T156 l0_0 a1).f0), .slice A102_1 ((rd_T156 l0_0 a1).f1).length c102_1, .slice none 0 0, .int .i64 0, .int .i64 0]) ?_ 2 _ rfl; (with_reducible repeat (first | refine blk_drewN ?_ _ | refine blk_drew ?_ | refine blk_alloc ?_ _)); refine blk_put (cs := #[.int .i64 ((rd_T156 l0_0 a1).f0), .slice none 0 0, .slice none 0 0, .int .i64 0, .int .i64 0]) ?_ 1 _ rfl; (with_reducible repeat (first | refine blk_drewN ?_ _ | refine blk_drew ?_ | refine blk_alloc ?_ _)); refine blk_put (cs := #[.int .i64 0, .slice none 0 0, .slice none 0 0, .int .i64 0, .int .i64 0]) ?_ 0 _ rfl; (with_reducible repeat (first | refine blk_drewN ?_ _ | refine blk_drew ?_ | refine blk_alloc ?_ _)); exact BK103.o) hb); replace HB := sb2_ HB GE101 GE103 hb; clear hb ho12))
    go_ret2
    exact ⟨_, rt_, ra_ HO106.o, be2_ HB.o GE101.o GE103.o⟩
   ·rw [if_neg c5] at H
    have c5b0 : (((rd_T156 l0_0 a1).f0) == 1) = false := beq_eq_false_iff_ne.mpr c5
    have c5b1 : (((rd_T156 l0_0 a1).f0) != 1) = true := bne_iff_ne.mpr c5
    by_cases c13 : ((rd_T156 l0_0 a1).f0) = 2
    ·rw [if_pos c13] at H
     have c13b0 : (((rd_T156 l0_0 a1).f0) == 2) = true := beq_iff_eq.mpr c13
     have c13b1 : (((rd_T156 l0_0 a1).f0) != 2) = false := bne_eq_false_iff_eq.mpr c13
     clear c13
     obtain ⟨y107, hy107⟩ : ∃ y_ : List (S103), y_ = (([] : List (S103))) := ⟨_, rfl⟩
     replace H : (if y107.length + ((rd_T156 l0_0 a1).f1).length < 8796093022208 then (some ((y107 ++ ((rd_T156 l0_0 a1).f1)), false)) else (none)) = some (r1, r2) := by first | (rw [hy107]; with_reducible exact H) | (have H2_ := (Option.bind_some _ _).symm.trans H; rw [hy107]; with_reducible exact H2_) | (have H2_ := (Option.bind_some _ _).symm.trans H; with_reducible exact H2_) | with_reducible exact H | (rw [hy107]; exact H) | exact H
     have Ny107 := q_ hy107; clear hy107
     by_cases c14 : y107.length + ((rd_T156 l0_0 a1).f1).length < 8796093022208
     ·rw [if_pos c14] at H; have LMc14 := q_ c14; clear c14
      obtain ⟨y110, hy110⟩ : ∃ y_ : List (S103), y_ = (y107 ++ ((rd_T156 l0_0 a1).f1)) := ⟨_, rfl⟩
      replace H : (some (y110, false)) = some (r1, r2) := by first | (rw [hy110]; with_reducible exact H) | (have H2_ := (Option.bind_some _ _).symm.trans H; rw [hy110]; with_reducible exact H2_) | (have H2_ := (Option.bind_some _ _).symm.trans H; with_reducible exact H2_) | with_reducible exact H | (rw [hy110]; exact H) | exact H
      have Ny110 := q_ hy110; clear hy110
      simp only [Option.some.injEq, Prod.mk.injEq] at H
      obtain ⟨rfl, rfl⟩ := H
      go_enter Try.func69, Try.ntmps69
      go_wp2_with (first | ((with_reducible refine gate_dst (N := 2) rfl ?_); refine bx_ 2 #[.slice A0_0 l0_0.length c0_0] 29 ?_; intro gb101 hg w15 hbox hb; have BK101 := q_ (hbox); have GE101 := ge_ hg HB; replace HB := sb_ HB hb; clear hb hbox hg; obtain ⟨hcz16_0, hfz16_0⟩ := d1_ BK101; have p102 : 0 ≤ (a1 : Int) := of_decide_eq_true as_; have q102 : a1 < (l0_0.length : Int) := of_decide_eq_true as_; obtain ⟨ad102, A102_1, c102_1, A102_2, c102_2, e102, hx102_0, hx102_1, hx102_2, hx102_3, hx102_4, hl102_1, hi102_1, hl102_2, hi102_2⟩ := at_T156 HR0_0.o a1 p102 q102; cases e102; replace hx102_0 := mv_ HB.o hx102_0; replace hx102_1 := mv_ HB.o hx102_1; replace hx102_2 := mv_ HB.o hx102_2; replace hx102_3 := mv_ HB.o hx102_3; replace hx102_4 := mv_ HB.o hx102_4; have HR102_1 := q_ hi102_1; have HC102_1 := q_ hl102_1; clear hi102_1 hl102_1; have HR102_2 := q_ hi102_2; have HC102_2 := q_ hl102_2; clear hi102_2 hl102_2; replace p102 := eq_true p102; replace q102 := eq_true q102) | ((with_reducible refine gate_dst (N := 6) rfl ?_); refine bx_ 6 #[.int .i64 0, .slice none 0 0, .slice none 0 0, .int .i64 0, .int .i64 0] 156 ?_; intro gb103 hg w17 hbox hb; have BK103 := q_ (hbox); have GE103 := ge1_ hg HB GE101; have NB101_103 := nl_ hg BK101; have NB103_101 := ng_ hg BK101; replace BK101 := lb_ BK101 hb; replace HB := sb1_ HB GE101 hb; clear hb hbox hg; have hnb18 := NB103_101.o; have hnc18 := NB101_103.o; obtain ⟨hcz19_0, hcz19_1, hcz19_2, hcz19_3, hcz19_4, hfz19_0, hfz19_1, hfz19_2, hfz19_3, hfz19_4⟩ := d5_ BK103) | ((with_reducible refine gate_dst (N := 25) rfl ?_); refine Kd.R_lit k103 _ 103 ?hg (N := 25) ?hd (xs := ([] : List (S103))) (inner := []) (ok := fun _ => True) (okp := fun _ => True) ?hr ?hp (fun _ hk => hk) trivial (Below.refl _ _) (Nat.le_refl _) (by simp) ?_; (case hd => rfl); (case hg => rfl); (case hr => first | (go_simp; done) | (go_simp; rfl)); (case hp => exact (Reps.none _ _)); intro v108 w20 ho21 hb hg_ hnew_; clear hg_ hnew_; (first | rw [← Ny107.o] at ho21 | (simp only [Int.reduceToNat] at ho21; rw [← Ny107.o] at ho21)); have HO109 := q_ (Kd.R_lower ho21 (below_size (be2_ HB.o GE101.o GE103.o))); replace BK101 := q_ (blk_below (g := gb101) (o := .cells #[.slice (some ad102) l0_0.length c0_0] 29 (0, 0)) (by (with_reducible repeat (first | refine blk_drewN ?_ _ | refine blk_drew ?_ | refine blk_alloc ?_ _)); refine blk_far ?_ NB101_103.o _; (with_reducible repeat (first | refine blk_drewN ?_ _ | refine blk_drew ?_ | refine blk_alloc ?_ _)); refine blk_far ?_ NB101_103.o _; (with_reducible repeat (first | refine blk_drewN ?_ _ | refine blk_drew ?_ | refine blk_alloc ?_ _)); refine blk_far ?_ NB101_103.o _; (with_reducible repeat (first | refine blk_drewN ?_ _ | refine blk_drew ?_ | refine blk_alloc ?_ _)); refine blk_far ?_ NB101_103.o _; (with_reducible repeat (first | refine blk_drewN ?_ _ | refine blk_drew ?_ | refine blk_alloc ?_ _)); refine blk_far ?_ NB101_103.o _; (with_reducible repeat (first | refine blk_drewN ?_ _ | refine blk_drew ?_ | refine blk_alloc ?_ _)); exact BK101.o) hb); replace BK103 := q_ (blk_below (g := gb103) (o := .cells #[.int .i64 ((rd_T156 l0_0 a1).f0), .slice A102_1 ((rd_T156 l0_0 a1).f1).length c102_1, .slice A102_2 ((rd_T156 l0_0 a1).f2).length c102_2, .int .i64 ((rd_T156 l0_0 a1).f3), .int .i64 ((rd_T156 l0_0 a1).f4)] 156 (0, 0)) (by (with_reducible repeat (first | refine blk_drewN ?_ _ | refine blk_drew ?_ | refine blk_alloc ?_ _)); refine blk_put (cs := #[.int .i64 ((rd_T156 l0_0 a1).f0), .slice A102_1 ((rd_T156 l0_0 a1).f1).length c102_1, .slice A102_2 ((rd_T156 l0_0 a1).f2).length c102_2, .int .i64 ((rd_T156 l0_0 a1).f3), .int .i64 0]) ?_ 4 _ rfl; (with_reducible repeat (first | refine blk_drewN ?_ _ | refine blk_drew ?_ | refine blk_alloc ?_ _)); refine blk_put (cs := #[.int .i64 ((rd_T156 l0_0 a1).f0), .slice A102_1 ((rd_T156 l0_0 a1).f1).length c102_1, .slice A102_2 ((rd_T156 l0_0 a1).f2).length c102_2, .int .i64 0, .int .i64 0]) ?_ 3 _ rfl; (with_reducible repeat (first | refine blk_drewN ?_ _ | refine blk_drew ?_ | refine blk_alloc ?_ _)); refine blk_put (cs := #[.int .i64 ((rd_T156 l0_0 a1).f0), .slice A102_1 ((rd_T156 l0_0 a1).f1).length c102_1, .slice none 0 0, .int .i64 0, .int .i64 0]) ?_ 2 _ rfl; (with_reducible repeat (first | refine blk_drewN ?_ _ | refine blk_drew ?_ | refine blk_alloc ?_ _)); refine blk_put (cs := #[.int .i64 ((rd_T156 l0_0 a1).f0), .slice none 0 0, .slice none 0 0, .int .i64 0, .int .i64 0]) ?_ 1 _ rfl; (with_reducible repeat (first | refine blk_drewN ?_ _ | refine blk_drew ?_ | refine blk_alloc ?_ _)); refine blk_put (cs := #[.int .i64 0, .slice none 0 0, .slice none 0 0, .int .i64 0, .int .i64 0]) ?_ 0 _ rfl; (with_reducible repeat (first | refine blk_drewN ?_ _ | refine blk_drew ?_ | refine blk_alloc ?_ _)); exact BK103.o) hb); replace HB := sb2_ HB GE101 GE103 hb; clear hb ho21; obtain ⟨hcz22_0, hcz22_1, hcz22_2, hcz22_3, hcz22_4, hfz22_0, hfz22_1, hfz22_2, hfz22_3, hfz22_4⟩ := d5_ BK103) | ((with_reducible refine gate_builtin (b := .append) (xs := #[.tmp 25, .tmp 27]) rfl ?_); at_builtin; refine Kd.R_append_rows k103 (w0 := w) w.heap.size rfl (.tmp 25) (.tmp 27) 34 103 (.agg #[(.int .i64 0), (.int .i64 0)]) 16 rfl Try.underlying34 info103 rfl (by decide) (by omega) v108 y107 ((rd_T156 l0_0 a1).f1) _ _ _ (fun _ => True) (fun _ => False) rfl rfl ?aO ?aR (fun _ _ h => h) (fun _ h => h.elim) ?aF ?aB ?aS ?aL ?_; (case aR => repeat (first | exact (Kd.C_below HR102_1.o HB.o) | (with_reducible refine Kd.C_alloc ?_ _) | (with_reducible refine Kd.C_drewN ?_ _) | (with_reducible refine Kd.C_drew ?_))); (case aB => exact (be2_ HB.o GE101.o GE103.o)); (case aF => exact (fun _ _ => trivial)); (case aO => exact (ra_ HO109.o)); (case aS => exact (below_size (be2_ HB.o GE101.o GE103.o))); (case aL => have := LMc14.o; omega); intro v111 w23 ho hb hg hat; rw [← Ny110.o] at ho; have HO112 := q_ (ho); replace BK101 := q_ (blk_grown (g := gb101) (o := .cells #[.slice (some ad102) l0_0.length c0_0] 29 (0, 0)) (bk_ BK101.o) hg (Kd.R_ne HO109.o BK101.o (by decide))); replace BK103 := q_ (blk_grown (g := gb103) (o := .cells #[.int .i64 ((rd_T156 l0_0 a1).f0), .slice A102_1 ((rd_T156 l0_0 a1).f1).length c102_1, .slice A102_2 ((rd_T156 l0_0 a1).f2).length c102_2, .int .i64 ((rd_T156 l0_0 a1).f3), .int .i64 ((rd_T156 l0_0 a1).f4)] 156 (0, 0)) (bk_ BK103.o) hg (Kd.R_ne HO109.o BK103.o (by decide))); replace HB := q_ (hb); clear HO109; clear ho hb hg hat))
      go_ret2
      exact ⟨_, rt_, ra_ HO112.o, be2_ HB.o GE101.o GE103.o⟩
     ·rw [if_neg c14] at H
      exact absurd H (by simp)
    ·rw [if_neg c13] at H
     have c13b0 : (((rd_T156 l0_0 a1).f0) == 2) = false := beq_eq_false_iff_ne.mpr c13
     have c13b1 : (((rd_T156 l0_0 a1).f0) != 2) = true := bne_iff_ne.mpr c13
     by_cases c24 : 0 < (((rd_T156 l0_0 a1).f2).length : Int)
     ·rw [if_pos c24] at H; have c24b0 := dt_ c24
      have c24b1 : decide (0 < ((rd_T156 l0_0 a1).f2).length) = true := decide_eq_true (by omega)
      clear c24; replace H := Option.bind_eq_some_iff.mp H
      obtain ⟨⟨t114, t117⟩, A250, H⟩ := H
      replace H : (if ((rd_T156 l0_0 a1).f0) = 3 then (if 1 < (((rd_T156 l0_0 a1).f2).length : Int) then ((spec_l4First.f k l0_0 (rd ((rd_T156 l0_0 a1).f2) 1)).bind fun bt119 => (if t117 = true then ((spec_Joined.f k t114 bt119.1).bind fun t123 => (some (t123, bt119.2))) else (some (t114, false)))) else (none)) else (if ((rd_T156 l0_0 a1).f0) = 4 then (if 1 < (((rd_T156 l0_0 a1).f2).length : Int) then ((spec_l4First.f k l0_0 (rd ((rd_T156 l0_0 a1).f2) 1)).bind fun bt127 => ((spec_Joined.f k t114 bt127.1).bind fun t131 => (if t117 = true then (some (t131, true)) else (some (t131, bt127.2))))) else (none)) else (if ((rd_T156 l0_0 a1).f0) = 6 then (some (t114, t117)) else (if ((rd_T156 l0_0 a1).f0) = 8 then (if t117 = true then (some (t114, true)) else (some (t114, (((rd_T156 l0_0 a1).f3) == 0)))) else (some (t114, true)))))) = some (r1, r2) := H
      have A25 := q_ A250; clear A250
      by_cases c26 : ((rd_T156 l0_0 a1).f0) = 3
      ·rw [if_pos c26] at H
       have c26b0 : (((rd_T156 l0_0 a1).f0) == 3) = true := beq_iff_eq.mpr c26
       have c26b1 : (((rd_T156 l0_0 a1).f0) != 3) = false := bne_eq_false_iff_eq.mpr c26
       clear c26
       by_cases c27 : 1 < (((rd_T156 l0_0 a1).f2).length : Int)
       ·rw [if_pos c27] at H; have c27b0 := dt_ c27
        have c27b1 : decide (1 < ((rd_T156 l0_0 a1).f2).length) = true := decide_eq_true (by omega)
        clear c27; replace H := Option.bind_eq_some_iff.mp H
        obtain ⟨⟨t119, t122⟩, A280, H⟩ := H
        replace H : (if t117 = true then ((spec_Joined.f k t114 t119).bind fun t123 => (some (t123, t122))) else (some (t114, false))) = some (r1, r2) := H
        have A28 := q_ A280; clear A280
        by_cases c29 : t117 = true
        ·subst c29; rw [if_pos rfl] at H; obtain ⟨t123, A30, H⟩ := ob_ H
         simp only [Option.some.injEq, Prod.mk.injEq] at H
         obtain ⟨rfl, rfl⟩ := H
         go_enter Try.func69, Try.ntmps69
         try go_wp2_with (first | ((with_reducible refine gate_dst (N := 2) rfl ?_); refine bx_ 2 #[.slice A0_0 l0_0.length c0_0] 29 ?_; intro gb101 hg w31 hbox hb; have BK101 := q_ (hbox); have GE101 := ge_ hg HB; replace HB := sb_ HB hb; clear hb hbox hg; obtain ⟨hcz32_0, hfz32_0⟩ := d1_ BK101; have p102 : 0 ≤ (a1 : Int) := of_decide_eq_true as_; have q102 : a1 < (l0_0.length : Int) := of_decide_eq_true as_; obtain ⟨ad102, A102_1, c102_1, A102_2, c102_2, e102, hx102_0, hx102_1, hx102_2, hx102_3, hx102_4, hl102_1, hi102_1, hl102_2, hi102_2⟩ := at_T156 HR0_0.o a1 p102 q102; cases e102; replace hx102_0 := mv_ HB.o hx102_0; replace hx102_1 := mv_ HB.o hx102_1; replace hx102_2 := mv_ HB.o hx102_2; replace hx102_3 := mv_ HB.o hx102_3; replace hx102_4 := mv_ HB.o hx102_4; have HR102_1 := q_ hi102_1; have HC102_1 := q_ hl102_1; clear hi102_1 hl102_1; have HR102_2 := q_ hi102_2; have HC102_2 := q_ hl102_2; clear hi102_2 hl102_2; replace p102 := eq_true p102; replace q102 := eq_true q102) | ((with_reducible refine gate_dst (N := 6) rfl ?_); refine bx_ 6 #[.int .i64 0, .slice none 0 0, .slice none 0 0, .int .i64 0, .int .i64 0] 156 ?_; intro gb103 hg w33 hbox hb; have BK103 := q_ (hbox); have GE103 := ge1_ hg HB GE101; have NB101_103 := nl_ hg BK101; have NB103_101 := ng_ hg BK101; replace BK101 := lb_ BK101 hb; replace HB := sb1_ HB GE101 hb; clear hb hbox hg; have hnb34 := NB103_101.o; have hnc34 := NB101_103.o; obtain ⟨hcz35_0, hcz35_1, hcz35_2, hcz35_3, hcz35_4, hfz35_0, hfz35_1, hfz35_2, hfz35_3, hfz35_4⟩ := d5_ BK103))
         have n0_ : J0 ((((((w33.setCell ⟨gb103, 0, none⟩ (.int .i64 ((rd_T156 l0_0 a1).f0))).setCell ⟨gb103, 1, none⟩ (.slice A102_1 ((rd_T156 l0_0 a1).f1).length c102_1)).setCell ⟨gb103, 2, none⟩ (.slice A102_2 ((rd_T156 l0_0 a1).f2).length c102_2)).setCell ⟨gb103, 3, none⟩ (.int .i64 ((rd_T156 l0_0 a1).f3))).setCell ⟨gb103, 4, none⟩ (.int .i64 ((rd_T156 l0_0 a1).f4))).heap[gb101]? = some (.cells #[.slice (some ad102) l0_0.length c0_0] 29 (0, 0))) := ⟨by (with_reducible repeat (first | refine blk_drewN ?_ _ | refine blk_drew ?_ | refine blk_alloc ?_ _)); refine blk_far ?_ NB101_103.o _; (with_reducible repeat (first | refine blk_drewN ?_ _ | refine blk_drew ?_ | refine blk_alloc ?_ _)); refine blk_far ?_ NB101_103.o _; (with_reducible repeat (first | refine blk_drewN ?_ _ | refine blk_drew ?_ | refine blk_alloc ?_ _)); refine blk_far ?_ NB101_103.o _; (with_reducible repeat (first | refine blk_drewN ?_ _ | refine blk_drew ?_ | refine blk_alloc ?_ _)); refine blk_far ?_ NB101_103.o _; (with_reducible repeat (first | refine blk_drewN ?_ _ | refine blk_drew ?_ | refine blk_alloc ?_ _)); refine blk_far ?_ NB101_103.o _; (with_reducible repeat (first | refine blk_drewN ?_ _ | refine blk_drew ?_ | refine blk_alloc ?_ _)); exact BK101.o⟩
         have n1_ : J0 ((((((w33.setCell ⟨gb103, 0, none⟩ (.int .i64 ((rd_T156 l0_0 a1).f0))).setCell ⟨gb103, 1, none⟩ (.slice A102_1 ((rd_T156 l0_0 a1).f1).length c102_1)).setCell ⟨gb103, 2, none⟩ (.slice A102_2 ((rd_T156 l0_0 a1).f2).length c102_2)).setCell ⟨gb103, 3, none⟩ (.int .i64 ((rd_T156 l0_0 a1).f3))).setCell ⟨gb103, 4, none⟩ (.int .i64 ((rd_T156 l0_0 a1).f4))).heap[gb103]? = some (.cells #[.int .i64 ((rd_T156 l0_0 a1).f0), .slice A102_1 ((rd_T156 l0_0 a1).f1).length c102_1, .slice A102_2 ((rd_T156 l0_0 a1).f2).length c102_2, .int .i64 ((rd_T156 l0_0 a1).f3), .int .i64 ((rd_T156 l0_0 a1).f4)] 156 (0, 0))) := ⟨by (with_reducible repeat (first | refine blk_drewN ?_ _ | refine blk_drew ?_ | refine blk_alloc ?_ _)); refine blk_put (cs := #[.int .i64 ((rd_T156 l0_0 a1).f0), .slice A102_1 ((rd_T156 l0_0 a1).f1).length c102_1, .slice A102_2 ((rd_T156 l0_0 a1).f2).length c102_2, .int .i64 ((rd_T156 l0_0 a1).f3), .int .i64 0]) ?_ 4 _ rfl; (with_reducible repeat (first | refine blk_drewN ?_ _ | refine blk_drew ?_ | refine blk_alloc ?_ _)); refine blk_put (cs := #[.int .i64 ((rd_T156 l0_0 a1).f0), .slice A102_1 ((rd_T156 l0_0 a1).f1).length c102_1, .slice A102_2 ((rd_T156 l0_0 a1).f2).length c102_2, .int .i64 0, .int .i64 0]) ?_ 3 _ rfl; (with_reducible repeat (first | refine blk_drewN ?_ _ | refine blk_drew ?_ | refine blk_alloc ?_ _)); refine blk_put (cs := #[.int .i64 ((rd_T156 l0_0 a1).f0), .slice A102_1 ((rd_T156 l0_0 a1).f1).length c102_1, .slice none 0 0, .int .i64 0, .int .i64 0]) ?_ 2 _ rfl; (with_reducible repeat (first | refine blk_drewN ?_ _ | refine blk_drew ?_ | refine blk_alloc ?_ _)); refine blk_put (cs := #[.int .i64 ((rd_T156 l0_0 a1).f0), .slice none 0 0, .slice none 0 0, .int .i64 0, .int .i64 0]) ?_ 1 _ rfl; (with_reducible repeat (first | refine blk_drewN ?_ _ | refine blk_drew ?_ | refine blk_alloc ?_ _)); refine blk_put (cs := #[.int .i64 0, .slice none 0 0, .slice none 0 0, .int .i64 0, .int .i64 0]) ?_ 0 _ rfl; (with_reducible repeat (first | refine blk_drewN ?_ _ | refine blk_drew ?_ | refine blk_alloc ?_ _)); exact BK103.o⟩
         have n2_ : J0 (Below w.heap.size w (((((w33.setCell ⟨gb103, 0, none⟩ (.int .i64 ((rd_T156 l0_0 a1).f0))).setCell ⟨gb103, 1, none⟩ (.slice A102_1 ((rd_T156 l0_0 a1).f1).length c102_1)).setCell ⟨gb103, 2, none⟩ (.slice A102_2 ((rd_T156 l0_0 a1).f2).length c102_2)).setCell ⟨gb103, 3, none⟩ (.int .i64 ((rd_T156 l0_0 a1).f3))).setCell ⟨gb103, 4, none⟩ (.int .i64 ((rd_T156 l0_0 a1).f4)))) := ⟨be2_ HB.o GE101.o GE103.o⟩
         (try clear BK101)
         (try clear BK103)
         (try clear HB)
         generalize (((((w33.setCell ⟨gb103, 0, none⟩ (.int .i64 ((rd_T156 l0_0 a1).f0))).setCell ⟨gb103, 1, none⟩ (.slice A102_1 ((rd_T156 l0_0 a1).f1).length c102_1)).setCell ⟨gb103, 2, none⟩ (.slice A102_2 ((rd_T156 l0_0 a1).f2).length c102_2)).setCell ⟨gb103, 3, none⟩ (.int .i64 ((rd_T156 l0_0 a1).f3))).setCell ⟨gb103, 4, none⟩ (.int .i64 ((rd_T156 l0_0 a1).f4))) = w36 at n0_ n1_ n2_ ⊢
         have BK101 := n0_; have BK103 := n1_; have HB := n2_; clear n0_ n1_ n2_; replace BK101 := q_ (blk_drew BK101.o); replace BK103 := q_ (blk_drew BK103.o); replace HB := q_ (below_drew1 HB.o)
         have p113 : 0 ≤ (0 : Int) := (by omega)
         have q113 : 0 < (((rd_T156 l0_0 a1).f2).length : Int) := of_decide_eq_true as_
         obtain ⟨ad113, e113, hx113_0⟩ := Kd.at_int HR102_2.o 0 p113 q113; have hw113_0 := hx113_0
         (try rw [show ((0 : Int)).toNat = 0 from rfl] at hw113_0)
         (try rw [show 0 * 1 = 0 from rfl] at hw113_0)
         (try rw [Addr.add_zero'] at hw113_0)
         cases e113
         have qi113 : (0 < ((rd_T156 l0_0 a1).f2).length) = True := eq_true (by omega)
         (try rw [show ((0 : Int)).toNat = 0 from rfl] at hx113_0)
         (try rw [Addr.add_zero'] at hx113_0)
         replace hx113_0 := mv_ HB.o hx113_0; replace p113 := eq_true p113; replace q113 := eq_true q113
         refine start_ (n := 11) (S := fun w' => w'.cell? ⟨gb101, 0, none⟩ = some (.slice (some ad102) l0_0.length c0_0) ∧ w'.cell? ⟨gb103, 0, none⟩ = some (.int .i64 ((rd_T156 l0_0 a1).f0)) ∧ w'.cell? ⟨gb103, 1, none⟩ = some (.slice A102_1 ((rd_T156 l0_0 a1).f1).length c102_1) ∧ w'.cell? ⟨gb103, 2, none⟩ = some (.slice (some ad113) ((rd_T156 l0_0 a1).f2).length c102_2) ∧ w'.cell? ⟨gb103, 3, none⟩ = some (.int .i64 ((rd_T156 l0_0 a1).f3)) ∧ w'.cell? ⟨gb103, 4, none⟩ = some (.int .i64 ((rd_T156 l0_0 a1).f4)) ∧ w'.cell? ad113 = some (.int .i64 (rd ((rd_T156 l0_0 a1).f2) 0))) (ds := []) (bb 11 0) (by kernel_rfl) rfl rfl ⟨(blk_cell BK101.o 0).trans rfl, (blk_cell BK103.o 0).trans rfl, (blk_cell BK103.o 1).trans rfl, (blk_cell BK103.o 2).trans rfl, (blk_cell BK103.o 3).trans rfl, (blk_cell BK103.o 4).trans rfl, (mv_ HB.o hw113_0)⟩ (fun hHeld => ?_); refine with_tabW spec_l4First.tab7 spec_l4First.bits7 (fun HT_ HW_ => ?_)
         generalize w36.drew = w37 at BK101 BK103 HB hx113_0 hHeld ⊢
         refine pv_ 1 31 2 HT_.o ?_; refine tv_ 0 30 3 HT_.o HW_.o hHeld ?_; refine tv_ 2 32 7 HT_.o HW_.o hHeld ?_; refine pv_ 3 33 15 HT_.o ?_; refine tv_ 4 34 31 HT_.o HW_.o hHeld ?_
         refine one_ (i := 5) (N := some 35) (bb 11 63) rfl rfl (one_of HT_.o (by kernel_rfl)) (by decide) (fun K hK => ?_)
         refine gs_ Try.func69 #[.agg #[.slice (some ad102) l0_0.length c0_0], .int .i64 (rd ((rd_T156 l0_0 a1).f2) 0)] ?_
         with_reducible refine (ih k (by omega) _ _ l0_0 (rd ((rd_T156 l0_0 a1).f2) 0) t114 true _ ?side1 ?side2 A25.o).mono ?_
         (case side1 => exact Kd.C_below HR0_0.o (be_ HB.o))
         (case side2 => exact HC0_0.o)
         rintro e w38 ⟨v115, rfl, ho0, hb⟩
         refine ⟨_, rfl, ?_⟩; have HO116 := q_ (Kd.R_lower ho0 (below_size (be2_ HB.o GE101.o GE103.o))); replace BK101 := lb_ BK101 hb; replace BK103 := lb_ BK103 hb; replace HB := sb2_ HB GE101 GE103 hb
         (try clear hb)
         (try clear hb2)
         (try clear hk)
         (try clear hi)
         (try clear ho0)
         refine hK.out _ _ ⟨(blk_cell BK101.o 0).trans rfl, (blk_cell BK103.o 0).trans rfl, (blk_cell BK103.o 1).trans rfl, (blk_cell BK103.o 2).trans rfl, (blk_cell BK103.o 3).trans rfl, (blk_cell BK103.o 4).trans rfl, (mv_ HB.o hw113_0)⟩ (fun hHeld => ?_)
         clear hK K; refine no_ (some 35) ?_; refine pv_ 6 29 127 HT_.o ?_; refine pv_ 7 36 255 HT_.o ?_; refine pv_ 8 37 511 HT_.o ?_; refine pv_ 9 7 1023 HT_.o ?_; refine pv_ 10 8 2047 HT_.o ?_
         refine done_ (done_of HT_.o (by kernel_rfl)) ?_
         obtain ⟨hcz39_0, hcz39_1, hcz39_2, hcz39_3, hcz39_4, hfz39_0, hfz39_1, hfz39_2, hfz39_3, hfz39_4⟩ := d5_ BK103
         try go_wp2
         replace HO116 := q_ (Kd.R_drew HO116.o); replace BK101 := q_ (blk_drew BK101.o); replace BK103 := q_ (blk_drew BK103.o); replace HB := q_ (below_drew1 HB.o)
         have p118 : 0 ≤ (1 : Int) := (by omega)
         have q118 : 1 < (((rd_T156 l0_0 a1).f2).length : Int) := of_decide_eq_true as_
         obtain ⟨ad118, e118, hx118_0⟩ := Kd.at_int HR102_2.o 1 p118 q118; have hw118_0 := hx118_0
         (try rw [show ((1 : Int)).toNat = 1 from rfl] at hw118_0)
         (try rw [show 1 * 1 = 1 from rfl] at hw118_0)
         (try simp only [Nat.reduceMul, Nat.reduceEqDiff, Go.Addr.add, ↓reduceIte] at hw118_0)
         obtain rfl : ad113 = ad118 := (by injection e118)
         (try simp only [show (1 : Int).toNat = 1 from rfl, Nat.reduceMul, Nat.reduceEqDiff, Go.Addr.add, ↓reduceIte] at hx118_0)
         have qi118 : (1 < ((rd_T156 l0_0 a1).f2).length) = True := eq_true (by omega)
         (try rw [show ((1 : Int)).toNat = 1 from rfl] at hx118_0)
         replace hx118_0 := mv_ HB.o hx118_0; replace p118 := eq_true p118; replace q118 := eq_true q118
         refine start_ (n := 11) (S := fun w' => w'.cell? ⟨gb101, 0, none⟩ = some (.slice (some ad102) l0_0.length c0_0) ∧ w'.cell? ⟨gb103, 0, none⟩ = some (.int .i64 ((rd_T156 l0_0 a1).f0)) ∧ w'.cell? ⟨gb103, 1, none⟩ = some (.slice A102_1 ((rd_T156 l0_0 a1).f1).length c102_1) ∧ w'.cell? ⟨gb103, 2, none⟩ = some (.slice (some ad113) ((rd_T156 l0_0 a1).f2).length c102_2) ∧ w'.cell? ⟨gb103, 3, none⟩ = some (.int .i64 ((rd_T156 l0_0 a1).f3)) ∧ w'.cell? ⟨gb103, 4, none⟩ = some (.int .i64 ((rd_T156 l0_0 a1).f4)) ∧ w'.cell? ⟨ad113.block, ad113.off + 1, none⟩ = some (.int .i64 (rd ((rd_T156 l0_0 a1).f2) 1))) (ds := []) (bb 11 0) (by kernel_rfl) rfl rfl ⟨(blk_cell BK101.o 0).trans rfl, (blk_cell BK103.o 0).trans rfl, (blk_cell BK103.o 1).trans rfl, (blk_cell BK103.o 2).trans rfl, (blk_cell BK103.o 3).trans rfl, (blk_cell BK103.o 4).trans rfl, (mv_ HB.o hw118_0)⟩ (fun hHeld => ?_); refine with_tabW spec_l4First.tab10 spec_l4First.bits10 (fun HT_ HW_ => ?_)
         generalize w38.drew = w40 at HO116 BK101 BK103 HB hx118_0 hHeld ⊢
         refine pv_ 1 44 2 HT_.o ?_; refine tv_ 0 43 3 HT_.o HW_.o hHeld ?_; refine tv_ 2 45 7 HT_.o HW_.o hHeld ?_; refine pv_ 3 46 15 HT_.o ?_; refine tv_ 4 47 31 HT_.o HW_.o hHeld ?_
         refine one_ (i := 5) (N := some 48) (bb 11 63) rfl rfl (one_of HT_.o (by kernel_rfl)) (by decide) (fun K hK => ?_)
         refine gs_ Try.func69 #[.agg #[.slice (some ad102) l0_0.length c0_0], .int .i64 (rd ((rd_T156 l0_0 a1).f2) 1)] ?_
         with_reducible refine (ih k (by omega) _ _ l0_0 (rd ((rd_T156 l0_0 a1).f2) 1) t119 t122 _ ?side1 ?side2 A28.o).mono ?_
         (case side1 => exact Kd.C_below HR0_0.o (be_ HB.o))
         (case side2 => exact HC0_0.o)
         rintro e w41 ⟨v120, rfl, ho0, hb⟩
         refine ⟨_, rfl, ?_⟩; have HO121 := q_ (Kd.R_lower (Kd.R_new' ho0 (Kd.R_lt (ra_ HO116.o))) (below_size (be2_ HB.o GE101.o GE103.o))); replace HO116 := q_ (Kd.R_elder' (ra_ HO116.o) (Kd.R_base ho0) hb); replace BK101 := lb_ BK101 hb; replace BK103 := lb_ BK103 hb; replace HB := sb2_ HB GE101 GE103 hb
         (try clear hb)
         (try clear hb2)
         (try clear hk)
         (try clear hi)
         (try clear ho0)
         refine hK.out _ _ ⟨(blk_cell BK101.o 0).trans rfl, (blk_cell BK103.o 0).trans rfl, (blk_cell BK103.o 1).trans rfl, (blk_cell BK103.o 2).trans rfl, (blk_cell BK103.o 3).trans rfl, (blk_cell BK103.o 4).trans rfl, (mv_ HB.o hw118_0)⟩ (fun hHeld => ?_)
         clear hK K; refine no_ (some 48) ?_; refine pv_ 6 42 127 HT_.o ?_; refine pv_ 7 49 255 HT_.o ?_; refine pv_ 8 50 511 HT_.o ?_; refine pv_ 9 9 1023 HT_.o ?_; refine pv_ 10 10 2047 HT_.o ?_
         refine done_ (done_of HT_.o (by kernel_rfl)) ?_
         obtain ⟨Ao42, co42, eo42⟩ := Kd.R_slice HO116.o; subst eo42; obtain ⟨Ao43, co43, eo43⟩ := Kd.R_slice HO121.o; subst eo43
         try go_wp2_with (first | ((with_reducible refine gate_callee (f := 122) rfl ?_); refine gl_ (some 54) rfl rfl Try.func122 #[.slice Ao42 t114.length co42, .slice Ao43 t119.length co43] ?_; (with_reducible refine (spec_Joined.calls k _ _ t114 _ _ t119 t123 _ ?side1 ?side2 ?side3 ?side4 A30.o).mono ?_); (case side1 => repeat (first | exact (Kd.R_reads' HO116.o).2.2 | (with_reducible refine Kd.C_alloc ?_ _) | (with_reducible refine Kd.C_drewN ?_ _) | (with_reducible refine Kd.C_drew ?_))); (case side2 => exact (Kd.R_reads' HO116.o).2.1); (case side3 => repeat (first | exact (Kd.R_reads' HO121.o).2.2 | (with_reducible refine Kd.C_alloc ?_ _) | (with_reducible refine Kd.C_drewN ?_ _) | (with_reducible refine Kd.C_drew ?_))); (case side4 => exact (Kd.R_reads' HO121.o).2.1); rintro e w44 ⟨v124, rfl, ho0, hb⟩; refine ⟨_, rfl, ?_⟩; have HO125 := q_ (Kd.R_lower (Kd.R_new' (Kd.R_new' ho0 (Kd.R_lt (ra_ HO116.o))) (Kd.R_lt (ra_ HO121.o))) (below_size (be2_ HB.o GE101.o GE103.o))); replace HO116 := q_ (Kd.R_elder' (ra_ HO116.o) (Kd.R_base ho0) hb); replace HO121 := q_ (Kd.R_elder' (ra_ HO121.o) (Kd.R_base ho0) hb); replace BK101 := lb_ BK101 hb; replace BK103 := lb_ BK103 hb; replace HB := sb2_ HB GE101 GE103 hb; (try clear hb); (try clear ho0)))
         go_ret2
         exact ⟨_, rt_, by (with_reducible repeat (first | apply Kd.R_alloc | apply Kd.R_drewN | apply Kd.R_drew)); exact Kd.R_mono HO125.o (fun _ hk => trivial), be2_ HB.o GE101.o GE103.o⟩
        ·replace c29 := Bool.eq_false_iff.mpr c29; subst c29; rw [if_neg nft_] at H
         simp only [Option.some.injEq, Prod.mk.injEq] at H
         obtain ⟨rfl, rfl⟩ := H
         go_enter Try.func69, Try.ntmps69
         try go_wp2_with (first | ((with_reducible refine gate_dst (N := 2) rfl ?_); refine bx_ 2 #[.slice A0_0 l0_0.length c0_0] 29 ?_; intro gb101 hg w45 hbox hb; have BK101 := q_ (hbox); have GE101 := ge_ hg HB; replace HB := sb_ HB hb; clear hb hbox hg; obtain ⟨hcz46_0, hfz46_0⟩ := d1_ BK101; have p102 : 0 ≤ (a1 : Int) := of_decide_eq_true as_; have q102 : a1 < (l0_0.length : Int) := of_decide_eq_true as_; obtain ⟨ad102, A102_1, c102_1, A102_2, c102_2, e102, hx102_0, hx102_1, hx102_2, hx102_3, hx102_4, hl102_1, hi102_1, hl102_2, hi102_2⟩ := at_T156 HR0_0.o a1 p102 q102; cases e102; replace hx102_0 := mv_ HB.o hx102_0; replace hx102_1 := mv_ HB.o hx102_1; replace hx102_2 := mv_ HB.o hx102_2; replace hx102_3 := mv_ HB.o hx102_3; replace hx102_4 := mv_ HB.o hx102_4; have HR102_1 := q_ hi102_1; have HC102_1 := q_ hl102_1; clear hi102_1 hl102_1; have HR102_2 := q_ hi102_2; have HC102_2 := q_ hl102_2; clear hi102_2 hl102_2; replace p102 := eq_true p102; replace q102 := eq_true q102) | ((with_reducible refine gate_dst (N := 6) rfl ?_); refine bx_ 6 #[.int .i64 0, .slice none 0 0, .slice none 0 0, .int .i64 0, .int .i64 0] 156 ?_; intro gb103 hg w47 hbox hb; have BK103 := q_ (hbox); have GE103 := ge1_ hg HB GE101; have NB101_103 := nl_ hg BK101; have NB103_101 := ng_ hg BK101; replace BK101 := lb_ BK101 hb; replace HB := sb1_ HB GE101 hb; clear hb hbox hg; have hnb48 := NB103_101.o; have hnc48 := NB101_103.o; obtain ⟨hcz49_0, hcz49_1, hcz49_2, hcz49_3, hcz49_4, hfz49_0, hfz49_1, hfz49_2, hfz49_3, hfz49_4⟩ := d5_ BK103))
         have n0_ : J0 ((((((w47.setCell ⟨gb103, 0, none⟩ (.int .i64 ((rd_T156 l0_0 a1).f0))).setCell ⟨gb103, 1, none⟩ (.slice A102_1 ((rd_T156 l0_0 a1).f1).length c102_1)).setCell ⟨gb103, 2, none⟩ (.slice A102_2 ((rd_T156 l0_0 a1).f2).length c102_2)).setCell ⟨gb103, 3, none⟩ (.int .i64 ((rd_T156 l0_0 a1).f3))).setCell ⟨gb103, 4, none⟩ (.int .i64 ((rd_T156 l0_0 a1).f4))).heap[gb101]? = some (.cells #[.slice (some ad102) l0_0.length c0_0] 29 (0, 0))) := ⟨by (with_reducible repeat (first | refine blk_drewN ?_ _ | refine blk_drew ?_ | refine blk_alloc ?_ _)); refine blk_far ?_ NB101_103.o _; (with_reducible repeat (first | refine blk_drewN ?_ _ | refine blk_drew ?_ | refine blk_alloc ?_ _)); refine blk_far ?_ NB101_103.o _; (with_reducible repeat (first | refine blk_drewN ?_ _ | refine blk_drew ?_ | refine blk_alloc ?_ _)); refine blk_far ?_ NB101_103.o _; (with_reducible repeat (first | refine blk_drewN ?_ _ | refine blk_drew ?_ | refine blk_alloc ?_ _)); refine blk_far ?_ NB101_103.o _; (with_reducible repeat (first | refine blk_drewN ?_ _ | refine blk_drew ?_ | refine blk_alloc ?_ _)); refine blk_far ?_ NB101_103.o _; (with_reducible repeat (first | refine blk_drewN ?_ _ | refine blk_drew ?_ | refine blk_alloc ?_ _)); exact BK101.o⟩
         have n1_ : J0 ((((((w47.setCell ⟨gb103, 0, none⟩ (.int .i64 ((rd_T156 l0_0 a1).f0))).setCell ⟨gb103, 1, none⟩ (.slice A102_1 ((rd_T156 l0_0 a1).f1).length c102_1)).setCell ⟨gb103, 2, none⟩ (.slice A102_2 ((rd_T156 l0_0 a1).f2).length c102_2)).setCell ⟨gb103, 3, none⟩ (.int .i64 ((rd_T156 l0_0 a1).f3))).setCell ⟨gb103, 4, none⟩ (.int .i64 ((rd_T156 l0_0 a1).f4))).heap[gb103]? = some (.cells #[.int .i64 ((rd_T156 l0_0 a1).f0), .slice A102_1 ((rd_T156 l0_0 a1).f1).length c102_1, .slice A102_2 ((rd_T156 l0_0 a1).f2).length c102_2, .int .i64 ((rd_T156 l0_0 a1).f3), .int .i64 ((rd_T156 l0_0 a1).f4)] 156 (0, 0))) := ⟨by (with_reducible repeat (first | refine blk_drewN ?_ _ | refine blk_drew ?_ | refine blk_alloc ?_ _)); refine blk_put (cs := #[.int .i64 ((rd_T156 l0_0 a1).f0), .slice A102_1 ((rd_T156 l0_0 a1).f1).length c102_1, .slice A102_2 ((rd_T156 l0_0 a1).f2).length c102_2, .int .i64 ((rd_T156 l0_0 a1).f3), .int .i64 0]) ?_ 4 _ rfl; (with_reducible repeat (first | refine blk_drewN ?_ _ | refine blk_drew ?_ | refine blk_alloc ?_ _)); refine blk_put (cs := #[.int .i64 ((rd_T156 l0_0 a1).f0), .slice A102_1 ((rd_T156 l0_0 a1).f1).length c102_1, .slice A102_2 ((rd_T156 l0_0 a1).f2).length c102_2, .int .i64 0, .int .i64 0]) ?_ 3 _ rfl; (with_reducible repeat (first | refine blk_drewN ?_ _ | refine blk_drew ?_ | refine blk_alloc ?_ _)); refine blk_put (cs := #[.int .i64 ((rd_T156 l0_0 a1).f0), .slice A102_1 ((rd_T156 l0_0 a1).f1).length c102_1, .slice none 0 0, .int .i64 0, .int .i64 0]) ?_ 2 _ rfl; (with_reducible repeat (first | refine blk_drewN ?_ _ | refine blk_drew ?_ | refine blk_alloc ?_ _)); refine blk_put (cs := #[.int .i64 ((rd_T156 l0_0 a1).f0), .slice none 0 0, .slice none 0 0, .int .i64 0, .int .i64 0]) ?_ 1 _ rfl; (with_reducible repeat (first | refine blk_drewN ?_ _ | refine blk_drew ?_ | refine blk_alloc ?_ _)); refine blk_put (cs := #[.int .i64 0, .slice none 0 0, .slice none 0 0, .int .i64 0, .int .i64 0]) ?_ 0 _ rfl; (with_reducible repeat (first | refine blk_drewN ?_ _ | refine blk_drew ?_ | refine blk_alloc ?_ _)); exact BK103.o⟩
         have n2_ : J0 (Below w.heap.size w (((((w47.setCell ⟨gb103, 0, none⟩ (.int .i64 ((rd_T156 l0_0 a1).f0))).setCell ⟨gb103, 1, none⟩ (.slice A102_1 ((rd_T156 l0_0 a1).f1).length c102_1)).setCell ⟨gb103, 2, none⟩ (.slice A102_2 ((rd_T156 l0_0 a1).f2).length c102_2)).setCell ⟨gb103, 3, none⟩ (.int .i64 ((rd_T156 l0_0 a1).f3))).setCell ⟨gb103, 4, none⟩ (.int .i64 ((rd_T156 l0_0 a1).f4)))) := ⟨be2_ HB.o GE101.o GE103.o⟩
         (try clear BK101)
         (try clear BK103)
         (try clear HB)
         generalize (((((w47.setCell ⟨gb103, 0, none⟩ (.int .i64 ((rd_T156 l0_0 a1).f0))).setCell ⟨gb103, 1, none⟩ (.slice A102_1 ((rd_T156 l0_0 a1).f1).length c102_1)).setCell ⟨gb103, 2, none⟩ (.slice A102_2 ((rd_T156 l0_0 a1).f2).length c102_2)).setCell ⟨gb103, 3, none⟩ (.int .i64 ((rd_T156 l0_0 a1).f3))).setCell ⟨gb103, 4, none⟩ (.int .i64 ((rd_T156 l0_0 a1).f4))) = w50 at n0_ n1_ n2_ ⊢
         have BK101 := n0_; have BK103 := n1_; have HB := n2_; clear n0_ n1_ n2_; replace BK101 := q_ (blk_drew BK101.o); replace BK103 := q_ (blk_drew BK103.o); replace HB := q_ (below_drew1 HB.o)
         have p113 : 0 ≤ (0 : Int) := (by omega)
         have q113 : 0 < (((rd_T156 l0_0 a1).f2).length : Int) := of_decide_eq_true as_
         obtain ⟨ad113, e113, hx113_0⟩ := Kd.at_int HR102_2.o 0 p113 q113; have hw113_0 := hx113_0
         (try rw [show ((0 : Int)).toNat = 0 from rfl] at hw113_0)
         (try rw [show 0 * 1 = 0 from rfl] at hw113_0)
         (try rw [Addr.add_zero'] at hw113_0)
         cases e113
         have qi113 : (0 < ((rd_T156 l0_0 a1).f2).length) = True := eq_true (by omega)
         (try rw [show ((0 : Int)).toNat = 0 from rfl] at hx113_0)
         (try rw [Addr.add_zero'] at hx113_0)
         replace hx113_0 := mv_ HB.o hx113_0; replace p113 := eq_true p113; replace q113 := eq_true q113
         refine start_ (n := 11) (S := fun w' => w'.cell? ⟨gb101, 0, none⟩ = some (.slice (some ad102) l0_0.length c0_0) ∧ w'.cell? ⟨gb103, 0, none⟩ = some (.int .i64 ((rd_T156 l0_0 a1).f0)) ∧ w'.cell? ⟨gb103, 1, none⟩ = some (.slice A102_1 ((rd_T156 l0_0 a1).f1).length c102_1) ∧ w'.cell? ⟨gb103, 2, none⟩ = some (.slice (some ad113) ((rd_T156 l0_0 a1).f2).length c102_2) ∧ w'.cell? ⟨gb103, 3, none⟩ = some (.int .i64 ((rd_T156 l0_0 a1).f3)) ∧ w'.cell? ⟨gb103, 4, none⟩ = some (.int .i64 ((rd_T156 l0_0 a1).f4)) ∧ w'.cell? ad113 = some (.int .i64 (rd ((rd_T156 l0_0 a1).f2) 0))) (ds := []) (bb 11 0) (by kernel_rfl) rfl rfl ⟨(blk_cell BK101.o 0).trans rfl, (blk_cell BK103.o 0).trans rfl, (blk_cell BK103.o 1).trans rfl, (blk_cell BK103.o 2).trans rfl, (blk_cell BK103.o 3).trans rfl, (blk_cell BK103.o 4).trans rfl, (mv_ HB.o hw113_0)⟩ (fun hHeld => ?_); refine with_tabW spec_l4First.tab7 spec_l4First.bits7 (fun HT_ HW_ => ?_)
         generalize w50.drew = w51 at BK101 BK103 HB hx113_0 hHeld ⊢
         refine pv_ 1 31 2 HT_.o ?_; refine tv_ 0 30 3 HT_.o HW_.o hHeld ?_; refine tv_ 2 32 7 HT_.o HW_.o hHeld ?_; refine pv_ 3 33 15 HT_.o ?_; refine tv_ 4 34 31 HT_.o HW_.o hHeld ?_
         refine one_ (i := 5) (N := some 35) (bb 11 63) rfl rfl (one_of HT_.o (by kernel_rfl)) (by decide) (fun K hK => ?_)
         refine gs_ Try.func69 #[.agg #[.slice (some ad102) l0_0.length c0_0], .int .i64 (rd ((rd_T156 l0_0 a1).f2) 0)] ?_
         with_reducible refine (ih k (by omega) _ _ l0_0 (rd ((rd_T156 l0_0 a1).f2) 0) t114 false _ ?side1 ?side2 A25.o).mono ?_
         (case side1 => exact Kd.C_below HR0_0.o (be_ HB.o))
         (case side2 => exact HC0_0.o)
         rintro e w52 ⟨v115, rfl, ho0, hb⟩
         refine ⟨_, rfl, ?_⟩; have HO116 := q_ (Kd.R_lower ho0 (below_size (be2_ HB.o GE101.o GE103.o))); replace BK101 := lb_ BK101 hb; replace BK103 := lb_ BK103 hb; replace HB := sb2_ HB GE101 GE103 hb
         (try clear hb)
         (try clear hb2)
         (try clear hk)
         (try clear hi)
         (try clear ho0)
         refine hK.out _ _ ⟨(blk_cell BK101.o 0).trans rfl, (blk_cell BK103.o 0).trans rfl, (blk_cell BK103.o 1).trans rfl, (blk_cell BK103.o 2).trans rfl, (blk_cell BK103.o 3).trans rfl, (blk_cell BK103.o 4).trans rfl, (mv_ HB.o hw113_0)⟩ (fun hHeld => ?_)
         clear hK K; refine no_ (some 35) ?_; refine pv_ 6 29 127 HT_.o ?_; refine pv_ 7 36 255 HT_.o ?_; refine pv_ 8 37 511 HT_.o ?_; refine pv_ 9 7 1023 HT_.o ?_; refine pv_ 10 8 2047 HT_.o ?_
         refine done_ (done_of HT_.o (by kernel_rfl)) ?_
         obtain ⟨hcz53_0, hcz53_1, hcz53_2, hcz53_3, hcz53_4, hfz53_0, hfz53_1, hfz53_2, hfz53_3, hfz53_4⟩ := d5_ BK103
         try go_wp2
         replace HO116 := q_ (Kd.R_drew HO116.o); replace BK101 := q_ (blk_drew BK101.o); replace BK103 := q_ (blk_drew BK103.o); replace HB := q_ (below_drew1 HB.o)
         have p118 : 0 ≤ (1 : Int) := (by omega)
         have q118 : 1 < (((rd_T156 l0_0 a1).f2).length : Int) := of_decide_eq_true as_
         obtain ⟨ad118, e118, hx118_0⟩ := Kd.at_int HR102_2.o 1 p118 q118; have hw118_0 := hx118_0
         (try rw [show ((1 : Int)).toNat = 1 from rfl] at hw118_0)
         (try rw [show 1 * 1 = 1 from rfl] at hw118_0)
         (try simp only [Nat.reduceMul, Nat.reduceEqDiff, Go.Addr.add, ↓reduceIte] at hw118_0)
         obtain rfl : ad113 = ad118 := (by injection e118)
         (try simp only [show (1 : Int).toNat = 1 from rfl, Nat.reduceMul, Nat.reduceEqDiff, Go.Addr.add, ↓reduceIte] at hx118_0)
         have qi118 : (1 < ((rd_T156 l0_0 a1).f2).length) = True := eq_true (by omega)
         (try rw [show ((1 : Int)).toNat = 1 from rfl] at hx118_0)
         replace hx118_0 := mv_ HB.o hx118_0; replace p118 := eq_true p118; replace q118 := eq_true q118
         refine start_ (n := 11) (S := fun w' => w'.cell? ⟨gb101, 0, none⟩ = some (.slice (some ad102) l0_0.length c0_0) ∧ w'.cell? ⟨gb103, 0, none⟩ = some (.int .i64 ((rd_T156 l0_0 a1).f0)) ∧ w'.cell? ⟨gb103, 1, none⟩ = some (.slice A102_1 ((rd_T156 l0_0 a1).f1).length c102_1) ∧ w'.cell? ⟨gb103, 2, none⟩ = some (.slice (some ad113) ((rd_T156 l0_0 a1).f2).length c102_2) ∧ w'.cell? ⟨gb103, 3, none⟩ = some (.int .i64 ((rd_T156 l0_0 a1).f3)) ∧ w'.cell? ⟨gb103, 4, none⟩ = some (.int .i64 ((rd_T156 l0_0 a1).f4)) ∧ w'.cell? ⟨ad113.block, ad113.off + 1, none⟩ = some (.int .i64 (rd ((rd_T156 l0_0 a1).f2) 1))) (ds := []) (bb 11 0) (by kernel_rfl) rfl rfl ⟨(blk_cell BK101.o 0).trans rfl, (blk_cell BK103.o 0).trans rfl, (blk_cell BK103.o 1).trans rfl, (blk_cell BK103.o 2).trans rfl, (blk_cell BK103.o 3).trans rfl, (blk_cell BK103.o 4).trans rfl, (mv_ HB.o hw118_0)⟩ (fun hHeld => ?_); refine with_tabW spec_l4First.tab10 spec_l4First.bits10 (fun HT_ HW_ => ?_)
         generalize w52.drew = w54 at HO116 BK101 BK103 HB hx118_0 hHeld ⊢
         refine pv_ 1 44 2 HT_.o ?_; refine tv_ 0 43 3 HT_.o HW_.o hHeld ?_; refine tv_ 2 45 7 HT_.o HW_.o hHeld ?_; refine pv_ 3 46 15 HT_.o ?_; refine tv_ 4 47 31 HT_.o HW_.o hHeld ?_
         refine one_ (i := 5) (N := some 48) (bb 11 63) rfl rfl (one_of HT_.o (by kernel_rfl)) (by decide) (fun K hK => ?_)
         refine gs_ Try.func69 #[.agg #[.slice (some ad102) l0_0.length c0_0], .int .i64 (rd ((rd_T156 l0_0 a1).f2) 1)] ?_
         with_reducible refine (ih k (by omega) _ _ l0_0 (rd ((rd_T156 l0_0 a1).f2) 1) t119 t122 _ ?side1 ?side2 A28.o).mono ?_
         (case side1 => exact Kd.C_below HR0_0.o (be_ HB.o))
         (case side2 => exact HC0_0.o)
         rintro e w55 ⟨v120, rfl, ho0, hb⟩
         refine ⟨_, rfl, ?_⟩; have HO121 := q_ (Kd.R_lower (Kd.R_new' ho0 (Kd.R_lt (ra_ HO116.o))) (below_size (be2_ HB.o GE101.o GE103.o))); replace HO116 := q_ (Kd.R_elder' (ra_ HO116.o) (Kd.R_base ho0) hb); replace BK101 := lb_ BK101 hb; replace BK103 := lb_ BK103 hb; replace HB := sb2_ HB GE101 GE103 hb
         (try clear hb)
         (try clear hb2)
         (try clear hk)
         (try clear hi)
         (try clear ho0)
         refine hK.out _ _ ⟨(blk_cell BK101.o 0).trans rfl, (blk_cell BK103.o 0).trans rfl, (blk_cell BK103.o 1).trans rfl, (blk_cell BK103.o 2).trans rfl, (blk_cell BK103.o 3).trans rfl, (blk_cell BK103.o 4).trans rfl, (mv_ HB.o hw118_0)⟩ (fun hHeld => ?_)
         clear hK K; refine no_ (some 48) ?_; refine pv_ 6 42 127 HT_.o ?_; refine pv_ 7 49 255 HT_.o ?_; refine pv_ 8 50 511 HT_.o ?_; refine pv_ 9 9 1023 HT_.o ?_; refine pv_ 10 10 2047 HT_.o ?_
         refine done_ (done_of HT_.o (by kernel_rfl)) ?_
         try go_wp2
         go_ret2
         exact ⟨_, rt_, by (with_reducible repeat (first | apply Kd.R_alloc | apply Kd.R_drewN | apply Kd.R_drew)); exact Kd.R_mono HO116.o (fun _ hk => trivial), be2_ HB.o GE101.o GE103.o⟩
       ·rw [if_neg c27] at H
        exact absurd H (by simp)
      ·rw [if_neg c26] at H
       have c26b0 : (((rd_T156 l0_0 a1).f0) == 3) = false := beq_eq_false_iff_ne.mpr c26
       have c26b1 : (((rd_T156 l0_0 a1).f0) != 3) = true := bne_iff_ne.mpr c26
       by_cases c56 : ((rd_T156 l0_0 a1).f0) = 4
       ·rw [if_pos c56] at H
        have c56b0 : (((rd_T156 l0_0 a1).f0) == 4) = true := beq_iff_eq.mpr c56
        have c56b1 : (((rd_T156 l0_0 a1).f0) != 4) = false := bne_eq_false_iff_eq.mpr c56
        clear c56
        by_cases c57 : 1 < (((rd_T156 l0_0 a1).f2).length : Int)
        ·rw [if_pos c57] at H; have c57b0 := dt_ c57
         have c57b1 : decide (1 < ((rd_T156 l0_0 a1).f2).length) = true := decide_eq_true (by omega)
         clear c57; replace H := Option.bind_eq_some_iff.mp H
         obtain ⟨⟨t127, t130⟩, A580, H⟩ := H
         replace H : ((spec_Joined.f k t114 t127).bind fun t131 => (if t117 = true then (some (t131, true)) else (some (t131, t130)))) = some (r1, r2) := H
         have A58 := q_ A580; clear A580; obtain ⟨t131, A59, H⟩ := ob_ H
         by_cases c60 : t117 = true
         ·subst c60; rw [if_pos rfl] at H
          simp only [Option.some.injEq, Prod.mk.injEq] at H
          obtain ⟨rfl, rfl⟩ := H
          go_enter Try.func69, Try.ntmps69
          try go_wp2_with (first | ((with_reducible refine gate_dst (N := 2) rfl ?_); refine bx_ 2 #[.slice A0_0 l0_0.length c0_0] 29 ?_; intro gb101 hg w61 hbox hb; have BK101 := q_ (hbox); have GE101 := ge_ hg HB; replace HB := sb_ HB hb; clear hb hbox hg; obtain ⟨hcz62_0, hfz62_0⟩ := d1_ BK101; have p102 : 0 ≤ (a1 : Int) := of_decide_eq_true as_; have q102 : a1 < (l0_0.length : Int) := of_decide_eq_true as_; obtain ⟨ad102, A102_1, c102_1, A102_2, c102_2, e102, hx102_0, hx102_1, hx102_2, hx102_3, hx102_4, hl102_1, hi102_1, hl102_2, hi102_2⟩ := at_T156 HR0_0.o a1 p102 q102; cases e102; replace hx102_0 := mv_ HB.o hx102_0; replace hx102_1 := mv_ HB.o hx102_1; replace hx102_2 := mv_ HB.o hx102_2; replace hx102_3 := mv_ HB.o hx102_3; replace hx102_4 := mv_ HB.o hx102_4; have HR102_1 := q_ hi102_1; have HC102_1 := q_ hl102_1; clear hi102_1 hl102_1; have HR102_2 := q_ hi102_2; have HC102_2 := q_ hl102_2; clear hi102_2 hl102_2; replace p102 := eq_true p102; replace q102 := eq_true q102) | ((with_reducible refine gate_dst (N := 6) rfl ?_); refine bx_ 6 #[.int .i64 0, .slice none 0 0, .slice none 0 0, .int .i64 0, .int .i64 0] 156 ?_; intro gb103 hg w63 hbox hb; have BK103 := q_ (hbox); have GE103 := ge1_ hg HB GE101; have NB101_103 := nl_ hg BK101; have NB103_101 := ng_ hg BK101; replace BK101 := lb_ BK101 hb; replace HB := sb1_ HB GE101 hb; clear hb hbox hg; have hnb64 := NB103_101.o; have hnc64 := NB101_103.o; obtain ⟨hcz65_0, hcz65_1, hcz65_2, hcz65_3, hcz65_4, hfz65_0, hfz65_1, hfz65_2, hfz65_3, hfz65_4⟩ := d5_ BK103))
          have n0_ : J0 ((((((w63.setCell ⟨gb103, 0, none⟩ (.int .i64 ((rd_T156 l0_0 a1).f0))).setCell ⟨gb103, 1, none⟩ (.slice A102_1 ((rd_T156 l0_0 a1).f1).length c102_1)).setCell ⟨gb103, 2, none⟩ (.slice A102_2 ((rd_T156 l0_0 a1).f2).length c102_2)).setCell ⟨gb103, 3, none⟩ (.int .i64 ((rd_T156 l0_0 a1).f3))).setCell ⟨gb103, 4, none⟩ (.int .i64 ((rd_T156 l0_0 a1).f4))).heap[gb101]? = some (.cells #[.slice (some ad102) l0_0.length c0_0] 29 (0, 0))) := ⟨by (with_reducible repeat (first | refine blk_drewN ?_ _ | refine blk_drew ?_ | refine blk_alloc ?_ _)); refine blk_far ?_ NB101_103.o _; (with_reducible repeat (first | refine blk_drewN ?_ _ | refine blk_drew ?_ | refine blk_alloc ?_ _)); refine blk_far ?_ NB101_103.o _; (with_reducible repeat (first | refine blk_drewN ?_ _ | refine blk_drew ?_ | refine blk_alloc ?_ _)); refine blk_far ?_ NB101_103.o _; (with_reducible repeat (first | refine blk_drewN ?_ _ | refine blk_drew ?_ | refine blk_alloc ?_ _)); refine blk_far ?_ NB101_103.o _; (with_reducible repeat (first | refine blk_drewN ?_ _ | refine blk_drew ?_ | refine blk_alloc ?_ _)); refine blk_far ?_ NB101_103.o _; (with_reducible repeat (first | refine blk_drewN ?_ _ | refine blk_drew ?_ | refine blk_alloc ?_ _)); exact BK101.o⟩
          have n1_ : J0 ((((((w63.setCell ⟨gb103, 0, none⟩ (.int .i64 ((rd_T156 l0_0 a1).f0))).setCell ⟨gb103, 1, none⟩ (.slice A102_1 ((rd_T156 l0_0 a1).f1).length c102_1)).setCell ⟨gb103, 2, none⟩ (.slice A102_2 ((rd_T156 l0_0 a1).f2).length c102_2)).setCell ⟨gb103, 3, none⟩ (.int .i64 ((rd_T156 l0_0 a1).f3))).setCell ⟨gb103, 4, none⟩ (.int .i64 ((rd_T156 l0_0 a1).f4))).heap[gb103]? = some (.cells #[.int .i64 ((rd_T156 l0_0 a1).f0), .slice A102_1 ((rd_T156 l0_0 a1).f1).length c102_1, .slice A102_2 ((rd_T156 l0_0 a1).f2).length c102_2, .int .i64 ((rd_T156 l0_0 a1).f3), .int .i64 ((rd_T156 l0_0 a1).f4)] 156 (0, 0))) := ⟨by (with_reducible repeat (first | refine blk_drewN ?_ _ | refine blk_drew ?_ | refine blk_alloc ?_ _)); refine blk_put (cs := #[.int .i64 ((rd_T156 l0_0 a1).f0), .slice A102_1 ((rd_T156 l0_0 a1).f1).length c102_1, .slice A102_2 ((rd_T156 l0_0 a1).f2).length c102_2, .int .i64 ((rd_T156 l0_0 a1).f3), .int .i64 0]) ?_ 4 _ rfl; (with_reducible repeat (first | refine blk_drewN ?_ _ | refine blk_drew ?_ | refine blk_alloc ?_ _)); refine blk_put (cs := #[.int .i64 ((rd_T156 l0_0 a1).f0), .slice A102_1 ((rd_T156 l0_0 a1).f1).length c102_1, .slice A102_2 ((rd_T156 l0_0 a1).f2).length c102_2, .int .i64 0, .int .i64 0]) ?_ 3 _ rfl; (with_reducible repeat (first | refine blk_drewN ?_ _ | refine blk_drew ?_ | refine blk_alloc ?_ _)); refine blk_put (cs := #[.int .i64 ((rd_T156 l0_0 a1).f0), .slice A102_1 ((rd_T156 l0_0 a1).f1).length c102_1, .slice none 0 0, .int .i64 0, .int .i64 0]) ?_ 2 _ rfl; (with_reducible repeat (first | refine blk_drewN ?_ _ | refine blk_drew ?_ | refine blk_alloc ?_ _)); refine blk_put (cs := #[.int .i64 ((rd_T156 l0_0 a1).f0), .slice none 0 0, .slice none 0 0, .int .i64 0, .int .i64 0]) ?_ 1 _ rfl; (with_reducible repeat (first | refine blk_drewN ?_ _ | refine blk_drew ?_ | refine blk_alloc ?_ _)); refine blk_put (cs := #[.int .i64 0, .slice none 0 0, .slice none 0 0, .int .i64 0, .int .i64 0]) ?_ 0 _ rfl; (with_reducible repeat (first | refine blk_drewN ?_ _ | refine blk_drew ?_ | refine blk_alloc ?_ _)); exact BK103.o⟩
          have n2_ : J0 (Below w.heap.size w (((((w63.setCell ⟨gb103, 0, none⟩ (.int .i64 ((rd_T156 l0_0 a1).f0))).setCell ⟨gb103, 1, none⟩ (.slice A102_1 ((rd_T156 l0_0 a1).f1).length c102_1)).setCell ⟨gb103, 2, none⟩ (.slice A102_2 ((rd_T156 l0_0 a1).f2).length c102_2)).setCell ⟨gb103, 3, none⟩ (.int .i64 ((rd_T156 l0_0 a1).f3))).setCell ⟨gb103, 4, none⟩ (.int .i64 ((rd_T156 l0_0 a1).f4)))) := ⟨be2_ HB.o GE101.o GE103.o⟩
          (try clear BK101)
          (try clear BK103)
          (try clear HB)
          generalize (((((w63.setCell ⟨gb103, 0, none⟩ (.int .i64 ((rd_T156 l0_0 a1).f0))).setCell ⟨gb103, 1, none⟩ (.slice A102_1 ((rd_T156 l0_0 a1).f1).length c102_1)).setCell ⟨gb103, 2, none⟩ (.slice A102_2 ((rd_T156 l0_0 a1).f2).length c102_2)).setCell ⟨gb103, 3, none⟩ (.int .i64 ((rd_T156 l0_0 a1).f3))).setCell ⟨gb103, 4, none⟩ (.int .i64 ((rd_T156 l0_0 a1).f4))) = w66 at n0_ n1_ n2_ ⊢
          have BK101 := n0_; have BK103 := n1_; have HB := n2_; clear n0_ n1_ n2_; replace BK101 := q_ (blk_drew BK101.o); replace BK103 := q_ (blk_drew BK103.o); replace HB := q_ (below_drew1 HB.o)
          have p113 : 0 ≤ (0 : Int) := (by omega)
          have q113 : 0 < (((rd_T156 l0_0 a1).f2).length : Int) := of_decide_eq_true as_
          obtain ⟨ad113, e113, hx113_0⟩ := Kd.at_int HR102_2.o 0 p113 q113; have hw113_0 := hx113_0
          (try rw [show ((0 : Int)).toNat = 0 from rfl] at hw113_0)
          (try rw [show 0 * 1 = 0 from rfl] at hw113_0)
          (try rw [Addr.add_zero'] at hw113_0)
          cases e113
          have qi113 : (0 < ((rd_T156 l0_0 a1).f2).length) = True := eq_true (by omega)
          (try rw [show ((0 : Int)).toNat = 0 from rfl] at hx113_0)
          (try rw [Addr.add_zero'] at hx113_0)
          replace hx113_0 := mv_ HB.o hx113_0; replace p113 := eq_true p113; replace q113 := eq_true q113
          refine start_ (n := 11) (S := fun w' => w'.cell? ⟨gb101, 0, none⟩ = some (.slice (some ad102) l0_0.length c0_0) ∧ w'.cell? ⟨gb103, 0, none⟩ = some (.int .i64 ((rd_T156 l0_0 a1).f0)) ∧ w'.cell? ⟨gb103, 1, none⟩ = some (.slice A102_1 ((rd_T156 l0_0 a1).f1).length c102_1) ∧ w'.cell? ⟨gb103, 2, none⟩ = some (.slice (some ad113) ((rd_T156 l0_0 a1).f2).length c102_2) ∧ w'.cell? ⟨gb103, 3, none⟩ = some (.int .i64 ((rd_T156 l0_0 a1).f3)) ∧ w'.cell? ⟨gb103, 4, none⟩ = some (.int .i64 ((rd_T156 l0_0 a1).f4)) ∧ w'.cell? ad113 = some (.int .i64 (rd ((rd_T156 l0_0 a1).f2) 0))) (ds := []) (bb 11 0) (by kernel_rfl) rfl rfl ⟨(blk_cell BK101.o 0).trans rfl, (blk_cell BK103.o 0).trans rfl, (blk_cell BK103.o 1).trans rfl, (blk_cell BK103.o 2).trans rfl, (blk_cell BK103.o 3).trans rfl, (blk_cell BK103.o 4).trans rfl, (mv_ HB.o hw113_0)⟩ (fun hHeld => ?_); refine with_tabW spec_l4First.tab7 spec_l4First.bits7 (fun HT_ HW_ => ?_)
          generalize w66.drew = w67 at BK101 BK103 HB hx113_0 hHeld ⊢
          refine pv_ 1 31 2 HT_.o ?_; refine tv_ 0 30 3 HT_.o HW_.o hHeld ?_; refine tv_ 2 32 7 HT_.o HW_.o hHeld ?_; refine pv_ 3 33 15 HT_.o ?_; refine tv_ 4 34 31 HT_.o HW_.o hHeld ?_
          refine one_ (i := 5) (N := some 35) (bb 11 63) rfl rfl (one_of HT_.o (by kernel_rfl)) (by decide) (fun K hK => ?_)
          refine gs_ Try.func69 #[.agg #[.slice (some ad102) l0_0.length c0_0], .int .i64 (rd ((rd_T156 l0_0 a1).f2) 0)] ?_
          with_reducible refine (ih k (by omega) _ _ l0_0 (rd ((rd_T156 l0_0 a1).f2) 0) t114 true _ ?side1 ?side2 A25.o).mono ?_
          (case side1 => exact Kd.C_below HR0_0.o (be_ HB.o))
          (case side2 => exact HC0_0.o)
          rintro e w68 ⟨v115, rfl, ho0, hb⟩
          refine ⟨_, rfl, ?_⟩; have HO116 := q_ (Kd.R_lower ho0 (below_size (be2_ HB.o GE101.o GE103.o))); replace BK101 := lb_ BK101 hb; replace BK103 := lb_ BK103 hb; replace HB := sb2_ HB GE101 GE103 hb
          (try clear hb)
          (try clear hb2)
          (try clear hk)
          (try clear hi)
          (try clear ho0)
          refine hK.out _ _ ⟨(blk_cell BK101.o 0).trans rfl, (blk_cell BK103.o 0).trans rfl, (blk_cell BK103.o 1).trans rfl, (blk_cell BK103.o 2).trans rfl, (blk_cell BK103.o 3).trans rfl, (blk_cell BK103.o 4).trans rfl, (mv_ HB.o hw113_0)⟩ (fun hHeld => ?_)
          clear hK K; refine no_ (some 35) ?_; refine pv_ 6 29 127 HT_.o ?_; refine pv_ 7 36 255 HT_.o ?_; refine pv_ 8 37 511 HT_.o ?_; refine pv_ 9 7 1023 HT_.o ?_; refine pv_ 10 8 2047 HT_.o ?_
          refine done_ (done_of HT_.o (by kernel_rfl)) ?_
          obtain ⟨hcz69_0, hcz69_1, hcz69_2, hcz69_3, hcz69_4, hfz69_0, hfz69_1, hfz69_2, hfz69_3, hfz69_4⟩ := d5_ BK103
          try go_wp2
          replace HO116 := q_ (Kd.R_drew HO116.o); replace BK101 := q_ (blk_drew BK101.o); replace BK103 := q_ (blk_drew BK103.o); replace HB := q_ (below_drew1 HB.o)
          have p126 : 0 ≤ (1 : Int) := (by omega)
          have q126 : 1 < (((rd_T156 l0_0 a1).f2).length : Int) := of_decide_eq_true as_
          obtain ⟨ad126, e126, hx126_0⟩ := Kd.at_int HR102_2.o 1 p126 q126; have hw126_0 := hx126_0
          (try rw [show ((1 : Int)).toNat = 1 from rfl] at hw126_0)
          (try rw [show 1 * 1 = 1 from rfl] at hw126_0)
          (try simp only [Nat.reduceMul, Nat.reduceEqDiff, Go.Addr.add, ↓reduceIte] at hw126_0)
          obtain rfl : ad113 = ad126 := (by injection e126)
          (try simp only [show (1 : Int).toNat = 1 from rfl, Nat.reduceMul, Nat.reduceEqDiff, Go.Addr.add, ↓reduceIte] at hx126_0)
          have qi126 : (1 < ((rd_T156 l0_0 a1).f2).length) = True := eq_true (by omega)
          (try rw [show ((1 : Int)).toNat = 1 from rfl] at hx126_0)
          replace hx126_0 := mv_ HB.o hx126_0; replace p126 := eq_true p126; replace q126 := eq_true q126
          refine start_ (n := 11) (S := fun w' => w'.cell? ⟨gb101, 0, none⟩ = some (.slice (some ad102) l0_0.length c0_0) ∧ w'.cell? ⟨gb103, 0, none⟩ = some (.int .i64 ((rd_T156 l0_0 a1).f0)) ∧ w'.cell? ⟨gb103, 1, none⟩ = some (.slice A102_1 ((rd_T156 l0_0 a1).f1).length c102_1) ∧ w'.cell? ⟨gb103, 2, none⟩ = some (.slice (some ad113) ((rd_T156 l0_0 a1).f2).length c102_2) ∧ w'.cell? ⟨gb103, 3, none⟩ = some (.int .i64 ((rd_T156 l0_0 a1).f3)) ∧ w'.cell? ⟨gb103, 4, none⟩ = some (.int .i64 ((rd_T156 l0_0 a1).f4)) ∧ w'.cell? ⟨ad113.block, ad113.off + 1, none⟩ = some (.int .i64 (rd ((rd_T156 l0_0 a1).f2) 1))) (ds := []) (bb 11 0) (by kernel_rfl) rfl rfl ⟨(blk_cell BK101.o 0).trans rfl, (blk_cell BK103.o 0).trans rfl, (blk_cell BK103.o 1).trans rfl, (blk_cell BK103.o 2).trans rfl, (blk_cell BK103.o 3).trans rfl, (blk_cell BK103.o 4).trans rfl, (mv_ HB.o hw126_0)⟩ (fun hHeld => ?_); refine with_tabW spec_l4First.tab15 spec_l4First.bits15 (fun HT_ HW_ => ?_)
          generalize w68.drew = w70 at HO116 BK101 BK103 HB hx126_0 hHeld ⊢
          refine pv_ 1 64 2 HT_.o ?_; refine tv_ 0 63 3 HT_.o HW_.o hHeld ?_; refine tv_ 2 65 7 HT_.o HW_.o hHeld ?_; refine pv_ 3 66 15 HT_.o ?_; refine tv_ 4 67 31 HT_.o HW_.o hHeld ?_
          refine one_ (i := 5) (N := some 68) (bb 11 63) rfl rfl (one_of HT_.o (by kernel_rfl)) (by decide) (fun K hK => ?_)
          refine gs_ Try.func69 #[.agg #[.slice (some ad102) l0_0.length c0_0], .int .i64 (rd ((rd_T156 l0_0 a1).f2) 1)] ?_
          with_reducible refine (ih k (by omega) _ _ l0_0 (rd ((rd_T156 l0_0 a1).f2) 1) t127 t130 _ ?side1 ?side2 A58.o).mono ?_
          (case side1 => exact Kd.C_below HR0_0.o (be_ HB.o))
          (case side2 => exact HC0_0.o)
          rintro e w71 ⟨v128, rfl, ho0, hb⟩
          refine ⟨_, rfl, ?_⟩; have HO129 := q_ (Kd.R_lower (Kd.R_new' ho0 (Kd.R_lt (ra_ HO116.o))) (below_size (be2_ HB.o GE101.o GE103.o))); replace HO116 := q_ (Kd.R_elder' (ra_ HO116.o) (Kd.R_base ho0) hb); replace BK101 := lb_ BK101 hb; replace BK103 := lb_ BK103 hb; replace HB := sb2_ HB GE101 GE103 hb
          (try clear hb)
          (try clear hb2)
          (try clear hk)
          (try clear hi)
          (try clear ho0)
          refine hK.out _ _ ⟨(blk_cell BK101.o 0).trans rfl, (blk_cell BK103.o 0).trans rfl, (blk_cell BK103.o 1).trans rfl, (blk_cell BK103.o 2).trans rfl, (blk_cell BK103.o 3).trans rfl, (blk_cell BK103.o 4).trans rfl, (mv_ HB.o hw126_0)⟩ (fun hHeld => ?_)
          clear hK K; refine no_ (some 68) ?_; refine pv_ 6 62 127 HT_.o ?_; refine pv_ 7 69 255 HT_.o ?_; refine pv_ 8 70 511 HT_.o ?_; refine pv_ 9 11 1023 HT_.o ?_; refine pv_ 10 12 2047 HT_.o ?_
          refine done_ (done_of HT_.o (by kernel_rfl)) ?_
          obtain ⟨Ao72, co72, eo72⟩ := Kd.R_slice HO116.o; subst eo72; obtain ⟨Ao73, co73, eo73⟩ := Kd.R_slice HO129.o; subst eo73
          try go_wp2_with (first | ((with_reducible refine gate_callee (f := 122) rfl ?_); refine gl_ (some 73) rfl rfl Try.func122 #[.slice Ao72 t114.length co72, .slice Ao73 t127.length co73] ?_; (with_reducible refine (spec_Joined.calls k _ _ t114 _ _ t127 t131 _ ?side1 ?side2 ?side3 ?side4 A59.o).mono ?_); (case side1 => repeat (first | exact (Kd.R_reads' HO116.o).2.2 | (with_reducible refine Kd.C_alloc ?_ _) | (with_reducible refine Kd.C_drewN ?_ _) | (with_reducible refine Kd.C_drew ?_))); (case side2 => exact (Kd.R_reads' HO116.o).2.1); (case side3 => repeat (first | exact (Kd.R_reads' HO129.o).2.2 | (with_reducible refine Kd.C_alloc ?_ _) | (with_reducible refine Kd.C_drewN ?_ _) | (with_reducible refine Kd.C_drew ?_))); (case side4 => exact (Kd.R_reads' HO129.o).2.1); rintro e w74 ⟨v132, rfl, ho0, hb⟩; refine ⟨_, rfl, ?_⟩; have HO133 := q_ (Kd.R_lower (Kd.R_new' (Kd.R_new' ho0 (Kd.R_lt (ra_ HO116.o))) (Kd.R_lt (ra_ HO129.o))) (below_size (be2_ HB.o GE101.o GE103.o))); replace HO116 := q_ (Kd.R_elder' (ra_ HO116.o) (Kd.R_base ho0) hb); replace HO129 := q_ (Kd.R_elder' (ra_ HO129.o) (Kd.R_base ho0) hb); replace BK101 := lb_ BK101 hb; replace BK103 := lb_ BK103 hb; replace HB := sb2_ HB GE101 GE103 hb; (try clear hb); (try clear ho0)))
          go_ret2
          exact ⟨_, rt_, by (with_reducible repeat (first | apply Kd.R_alloc | apply Kd.R_drewN | apply Kd.R_drew)); exact Kd.R_mono HO133.o (fun _ hk => trivial), be2_ HB.o GE101.o GE103.o⟩
         ·replace c60 := Bool.eq_false_iff.mpr c60; subst c60; rw [if_neg nft_] at H
          simp only [Option.some.injEq, Prod.mk.injEq] at H
          obtain ⟨rfl, rfl⟩ := H
          go_enter Try.func69, Try.ntmps69
          try go_wp2_with (first | ((with_reducible refine gate_dst (N := 2) rfl ?_); refine bx_ 2 #[.slice A0_0 l0_0.length c0_0] 29 ?_; intro gb101 hg w75 hbox hb; have BK101 := q_ (hbox); have GE101 := ge_ hg HB; replace HB := sb_ HB hb; clear hb hbox hg; obtain ⟨hcz76_0, hfz76_0⟩ := d1_ BK101; have p102 : 0 ≤ (a1 : Int) := of_decide_eq_true as_; have q102 : a1 < (l0_0.length : Int) := of_decide_eq_true as_; obtain ⟨ad102, A102_1, c102_1, A102_2, c102_2, e102, hx102_0, hx102_1, hx102_2, hx102_3, hx102_4, hl102_1, hi102_1, hl102_2, hi102_2⟩ := at_T156 HR0_0.o a1 p102 q102; cases e102; replace hx102_0 := mv_ HB.o hx102_0; replace hx102_1 := mv_ HB.o hx102_1; replace hx102_2 := mv_ HB.o hx102_2; replace hx102_3 := mv_ HB.o hx102_3; replace hx102_4 := mv_ HB.o hx102_4; have HR102_1 := q_ hi102_1; have HC102_1 := q_ hl102_1; clear hi102_1 hl102_1; have HR102_2 := q_ hi102_2; have HC102_2 := q_ hl102_2; clear hi102_2 hl102_2; replace p102 := eq_true p102; replace q102 := eq_true q102) | ((with_reducible refine gate_dst (N := 6) rfl ?_); refine bx_ 6 #[.int .i64 0, .slice none 0 0, .slice none 0 0, .int .i64 0, .int .i64 0] 156 ?_; intro gb103 hg w77 hbox hb; have BK103 := q_ (hbox); have GE103 := ge1_ hg HB GE101; have NB101_103 := nl_ hg BK101; have NB103_101 := ng_ hg BK101; replace BK101 := lb_ BK101 hb; replace HB := sb1_ HB GE101 hb; clear hb hbox hg; have hnb78 := NB103_101.o; have hnc78 := NB101_103.o; obtain ⟨hcz79_0, hcz79_1, hcz79_2, hcz79_3, hcz79_4, hfz79_0, hfz79_1, hfz79_2, hfz79_3, hfz79_4⟩ := d5_ BK103))
          have n0_ : J0 ((((((w77.setCell ⟨gb103, 0, none⟩ (.int .i64 ((rd_T156 l0_0 a1).f0))).setCell ⟨gb103, 1, none⟩ (.slice A102_1 ((rd_T156 l0_0 a1).f1).length c102_1)).setCell ⟨gb103, 2, none⟩ (.slice A102_2 ((rd_T156 l0_0 a1).f2).length c102_2)).setCell ⟨gb103, 3, none⟩ (.int .i64 ((rd_T156 l0_0 a1).f3))).setCell ⟨gb103, 4, none⟩ (.int .i64 ((rd_T156 l0_0 a1).f4))).heap[gb101]? = some (.cells #[.slice (some ad102) l0_0.length c0_0] 29 (0, 0))) := ⟨by (with_reducible repeat (first | refine blk_drewN ?_ _ | refine blk_drew ?_ | refine blk_alloc ?_ _)); refine blk_far ?_ NB101_103.o _; (with_reducible repeat (first | refine blk_drewN ?_ _ | refine blk_drew ?_ | refine blk_alloc ?_ _)); refine blk_far ?_ NB101_103.o _; (with_reducible repeat (first | refine blk_drewN ?_ _ | refine blk_drew ?_ | refine blk_alloc ?_ _)); refine blk_far ?_ NB101_103.o _; (with_reducible repeat (first | refine blk_drewN ?_ _ | refine blk_drew ?_ | refine blk_alloc ?_ _)); refine blk_far ?_ NB101_103.o _; (with_reducible repeat (first | refine blk_drewN ?_ _ | refine blk_drew ?_ | refine blk_alloc ?_ _)); refine blk_far ?_ NB101_103.o _; (with_reducible repeat (first | refine blk_drewN ?_ _ | refine blk_drew ?_ | refine blk_alloc ?_ _)); exact BK101.o⟩
          have n1_ : J0 ((((((w77.setCell ⟨gb103, 0, none⟩ (.int .i64 ((rd_T156 l0_0 a1).f0))).setCell ⟨gb103, 1, none⟩ (.slice A102_1 ((rd_T156 l0_0 a1).f1).length c102_1)).setCell ⟨gb103, 2, none⟩ (.slice A102_2 ((rd_T156 l0_0 a1).f2).length c102_2)).setCell ⟨gb103, 3, none⟩ (.int .i64 ((rd_T156 l0_0 a1).f3))).setCell ⟨gb103, 4, none⟩ (.int .i64 ((rd_T156 l0_0 a1).f4))).heap[gb103]? = some (.cells #[.int .i64 ((rd_T156 l0_0 a1).f0), .slice A102_1 ((rd_T156 l0_0 a1).f1).length c102_1, .slice A102_2 ((rd_T156 l0_0 a1).f2).length c102_2, .int .i64 ((rd_T156 l0_0 a1).f3), .int .i64 ((rd_T156 l0_0 a1).f4)] 156 (0, 0))) := ⟨by (with_reducible repeat (first | refine blk_drewN ?_ _ | refine blk_drew ?_ | refine blk_alloc ?_ _)); refine blk_put (cs := #[.int .i64 ((rd_T156 l0_0 a1).f0), .slice A102_1 ((rd_T156 l0_0 a1).f1).length c102_1, .slice A102_2 ((rd_T156 l0_0 a1).f2).length c102_2, .int .i64 ((rd_T156 l0_0 a1).f3), .int .i64 0]) ?_ 4 _ rfl; (with_reducible repeat (first | refine blk_drewN ?_ _ | refine blk_drew ?_ | refine blk_alloc ?_ _)); refine blk_put (cs := #[.int .i64 ((rd_T156 l0_0 a1).f0), .slice A102_1 ((rd_T156 l0_0 a1).f1).length c102_1, .slice A102_2 ((rd_T156 l0_0 a1).f2).length c102_2, .int .i64 0, .int .i64 0]) ?_ 3 _ rfl; (with_reducible repeat (first | refine blk_drewN ?_ _ | refine blk_drew ?_ | refine blk_alloc ?_ _)); refine blk_put (cs := #[.int .i64 ((rd_T156 l0_0 a1).f0), .slice A102_1 ((rd_T156 l0_0 a1).f1).length c102_1, .slice none 0 0, .int .i64 0, .int .i64 0]) ?_ 2 _ rfl; (with_reducible repeat (first | refine blk_drewN ?_ _ | refine blk_drew ?_ | refine blk_alloc ?_ _)); refine blk_put (cs := #[.int .i64 ((rd_T156 l0_0 a1).f0), .slice none 0 0, .slice none 0 0, .int .i64 0, .int .i64 0]) ?_ 1 _ rfl; (with_reducible repeat (first | refine blk_drewN ?_ _ | refine blk_drew ?_ | refine blk_alloc ?_ _)); refine blk_put (cs := #[.int .i64 0, .slice none 0 0, .slice none 0 0, .int .i64 0, .int .i64 0]) ?_ 0 _ rfl; (with_reducible repeat (first | refine blk_drewN ?_ _ | refine blk_drew ?_ | refine blk_alloc ?_ _)); exact BK103.o⟩
          have n2_ : J0 (Below w.heap.size w (((((w77.setCell ⟨gb103, 0, none⟩ (.int .i64 ((rd_T156 l0_0 a1).f0))).setCell ⟨gb103, 1, none⟩ (.slice A102_1 ((rd_T156 l0_0 a1).f1).length c102_1)).setCell ⟨gb103, 2, none⟩ (.slice A102_2 ((rd_T156 l0_0 a1).f2).length c102_2)).setCell ⟨gb103, 3, none⟩ (.int .i64 ((rd_T156 l0_0 a1).f3))).setCell ⟨gb103, 4, none⟩ (.int .i64 ((rd_T156 l0_0 a1).f4)))) := ⟨be2_ HB.o GE101.o GE103.o⟩
          (try clear BK101)
          (try clear BK103)
          (try clear HB)
          generalize (((((w77.setCell ⟨gb103, 0, none⟩ (.int .i64 ((rd_T156 l0_0 a1).f0))).setCell ⟨gb103, 1, none⟩ (.slice A102_1 ((rd_T156 l0_0 a1).f1).length c102_1)).setCell ⟨gb103, 2, none⟩ (.slice A102_2 ((rd_T156 l0_0 a1).f2).length c102_2)).setCell ⟨gb103, 3, none⟩ (.int .i64 ((rd_T156 l0_0 a1).f3))).setCell ⟨gb103, 4, none⟩ (.int .i64 ((rd_T156 l0_0 a1).f4))) = w80 at n0_ n1_ n2_ ⊢
          have BK101 := n0_; have BK103 := n1_; have HB := n2_; clear n0_ n1_ n2_; replace BK101 := q_ (blk_drew BK101.o); replace BK103 := q_ (blk_drew BK103.o); replace HB := q_ (below_drew1 HB.o)
          have p113 : 0 ≤ (0 : Int) := (by omega)
          have q113 : 0 < (((rd_T156 l0_0 a1).f2).length : Int) := of_decide_eq_true as_
          obtain ⟨ad113, e113, hx113_0⟩ := Kd.at_int HR102_2.o 0 p113 q113; have hw113_0 := hx113_0
          (try rw [show ((0 : Int)).toNat = 0 from rfl] at hw113_0)
          (try rw [show 0 * 1 = 0 from rfl] at hw113_0)
          (try rw [Addr.add_zero'] at hw113_0)
          cases e113
          have qi113 : (0 < ((rd_T156 l0_0 a1).f2).length) = True := eq_true (by omega)
          (try rw [show ((0 : Int)).toNat = 0 from rfl] at hx113_0)
          (try rw [Addr.add_zero'] at hx113_0)
          replace hx113_0 := mv_ HB.o hx113_0; replace p113 := eq_true p113; replace q113 := eq_true q113
          refine start_ (n := 11) (S := fun w' => w'.cell? ⟨gb101, 0, none⟩ = some (.slice (some ad102) l0_0.length c0_0) ∧ w'.cell? ⟨gb103, 0, none⟩ = some (.int .i64 ((rd_T156 l0_0 a1).f0)) ∧ w'.cell? ⟨gb103, 1, none⟩ = some (.slice A102_1 ((rd_T156 l0_0 a1).f1).length c102_1) ∧ w'.cell? ⟨gb103, 2, none⟩ = some (.slice (some ad113) ((rd_T156 l0_0 a1).f2).length c102_2) ∧ w'.cell? ⟨gb103, 3, none⟩ = some (.int .i64 ((rd_T156 l0_0 a1).f3)) ∧ w'.cell? ⟨gb103, 4, none⟩ = some (.int .i64 ((rd_T156 l0_0 a1).f4)) ∧ w'.cell? ad113 = some (.int .i64 (rd ((rd_T156 l0_0 a1).f2) 0))) (ds := []) (bb 11 0) (by kernel_rfl) rfl rfl ⟨(blk_cell BK101.o 0).trans rfl, (blk_cell BK103.o 0).trans rfl, (blk_cell BK103.o 1).trans rfl, (blk_cell BK103.o 2).trans rfl, (blk_cell BK103.o 3).trans rfl, (blk_cell BK103.o 4).trans rfl, (mv_ HB.o hw113_0)⟩ (fun hHeld => ?_); refine with_tabW spec_l4First.tab7 spec_l4First.bits7 (fun HT_ HW_ => ?_)
          generalize w80.drew = w81 at BK101 BK103 HB hx113_0 hHeld ⊢
          refine pv_ 1 31 2 HT_.o ?_; refine tv_ 0 30 3 HT_.o HW_.o hHeld ?_; refine tv_ 2 32 7 HT_.o HW_.o hHeld ?_; refine pv_ 3 33 15 HT_.o ?_; refine tv_ 4 34 31 HT_.o HW_.o hHeld ?_
          refine one_ (i := 5) (N := some 35) (bb 11 63) rfl rfl (one_of HT_.o (by kernel_rfl)) (by decide) (fun K hK => ?_)
          refine gs_ Try.func69 #[.agg #[.slice (some ad102) l0_0.length c0_0], .int .i64 (rd ((rd_T156 l0_0 a1).f2) 0)] ?_
          with_reducible refine (ih k (by omega) _ _ l0_0 (rd ((rd_T156 l0_0 a1).f2) 0) t114 false _ ?side1 ?side2 A25.o).mono ?_
          (case side1 => exact Kd.C_below HR0_0.o (be_ HB.o))
          (case side2 => exact HC0_0.o)
          rintro e w82 ⟨v115, rfl, ho0, hb⟩
          refine ⟨_, rfl, ?_⟩; have HO116 := q_ (Kd.R_lower ho0 (below_size (be2_ HB.o GE101.o GE103.o))); replace BK101 := lb_ BK101 hb; replace BK103 := lb_ BK103 hb; replace HB := sb2_ HB GE101 GE103 hb
          (try clear hb)
          (try clear hb2)
          (try clear hk)
          (try clear hi)
          (try clear ho0)
          refine hK.out _ _ ⟨(blk_cell BK101.o 0).trans rfl, (blk_cell BK103.o 0).trans rfl, (blk_cell BK103.o 1).trans rfl, (blk_cell BK103.o 2).trans rfl, (blk_cell BK103.o 3).trans rfl, (blk_cell BK103.o 4).trans rfl, (mv_ HB.o hw113_0)⟩ (fun hHeld => ?_)
          clear hK K; refine no_ (some 35) ?_; refine pv_ 6 29 127 HT_.o ?_; refine pv_ 7 36 255 HT_.o ?_; refine pv_ 8 37 511 HT_.o ?_; refine pv_ 9 7 1023 HT_.o ?_; refine pv_ 10 8 2047 HT_.o ?_
          refine done_ (done_of HT_.o (by kernel_rfl)) ?_
          obtain ⟨hcz83_0, hcz83_1, hcz83_2, hcz83_3, hcz83_4, hfz83_0, hfz83_1, hfz83_2, hfz83_3, hfz83_4⟩ := d5_ BK103
          try go_wp2
          replace HO116 := q_ (Kd.R_drew HO116.o); replace BK101 := q_ (blk_drew BK101.o); replace BK103 := q_ (blk_drew BK103.o); replace HB := q_ (below_drew1 HB.o)
          have p126 : 0 ≤ (1 : Int) := (by omega)
          have q126 : 1 < (((rd_T156 l0_0 a1).f2).length : Int) := of_decide_eq_true as_
          obtain ⟨ad126, e126, hx126_0⟩ := Kd.at_int HR102_2.o 1 p126 q126; have hw126_0 := hx126_0
          (try rw [show ((1 : Int)).toNat = 1 from rfl] at hw126_0)
          (try rw [show 1 * 1 = 1 from rfl] at hw126_0)
          (try simp only [Nat.reduceMul, Nat.reduceEqDiff, Go.Addr.add, ↓reduceIte] at hw126_0)
          obtain rfl : ad113 = ad126 := (by injection e126)
          (try simp only [show (1 : Int).toNat = 1 from rfl, Nat.reduceMul, Nat.reduceEqDiff, Go.Addr.add, ↓reduceIte] at hx126_0)
          have qi126 : (1 < ((rd_T156 l0_0 a1).f2).length) = True := eq_true (by omega)
          (try rw [show ((1 : Int)).toNat = 1 from rfl] at hx126_0)
          replace hx126_0 := mv_ HB.o hx126_0; replace p126 := eq_true p126; replace q126 := eq_true q126
          refine start_ (n := 11) (S := fun w' => w'.cell? ⟨gb101, 0, none⟩ = some (.slice (some ad102) l0_0.length c0_0) ∧ w'.cell? ⟨gb103, 0, none⟩ = some (.int .i64 ((rd_T156 l0_0 a1).f0)) ∧ w'.cell? ⟨gb103, 1, none⟩ = some (.slice A102_1 ((rd_T156 l0_0 a1).f1).length c102_1) ∧ w'.cell? ⟨gb103, 2, none⟩ = some (.slice (some ad113) ((rd_T156 l0_0 a1).f2).length c102_2) ∧ w'.cell? ⟨gb103, 3, none⟩ = some (.int .i64 ((rd_T156 l0_0 a1).f3)) ∧ w'.cell? ⟨gb103, 4, none⟩ = some (.int .i64 ((rd_T156 l0_0 a1).f4)) ∧ w'.cell? ⟨ad113.block, ad113.off + 1, none⟩ = some (.int .i64 (rd ((rd_T156 l0_0 a1).f2) 1))) (ds := []) (bb 11 0) (by kernel_rfl) rfl rfl ⟨(blk_cell BK101.o 0).trans rfl, (blk_cell BK103.o 0).trans rfl, (blk_cell BK103.o 1).trans rfl, (blk_cell BK103.o 2).trans rfl, (blk_cell BK103.o 3).trans rfl, (blk_cell BK103.o 4).trans rfl, (mv_ HB.o hw126_0)⟩ (fun hHeld => ?_); refine with_tabW spec_l4First.tab15 spec_l4First.bits15 (fun HT_ HW_ => ?_)
          generalize w82.drew = w84 at HO116 BK101 BK103 HB hx126_0 hHeld ⊢
          refine pv_ 1 64 2 HT_.o ?_; refine tv_ 0 63 3 HT_.o HW_.o hHeld ?_; refine tv_ 2 65 7 HT_.o HW_.o hHeld ?_; refine pv_ 3 66 15 HT_.o ?_; refine tv_ 4 67 31 HT_.o HW_.o hHeld ?_
          refine one_ (i := 5) (N := some 68) (bb 11 63) rfl rfl (one_of HT_.o (by kernel_rfl)) (by decide) (fun K hK => ?_)
          refine gs_ Try.func69 #[.agg #[.slice (some ad102) l0_0.length c0_0], .int .i64 (rd ((rd_T156 l0_0 a1).f2) 1)] ?_
          with_reducible refine (ih k (by omega) _ _ l0_0 (rd ((rd_T156 l0_0 a1).f2) 1) t127 t130 _ ?side1 ?side2 A58.o).mono ?_
          (case side1 => exact Kd.C_below HR0_0.o (be_ HB.o))
          (case side2 => exact HC0_0.o)
          rintro e w85 ⟨v128, rfl, ho0, hb⟩
          refine ⟨_, rfl, ?_⟩; have HO129 := q_ (Kd.R_lower (Kd.R_new' ho0 (Kd.R_lt (ra_ HO116.o))) (below_size (be2_ HB.o GE101.o GE103.o))); replace HO116 := q_ (Kd.R_elder' (ra_ HO116.o) (Kd.R_base ho0) hb); replace BK101 := lb_ BK101 hb; replace BK103 := lb_ BK103 hb; replace HB := sb2_ HB GE101 GE103 hb
          (try clear hb)
          (try clear hb2)
          (try clear hk)
          (try clear hi)
          (try clear ho0)
          refine hK.out _ _ ⟨(blk_cell BK101.o 0).trans rfl, (blk_cell BK103.o 0).trans rfl, (blk_cell BK103.o 1).trans rfl, (blk_cell BK103.o 2).trans rfl, (blk_cell BK103.o 3).trans rfl, (blk_cell BK103.o 4).trans rfl, (mv_ HB.o hw126_0)⟩ (fun hHeld => ?_)
          clear hK K; refine no_ (some 68) ?_; refine pv_ 6 62 127 HT_.o ?_; refine pv_ 7 69 255 HT_.o ?_; refine pv_ 8 70 511 HT_.o ?_; refine pv_ 9 11 1023 HT_.o ?_; refine pv_ 10 12 2047 HT_.o ?_
          refine done_ (done_of HT_.o (by kernel_rfl)) ?_
          obtain ⟨Ao86, co86, eo86⟩ := Kd.R_slice HO116.o; subst eo86; obtain ⟨Ao87, co87, eo87⟩ := Kd.R_slice HO129.o; subst eo87
          try go_wp2_with (first | ((with_reducible refine gate_callee (f := 122) rfl ?_); refine gl_ (some 73) rfl rfl Try.func122 #[.slice Ao86 t114.length co86, .slice Ao87 t127.length co87] ?_; (with_reducible refine (spec_Joined.calls k _ _ t114 _ _ t127 t131 _ ?side1 ?side2 ?side3 ?side4 A59.o).mono ?_); (case side1 => repeat (first | exact (Kd.R_reads' HO116.o).2.2 | (with_reducible refine Kd.C_alloc ?_ _) | (with_reducible refine Kd.C_drewN ?_ _) | (with_reducible refine Kd.C_drew ?_))); (case side2 => exact (Kd.R_reads' HO116.o).2.1); (case side3 => repeat (first | exact (Kd.R_reads' HO129.o).2.2 | (with_reducible refine Kd.C_alloc ?_ _) | (with_reducible refine Kd.C_drewN ?_ _) | (with_reducible refine Kd.C_drew ?_))); (case side4 => exact (Kd.R_reads' HO129.o).2.1); rintro e w88 ⟨v132, rfl, ho0, hb⟩; refine ⟨_, rfl, ?_⟩; have HO133 := q_ (Kd.R_lower (Kd.R_new' (Kd.R_new' ho0 (Kd.R_lt (ra_ HO116.o))) (Kd.R_lt (ra_ HO129.o))) (below_size (be2_ HB.o GE101.o GE103.o))); replace HO116 := q_ (Kd.R_elder' (ra_ HO116.o) (Kd.R_base ho0) hb); replace HO129 := q_ (Kd.R_elder' (ra_ HO129.o) (Kd.R_base ho0) hb); replace BK101 := lb_ BK101 hb; replace BK103 := lb_ BK103 hb; replace HB := sb2_ HB GE101 GE103 hb; (try clear hb); (try clear ho0)))
          go_ret2
          exact ⟨_, rt_, by (with_reducible repeat (first | apply Kd.R_alloc | apply Kd.R_drewN | apply Kd.R_drew)); exact Kd.R_mono HO133.o (fun _ hk => trivial), be2_ HB.o GE101.o GE103.o⟩
        ·rw [if_neg c57] at H
         exact absurd H (by simp)
       ·rw [if_neg c56] at H
        have c56b0 : (((rd_T156 l0_0 a1).f0) == 4) = false := beq_eq_false_iff_ne.mpr c56
        have c56b1 : (((rd_T156 l0_0 a1).f0) != 4) = true := bne_iff_ne.mpr c56
        by_cases c89 : ((rd_T156 l0_0 a1).f0) = 6
        ·rw [if_pos c89] at H
         have c89b0 : (((rd_T156 l0_0 a1).f0) == 6) = true := beq_iff_eq.mpr c89
         have c89b1 : (((rd_T156 l0_0 a1).f0) != 6) = false := bne_eq_false_iff_eq.mpr c89
         clear c89
         simp only [Option.some.injEq, Prod.mk.injEq] at H
         obtain ⟨rfl, rfl⟩ := H
         go_enter Try.func69, Try.ntmps69
         try go_wp2_with (first | ((with_reducible refine gate_dst (N := 2) rfl ?_); refine bx_ 2 #[.slice A0_0 l0_0.length c0_0] 29 ?_; intro gb101 hg w90 hbox hb; have BK101 := q_ (hbox); have GE101 := ge_ hg HB; replace HB := sb_ HB hb; clear hb hbox hg; obtain ⟨hcz91_0, hfz91_0⟩ := d1_ BK101; have p102 : 0 ≤ (a1 : Int) := of_decide_eq_true as_; have q102 : a1 < (l0_0.length : Int) := of_decide_eq_true as_; obtain ⟨ad102, A102_1, c102_1, A102_2, c102_2, e102, hx102_0, hx102_1, hx102_2, hx102_3, hx102_4, hl102_1, hi102_1, hl102_2, hi102_2⟩ := at_T156 HR0_0.o a1 p102 q102; cases e102; replace hx102_0 := mv_ HB.o hx102_0; replace hx102_1 := mv_ HB.o hx102_1; replace hx102_2 := mv_ HB.o hx102_2; replace hx102_3 := mv_ HB.o hx102_3; replace hx102_4 := mv_ HB.o hx102_4; have HR102_1 := q_ hi102_1; have HC102_1 := q_ hl102_1; clear hi102_1 hl102_1; have HR102_2 := q_ hi102_2; have HC102_2 := q_ hl102_2; clear hi102_2 hl102_2; replace p102 := eq_true p102; replace q102 := eq_true q102) | ((with_reducible refine gate_dst (N := 6) rfl ?_); refine bx_ 6 #[.int .i64 0, .slice none 0 0, .slice none 0 0, .int .i64 0, .int .i64 0] 156 ?_; intro gb103 hg w92 hbox hb; have BK103 := q_ (hbox); have GE103 := ge1_ hg HB GE101; have NB101_103 := nl_ hg BK101; have NB103_101 := ng_ hg BK101; replace BK101 := lb_ BK101 hb; replace HB := sb1_ HB GE101 hb; clear hb hbox hg; have hnb93 := NB103_101.o; have hnc93 := NB101_103.o; obtain ⟨hcz94_0, hcz94_1, hcz94_2, hcz94_3, hcz94_4, hfz94_0, hfz94_1, hfz94_2, hfz94_3, hfz94_4⟩ := d5_ BK103))
         have n0_ : J0 ((((((w92.setCell ⟨gb103, 0, none⟩ (.int .i64 ((rd_T156 l0_0 a1).f0))).setCell ⟨gb103, 1, none⟩ (.slice A102_1 ((rd_T156 l0_0 a1).f1).length c102_1)).setCell ⟨gb103, 2, none⟩ (.slice A102_2 ((rd_T156 l0_0 a1).f2).length c102_2)).setCell ⟨gb103, 3, none⟩ (.int .i64 ((rd_T156 l0_0 a1).f3))).setCell ⟨gb103, 4, none⟩ (.int .i64 ((rd_T156 l0_0 a1).f4))).heap[gb101]? = some (.cells #[.slice (some ad102) l0_0.length c0_0] 29 (0, 0))) := ⟨by (with_reducible repeat (first | refine blk_drewN ?_ _ | refine blk_drew ?_ | refine blk_alloc ?_ _)); refine blk_far ?_ NB101_103.o _; (with_reducible repeat (first | refine blk_drewN ?_ _ | refine blk_drew ?_ | refine blk_alloc ?_ _)); refine blk_far ?_ NB101_103.o _; (with_reducible repeat (first | refine blk_drewN ?_ _ | refine blk_drew ?_ | refine blk_alloc ?_ _)); refine blk_far ?_ NB101_103.o _; (with_reducible repeat (first | refine blk_drewN ?_ _ | refine blk_drew ?_ | refine blk_alloc ?_ _)); refine blk_far ?_ NB101_103.o _; (with_reducible repeat (first | refine blk_drewN ?_ _ | refine blk_drew ?_ | refine blk_alloc ?_ _)); refine blk_far ?_ NB101_103.o _; (with_reducible repeat (first | refine blk_drewN ?_ _ | refine blk_drew ?_ | refine blk_alloc ?_ _)); exact BK101.o⟩
         have n1_ : J0 ((((((w92.setCell ⟨gb103, 0, none⟩ (.int .i64 ((rd_T156 l0_0 a1).f0))).setCell ⟨gb103, 1, none⟩ (.slice A102_1 ((rd_T156 l0_0 a1).f1).length c102_1)).setCell ⟨gb103, 2, none⟩ (.slice A102_2 ((rd_T156 l0_0 a1).f2).length c102_2)).setCell ⟨gb103, 3, none⟩ (.int .i64 ((rd_T156 l0_0 a1).f3))).setCell ⟨gb103, 4, none⟩ (.int .i64 ((rd_T156 l0_0 a1).f4))).heap[gb103]? = some (.cells #[.int .i64 ((rd_T156 l0_0 a1).f0), .slice A102_1 ((rd_T156 l0_0 a1).f1).length c102_1, .slice A102_2 ((rd_T156 l0_0 a1).f2).length c102_2, .int .i64 ((rd_T156 l0_0 a1).f3), .int .i64 ((rd_T156 l0_0 a1).f4)] 156 (0, 0))) := ⟨by (with_reducible repeat (first | refine blk_drewN ?_ _ | refine blk_drew ?_ | refine blk_alloc ?_ _)); refine blk_put (cs := #[.int .i64 ((rd_T156 l0_0 a1).f0), .slice A102_1 ((rd_T156 l0_0 a1).f1).length c102_1, .slice A102_2 ((rd_T156 l0_0 a1).f2).length c102_2, .int .i64 ((rd_T156 l0_0 a1).f3), .int .i64 0]) ?_ 4 _ rfl; (with_reducible repeat (first | refine blk_drewN ?_ _ | refine blk_drew ?_ | refine blk_alloc ?_ _)); refine blk_put (cs := #[.int .i64 ((rd_T156 l0_0 a1).f0), .slice A102_1 ((rd_T156 l0_0 a1).f1).length c102_1, .slice A102_2 ((rd_T156 l0_0 a1).f2).length c102_2, .int .i64 0, .int .i64 0]) ?_ 3 _ rfl; (with_reducible repeat (first | refine blk_drewN ?_ _ | refine blk_drew ?_ | refine blk_alloc ?_ _)); refine blk_put (cs := #[.int .i64 ((rd_T156 l0_0 a1).f0), .slice A102_1 ((rd_T156 l0_0 a1).f1).length c102_1, .slice none 0 0, .int .i64 0, .int .i64 0]) ?_ 2 _ rfl; (with_reducible repeat (first | refine blk_drewN ?_ _ | refine blk_drew ?_ | refine blk_alloc ?_ _)); refine blk_put (cs := #[.int .i64 ((rd_T156 l0_0 a1).f0), .slice none 0 0, .slice none 0 0, .int .i64 0, .int .i64 0]) ?_ 1 _ rfl; (with_reducible repeat (first | refine blk_drewN ?_ _ | refine blk_drew ?_ | refine blk_alloc ?_ _)); refine blk_put (cs := #[.int .i64 0, .slice none 0 0, .slice none 0 0, .int .i64 0, .int .i64 0]) ?_ 0 _ rfl; (with_reducible repeat (first | refine blk_drewN ?_ _ | refine blk_drew ?_ | refine blk_alloc ?_ _)); exact BK103.o⟩
         have n2_ : J0 (Below w.heap.size w (((((w92.setCell ⟨gb103, 0, none⟩ (.int .i64 ((rd_T156 l0_0 a1).f0))).setCell ⟨gb103, 1, none⟩ (.slice A102_1 ((rd_T156 l0_0 a1).f1).length c102_1)).setCell ⟨gb103, 2, none⟩ (.slice A102_2 ((rd_T156 l0_0 a1).f2).length c102_2)).setCell ⟨gb103, 3, none⟩ (.int .i64 ((rd_T156 l0_0 a1).f3))).setCell ⟨gb103, 4, none⟩ (.int .i64 ((rd_T156 l0_0 a1).f4)))) := ⟨be2_ HB.o GE101.o GE103.o⟩
         (try clear BK101)
         (try clear BK103)
         (try clear HB)
         generalize (((((w92.setCell ⟨gb103, 0, none⟩ (.int .i64 ((rd_T156 l0_0 a1).f0))).setCell ⟨gb103, 1, none⟩ (.slice A102_1 ((rd_T156 l0_0 a1).f1).length c102_1)).setCell ⟨gb103, 2, none⟩ (.slice A102_2 ((rd_T156 l0_0 a1).f2).length c102_2)).setCell ⟨gb103, 3, none⟩ (.int .i64 ((rd_T156 l0_0 a1).f3))).setCell ⟨gb103, 4, none⟩ (.int .i64 ((rd_T156 l0_0 a1).f4))) = w95 at n0_ n1_ n2_ ⊢
         have BK101 := n0_; have BK103 := n1_; have HB := n2_; clear n0_ n1_ n2_; replace BK101 := q_ (blk_drew BK101.o); replace BK103 := q_ (blk_drew BK103.o); replace HB := q_ (below_drew1 HB.o)
         have p113 : 0 ≤ (0 : Int) := (by omega)
         have q113 : 0 < (((rd_T156 l0_0 a1).f2).length : Int) := of_decide_eq_true as_
         obtain ⟨ad113, e113, hx113_0⟩ := Kd.at_int HR102_2.o 0 p113 q113; have hw113_0 := hx113_0
         (try rw [show ((0 : Int)).toNat = 0 from rfl] at hw113_0)
         (try rw [show 0 * 1 = 0 from rfl] at hw113_0)
         (try rw [Addr.add_zero'] at hw113_0)
         cases e113
         have qi113 : (0 < ((rd_T156 l0_0 a1).f2).length) = True := eq_true (by omega)
         (try rw [show ((0 : Int)).toNat = 0 from rfl] at hx113_0)
         (try rw [Addr.add_zero'] at hx113_0)
         replace hx113_0 := mv_ HB.o hx113_0; replace p113 := eq_true p113; replace q113 := eq_true q113
         refine start_ (n := 11) (S := fun w' => w'.cell? ⟨gb101, 0, none⟩ = some (.slice (some ad102) l0_0.length c0_0) ∧ w'.cell? ⟨gb103, 0, none⟩ = some (.int .i64 ((rd_T156 l0_0 a1).f0)) ∧ w'.cell? ⟨gb103, 1, none⟩ = some (.slice A102_1 ((rd_T156 l0_0 a1).f1).length c102_1) ∧ w'.cell? ⟨gb103, 2, none⟩ = some (.slice (some ad113) ((rd_T156 l0_0 a1).f2).length c102_2) ∧ w'.cell? ⟨gb103, 3, none⟩ = some (.int .i64 ((rd_T156 l0_0 a1).f3)) ∧ w'.cell? ⟨gb103, 4, none⟩ = some (.int .i64 ((rd_T156 l0_0 a1).f4)) ∧ w'.cell? ad113 = some (.int .i64 (rd ((rd_T156 l0_0 a1).f2) 0))) (ds := []) (bb 11 0) (by kernel_rfl) rfl rfl ⟨(blk_cell BK101.o 0).trans rfl, (blk_cell BK103.o 0).trans rfl, (blk_cell BK103.o 1).trans rfl, (blk_cell BK103.o 2).trans rfl, (blk_cell BK103.o 3).trans rfl, (blk_cell BK103.o 4).trans rfl, (mv_ HB.o hw113_0)⟩ (fun hHeld => ?_); refine with_tabW spec_l4First.tab7 spec_l4First.bits7 (fun HT_ HW_ => ?_)
         generalize w95.drew = w96 at BK101 BK103 HB hx113_0 hHeld ⊢
         refine pv_ 1 31 2 HT_.o ?_; refine tv_ 0 30 3 HT_.o HW_.o hHeld ?_; refine tv_ 2 32 7 HT_.o HW_.o hHeld ?_; refine pv_ 3 33 15 HT_.o ?_; refine tv_ 4 34 31 HT_.o HW_.o hHeld ?_
         refine one_ (i := 5) (N := some 35) (bb 11 63) rfl rfl (one_of HT_.o (by kernel_rfl)) (by decide) (fun K hK => ?_)
         refine gs_ Try.func69 #[.agg #[.slice (some ad102) l0_0.length c0_0], .int .i64 (rd ((rd_T156 l0_0 a1).f2) 0)] ?_
         with_reducible refine (ih k (by omega) _ _ l0_0 (rd ((rd_T156 l0_0 a1).f2) 0) t114 t117 _ ?side1 ?side2 A25.o).mono ?_
         (case side1 => exact Kd.C_below HR0_0.o (be_ HB.o))
         (case side2 => exact HC0_0.o)
         rintro e w97 ⟨v115, rfl, ho0, hb⟩
         refine ⟨_, rfl, ?_⟩; have HO116 := q_ (Kd.R_lower ho0 (below_size (be2_ HB.o GE101.o GE103.o))); replace BK101 := lb_ BK101 hb; replace BK103 := lb_ BK103 hb; replace HB := sb2_ HB GE101 GE103 hb
         (try clear hb)
         (try clear hb2)
         (try clear hk)
         (try clear hi)
         (try clear ho0)
         refine hK.out _ _ ⟨(blk_cell BK101.o 0).trans rfl, (blk_cell BK103.o 0).trans rfl, (blk_cell BK103.o 1).trans rfl, (blk_cell BK103.o 2).trans rfl, (blk_cell BK103.o 3).trans rfl, (blk_cell BK103.o 4).trans rfl, (mv_ HB.o hw113_0)⟩ (fun hHeld => ?_)
         clear hK K; refine no_ (some 35) ?_; refine pv_ 6 29 127 HT_.o ?_; refine pv_ 7 36 255 HT_.o ?_; refine pv_ 8 37 511 HT_.o ?_; refine pv_ 9 7 1023 HT_.o ?_; refine pv_ 10 8 2047 HT_.o ?_
         refine done_ (done_of HT_.o (by kernel_rfl)) ?_
         obtain ⟨hcz98_0, hcz98_1, hcz98_2, hcz98_3, hcz98_4, hfz98_0, hfz98_1, hfz98_2, hfz98_3, hfz98_4⟩ := d5_ BK103
         try go_wp2
         go_ret2
         exact ⟨_, rt_, ra_ HO116.o, be2_ HB.o GE101.o GE103.o⟩
        ·rw [if_neg c89] at H
         have c89b0 : (((rd_T156 l0_0 a1).f0) == 6) = false := beq_eq_false_iff_ne.mpr c89
         have c89b1 : (((rd_T156 l0_0 a1).f0) != 6) = true := bne_iff_ne.mpr c89
         by_cases c99 : ((rd_T156 l0_0 a1).f0) = 8
         ·rw [if_pos c99] at H
          have c99b0 : (((rd_T156 l0_0 a1).f0) == 8) = true := beq_iff_eq.mpr c99
          have c99b1 : (((rd_T156 l0_0 a1).f0) != 8) = false := bne_eq_false_iff_eq.mpr c99
          clear c99
          by_cases c100 : t117 = true
          ·subst c100; rw [if_pos rfl] at H
           simp only [Option.some.injEq, Prod.mk.injEq] at H
           obtain ⟨rfl, rfl⟩ := H
           go_enter Try.func69, Try.ntmps69
           try go_wp2_with (first | ((with_reducible refine gate_dst (N := 2) rfl ?_); refine bx_ 2 #[.slice A0_0 l0_0.length c0_0] 29 ?_; intro gb101 hg w101 hbox hb; have BK101 := q_ (hbox); have GE101 := ge_ hg HB; replace HB := sb_ HB hb; clear hb hbox hg; obtain ⟨hcz102_0, hfz102_0⟩ := d1_ BK101; have p102 : 0 ≤ (a1 : Int) := of_decide_eq_true as_; have q102 : a1 < (l0_0.length : Int) := of_decide_eq_true as_; obtain ⟨ad102, A102_1, c102_1, A102_2, c102_2, e102, hx102_0, hx102_1, hx102_2, hx102_3, hx102_4, hl102_1, hi102_1, hl102_2, hi102_2⟩ := at_T156 HR0_0.o a1 p102 q102; cases e102; replace hx102_0 := mv_ HB.o hx102_0; replace hx102_1 := mv_ HB.o hx102_1; replace hx102_2 := mv_ HB.o hx102_2; replace hx102_3 := mv_ HB.o hx102_3; replace hx102_4 := mv_ HB.o hx102_4; have HR102_1 := q_ hi102_1; have HC102_1 := q_ hl102_1; clear hi102_1 hl102_1; have HR102_2 := q_ hi102_2; have HC102_2 := q_ hl102_2; clear hi102_2 hl102_2; replace p102 := eq_true p102; replace q102 := eq_true q102) | ((with_reducible refine gate_dst (N := 6) rfl ?_); refine bx_ 6 #[.int .i64 0, .slice none 0 0, .slice none 0 0, .int .i64 0, .int .i64 0] 156 ?_; intro gb103 hg w103 hbox hb; have BK103 := q_ (hbox); have GE103 := ge1_ hg HB GE101; have NB101_103 := nl_ hg BK101; have NB103_101 := ng_ hg BK101; replace BK101 := lb_ BK101 hb; replace HB := sb1_ HB GE101 hb; clear hb hbox hg; have hnb104 := NB103_101.o; have hnc104 := NB101_103.o; obtain ⟨hcz105_0, hcz105_1, hcz105_2, hcz105_3, hcz105_4, hfz105_0, hfz105_1, hfz105_2, hfz105_3, hfz105_4⟩ := d5_ BK103))
           have n0_ : J0 ((((((w103.setCell ⟨gb103, 0, none⟩ (.int .i64 ((rd_T156 l0_0 a1).f0))).setCell ⟨gb103, 1, none⟩ (.slice A102_1 ((rd_T156 l0_0 a1).f1).length c102_1)).setCell ⟨gb103, 2, none⟩ (.slice A102_2 ((rd_T156 l0_0 a1).f2).length c102_2)).setCell ⟨gb103, 3, none⟩ (.int .i64 ((rd_T156 l0_0 a1).f3))).setCell ⟨gb103, 4, none⟩ (.int .i64 ((rd_T156 l0_0 a1).f4))).heap[gb101]? = some (.cells #[.slice (some ad102) l0_0.length c0_0] 29 (0, 0))) := ⟨by (with_reducible repeat (first | refine blk_drewN ?_ _ | refine blk_drew ?_ | refine blk_alloc ?_ _)); refine blk_far ?_ NB101_103.o _; (with_reducible repeat (first | refine blk_drewN ?_ _ | refine blk_drew ?_ | refine blk_alloc ?_ _)); refine blk_far ?_ NB101_103.o _; (with_reducible repeat (first | refine blk_drewN ?_ _ | refine blk_drew ?_ | refine blk_alloc ?_ _)); refine blk_far ?_ NB101_103.o _; (with_reducible repeat (first | refine blk_drewN ?_ _ | refine blk_drew ?_ | refine blk_alloc ?_ _)); refine blk_far ?_ NB101_103.o _; (with_reducible repeat (first | refine blk_drewN ?_ _ | refine blk_drew ?_ | refine blk_alloc ?_ _)); refine blk_far ?_ NB101_103.o _; (with_reducible repeat (first | refine blk_drewN ?_ _ | refine blk_drew ?_ | refine blk_alloc ?_ _)); exact BK101.o⟩
           have n1_ : J0 ((((((w103.setCell ⟨gb103, 0, none⟩ (.int .i64 ((rd_T156 l0_0 a1).f0))).setCell ⟨gb103, 1, none⟩ (.slice A102_1 ((rd_T156 l0_0 a1).f1).length c102_1)).setCell ⟨gb103, 2, none⟩ (.slice A102_2 ((rd_T156 l0_0 a1).f2).length c102_2)).setCell ⟨gb103, 3, none⟩ (.int .i64 ((rd_T156 l0_0 a1).f3))).setCell ⟨gb103, 4, none⟩ (.int .i64 ((rd_T156 l0_0 a1).f4))).heap[gb103]? = some (.cells #[.int .i64 ((rd_T156 l0_0 a1).f0), .slice A102_1 ((rd_T156 l0_0 a1).f1).length c102_1, .slice A102_2 ((rd_T156 l0_0 a1).f2).length c102_2, .int .i64 ((rd_T156 l0_0 a1).f3), .int .i64 ((rd_T156 l0_0 a1).f4)] 156 (0, 0))) := ⟨by (with_reducible repeat (first | refine blk_drewN ?_ _ | refine blk_drew ?_ | refine blk_alloc ?_ _)); refine blk_put (cs := #[.int .i64 ((rd_T156 l0_0 a1).f0), .slice A102_1 ((rd_T156 l0_0 a1).f1).length c102_1, .slice A102_2 ((rd_T156 l0_0 a1).f2).length c102_2, .int .i64 ((rd_T156 l0_0 a1).f3), .int .i64 0]) ?_ 4 _ rfl; (with_reducible repeat (first | refine blk_drewN ?_ _ | refine blk_drew ?_ | refine blk_alloc ?_ _)); refine blk_put (cs := #[.int .i64 ((rd_T156 l0_0 a1).f0), .slice A102_1 ((rd_T156 l0_0 a1).f1).length c102_1, .slice A102_2 ((rd_T156 l0_0 a1).f2).length c102_2, .int .i64 0, .int .i64 0]) ?_ 3 _ rfl; (with_reducible repeat (first | refine blk_drewN ?_ _ | refine blk_drew ?_ | refine blk_alloc ?_ _)); refine blk_put (cs := #[.int .i64 ((rd_T156 l0_0 a1).f0), .slice A102_1 ((rd_T156 l0_0 a1).f1).length c102_1, .slice none 0 0, .int .i64 0, .int .i64 0]) ?_ 2 _ rfl; (with_reducible repeat (first | refine blk_drewN ?_ _ | refine blk_drew ?_ | refine blk_alloc ?_ _)); refine blk_put (cs := #[.int .i64 ((rd_T156 l0_0 a1).f0), .slice none 0 0, .slice none 0 0, .int .i64 0, .int .i64 0]) ?_ 1 _ rfl; (with_reducible repeat (first | refine blk_drewN ?_ _ | refine blk_drew ?_ | refine blk_alloc ?_ _)); refine blk_put (cs := #[.int .i64 0, .slice none 0 0, .slice none 0 0, .int .i64 0, .int .i64 0]) ?_ 0 _ rfl; (with_reducible repeat (first | refine blk_drewN ?_ _ | refine blk_drew ?_ | refine blk_alloc ?_ _)); exact BK103.o⟩
           have n2_ : J0 (Below w.heap.size w (((((w103.setCell ⟨gb103, 0, none⟩ (.int .i64 ((rd_T156 l0_0 a1).f0))).setCell ⟨gb103, 1, none⟩ (.slice A102_1 ((rd_T156 l0_0 a1).f1).length c102_1)).setCell ⟨gb103, 2, none⟩ (.slice A102_2 ((rd_T156 l0_0 a1).f2).length c102_2)).setCell ⟨gb103, 3, none⟩ (.int .i64 ((rd_T156 l0_0 a1).f3))).setCell ⟨gb103, 4, none⟩ (.int .i64 ((rd_T156 l0_0 a1).f4)))) := ⟨be2_ HB.o GE101.o GE103.o⟩
           (try clear BK101)
           (try clear BK103)
           (try clear HB)
           generalize (((((w103.setCell ⟨gb103, 0, none⟩ (.int .i64 ((rd_T156 l0_0 a1).f0))).setCell ⟨gb103, 1, none⟩ (.slice A102_1 ((rd_T156 l0_0 a1).f1).length c102_1)).setCell ⟨gb103, 2, none⟩ (.slice A102_2 ((rd_T156 l0_0 a1).f2).length c102_2)).setCell ⟨gb103, 3, none⟩ (.int .i64 ((rd_T156 l0_0 a1).f3))).setCell ⟨gb103, 4, none⟩ (.int .i64 ((rd_T156 l0_0 a1).f4))) = w106 at n0_ n1_ n2_ ⊢
           have BK101 := n0_; have BK103 := n1_; have HB := n2_; clear n0_ n1_ n2_; replace BK101 := q_ (blk_drew BK101.o); replace BK103 := q_ (blk_drew BK103.o); replace HB := q_ (below_drew1 HB.o)
           have p113 : 0 ≤ (0 : Int) := (by omega)
           have q113 : 0 < (((rd_T156 l0_0 a1).f2).length : Int) := of_decide_eq_true as_
           obtain ⟨ad113, e113, hx113_0⟩ := Kd.at_int HR102_2.o 0 p113 q113; have hw113_0 := hx113_0
           (try rw [show ((0 : Int)).toNat = 0 from rfl] at hw113_0)
           (try rw [show 0 * 1 = 0 from rfl] at hw113_0)
           (try rw [Addr.add_zero'] at hw113_0)
           cases e113
           have qi113 : (0 < ((rd_T156 l0_0 a1).f2).length) = True := eq_true (by omega)
           (try rw [show ((0 : Int)).toNat = 0 from rfl] at hx113_0)
           (try rw [Addr.add_zero'] at hx113_0)
           replace hx113_0 := mv_ HB.o hx113_0; replace p113 := eq_true p113; replace q113 := eq_true q113
           refine start_ (n := 11) (S := fun w' => w'.cell? ⟨gb101, 0, none⟩ = some (.slice (some ad102) l0_0.length c0_0) ∧ w'.cell? ⟨gb103, 0, none⟩ = some (.int .i64 ((rd_T156 l0_0 a1).f0)) ∧ w'.cell? ⟨gb103, 1, none⟩ = some (.slice A102_1 ((rd_T156 l0_0 a1).f1).length c102_1) ∧ w'.cell? ⟨gb103, 2, none⟩ = some (.slice (some ad113) ((rd_T156 l0_0 a1).f2).length c102_2) ∧ w'.cell? ⟨gb103, 3, none⟩ = some (.int .i64 ((rd_T156 l0_0 a1).f3)) ∧ w'.cell? ⟨gb103, 4, none⟩ = some (.int .i64 ((rd_T156 l0_0 a1).f4)) ∧ w'.cell? ad113 = some (.int .i64 (rd ((rd_T156 l0_0 a1).f2) 0))) (ds := []) (bb 11 0) (by kernel_rfl) rfl rfl ⟨(blk_cell BK101.o 0).trans rfl, (blk_cell BK103.o 0).trans rfl, (blk_cell BK103.o 1).trans rfl, (blk_cell BK103.o 2).trans rfl, (blk_cell BK103.o 3).trans rfl, (blk_cell BK103.o 4).trans rfl, (mv_ HB.o hw113_0)⟩ (fun hHeld => ?_); refine with_tabW spec_l4First.tab7 spec_l4First.bits7 (fun HT_ HW_ => ?_)
           generalize w106.drew = w107 at BK101 BK103 HB hx113_0 hHeld ⊢
           refine pv_ 1 31 2 HT_.o ?_; refine tv_ 0 30 3 HT_.o HW_.o hHeld ?_; refine tv_ 2 32 7 HT_.o HW_.o hHeld ?_; refine pv_ 3 33 15 HT_.o ?_; refine tv_ 4 34 31 HT_.o HW_.o hHeld ?_
           refine one_ (i := 5) (N := some 35) (bb 11 63) rfl rfl (one_of HT_.o (by kernel_rfl)) (by decide) (fun K hK => ?_)
           refine gs_ Try.func69 #[.agg #[.slice (some ad102) l0_0.length c0_0], .int .i64 (rd ((rd_T156 l0_0 a1).f2) 0)] ?_
           with_reducible refine (ih k (by omega) _ _ l0_0 (rd ((rd_T156 l0_0 a1).f2) 0) t114 true _ ?side1 ?side2 A25.o).mono ?_
           (case side1 => exact Kd.C_below HR0_0.o (be_ HB.o))
           (case side2 => exact HC0_0.o)
           rintro e w108 ⟨v115, rfl, ho0, hb⟩
           refine ⟨_, rfl, ?_⟩; have HO116 := q_ (Kd.R_lower ho0 (below_size (be2_ HB.o GE101.o GE103.o))); replace BK101 := lb_ BK101 hb; replace BK103 := lb_ BK103 hb; replace HB := sb2_ HB GE101 GE103 hb
           (try clear hb)
           (try clear hb2)
           (try clear hk)
           (try clear hi)
           (try clear ho0)
           refine hK.out _ _ ⟨(blk_cell BK101.o 0).trans rfl, (blk_cell BK103.o 0).trans rfl, (blk_cell BK103.o 1).trans rfl, (blk_cell BK103.o 2).trans rfl, (blk_cell BK103.o 3).trans rfl, (blk_cell BK103.o 4).trans rfl, (mv_ HB.o hw113_0)⟩ (fun hHeld => ?_)
           clear hK K; refine no_ (some 35) ?_; refine pv_ 6 29 127 HT_.o ?_; refine pv_ 7 36 255 HT_.o ?_; refine pv_ 8 37 511 HT_.o ?_; refine pv_ 9 7 1023 HT_.o ?_; refine pv_ 10 8 2047 HT_.o ?_
           refine done_ (done_of HT_.o (by kernel_rfl)) ?_
           obtain ⟨hcz109_0, hcz109_1, hcz109_2, hcz109_3, hcz109_4, hfz109_0, hfz109_1, hfz109_2, hfz109_3, hfz109_4⟩ := d5_ BK103
           try go_wp2
           replace HO116 := q_ (Kd.R_drew HO116.o); replace BK101 := q_ (blk_drew BK101.o); replace BK103 := q_ (blk_drew BK103.o); replace HB := q_ (below_drew1 HB.o)
           refine start_ (n := 9) (S := fun w' => True) (ds := []) (bb 9 0) (by kernel_rfl) rfl rfl trivial (fun hHeld => ?_); refine with_tabW spec_l4First.tab20 spec_l4First.bits20 (fun HT_ HW_ => ?_)
           generalize w108.drew = w110 at HO116 BK101 BK103 HB hHeld ⊢
           refine pv_ 0 84 1 HT_.o ?_; refine pv_ 1 85 3 HT_.o ?_; refine pv_ 2 86 7 HT_.o ?_; refine pw_ 3 (some 87) (bb 9 15) HT_.o ?_; refine pw_ 4 (some 88) (bb 9 31) HT_.o ?_; refine pw_ 5 (some 89) (bb 9 63) HT_.o ?_; refine pv_ 6 90 127 HT_.o ?_; refine pv_ 7 4 255 HT_.o ?_; refine pv_ 8 5 511 HT_.o ?_
           refine done_ (done_of HT_.o (by kernel_rfl)) ?_
           try go_wp2
           go_ret2
           exact ⟨_, rt_, ra_ HO116.o, be2_ HB.o GE101.o GE103.o⟩
          ·replace c100 := Bool.eq_false_iff.mpr c100; subst c100; rw [if_neg nft_] at H
           simp only [Option.some.injEq, Prod.mk.injEq] at H
           obtain ⟨rfl, rfl⟩ := H
           go_enter Try.func69, Try.ntmps69
           try go_wp2_with (first | ((with_reducible refine gate_dst (N := 2) rfl ?_); refine bx_ 2 #[.slice A0_0 l0_0.length c0_0] 29 ?_; intro gb101 hg w111 hbox hb; have BK101 := q_ (hbox); have GE101 := ge_ hg HB; replace HB := sb_ HB hb; clear hb hbox hg; obtain ⟨hcz112_0, hfz112_0⟩ := d1_ BK101; have p102 : 0 ≤ (a1 : Int) := of_decide_eq_true as_; have q102 : a1 < (l0_0.length : Int) := of_decide_eq_true as_; obtain ⟨ad102, A102_1, c102_1, A102_2, c102_2, e102, hx102_0, hx102_1, hx102_2, hx102_3, hx102_4, hl102_1, hi102_1, hl102_2, hi102_2⟩ := at_T156 HR0_0.o a1 p102 q102; cases e102; replace hx102_0 := mv_ HB.o hx102_0; replace hx102_1 := mv_ HB.o hx102_1; replace hx102_2 := mv_ HB.o hx102_2; replace hx102_3 := mv_ HB.o hx102_3; replace hx102_4 := mv_ HB.o hx102_4; have HR102_1 := q_ hi102_1; have HC102_1 := q_ hl102_1; clear hi102_1 hl102_1; have HR102_2 := q_ hi102_2; have HC102_2 := q_ hl102_2; clear hi102_2 hl102_2; replace p102 := eq_true p102; replace q102 := eq_true q102) | ((with_reducible refine gate_dst (N := 6) rfl ?_); refine bx_ 6 #[.int .i64 0, .slice none 0 0, .slice none 0 0, .int .i64 0, .int .i64 0] 156 ?_; intro gb103 hg w113 hbox hb; have BK103 := q_ (hbox); have GE103 := ge1_ hg HB GE101; have NB101_103 := nl_ hg BK101; have NB103_101 := ng_ hg BK101; replace BK101 := lb_ BK101 hb; replace HB := sb1_ HB GE101 hb; clear hb hbox hg; have hnb114 := NB103_101.o; have hnc114 := NB101_103.o; obtain ⟨hcz115_0, hcz115_1, hcz115_2, hcz115_3, hcz115_4, hfz115_0, hfz115_1, hfz115_2, hfz115_3, hfz115_4⟩ := d5_ BK103))
           have n0_ : J0 ((((((w113.setCell ⟨gb103, 0, none⟩ (.int .i64 ((rd_T156 l0_0 a1).f0))).setCell ⟨gb103, 1, none⟩ (.slice A102_1 ((rd_T156 l0_0 a1).f1).length c102_1)).setCell ⟨gb103, 2, none⟩ (.slice A102_2 ((rd_T156 l0_0 a1).f2).length c102_2)).setCell ⟨gb103, 3, none⟩ (.int .i64 ((rd_T156 l0_0 a1).f3))).setCell ⟨gb103, 4, none⟩ (.int .i64 ((rd_T156 l0_0 a1).f4))).heap[gb101]? = some (.cells #[.slice (some ad102) l0_0.length c0_0] 29 (0, 0))) := ⟨by (with_reducible repeat (first | refine blk_drewN ?_ _ | refine blk_drew ?_ | refine blk_alloc ?_ _)); refine blk_far ?_ NB101_103.o _; (with_reducible repeat (first | refine blk_drewN ?_ _ | refine blk_drew ?_ | refine blk_alloc ?_ _)); refine blk_far ?_ NB101_103.o _; (with_reducible repeat (first | refine blk_drewN ?_ _ | refine blk_drew ?_ | refine blk_alloc ?_ _)); refine blk_far ?_ NB101_103.o _; (with_reducible repeat (first | refine blk_drewN ?_ _ | refine blk_drew ?_ | refine blk_alloc ?_ _)); refine blk_far ?_ NB101_103.o _; (with_reducible repeat (first | refine blk_drewN ?_ _ | refine blk_drew ?_ | refine blk_alloc ?_ _)); refine blk_far ?_ NB101_103.o _; (with_reducible repeat (first | refine blk_drewN ?_ _ | refine blk_drew ?_ | refine blk_alloc ?_ _)); exact BK101.o⟩
           have n1_ : J0 ((((((w113.setCell ⟨gb103, 0, none⟩ (.int .i64 ((rd_T156 l0_0 a1).f0))).setCell ⟨gb103, 1, none⟩ (.slice A102_1 ((rd_T156 l0_0 a1).f1).length c102_1)).setCell ⟨gb103, 2, none⟩ (.slice A102_2 ((rd_T156 l0_0 a1).f2).length c102_2)).setCell ⟨gb103, 3, none⟩ (.int .i64 ((rd_T156 l0_0 a1).f3))).setCell ⟨gb103, 4, none⟩ (.int .i64 ((rd_T156 l0_0 a1).f4))).heap[gb103]? = some (.cells #[.int .i64 ((rd_T156 l0_0 a1).f0), .slice A102_1 ((rd_T156 l0_0 a1).f1).length c102_1, .slice A102_2 ((rd_T156 l0_0 a1).f2).length c102_2, .int .i64 ((rd_T156 l0_0 a1).f3), .int .i64 ((rd_T156 l0_0 a1).f4)] 156 (0, 0))) := ⟨by (with_reducible repeat (first | refine blk_drewN ?_ _ | refine blk_drew ?_ | refine blk_alloc ?_ _)); refine blk_put (cs := #[.int .i64 ((rd_T156 l0_0 a1).f0), .slice A102_1 ((rd_T156 l0_0 a1).f1).length c102_1, .slice A102_2 ((rd_T156 l0_0 a1).f2).length c102_2, .int .i64 ((rd_T156 l0_0 a1).f3), .int .i64 0]) ?_ 4 _ rfl; (with_reducible repeat (first | refine blk_drewN ?_ _ | refine blk_drew ?_ | refine blk_alloc ?_ _)); refine blk_put (cs := #[.int .i64 ((rd_T156 l0_0 a1).f0), .slice A102_1 ((rd_T156 l0_0 a1).f1).length c102_1, .slice A102_2 ((rd_T156 l0_0 a1).f2).length c102_2, .int .i64 0, .int .i64 0]) ?_ 3 _ rfl; (with_reducible repeat (first | refine blk_drewN ?_ _ | refine blk_drew ?_ | refine blk_alloc ?_ _)); refine blk_put (cs := #[.int .i64 ((rd_T156 l0_0 a1).f0), .slice A102_1 ((rd_T156 l0_0 a1).f1).length c102_1, .slice none 0 0, .int .i64 0, .int .i64 0]) ?_ 2 _ rfl; (with_reducible repeat (first | refine blk_drewN ?_ _ | refine blk_drew ?_ | refine blk_alloc ?_ _)); refine blk_put (cs := #[.int .i64 ((rd_T156 l0_0 a1).f0), .slice none 0 0, .slice none 0 0, .int .i64 0, .int .i64 0]) ?_ 1 _ rfl; (with_reducible repeat (first | refine blk_drewN ?_ _ | refine blk_drew ?_ | refine blk_alloc ?_ _)); refine blk_put (cs := #[.int .i64 0, .slice none 0 0, .slice none 0 0, .int .i64 0, .int .i64 0]) ?_ 0 _ rfl; (with_reducible repeat (first | refine blk_drewN ?_ _ | refine blk_drew ?_ | refine blk_alloc ?_ _)); exact BK103.o⟩
           have n2_ : J0 (Below w.heap.size w (((((w113.setCell ⟨gb103, 0, none⟩ (.int .i64 ((rd_T156 l0_0 a1).f0))).setCell ⟨gb103, 1, none⟩ (.slice A102_1 ((rd_T156 l0_0 a1).f1).length c102_1)).setCell ⟨gb103, 2, none⟩ (.slice A102_2 ((rd_T156 l0_0 a1).f2).length c102_2)).setCell ⟨gb103, 3, none⟩ (.int .i64 ((rd_T156 l0_0 a1).f3))).setCell ⟨gb103, 4, none⟩ (.int .i64 ((rd_T156 l0_0 a1).f4)))) := ⟨be2_ HB.o GE101.o GE103.o⟩
           (try clear BK101)
           (try clear BK103)
           (try clear HB)
           generalize (((((w113.setCell ⟨gb103, 0, none⟩ (.int .i64 ((rd_T156 l0_0 a1).f0))).setCell ⟨gb103, 1, none⟩ (.slice A102_1 ((rd_T156 l0_0 a1).f1).length c102_1)).setCell ⟨gb103, 2, none⟩ (.slice A102_2 ((rd_T156 l0_0 a1).f2).length c102_2)).setCell ⟨gb103, 3, none⟩ (.int .i64 ((rd_T156 l0_0 a1).f3))).setCell ⟨gb103, 4, none⟩ (.int .i64 ((rd_T156 l0_0 a1).f4))) = w116 at n0_ n1_ n2_ ⊢
           have BK101 := n0_; have BK103 := n1_; have HB := n2_; clear n0_ n1_ n2_; replace BK101 := q_ (blk_drew BK101.o); replace BK103 := q_ (blk_drew BK103.o); replace HB := q_ (below_drew1 HB.o)
           have p113 : 0 ≤ (0 : Int) := (by omega)
           have q113 : 0 < (((rd_T156 l0_0 a1).f2).length : Int) := of_decide_eq_true as_
           obtain ⟨ad113, e113, hx113_0⟩ := Kd.at_int HR102_2.o 0 p113 q113; have hw113_0 := hx113_0
           (try rw [show ((0 : Int)).toNat = 0 from rfl] at hw113_0)
           (try rw [show 0 * 1 = 0 from rfl] at hw113_0)
           (try rw [Addr.add_zero'] at hw113_0)
           cases e113
           have qi113 : (0 < ((rd_T156 l0_0 a1).f2).length) = True := eq_true (by omega)
           (try rw [show ((0 : Int)).toNat = 0 from rfl] at hx113_0)
           (try rw [Addr.add_zero'] at hx113_0)
           replace hx113_0 := mv_ HB.o hx113_0; replace p113 := eq_true p113; replace q113 := eq_true q113
           refine start_ (n := 11) (S := fun w' => w'.cell? ⟨gb101, 0, none⟩ = some (.slice (some ad102) l0_0.length c0_0) ∧ w'.cell? ⟨gb103, 0, none⟩ = some (.int .i64 ((rd_T156 l0_0 a1).f0)) ∧ w'.cell? ⟨gb103, 1, none⟩ = some (.slice A102_1 ((rd_T156 l0_0 a1).f1).length c102_1) ∧ w'.cell? ⟨gb103, 2, none⟩ = some (.slice (some ad113) ((rd_T156 l0_0 a1).f2).length c102_2) ∧ w'.cell? ⟨gb103, 3, none⟩ = some (.int .i64 ((rd_T156 l0_0 a1).f3)) ∧ w'.cell? ⟨gb103, 4, none⟩ = some (.int .i64 ((rd_T156 l0_0 a1).f4)) ∧ w'.cell? ad113 = some (.int .i64 (rd ((rd_T156 l0_0 a1).f2) 0))) (ds := []) (bb 11 0) (by kernel_rfl) rfl rfl ⟨(blk_cell BK101.o 0).trans rfl, (blk_cell BK103.o 0).trans rfl, (blk_cell BK103.o 1).trans rfl, (blk_cell BK103.o 2).trans rfl, (blk_cell BK103.o 3).trans rfl, (blk_cell BK103.o 4).trans rfl, (mv_ HB.o hw113_0)⟩ (fun hHeld => ?_); refine with_tabW spec_l4First.tab7 spec_l4First.bits7 (fun HT_ HW_ => ?_)
           generalize w116.drew = w117 at BK101 BK103 HB hx113_0 hHeld ⊢
           refine pv_ 1 31 2 HT_.o ?_; refine tv_ 0 30 3 HT_.o HW_.o hHeld ?_; refine tv_ 2 32 7 HT_.o HW_.o hHeld ?_; refine pv_ 3 33 15 HT_.o ?_; refine tv_ 4 34 31 HT_.o HW_.o hHeld ?_
           refine one_ (i := 5) (N := some 35) (bb 11 63) rfl rfl (one_of HT_.o (by kernel_rfl)) (by decide) (fun K hK => ?_)
           refine gs_ Try.func69 #[.agg #[.slice (some ad102) l0_0.length c0_0], .int .i64 (rd ((rd_T156 l0_0 a1).f2) 0)] ?_
           with_reducible refine (ih k (by omega) _ _ l0_0 (rd ((rd_T156 l0_0 a1).f2) 0) t114 false _ ?side1 ?side2 A25.o).mono ?_
           (case side1 => exact Kd.C_below HR0_0.o (be_ HB.o))
           (case side2 => exact HC0_0.o)
           rintro e w118 ⟨v115, rfl, ho0, hb⟩
           refine ⟨_, rfl, ?_⟩; have HO116 := q_ (Kd.R_lower ho0 (below_size (be2_ HB.o GE101.o GE103.o))); replace BK101 := lb_ BK101 hb; replace BK103 := lb_ BK103 hb; replace HB := sb2_ HB GE101 GE103 hb
           (try clear hb)
           (try clear hb2)
           (try clear hk)
           (try clear hi)
           (try clear ho0)
           refine hK.out _ _ ⟨(blk_cell BK101.o 0).trans rfl, (blk_cell BK103.o 0).trans rfl, (blk_cell BK103.o 1).trans rfl, (blk_cell BK103.o 2).trans rfl, (blk_cell BK103.o 3).trans rfl, (blk_cell BK103.o 4).trans rfl, (mv_ HB.o hw113_0)⟩ (fun hHeld => ?_)
           clear hK K; refine no_ (some 35) ?_; refine pv_ 6 29 127 HT_.o ?_; refine pv_ 7 36 255 HT_.o ?_; refine pv_ 8 37 511 HT_.o ?_; refine pv_ 9 7 1023 HT_.o ?_; refine pv_ 10 8 2047 HT_.o ?_
           refine done_ (done_of HT_.o (by kernel_rfl)) ?_
           obtain ⟨hcz119_0, hcz119_1, hcz119_2, hcz119_3, hcz119_4, hfz119_0, hfz119_1, hfz119_2, hfz119_3, hfz119_4⟩ := d5_ BK103
           try go_wp2
           replace HO116 := q_ (Kd.R_drew HO116.o); replace BK101 := q_ (blk_drew BK101.o); replace BK103 := q_ (blk_drew BK103.o); replace HB := q_ (below_drew1 HB.o)
           refine start_ (n := 9) (S := fun w' => w'.cell? ⟨gb103, 0, none⟩ = some (.int .i64 ((rd_T156 l0_0 a1).f0)) ∧ w'.cell? ⟨gb103, 1, none⟩ = some (.slice A102_1 ((rd_T156 l0_0 a1).f1).length c102_1) ∧ w'.cell? ⟨gb103, 2, none⟩ = some (.slice (some ad113) ((rd_T156 l0_0 a1).f2).length c102_2) ∧ w'.cell? ⟨gb103, 3, none⟩ = some (.int .i64 ((rd_T156 l0_0 a1).f3)) ∧ w'.cell? ⟨gb103, 4, none⟩ = some (.int .i64 ((rd_T156 l0_0 a1).f4))) (ds := []) (bb 9 0) (by kernel_rfl) rfl rfl ⟨(blk_cell BK103.o 0).trans rfl, (blk_cell BK103.o 1).trans rfl, (blk_cell BK103.o 2).trans rfl, (blk_cell BK103.o 3).trans rfl, (blk_cell BK103.o 4).trans rfl⟩ (fun hHeld => ?_); refine with_tabW spec_l4First.tab20 spec_l4First.bits20 (fun HT_ HW_ => ?_)
           generalize w118.drew = w120 at HO116 BK101 BK103 HB hHeld ⊢
           refine pv_ 0 84 1 HT_.o ?_; refine pv_ 1 85 3 HT_.o ?_; refine pv_ 2 86 7 HT_.o ?_; refine pv_ 3 87 15 HT_.o ?_; refine pv_ 7 4 143 HT_.o ?_; refine tv_ 4 88 159 HT_.o HW_.o hHeld ?_; refine pv_ 5 89 191 HT_.o ?_; refine pv_ 6 90 255 HT_.o ?_; refine pv_ 8 5 511 HT_.o ?_
           refine done_ (done_of HT_.o (by kernel_rfl)) ?_
           try go_wp2
           go_ret2
           exact ⟨_, rt_, ra_ HO116.o, be2_ HB.o GE101.o GE103.o⟩
         ·rw [if_neg c99] at H
          have c99b0 : (((rd_T156 l0_0 a1).f0) == 8) = false := beq_eq_false_iff_ne.mpr c99
          have c99b1 : (((rd_T156 l0_0 a1).f0) != 8) = true := bne_iff_ne.mpr c99
          simp only [Option.some.injEq, Prod.mk.injEq] at H
          obtain ⟨rfl, rfl⟩ := H
          go_enter Try.func69, Try.ntmps69
          try go_wp2_with (first | ((with_reducible refine gate_dst (N := 2) rfl ?_); refine bx_ 2 #[.slice A0_0 l0_0.length c0_0] 29 ?_; intro gb101 hg w121 hbox hb; have BK101 := q_ (hbox); have GE101 := ge_ hg HB; replace HB := sb_ HB hb; clear hb hbox hg; obtain ⟨hcz122_0, hfz122_0⟩ := d1_ BK101; have p102 : 0 ≤ (a1 : Int) := of_decide_eq_true as_; have q102 : a1 < (l0_0.length : Int) := of_decide_eq_true as_; obtain ⟨ad102, A102_1, c102_1, A102_2, c102_2, e102, hx102_0, hx102_1, hx102_2, hx102_3, hx102_4, hl102_1, hi102_1, hl102_2, hi102_2⟩ := at_T156 HR0_0.o a1 p102 q102; cases e102; replace hx102_0 := mv_ HB.o hx102_0; replace hx102_1 := mv_ HB.o hx102_1; replace hx102_2 := mv_ HB.o hx102_2; replace hx102_3 := mv_ HB.o hx102_3; replace hx102_4 := mv_ HB.o hx102_4; have HR102_1 := q_ hi102_1; have HC102_1 := q_ hl102_1; clear hi102_1 hl102_1; have HR102_2 := q_ hi102_2; have HC102_2 := q_ hl102_2; clear hi102_2 hl102_2; replace p102 := eq_true p102; replace q102 := eq_true q102) | ((with_reducible refine gate_dst (N := 6) rfl ?_); refine bx_ 6 #[.int .i64 0, .slice none 0 0, .slice none 0 0, .int .i64 0, .int .i64 0] 156 ?_; intro gb103 hg w123 hbox hb; have BK103 := q_ (hbox); have GE103 := ge1_ hg HB GE101; have NB101_103 := nl_ hg BK101; have NB103_101 := ng_ hg BK101; replace BK101 := lb_ BK101 hb; replace HB := sb1_ HB GE101 hb; clear hb hbox hg; have hnb124 := NB103_101.o; have hnc124 := NB101_103.o; obtain ⟨hcz125_0, hcz125_1, hcz125_2, hcz125_3, hcz125_4, hfz125_0, hfz125_1, hfz125_2, hfz125_3, hfz125_4⟩ := d5_ BK103))
          have n0_ : J0 ((((((w123.setCell ⟨gb103, 0, none⟩ (.int .i64 ((rd_T156 l0_0 a1).f0))).setCell ⟨gb103, 1, none⟩ (.slice A102_1 ((rd_T156 l0_0 a1).f1).length c102_1)).setCell ⟨gb103, 2, none⟩ (.slice A102_2 ((rd_T156 l0_0 a1).f2).length c102_2)).setCell ⟨gb103, 3, none⟩ (.int .i64 ((rd_T156 l0_0 a1).f3))).setCell ⟨gb103, 4, none⟩ (.int .i64 ((rd_T156 l0_0 a1).f4))).heap[gb101]? = some (.cells #[.slice (some ad102) l0_0.length c0_0] 29 (0, 0))) := ⟨by (with_reducible repeat (first | refine blk_drewN ?_ _ | refine blk_drew ?_ | refine blk_alloc ?_ _)); refine blk_far ?_ NB101_103.o _; (with_reducible repeat (first | refine blk_drewN ?_ _ | refine blk_drew ?_ | refine blk_alloc ?_ _)); refine blk_far ?_ NB101_103.o _; (with_reducible repeat (first | refine blk_drewN ?_ _ | refine blk_drew ?_ | refine blk_alloc ?_ _)); refine blk_far ?_ NB101_103.o _; (with_reducible repeat (first | refine blk_drewN ?_ _ | refine blk_drew ?_ | refine blk_alloc ?_ _)); refine blk_far ?_ NB101_103.o _; (with_reducible repeat (first | refine blk_drewN ?_ _ | refine blk_drew ?_ | refine blk_alloc ?_ _)); refine blk_far ?_ NB101_103.o _; (with_reducible repeat (first | refine blk_drewN ?_ _ | refine blk_drew ?_ | refine blk_alloc ?_ _)); exact BK101.o⟩
          have n1_ : J0 ((((((w123.setCell ⟨gb103, 0, none⟩ (.int .i64 ((rd_T156 l0_0 a1).f0))).setCell ⟨gb103, 1, none⟩ (.slice A102_1 ((rd_T156 l0_0 a1).f1).length c102_1)).setCell ⟨gb103, 2, none⟩ (.slice A102_2 ((rd_T156 l0_0 a1).f2).length c102_2)).setCell ⟨gb103, 3, none⟩ (.int .i64 ((rd_T156 l0_0 a1).f3))).setCell ⟨gb103, 4, none⟩ (.int .i64 ((rd_T156 l0_0 a1).f4))).heap[gb103]? = some (.cells #[.int .i64 ((rd_T156 l0_0 a1).f0), .slice A102_1 ((rd_T156 l0_0 a1).f1).length c102_1, .slice A102_2 ((rd_T156 l0_0 a1).f2).length c102_2, .int .i64 ((rd_T156 l0_0 a1).f3), .int .i64 ((rd_T156 l0_0 a1).f4)] 156 (0, 0))) := ⟨by (with_reducible repeat (first | refine blk_drewN ?_ _ | refine blk_drew ?_ | refine blk_alloc ?_ _)); refine blk_put (cs := #[.int .i64 ((rd_T156 l0_0 a1).f0), .slice A102_1 ((rd_T156 l0_0 a1).f1).length c102_1, .slice A102_2 ((rd_T156 l0_0 a1).f2).length c102_2, .int .i64 ((rd_T156 l0_0 a1).f3), .int .i64 0]) ?_ 4 _ rfl; (with_reducible repeat (first | refine blk_drewN ?_ _ | refine blk_drew ?_ | refine blk_alloc ?_ _)); refine blk_put (cs := #[.int .i64 ((rd_T156 l0_0 a1).f0), .slice A102_1 ((rd_T156 l0_0 a1).f1).length c102_1, .slice A102_2 ((rd_T156 l0_0 a1).f2).length c102_2, .int .i64 0, .int .i64 0]) ?_ 3 _ rfl; (with_reducible repeat (first | refine blk_drewN ?_ _ | refine blk_drew ?_ | refine blk_alloc ?_ _)); refine blk_put (cs := #[.int .i64 ((rd_T156 l0_0 a1).f0), .slice A102_1 ((rd_T156 l0_0 a1).f1).length c102_1, .slice none 0 0, .int .i64 0, .int .i64 0]) ?_ 2 _ rfl; (with_reducible repeat (first | refine blk_drewN ?_ _ | refine blk_drew ?_ | refine blk_alloc ?_ _)); refine blk_put (cs := #[.int .i64 ((rd_T156 l0_0 a1).f0), .slice none 0 0, .slice none 0 0, .int .i64 0, .int .i64 0]) ?_ 1 _ rfl; (with_reducible repeat (first | refine blk_drewN ?_ _ | refine blk_drew ?_ | refine blk_alloc ?_ _)); refine blk_put (cs := #[.int .i64 0, .slice none 0 0, .slice none 0 0, .int .i64 0, .int .i64 0]) ?_ 0 _ rfl; (with_reducible repeat (first | refine blk_drewN ?_ _ | refine blk_drew ?_ | refine blk_alloc ?_ _)); exact BK103.o⟩
          have n2_ : J0 (Below w.heap.size w (((((w123.setCell ⟨gb103, 0, none⟩ (.int .i64 ((rd_T156 l0_0 a1).f0))).setCell ⟨gb103, 1, none⟩ (.slice A102_1 ((rd_T156 l0_0 a1).f1).length c102_1)).setCell ⟨gb103, 2, none⟩ (.slice A102_2 ((rd_T156 l0_0 a1).f2).length c102_2)).setCell ⟨gb103, 3, none⟩ (.int .i64 ((rd_T156 l0_0 a1).f3))).setCell ⟨gb103, 4, none⟩ (.int .i64 ((rd_T156 l0_0 a1).f4)))) := ⟨be2_ HB.o GE101.o GE103.o⟩
          (try clear BK101)
          (try clear BK103)
          (try clear HB)
          generalize (((((w123.setCell ⟨gb103, 0, none⟩ (.int .i64 ((rd_T156 l0_0 a1).f0))).setCell ⟨gb103, 1, none⟩ (.slice A102_1 ((rd_T156 l0_0 a1).f1).length c102_1)).setCell ⟨gb103, 2, none⟩ (.slice A102_2 ((rd_T156 l0_0 a1).f2).length c102_2)).setCell ⟨gb103, 3, none⟩ (.int .i64 ((rd_T156 l0_0 a1).f3))).setCell ⟨gb103, 4, none⟩ (.int .i64 ((rd_T156 l0_0 a1).f4))) = w126 at n0_ n1_ n2_ ⊢
          have BK101 := n0_; have BK103 := n1_; have HB := n2_; clear n0_ n1_ n2_; replace BK101 := q_ (blk_drew BK101.o); replace BK103 := q_ (blk_drew BK103.o); replace HB := q_ (below_drew1 HB.o)
          have p113 : 0 ≤ (0 : Int) := (by omega)
          have q113 : 0 < (((rd_T156 l0_0 a1).f2).length : Int) := of_decide_eq_true as_
          obtain ⟨ad113, e113, hx113_0⟩ := Kd.at_int HR102_2.o 0 p113 q113; have hw113_0 := hx113_0
          (try rw [show ((0 : Int)).toNat = 0 from rfl] at hw113_0)
          (try rw [show 0 * 1 = 0 from rfl] at hw113_0)
          (try rw [Addr.add_zero'] at hw113_0)
          cases e113
          have qi113 : (0 < ((rd_T156 l0_0 a1).f2).length) = True := eq_true (by omega)
          (try rw [show ((0 : Int)).toNat = 0 from rfl] at hx113_0)
          (try rw [Addr.add_zero'] at hx113_0)
          replace hx113_0 := mv_ HB.o hx113_0; replace p113 := eq_true p113; replace q113 := eq_true q113
          refine start_ (n := 11) (S := fun w' => w'.cell? ⟨gb101, 0, none⟩ = some (.slice (some ad102) l0_0.length c0_0) ∧ w'.cell? ⟨gb103, 0, none⟩ = some (.int .i64 ((rd_T156 l0_0 a1).f0)) ∧ w'.cell? ⟨gb103, 1, none⟩ = some (.slice A102_1 ((rd_T156 l0_0 a1).f1).length c102_1) ∧ w'.cell? ⟨gb103, 2, none⟩ = some (.slice (some ad113) ((rd_T156 l0_0 a1).f2).length c102_2) ∧ w'.cell? ⟨gb103, 3, none⟩ = some (.int .i64 ((rd_T156 l0_0 a1).f3)) ∧ w'.cell? ⟨gb103, 4, none⟩ = some (.int .i64 ((rd_T156 l0_0 a1).f4)) ∧ w'.cell? ad113 = some (.int .i64 (rd ((rd_T156 l0_0 a1).f2) 0))) (ds := []) (bb 11 0) (by kernel_rfl) rfl rfl ⟨(blk_cell BK101.o 0).trans rfl, (blk_cell BK103.o 0).trans rfl, (blk_cell BK103.o 1).trans rfl, (blk_cell BK103.o 2).trans rfl, (blk_cell BK103.o 3).trans rfl, (blk_cell BK103.o 4).trans rfl, (mv_ HB.o hw113_0)⟩ (fun hHeld => ?_); refine with_tabW spec_l4First.tab7 spec_l4First.bits7 (fun HT_ HW_ => ?_)
          generalize w126.drew = w127 at BK101 BK103 HB hx113_0 hHeld ⊢
          refine pv_ 1 31 2 HT_.o ?_; refine tv_ 0 30 3 HT_.o HW_.o hHeld ?_; refine tv_ 2 32 7 HT_.o HW_.o hHeld ?_; refine pv_ 3 33 15 HT_.o ?_; refine tv_ 4 34 31 HT_.o HW_.o hHeld ?_
          refine one_ (i := 5) (N := some 35) (bb 11 63) rfl rfl (one_of HT_.o (by kernel_rfl)) (by decide) (fun K hK => ?_)
          refine gs_ Try.func69 #[.agg #[.slice (some ad102) l0_0.length c0_0], .int .i64 (rd ((rd_T156 l0_0 a1).f2) 0)] ?_
          with_reducible refine (ih k (by omega) _ _ l0_0 (rd ((rd_T156 l0_0 a1).f2) 0) t114 t117 _ ?side1 ?side2 A25.o).mono ?_
          (case side1 => exact Kd.C_below HR0_0.o (be_ HB.o))
          (case side2 => exact HC0_0.o)
          rintro e w128 ⟨v115, rfl, ho0, hb⟩
          refine ⟨_, rfl, ?_⟩; have HO116 := q_ (Kd.R_lower ho0 (below_size (be2_ HB.o GE101.o GE103.o))); replace BK101 := lb_ BK101 hb; replace BK103 := lb_ BK103 hb; replace HB := sb2_ HB GE101 GE103 hb
          (try clear hb)
          (try clear hb2)
          (try clear hk)
          (try clear hi)
          (try clear ho0)
          refine hK.out _ _ ⟨(blk_cell BK101.o 0).trans rfl, (blk_cell BK103.o 0).trans rfl, (blk_cell BK103.o 1).trans rfl, (blk_cell BK103.o 2).trans rfl, (blk_cell BK103.o 3).trans rfl, (blk_cell BK103.o 4).trans rfl, (mv_ HB.o hw113_0)⟩ (fun hHeld => ?_)
          clear hK K; refine no_ (some 35) ?_; refine pv_ 6 29 127 HT_.o ?_; refine pv_ 7 36 255 HT_.o ?_; refine pv_ 8 37 511 HT_.o ?_; refine pv_ 9 7 1023 HT_.o ?_; refine pv_ 10 8 2047 HT_.o ?_
          refine done_ (done_of HT_.o (by kernel_rfl)) ?_
          obtain ⟨hcz129_0, hcz129_1, hcz129_2, hcz129_3, hcz129_4, hfz129_0, hfz129_1, hfz129_2, hfz129_3, hfz129_4⟩ := d5_ BK103
          try go_wp2
          go_ret2
          exact ⟨_, rt_, ra_ HO116.o, be2_ HB.o GE101.o GE103.o⟩
     ·rw [if_neg c24] at H
      exact absurd H (by simp)
  ·rw [if_neg c4] at H
   exact absurd H (by simp)
 ·rw [if_neg c3] at H
  exact absurd H (by simp)
/-! ### spec_FirstOf: function 19 -/
def spec_FirstOf.f (k : Nat) (l0_0 : List (S156)) : Option ((List (S103))) := (spec_RxOk.f k l0_0).bind fun t102 => (if t102 = true then ((spec_l4First.f k l0_0 (wrap64 ((l0_0.length : Int) - 1))).bind fun bt103 => (some bt103.1)) else (some (([] : List (S103)))))
theorem spec_FirstOf.calls (k : Nat) (A0_0 : Option Addr) (c0_0 : Nat) (l0_0 : List (S156)) (r : List (S103)) (w : World) (hr0_0 : Kd.C k156 w A0_0 l0_0.length l0_0) (hc0_0 : l0_0.length ≤ c0_0) (h : spec_FirstOf.f k l0_0 = some r) :
  Calls Try.prog 19 #[.agg #[.slice A0_0 l0_0.length c0_0]] w fun e w' => ∃ v0_ : Value, e = .returned (v0_) ∧ Kd.R k103 103 w' w.heap.size (fun _ => True) v0_ r ∧ Below w.heap.size w w' := by
 have hu29 := Try.underlying29; have HR0_0 := q_ hr0_0; have HC0_0 := q_ hc0_0; clear hr0_0 hc0_0; have HB := q_ (Below.refl w.heap.size w)
 have H : ((spec_RxOk.f k l0_0).bind fun t102 => (if t102 = true then ((spec_l4First.f k l0_0 (wrap64 ((l0_0.length : Int) - 1))).bind fun bt103 => (some bt103.1)) else (some (([] : List (S103)))))) = some r := h
 clear h; obtain ⟨t102, A2, H⟩ := ob_ H
 by_cases c3 : t102 = true
 ·subst c3; rw [if_pos rfl] at H; replace H := Option.bind_eq_some_iff.mp H
  obtain ⟨⟨t103, t106⟩, A40, H⟩ := H
  replace H : (some t103) = some r := H
  have A4 := q_ A40; clear A40; obtain rfl := Option.some.inj H
  go_enter Try.func19, Try.ntmps19
  go_wp2_with (first | ((with_reducible refine gate_dst (N := 1) rfl ?_); refine bx_ 1 #[.slice A0_0 l0_0.length c0_0] 29 ?_; intro gb101 hg w5 hbox hb; have BK101 := q_ (hbox); have GE101 := ge_ hg HB; replace HB := sb_ HB hb; clear hb hbox hg; obtain ⟨hcz6_0, hfz6_0⟩ := d1_ BK101) | ((with_reducible refine gate_callee (f := 59) rfl ?_); refine gl_ (some 6) rfl rfl Try.func59 #[.agg #[.slice A0_0 l0_0.length c0_0]] ?_; (with_reducible refine (spec_RxOk.calls k _ _ l0_0 true _ ?side1 ?side2 A2.o).mono ?_); (case side1 => exact Kd.C_below HR0_0.o (be_ HB.o)); (case side2 => exact HC0_0.o); rintro e w7 ⟨rfl, hb⟩; refine ⟨_, rfl, ?_⟩; replace BK101 := lb_ BK101 hb; replace HB := sb1_ HB GE101 hb; (try clear hb); obtain ⟨hcz8_0, hfz8_0⟩ := d1_ BK101) | ((with_reducible refine gate_callee (f := 69) rfl ?_); refine gl_ (some 15) rfl rfl Try.func69 #[.agg #[.slice A0_0 l0_0.length c0_0], .int .i64 (wrap64 ((l0_0.length : Int) - 1))] ?_; (with_reducible refine (spec_l4First.calls k _ _ l0_0 (wrap64 ((l0_0.length : Int) - 1)) t103 t106 _ ?side1 ?side2 A4.o).mono ?_); (case side1 => exact Kd.C_below HR0_0.o (be_ HB.o)); (case side2 => exact HC0_0.o); rintro e w9 ⟨v104, rfl, ho0, hb⟩; refine ⟨_, rfl, ?_⟩; have HO105 := q_ (Kd.R_lower ho0 (below_size (be1_ HB.o GE101.o))); replace BK101 := lb_ BK101 hb; replace HB := sb1_ HB GE101 hb; (try clear hb); (try clear ho0)))
  go_ret
  exact ⟨_, rt_, ra_ HO105.o, be1_ HB.o GE101.o⟩
 ·replace c3 := Bool.eq_false_iff.mpr c3; subst c3; rw [if_neg nft_] at H
  obtain ⟨y107, hy107⟩ : ∃ y_ : List (S103), y_ = (([] : List (S103))) := ⟨_, rfl⟩
  replace H : (some y107) = some r := by first | (rw [hy107]; with_reducible exact H) | (have H2_ := (Option.bind_some _ _).symm.trans H; rw [hy107]; with_reducible exact H2_) | (have H2_ := (Option.bind_some _ _).symm.trans H; with_reducible exact H2_) | with_reducible exact H | (rw [hy107]; exact H) | exact H
  have Ny107 := q_ hy107; clear hy107; obtain rfl := Option.some.inj H
  go_enter Try.func19, Try.ntmps19
  go_wp2_with (first | ((with_reducible refine gate_dst (N := 1) rfl ?_); refine bx_ 1 #[.slice A0_0 l0_0.length c0_0] 29 ?_; intro gb101 hg w10 hbox hb; have BK101 := q_ (hbox); have GE101 := ge_ hg HB; replace HB := sb_ HB hb; clear hb hbox hg; obtain ⟨hcz11_0, hfz11_0⟩ := d1_ BK101) | ((with_reducible refine gate_callee (f := 59) rfl ?_); refine gl_ (some 6) rfl rfl Try.func59 #[.agg #[.slice A0_0 l0_0.length c0_0]] ?_; (with_reducible refine (spec_RxOk.calls k _ _ l0_0 false _ ?side1 ?side2 A2.o).mono ?_); (case side1 => exact Kd.C_below HR0_0.o (be_ HB.o)); (case side2 => exact HC0_0.o); rintro e w12 ⟨rfl, hb⟩; refine ⟨_, rfl, ?_⟩; replace BK101 := lb_ BK101 hb; replace HB := sb1_ HB GE101 hb; (try clear hb)) | ((with_reducible refine gate_dst (N := 8) rfl ?_); refine Kd.R_lit k103 _ 103 ?hg (N := 8) ?hd (xs := ([] : List (S103))) (inner := []) (ok := fun _ => True) (okp := fun _ => True) ?hr ?hp (fun _ hk => hk) trivial (Below.refl _ _) (Nat.le_refl _) (by simp) ?_; (case hd => rfl); (case hg => rfl); (case hr => first | (go_simp; done) | (go_simp; rfl)); (case hp => exact (Reps.none _ _)); intro v108 w13 ho14 hb hg_ hnew_; clear hg_ hnew_; (first | rw [← Ny107.o] at ho14 | (simp only [Int.reduceToNat] at ho14; rw [← Ny107.o] at ho14)); have HO109 := q_ (Kd.R_lower ho14 (below_size (be1_ HB.o GE101.o))); replace BK101 := lb_ BK101 hb; replace HB := sb1_ HB GE101 hb; clear hb ho14))
  go_ret
  exact ⟨_, rt_, ra_ HO109.o, be1_ HB.o GE101.o⟩
end Go.Proofs.Ytijmhelacmjggaa.P
namespace Go.Proofs.Ytijmhelacmjggaa.P
open Go.RowKit Go.Proofs.YtijmhelacmjggaaW.PrintWords Go.Proofs.YtijmhelacmjggaaW.PrintLast Go.Proofs.YtijmhelacmjggaaW.PrintMore Go.Proofs.YtijmhelacmjggaaEv
set_option linter.unusedVariables false
set_option linter.unusedSimpArgs false
def flagsL (p : Nat → Bool) : List Bool := (List.range 256).map p
theorem flagsL_length (p : Nat → Bool) : (flagsL p).length = 256 := by simp [flagsL]
theorem flagsL_rd (p : Nat → Bool) (i : Nat) (h : i < 256) : rdOf false (flagsL p) (i : Int) = p i := by
  simp [rdOf, flagsL, h]
theorem flagsL_set (p : Nat → Bool) (i : Nat) (b : Bool) : (flagsL p).set i b = flagsL fun j => if j = i then b else p j := by
  apply List.ext_getElem
  · simp [flagsL]
  · intro n h1 h2
    simp only [flagsL, List.getElem_set, List.getElem_map, List.getElem_range]
    by_cases h : i = n
    · rw [if_pos h, if_pos h.symm]
    · rw [if_neg h, if_neg (Ne.symm h)]
theorem flagsL_congr (p q : Nat → Bool) (h : ∀ i, p i = q i) : flagsL p = flagsL q := by rw [funext h]
theorem spec_l1Marks_l1 (l : List S103) (i : Nat) (hi : i < l.length) (hf1 : (rd_T103 l (i : Int)).f1 ≤ 255) (hl : l.length ≤ 9223372036854775807)
    (ih : ∀ p : Nat → Bool, Ev (fun k => spec_l1Marks.l0 k l (flagsL p) ((i + 1 : Nat) : Int)) (flagsL fun b => p b || inAny (l.drop (i + 1)) b)) :
    ∀ (n x : Nat) (p : Nat → Bool), ((rd_T103 l (i : Int)).f1 + 1 - (x : Int)).toNat = n → Ev (fun k => spec_l1Marks.l1 k l (flagsL p) (i : Int) (x : Int)) (flagsL fun b => (p b || decide ((x : Int) ≤ (b : Int) ∧ (b : Int) ≤ (rd_T103 l (i : Int)).f1)) || inAny (l.drop (i + 1)) b) := by
  intro n
  induction n with
  | zero =>
    intro x p hn
    rw [ev_succ]
    simp only [spec_l1Marks.l1, ev_ite]
    rw [if_pos (by omega), if_pos (by omega), if_neg (by omega), wrap_succ hi hl]
    refine ev_congr (ih p) (flagsL_congr _ _ fun b => ?_)
    rw [decide_eq_false (by omega), Bool.or_false]
  | succ n ihn =>
    intro x p hn
    rw [ev_succ]
    simp only [spec_l1Marks.l1, ev_ite]
    rw [if_pos (by omega), if_pos (by omega), if_pos (by omega), if_pos (by omega), flagsL_length, if_pos (by omega), Int.toNat_natCast, flagsL_set, wrap_succ (m := 256) (by omega) (by omega)]
    refine ev_congr (ihn (x + 1) _ (by omega)) (flagsL_congr _ _ fun b => ?_)
    congr 1
    by_cases hb : b = x
    · subst hb
      rw [if_pos rfl, decide_eq_true (p := (b : Int) ≤ b ∧ _) (by omega), Bool.true_or, Bool.or_true]
    · rw [if_neg hb]
      congr 1
      exact decide_eq_decide.2 (by omega)
theorem spec_l1Marks_ev (l : List S103) (hc : classB l = true) : Ev (fun k => spec_l1Marks.f k l) (flagsL (inAny l)) := by
  have hl := classB_few hc
  have hbd := class_bounds l hc
  have key : ∀ i : Nat, i ≤ l.length → ∀ p : Nat → Bool, Ev (fun k => spec_l1Marks.l0 k l (flagsL p) (i : Int)) (flagsL fun b => p b || inAny (l.drop i) b) := by
    refine down l.length _ ?_ ?_
    · intro p
      rw [ev_succ]
      simp only [spec_l1Marks.l0, ev_ite]
      rw [if_neg (by omega)]
      exact ev_some.2 (flagsL_congr _ _ fun b => by simp [inAny])
    · intro i hi ih p
      have hm : rd_T103 l (i : Int) ∈ l := by
        unfold rd_T103
        rw [Int.toNat_natCast, List.getD_eq_getElem?_getD, List.getElem?_eq_getElem hi]
        exact List.getElem_mem _
      have hb := hbd _ hm
      have hx := spec_l1Marks_l1 l i hi hb.2 (by omega) ih _ (rd_T103 l (i : Int)).f0.toNat p rfl
      rw [Int.toNat_of_nonneg hb.1] at hx
      rw [ev_succ]
      simp only [spec_l1Marks.l0, ev_ite]
      rw [if_pos (by omega), if_pos (by omega)]
      refine ev_congr hx (flagsL_congr _ _ fun b => ?_)
      have hd : l.drop i = rd_T103 l (i : Int) :: l.drop (i + 1) := drop_cons l _ i hi
      rw [hd, Bool.or_assoc]
      rfl
  unfold spec_l1Marks.f
  rw [ev_ite, if_pos (by omega)]
  have h0 := key 0 (by omega) (fun _ => false)
  rw [show (List.replicate 256 false) = flagsL (fun _ => false) by unfold flagsL; rw [List.map_const', List.length_range]]
  exact ev_congr h0 (flagsL_congr _ _ fun b => by simp)
theorem spec_l1Class_ev (p : Nat → Bool) (N : Nat) (hN : N = 256) : Ev (fun k => spec_l1Class.f k (flagsL p)) (classTo p N) := by
  have key : ∀ i : Nat, i ≤ N → Ev (fun k => spec_l1Class.l0 k (flagsL p) (classTo p i) (i : Int)) (classTo p N) := by
    refine down N _ ?_ ?_
    · rw [ev_succ]
      simp only [spec_l1Class.l0, ev_ite]
      rw [if_neg (by omega)]
      exact ev_some.2 rfl
    · intro i hi ih
      have hlen := classTo_length p i
      rw [ev_succ]
      simp only [spec_l1Class.l0, ev_ite]
      rw [flagsL_length, if_pos (by omega), if_pos (by omega), if_pos (by omega), flagsL_rd p i (by omega), wrap_succ (m := 256) (by omega) (by omega)]
      have hst : classTo p (i + 1) = if p i = true then addRun (classTo p i) (i : Int) else classTo p i := rfl
      rw [hst] at ih
      generalize classTo p i = xs at *
      cases hp : p i
      · rw [hp, if_neg (by simp)] at ih
        rw [if_neg (by simp)]
        exact ih
      · rw [hp, if_pos rfl] at ih
        rw [if_pos rfl]
        unfold addRun at ih
        by_cases h0 : 0 < xs.length
        · rw [if_pos h0] at ih
          rw [if_pos (by omega), wrap_id (x := (xs.length : Int) - 1) (by omega) (by omega), wrap_id (x := (i : Int) - 1) (by omega) (by omega), if_pos (by omega), if_pos (by omega)]
          by_cases h1 : (rd_T103 xs ((xs.length : Int) - 1)).f1 = (i : Int) - 1
          · rw [if_pos h1] at ih ⊢
            exact ih
          · rw [if_neg h1] at ih ⊢
            rw [if_pos (by omega)]
            exact ih
        · rw [if_neg h0] at ih
          rw [if_neg (by omega), if_pos (by omega)]
          exact ih
  exact key 0 (by omega)
theorem spec_l1Both_l0 (p q : Nat → Bool) (N : Nat) (hN : N = 256) : ∀ i : Nat, i ≤ N → ∀ p : Nat → Bool, Ev (fun k => spec_l1Both.l0 k 0 (flagsL p) (flagsL q) (i : Int)) (classTo (fun j => p j || (decide (i ≤ j) && q j)) N) := by
  refine down N _ ?_ ?_
  · intro p
    rw [ev_succ]
    simp only [spec_l1Both.l0, ev_ite]
    rw [if_neg (by omega), ev_bind (spec_l1Class_ev p N hN)]
    subst hN
    refine ev_some.2 (classTo_congr _ _ (fun j hj => ?_) 256 (Nat.le_refl _))
    rw [decide_eq_false (by omega), Bool.false_and, Bool.or_false]
  · intro i hi ih p
    rw [ev_succ]
    simp only [spec_l1Both.l0, ev_ite]
    rw [flagsL_length, flagsL_length, if_pos (by omega), if_pos (by trivial), if_pos (by omega), if_pos (by omega), flagsL_rd p i (by omega), flagsL_rd q i (by omega), wrap_succ (m := 256) (by omega) (by omega), Int.toNat_natCast, flagsL_set, flagsL_set]
    have cg : ∀ b : Bool, (p i || q i) = b → classTo (fun j => (if j = i then b else p j) || (decide (i + 1 ≤ j) && q j)) N = classTo (fun j => p j || (decide (i ≤ j) && q j)) N := by
      intro b hb
      subst hN
      refine classTo_congr _ _ (fun j hj => ?_) 256 (Nat.le_refl _)
      by_cases hji : j = i
      · subst hji
        rw [if_pos rfl, decide_eq_false (p := j + 1 ≤ j) (by omega), decide_eq_true (p := j ≤ j) (by omega), ← hb]
        simp
      · rw [if_neg hji, decide_eq_decide.2 (show i + 1 ≤ j ↔ i ≤ j by omega)]
    cases hp : p i
    · rw [if_neg (by simp), if_pos (by omega)]
      exact ev_congr (ih _) (cg _ (by rw [hp]; rfl))
    · rw [if_pos rfl]
      exact ev_congr (ih _) (cg _ (by rw [hp]; rfl))
theorem spec_Joined_ev (a b : List S103) : Ev (fun k => spec_Joined.f k a b) (joinI a b) := by
  have h : Ev (fun k => spec_l1Both.f k a b 0) (joinI a b) := by
    unfold spec_l1Both.f joinI bothB
    rw [ev_bind (spec_ClassOk_ev a)]
    simp only [ev_ite]
    cases ha : classB a
    · rw [if_neg (by simp), ev_succ]
      simp only [spec_l1Both.j0, if_true]
      exact ev_some.2 rfl
    · rw [if_pos rfl, ev_bind (spec_ClassOk_ev b), ev_succ]
      cases hb : classB b
      · simp only [spec_l1Both.j0, Bool.not_false, if_true]
        exact ev_some.2 rfl
      · simp only [spec_l1Both.j0, Bool.not_true, Bool.false_eq_true, if_false]
        rw [ev_bind (spec_l1Marks_ev a ha), ev_bind (spec_l1Marks_ev b hb)]
        refine ev_congr (spec_l1Both_l0 (inAny a) (inAny b) 256 rfl 0 (by omega) (inAny a)) ?_
        rw [if_pos (by rfl)]
        exact classTo_congr _ _ (fun j _ => by simp) 256 (Nat.le_refl _)
  unfold spec_Joined.f
  rw [ev_bind h]
  exact ev_some.2 rfl
theorem node_class {l : List S156} {k : Nat} (h : nodeAt l k = true) (h2 : (rd_T156 l (k : Int)).f0 = 2) : classB (rd_T156 l (k : Int)).f1 = true := by
  unfold nodeAt nodeB at h
  simp only [Bool.and_eq_true, h2, if_true] at h
  exact h.1.2.1
theorem both_first (l : List S156) (hok : ∀ j, j < l.length → nodeAt l j = true) : ∀ n k : Nat, k < n → k < l.length → ∃ r : List S103, classB r = true ∧ Ev (fun q => impl_Rx_first.f q l (k : Int)) r ∧ Ev (fun q => spec_l4First.f q l (k : Int)) (r, nullE l k) := by
  intro n
  induction n with
  | zero => intro k hk; omega
  | succ n ih =>
    intro k hk hkl
    have kid : ∀ i : Nat, i < (rd_T156 l (k : Int)).f2.length → ∃ r : List S103, classB r = true ∧ Ev (fun q => impl_Rx_first.f q l (rd (rd_T156 l (k : Int)).f2 (i : Int))) r ∧ Ev (fun q => spec_l4First.f q l (rd (rd_T156 l (k : Int)).f2 (i : Int))) (r, nullK l k (rd (rd_T156 l (k : Int)).f2 (i : Int)).toNat) := by
      intro i hi
      obtain ⟨h1, h2⟩ := node_kid (hok k hkl) i hi
      obtain ⟨r, hr, e1, e2⟩ := ih _ (by omega) (Nat.lt_trans h2 hkl)
      rw [← h1] at e1 e2
      refine ⟨r, hr, e1, ?_⟩
      rw [nullK_stable hok l.length _ (by omega) (by omega) k h2]
      exact e2
    have knull : ∀ i : Nat, i < (rd_T156 l (k : Int)).f2.length → Ev (fun q => impl_Rx_nullable.f q l (rd (rd_T156 l (k : Int)).f2 (i : Int))) (nullK l k (rd (rd_T156 l (k : Int)).f2 (i : Int)).toNat) := by
      intro i hi
      obtain ⟨h1, h2⟩ := node_kid (hok k hkl) i hi
      have h3 := impl_nullable_ev l hok l.length _ (Nat.lt_trans h2 hkl) (Nat.lt_trans h2 hkl)
      rw [← h1] at h3
      rw [nullK_stable hok l.length _ (by omega) (by omega) k h2]
      exact h3
    have k0 := kid 0
    have k1 := kid 1
    have z0 := knull 0
    simp only [Int.ofNat_zero, Int.natCast_one, Int.cast_ofNat_Int] at k0 k1 z0
    have hE : nullE l k = nullK l (k + 1) k := rfl
    rw [hE]
    simp only [nullK]
    generalize nullK l k (rd (rd_T156 l (k : Int)).f2 0).toNat = b0 at *
    generalize nullK l k (rd (rd_T156 l (k : Int)).f2 1).toNat = b1 at *
    have joined : ∀ (x y : List S103) {β : Type} (F : List S103 → Option β) (r : β), F (joinI x y) = some r → Ev (fun q => (impl_Joined.f x y).bind F) r := by
      intro x y β F r h
      exact ev_const.2 h
    have one : ∀ (h1 : ¬ (rd_T156 l (k : Int)).f0 = 1) (h2 : ¬ (rd_T156 l (k : Int)).f0 = 2) (h3 : ¬ (rd_T156 l (k : Int)).f0 = 3) (h4 : ¬ (rd_T156 l (k : Int)).f0 = 4) (hl : 0 < (rd_T156 l (k : Int)).f2.length) (b : Bool) (hb : (if (rd_T156 l (k : Int)).f0 = 6 then b0 else if (rd_T156 l (k : Int)).f0 = 8 then (decide ((rd_T156 l (k : Int)).f3 = 0) || b0) else true) = b),
        ∃ r : List S103, classB r = true ∧ Ev (fun q => impl_Rx_first.f q l (k : Int)) r ∧ Ev (fun q => spec_l4First.f q l (k : Int)) (r, b) := by
      intro h1 h2 h3 h4 hl b hb
      obtain ⟨r, hr, e1, e2⟩ := k0 hl
      refine ⟨r, hr, ?_, ?_⟩
      · rw [ev_succ]
        simp only [impl_Rx_first.f, ev_ite]
        rw [if_pos (by omega), if_pos (by omega), if_neg h1, if_neg h2, if_neg h3, if_neg h4, if_pos (by omega), ev_bind e1]
        exact ev_some.2 rfl
      · rw [ev_succ]
        simp only [spec_l4First.f, ev_ite]
        rw [if_pos (by omega), if_pos (by omega), if_neg h1, if_neg h2, if_pos (by omega), ev_bind e2]
        simp only [ev_ite]
        rw [if_neg h3, if_neg h4]
        subst hb
        by_cases h6 : (rd_T156 l (k : Int)).f0 = 6
        · rw [if_pos h6, if_pos h6]
          exact ev_some.2 rfl
        · rw [if_neg h6, if_neg h6]
          by_cases h8 : (rd_T156 l (k : Int)).f0 = 8
          · rw [if_pos h8, if_pos h8]
            cases b0
            · rw [if_neg (by simp), Bool.or_false]
              exact ev_some.2 rfl
            · rw [if_pos rfl, Bool.or_true]
              exact ev_some.2 rfl
          · rw [if_neg h8, if_neg h8]
            exact ev_some.2 rfl
    rcases node_ops (hok k hkl) with (h | h) | ⟨h | h, hl⟩ | ⟨h | h | h | h, hl⟩
    · refine ⟨[], rfl, ?_, ?_⟩
      · rw [ev_succ]
        simp only [impl_Rx_first.f, ev_ite]
        rw [if_pos (by omega), if_pos (by omega), if_pos h]
        exact ev_some.2 rfl
      · rw [ev_succ]
        simp only [spec_l4First.f, ev_ite]
        rw [if_pos (by omega), if_pos (by omega), if_pos h, if_pos h]
        exact ev_some.2 rfl
    · have hc := node_class (hok k hkl) h
      have hf := classB_few hc
      refine ⟨_, hc, ?_, ?_⟩
      · rw [ev_succ]
        simp only [impl_Rx_first.f, ev_ite]
        rw [if_pos (by omega), if_pos (by omega), if_neg (by omega), if_pos h]
        exact ev_some.2 rfl
      · rw [ev_succ]
        simp only [spec_l4First.f, ev_ite, Option.bind_some, List.length_nil, Nat.zero_add, List.nil_append]
        rw [if_pos (by omega), if_pos (by omega), if_neg (by omega), if_pos h, if_pos (by omega), if_neg (by omega), if_pos h]
        exact ev_some.2 rfl
    · obtain ⟨r0, hr0, e0, f0⟩ := k0 (by omega)
      obtain ⟨r1, hr1, e1, f1⟩ := k1 (by omega)
      have y0 := z0 (by omega)
      refine ⟨if b0 = true then joinI r0 r1 else r0, ?_, ?_, ?_⟩
      · cases b0
        · rw [if_neg (by simp)]; exact hr0
        · rw [if_pos rfl]; exact joinI_right _ _
      · rw [ev_succ]
        simp only [impl_Rx_first.f, ev_ite]
        rw [if_pos (by omega), if_pos (by omega), if_neg (by omega), if_neg (by omega), if_pos h, if_pos (by omega), ev_bind y0]
        simp only [ev_ite]
        cases b0
        · rw [if_neg (by simp), if_neg (by simp), ev_bind e0]
          exact ev_some.2 rfl
        · rw [if_pos rfl, if_pos rfl, ev_bind e0]
          simp only [ev_ite]
          rw [if_pos (by omega), ev_bind e1]
          exact joined _ _ _ _ rfl
      · refine ev_congr (r := ((if b0 = true then joinI r0 r1 else r0), (b0 && b1))) ?_ (by rw [h]; rfl)
        rw [ev_succ]
        simp only [spec_l4First.f, ev_ite]
        rw [if_pos (by omega), if_pos (by omega), if_neg (by omega), if_neg (by omega), if_pos (by omega), ev_bind f0]
        simp only [ev_ite]
        rw [if_pos h, if_pos (by omega), ev_bind f1]
        simp only [ev_ite]
        cases b0
        · rw [if_neg (by simp), if_neg (by simp)]
          exact ev_some.2 rfl
        · rw [if_pos rfl, if_pos rfl, ev_bind (spec_Joined_ev r0 r1)]
          exact ev_some.2 rfl
    · obtain ⟨r0, hr0, e0, f0⟩ := k0 (by omega)
      obtain ⟨r1, hr1, e1, f1⟩ := k1 (by omega)
      refine ⟨joinI r0 r1, joinI_right _ _, ?_, ?_⟩
      · rw [ev_succ]
        simp only [impl_Rx_first.f, ev_ite]
        rw [if_pos (by omega), if_pos (by omega), if_neg (by omega), if_neg (by omega), if_neg (by omega), if_pos h, if_pos (by omega), ev_bind e0]
        simp only [ev_ite]
        rw [if_pos (by omega), ev_bind e1]
        exact joined _ _ _ _ rfl
      · refine ev_congr (r := (joinI r0 r1, (b0 || b1))) ?_ (by rw [h]; rfl)
        rw [ev_succ]
        simp only [spec_l4First.f, ev_ite]
        rw [if_pos (by omega), if_pos (by omega), if_neg (by omega), if_neg (by omega), if_pos (by omega), ev_bind f0]
        simp only [ev_ite]
        rw [if_neg (by omega), if_pos h, if_pos (by omega), ev_bind f1, ev_bind (spec_Joined_ev r0 r1)]
        simp only [ev_ite]
        cases b0
        · rw [if_neg (by simp)]
          exact ev_some.2 rfl
        · rw [if_pos rfl]
          exact ev_some.2 rfl
    · refine one (by omega) (by omega) (by omega) (by omega) (by omega) _ ?_
      simp [h]
    · refine one (by omega) (by omega) (by omega) (by omega) (by omega) _ ?_
      simp [h]
    · refine one (by omega) (by omega) (by omega) (by omega) (by omega) _ ?_
      simp [h]
    · refine one (by omega) (by omega) (by omega) (by omega) (by omega) _ ?_
      simp [h]
theorem first_both (l : List S156) (hl : l.length ≤ 1048576) (hkl : ∀ x ∈ l, x.f2.length ≤ 9223372036854775807) : ∃ r : List S103, r.length ≤ 128 ∧ Ev (fun k => impl_FirstOf.f k l) r ∧ Ev (fun k => spec_FirstOf.f k l) r := by
  have e1 := impl_RxOk_ev l (by omega)
  have e2 := spec_RxOk_ev l hl hkl
  cases hb : rxB l
  · rw [hb] at e1 e2
    refine ⟨[], by simp, ?_, ?_⟩
    · unfold impl_FirstOf.f
      rw [ev_bind e1, ev_ite, if_neg (by simp)]
      exact ev_some.2 rfl
    · unfold spec_FirstOf.f
      rw [ev_bind e2, ev_ite, if_neg (by simp)]
      exact ev_some.2 rfl
  · rw [hb] at e1 e2
    obtain ⟨h1, hn, hok⟩ := rxB_parts hb
    obtain ⟨r, hr, f1, f2⟩ := both_first l hok l.length (l.length - 1) (by omega) (by omega)
    rw [show ((l.length - 1 : Nat) : Int) = wrap64 ((l.length : Int) - 1) by rw [wrap_id (by omega) (by omega)]; omega] at f1 f2
    refine ⟨r, classB_few hr, ?_, ?_⟩
    · unfold impl_FirstOf.f
      rw [ev_bind e1, ev_ite, if_pos rfl]
      simp only [impl_Rx_last.f, impl_RNode.f, Option.bind_some]
      rw [ev_bind f1]
      refine ev_const.2 ?_
      show some (joinI r []) = some r
      rw [joinI_nil r hr]
    · unfold spec_FirstOf.f
      rw [ev_bind e2, ev_ite, if_pos rfl, ev_bind f2]
      exact ev_some.2 rfl
end Go.Proofs.Ytijmhelacmjggaa.P
namespace Go.Proofs.Ytijmhelacmjggaa.P
open Go.RowKit Go.Proofs.YtijmhelacmjggaaW.PrintWords Go.Proofs.YtijmhelacmjggaaW.PrintLast Go.Proofs.YtijmhelacmjggaaW.PrintMore
attribute [local go_sem] max2_int min2_int max_two min_two max_three min_three max_four min_four
set_option linter.unusedVariables false
set_option linter.unusedSimpArgs false
/-! ### laws_markSpanS: function 23 -/
def laws_markSpanS.l0 : Nat → List (S103) → Int → Int → Option (Int × (List (S103)))
 | 0, _, _, _ => none
 | k + 1, x0, x1, x5 => if x5 < (x0.length : Int) then (if 0 ≤ x5 then ((some (x0.set (x5 : Int).toNat (⟨x1, (rd_T103 x0 x5).f1⟩ : S103) : List (S103))).bind fun y101 => (laws_markSpanS.l0 k (y101.set (x5 : Int).toNat (⟨(rd_T103 y101 x5).f0, wrap64 (x1 + 1)⟩ : S103)) (wrap64 ((wrap64 (x1 + 1)) + 1)) (wrap64 (x5 + 1)))) else (none)) else (some (x1, x0))
def laws_markSpanS.f (k : Nat) (l0 : List (S103)) (a1 : Int) : Option (Int × (List (S103))) := laws_markSpanS.l0 k l0 a1 0
theorem laws_markSpanS.calls (k : Nat) (P0_ : Nat → Prop) (u9000_ : Value) (l0 : List (S103)) (a1 : Int) (r1 : Int) (r2 : List (S103)) (w0 w : World) (hB : Below w0.heap.size w0 w) (ho0 : Kd.R k103 103 w w0.heap.size P0_ u9000_ l0) (h : laws_markSpanS.f k l0 a1 = some (r1, r2)) :
  Calls Try.prog 23 #[u9000_, .int .i64 a1] w fun e w' => e = .returned (.int .i64 r1) ∧ Kd.R k103 103 w' w0.heap.size (fun k_ => (P0_ k_ ∨ w.heap.size ≤ k_)) u9000_ r2 ∧ Below w0.heap.size w0 w' ∧ Kept w w' (fun k_ => P0_ k_) := by
 have HO0 := q_ (show Kd.R k103 103 w w0.heap.size (fun k_ => (P0_ k_ ∨ w.heap.size ≤ k_)) u9000_ l0 from Kd.R_mono ho0 (fun k_ hk => (.inl hk)))
 have HK := q_ (Kept.refl w (fun k_ => P0_ k_))
 have HW0 := q_ hB.size; have HB := q_ hB; clear hB
 have H : (laws_markSpanS.l0 k l0 a1 0) = some (r1, r2) := h
 clear h
 have H' := q_ H
 clear H
 go_enter Try.func23, Try.ntmps23
 go_wp2
 go_loopg [1, 5] k (fun kq v1 v5 w' => ∃ (x0_1 : List (S103)) (x1_1 : Int) (x5_1 : Int), v1 = .int .i64 x1_1 ∧ v5 = .int .i64 x5_1 ∧ J0 (laws_markSpanS.l0 kq x0_1 x1_1 x5_1 = some (r1, r2)) ∧ J0 (kq ≤ k) ∧ J0 (Kd.R k103 103 w' w0.heap.size (fun k_ => (P0_ k_ ∨ w.heap.size ≤ k_)) u9000_ x0_1) ∧ J0 (Kept w w' (fun k_ => P0_ k_)) ∧ J0 (Below w0.heap.size w0 w'))
 case atStart => exact ⟨(l0), (a1), (0), rs_, rs_, H', ⟨Nat.le_refl _⟩, ⟨ra_ HO0.o⟩, ⟨by repeat (first | (with_reducible first | exact HK.o | apply Kept.alloc | apply Kept.drewN | apply Kept.drew) | exact HK.o)⟩, ⟨be_ HB.o⟩⟩
 case round =>
  clear H'; obtain ⟨x0_1, x1_1, x5_1, rfl, rfl, HA, HK1, HO_0, HK, HB⟩ := hrel
  cases gk with
  | zero => exact absurd HA.o (by simp [laws_markSpanS.l0])
  | succ k1 =>
   have H := HA.o; clear HA
   simp only [laws_markSpanS.l0] at H
   by_cases c3 : x5_1 < (x0_1.length : Int)
   ·rw [if_pos c3] at H; have c3b0 := dt_ c3; clear c3
    by_cases c4 : 0 ≤ x5_1
    ·rw [if_pos c4] at H; have c4b0 := dt_ c4; clear c4
     obtain ⟨y101, hy101⟩ : ∃ y_ : List (S103), y_ = (x0_1.set (x5_1 : Int).toNat (⟨x1_1, (rd_T103 x0_1 x5_1).f1⟩ : S103)) := ⟨_, rfl⟩
     replace H : (laws_markSpanS.l0 k1 (y101.set (x5_1 : Int).toNat (⟨(rd_T103 y101 x5_1).f0, wrap64 (x1_1 + 1)⟩ : S103)) (wrap64 ((wrap64 (x1_1 + 1)) + 1)) (wrap64 (x5_1 + 1))) = some (r1, r2) := by first | (rw [hy101]; with_reducible exact H) | (have H2_ := (Option.bind_some _ _).symm.trans H; rw [hy101]; with_reducible exact H2_) | (have H2_ := (Option.bind_some _ _).symm.trans H; with_reducible exact H2_) | with_reducible exact H | (rw [hy101]; exact H) | exact H
     have Ny101 := q_ hy101; clear hy101
     obtain ⟨y102, hy102⟩ : ∃ y_ : List (S103), y_ = (y101.set (x5_1 : Int).toNat (⟨(rd_T103 y101 x5_1).f0, wrap64 (x1_1 + 1)⟩ : S103)) := ⟨_, rfl⟩
     replace H : (laws_markSpanS.l0 k1 y102 (wrap64 ((wrap64 (x1_1 + 1)) + 1)) (wrap64 (x5_1 + 1))) = some (r1, r2) := by first | (rw [hy102]; with_reducible exact H) | (have H2_ := (Option.bind_some _ _).symm.trans H; rw [hy102]; with_reducible exact H2_) | (have H2_ := (Option.bind_some _ _).symm.trans H; with_reducible exact H2_) | with_reducible exact H | (rw [hy102]; exact H) | exact H
     have Ny102 := q_ hy102; clear hy102
     have H' := q_ H
     clear H; obtain ⟨Ao7, co7, eo7⟩ := Kd.R_slice HO_0.o; subst eo7
     have p5 : 0 ≤ (x5_1 : Int) := of_decide_eq_true as_
     have q5 : (x5_1 : Int) < ((x0_1.length : Int) : Int) := of_decide_eq_true as_
     obtain ⟨go5, co5, eo5, gb5, gl5, cl5, HG5⟩ := Kd.R_form HO_0.o (by omega)
     (first | cases eo5 | (injection eo5 with ea_ en_ ec_; (first | subst ea_ | (injection ea_ with ea_; subst ea_)); subst ec_; clear en_))
     have GB5 := q_ gb5; have GG5 := q_ HG5; clear gb5 gl5 HG5
     have HMgo5 := q_ (show (P0_ go5 ∨ w.heap.size ≤ go5) from (HO_0.o.1 _ rfl))
     obtain ⟨ce5, hcl5, hM5, hcc5, hfr5⟩ := Kd.R_elem HO_0.o z103 (x5_1 : Int) p5 q5
     obtain rfl := k103_openM hM5
     have hx5_0 : wr.cell? ⟨go5, (x5_1 : Int).toNat * 2, none⟩ = some (.int .i64 ((rd_T103 x0_1 x5_1).f0)) := hcc5 0 _ rfl
     have hx5_1 : wr.cell? ⟨go5, (x5_1 : Int).toNat * 2 + 1, none⟩ = some (.int .i64 ((rd_T103 x0_1 x5_1).f1)) := hcc5 1 _ rfl
     have hf5_0 : wr.frozen? ⟨go5, (x5_1 : Int).toNat * 2, none⟩ = false := hfr5 0
     have hf5_1 : wr.frozen? ⟨go5, (x5_1 : Int).toNat * 2 + 1, none⟩ = false := hfr5 1
     clear hcl5 hcc5 hfr5 hM5; replace p5 := eq_true p5; replace q5 := eq_true q5
     have HX8 := q_ (show Kd.R k103 103 wr w0.heap.size (fun k_ => (P0_ k_ ∨ w.heap.size ≤ k_)) (.slice (some ⟨go5, 0, none⟩) x0_1.length co7) x0_1 from (ra_ HO_0.o))
     obtain ⟨ce8, hcl8, hM8, hcc8, hfr8⟩ := Kd.R_elem HX8.o z103 (x5_1 : Int) (of_decide_eq_true as_) (by have h_ : (x5_1 : Int) < ((x0_1.length : Int) : Int) := of_decide_eq_true as_; first | exact h_ | (have e_ := (Kd.R_reads' HO_0.o).1; omega) | simpa using h_)
     obtain rfl := k103_openM hM8
     have HP8 := Kd.R_seg HX8.o (x5_1 : Int) (of_decide_eq_true as_) (by have h_ : (x5_1 : Int) < ((x0_1.length : Int) : Int) := of_decide_eq_true as_; first | exact h_ | (have e_ := (Kd.R_reads' HO_0.o).1; omega) | simpa using h_) (seg := [.int .i64 x1_1]) (j := 0) hcl8 hcc8 (show 1 ≤ 2 from by decide) (x' := (⟨x1_1, (rd_T103 x0_1 x5_1).f1⟩ : S103)) (k103_mkM _ _ _ (⟨x1_1, (rd_T103 x0_1 x5_1).f1⟩ : S103) ) (fun _ hk => hk)
     have hx8_0 := hcc8 0 _ rfl
     (try simp only [show (k103).sz = 2 from rfl, Nat.mul_one, Nat.add_zero] at hx8_0)
     have hf8_0 := hfr8 0
     (try simp only [show (k103).sz = 2 from rfl, Nat.mul_one, Nat.add_zero] at hf8_0)
     clear hcl8 hcc8 hfr8 hM8
     go_wp2_with (first | ((with_reducible refine gate_store (t := 2) (p := 16) rfl ?_); refine store_event (t := 2) (p := 16) (v := ?vo_w9) (w1 := (wr.setCell ⟨go5, (x5_1 : Int).toNat * 2, none⟩ (.int .i64 x1_1))) ?hg ?ho ?hn ?hr ?_; (case ho => rfl); (case hg => rfl); (case hn => rfl); (case hr => first | (go_simp; done) | (go_simp; rfl)); intro w9 hw; have hg : wr.grownBy w9 (some go5) := (by rw [hw]; exact HP8.2); have hp_ : Kd.R k103 103 w9 w0.heap.size (fun k_ => (P0_ k_ ∨ w.heap.size ≤ k_)) (.slice (some ⟨go5, 0, none⟩) x0_1.length co7) y101 := (by rw [hw, Ny101.o]; exact HP8.1); clear HP8; replace HB := q_ ((by rw [hw]; exact below_set (HB.o) GB5.out : Below w0.heap.size w0 w9)); replace HK := q_ (Kept.of_grown (S := (fun k_ => P0_ k_)) hg (by repeat (first | (with_reducible first | exact HK.o | apply Kept.alloc | apply Kept.drewN | apply Kept.drew) | exact HK.o)) (fun k_ e_ => (HO_0.o.1 k_ e_))); replace HO_0 := q_ (hp_); clear hg hw hp_; have p6 : 0 ≤ (x5_1 : Int) := of_decide_eq_true as_; have q6 : (x5_1 : Int) < ((x0_1.length : Int) : Int) := of_decide_eq_true as_; obtain ⟨ce6, hcl6, hM6, hcc6, hfr6⟩ := Kd.R_elem HO_0.o z103 (x5_1 : Int) p6 q6; obtain rfl := k103_openM hM6; have hx6_0 : w9.cell? ⟨go5, (x5_1 : Int).toNat * 2, none⟩ = some (.int .i64 ((rd_T103 y101 x5_1).f0)) := hcc6 0 _ rfl; have hx6_1 : w9.cell? ⟨go5, (x5_1 : Int).toNat * 2 + 1, none⟩ = some (.int .i64 ((rd_T103 y101 x5_1).f1)) := hcc6 1 _ rfl; have hf6_0 : w9.frozen? ⟨go5, (x5_1 : Int).toNat * 2, none⟩ = false := hfr6 0; have hf6_1 : w9.frozen? ⟨go5, (x5_1 : Int).toNat * 2 + 1, none⟩ = false := hfr6 1; clear hcl6 hcc6 hfr6 hM6; replace p6 := eq_true p6; replace q6 := eq_true q6; have HX10 := q_ (show Kd.R k103 103 w9 w0.heap.size (fun k_ => (P0_ k_ ∨ w.heap.size ≤ k_)) (.slice (some ⟨go5, 0, none⟩) x0_1.length co7) y101 from (ra_ HO_0.o)); obtain ⟨ce10, hcl10, hM10, hcc10, hfr10⟩ := Kd.R_elem HX10.o z103 (x5_1 : Int) (of_decide_eq_true as_) (by have h_ : (x5_1 : Int) < ((x0_1.length : Int) : Int) := of_decide_eq_true as_; first | exact h_ | (have e_ := (Kd.R_reads' HO_0.o).1; omega) | simpa using h_); obtain rfl := k103_openM hM10; have HP10 := Kd.R_seg HX10.o (x5_1 : Int) (of_decide_eq_true as_) (by have h_ : (x5_1 : Int) < ((x0_1.length : Int) : Int) := of_decide_eq_true as_; first | exact h_ | (have e_ := (Kd.R_reads' HO_0.o).1; omega) | simpa using h_) (seg := [.int .i64 (wrap64 (x1_1 + 1))]) (j := 1) hcl10 hcc10 (show 2 ≤ 2 from by decide) (x' := (⟨(rd_T103 y101 x5_1).f0, wrap64 (x1_1 + 1)⟩ : S103)) (k103_mkM _ _ _ (⟨(rd_T103 y101 x5_1).f0, wrap64 (x1_1 + 1)⟩ : S103) ) (fun _ hk => hk); have hx10_1 := hcc10 1 _ rfl; (try simp only [show (k103).sz = 2 from rfl, Nat.mul_one, Nat.add_zero] at hx10_1); have hf10_1 := hfr10 1; (try simp only [show (k103).sz = 2 from rfl, Nat.mul_one, Nat.add_zero] at hf10_1); clear hcl10 hcc10 hfr10 hM10) | ((with_reducible refine gate_store (t := 2) (p := 23) rfl ?_); refine store_event (t := 2) (p := 23) (v := ?vo_w11) (w1 := (w9.setCell ⟨go5, (x5_1 : Int).toNat * 2 + 1, none⟩ (.int .i64 (wrap64 (x1_1 + 1))))) ?hg ?ho ?hn ?hr ?_; (case ho => rfl); (case hg => rfl); (case hn => rfl); (case hr => first | (go_simp; done) | (go_simp; rfl)); intro w11 hw; have hg : w9.grownBy w11 (some go5) := (by rw [hw]; exact HP10.2); have hp_ : Kd.R k103 103 w11 w0.heap.size (fun k_ => (P0_ k_ ∨ w.heap.size ≤ k_)) (.slice (some ⟨go5, 0, none⟩) x0_1.length co7) y102 := (by rw [hw, Ny102.o]; exact HP10.1); clear HP10; replace HB := q_ ((by rw [hw]; exact below_set (HB.o) GB5.out : Below w0.heap.size w0 w11)); replace HK := q_ (Kept.of_grown (S := (fun k_ => P0_ k_)) hg (by repeat (first | (with_reducible first | exact HK.o | apply Kept.alloc | apply Kept.drewN | apply Kept.drew) | exact HK.o)) (fun k_ e_ => (HO_0.o.1 k_ e_))); replace HO_0 := q_ (hp_); clear hg hw hp_))
     go_roundg k1
     case measure => have := HK1.o; omega
     case rel => exact ⟨(y102), (wrap64 ((wrap64 (x1_1 + 1)) + 1)), (wrap64 (x5_1 + 1)), rs_, rs_, H', ⟨by have := HK1.o; omega⟩, ⟨ra_ HO_0.o⟩, ⟨by repeat (first | (with_reducible first | exact HK.o | apply Kept.alloc | apply Kept.drewN | apply Kept.drew) | exact HK.o)⟩, ⟨be_ HB.o⟩⟩
    ·rw [if_neg c4] at H
     exact absurd H (by simp)
   ·rw [if_neg c3] at H; have c3b0 := df_ c3; clear c3
    simp only [Option.some.injEq, Prod.mk.injEq] at H
    obtain ⟨rfl, rfl⟩ := H; obtain ⟨Ao12, co12, eo12⟩ := Kd.R_slice HO_0.o; subst eo12
    go_wp2
    go_ret
    exact ⟨rt_, ra_ HO_0.o, be_ HB.o, by repeat (first | (with_reducible first | exact HK.o | apply Kept.alloc | apply Kept.drewN | apply Kept.drew) | exact HK.o)⟩
/-! ### laws_heldSpanS: function 24 -/
def laws_heldSpanS.l0 : Nat → List (S103) → Int → Int → Option (Int)
 | 0, _, _, _ => none
 | k + 1, x0, x1, x5 => if x5 < (x0.length : Int) then (if 0 ≤ x5 then (if ((rd_T103 x0 x5).f0) = x1 then (if ((rd_T103 x0 x5).f1) = (wrap64 (x1 + 1)) then (laws_heldSpanS.l0 k x0 (wrap64 ((wrap64 (x1 + 1)) + 1)) (wrap64 (x5 + 1))) else (some (-1))) else (some (-1))) else (none)) else (some x1)
def laws_heldSpanS.f (k : Nat) (l0 : List (S103)) (a1 : Int) : Option (Int) := laws_heldSpanS.l0 k l0 a1 0
theorem laws_heldSpanS.calls (k : Nat) (A0 : Option Addr) (c0 : Nat) (l0 : List (S103)) (a1 : Int) (r : Int) (w : World) (hr0 : Kd.C k103 w A0 l0.length l0) (hc0 : l0.length ≤ c0) (h : laws_heldSpanS.f k l0 a1 = some r) :
  Calls Try.prog 24 #[.slice A0 l0.length c0, .int .i64 a1] w fun e w' => e = .returned (.int .i64 r) ∧ Drawn0 w w' := by
 have HR0 := q_ hr0; have HC0 := q_ hc0; clear hr0 hc0
 have H : (laws_heldSpanS.l0 k l0 a1 0) = some r := h
 clear h
 have H' := q_ H
 clear H
 go_enter Try.func24, Try.ntmps24
 go_wp2
 go_loopg [1, 5] k (fun kq v1 v5 w' => ∃ (x1_1 : Int) (x5_1 : Int), v1 = .int .i64 x1_1 ∧ v5 = .int .i64 x5_1 ∧ J0 (laws_heldSpanS.l0 kq l0 x1_1 x5_1 = some r) ∧ J0 (kq ≤ k) ∧ Drawn0 w w')
 case atStart => exact ⟨(a1), (0), rs_, rs_, H', ⟨Nat.le_refl _⟩, by repeat (first | exact Drawn0.refl _ | apply Drawn0.step)⟩
 case round =>
  clear H'
  obtain ⟨x1_1, x5_1, rfl, rfl, HA, HK1, ⟨m1, rfl⟩⟩ := hrel
  cases gk with
  | zero => exact absurd HA.o (by simp [laws_heldSpanS.l0])
  | succ k1 =>
   have H := HA.o; clear HA
   simp only [laws_heldSpanS.l0] at H
   by_cases c3 : x5_1 < (l0.length : Int)
   ·rw [if_pos c3] at H; have c3b0 := dt_ c3; clear c3
    by_cases c4 : 0 ≤ x5_1
    ·rw [if_pos c4] at H; have c4b0 := dt_ c4; clear c4
     by_cases c5 : ((rd_T103 l0 x5_1).f0) = x1_1
     ·rw [if_pos c5] at H
      have c5b0 : (((rd_T103 l0 x5_1).f0) == x1_1) = true := beq_iff_eq.mpr c5
      have c5b1 : (((rd_T103 l0 x5_1).f0) != x1_1) = false := bne_eq_false_iff_eq.mpr c5
      clear c5
      by_cases c6 : ((rd_T103 l0 x5_1).f1) = (wrap64 (x1_1 + 1))
      ·rw [if_pos c6] at H
       have c6b0 : (((rd_T103 l0 x5_1).f1) == (wrap64 (x1_1 + 1))) = true := beq_iff_eq.mpr c6
       have c6b1 : (((rd_T103 l0 x5_1).f1) != (wrap64 (x1_1 + 1))) = false := bne_eq_false_iff_eq.mpr c6
       clear c6
       have H' := q_ H
       clear H
       have p101 : 0 ≤ (x5_1 : Int) := of_decide_eq_true as_
       have q101 : x5_1 < (l0.length : Int) := of_decide_eq_true as_
       obtain ⟨ad101, e101, hx101_0, hx101_1⟩ := at_T103 HR0.o x5_1 p101 q101
       cases e101
       replace p101 := eq_true p101; replace q101 := eq_true q101
       go_wp2
       go_roundg k1
       case measure => have := HK1.o; omega
       case rel => exact ⟨(wrap64 ((wrap64 (x1_1 + 1)) + 1)), (wrap64 (x5_1 + 1)), rs_, rs_, H', ⟨by have := HK1.o; omega⟩, by repeat (first | exact Drawn0.refl _ | apply Drawn0.step)⟩
      ·rw [if_neg c6] at H
       have c6b0 : (((rd_T103 l0 x5_1).f1) == (wrap64 (x1_1 + 1))) = false := beq_eq_false_iff_ne.mpr c6
       have c6b1 : (((rd_T103 l0 x5_1).f1) != (wrap64 (x1_1 + 1))) = true := bne_iff_ne.mpr c6
       obtain rfl := Option.some.inj H
       have p101 : 0 ≤ (x5_1 : Int) := of_decide_eq_true as_
       have q101 : x5_1 < (l0.length : Int) := of_decide_eq_true as_
       obtain ⟨ad101, e101, hx101_0, hx101_1⟩ := at_T103 HR0.o x5_1 p101 q101
       cases e101
       replace p101 := eq_true p101; replace q101 := eq_true q101
       go_wp2
       go_ret
       exact ⟨by first | rfl | (simp; done) | (simp [*]; done), by repeat (first | exact Drawn0.refl _ | apply Drawn0.step)⟩
     ·rw [if_neg c5] at H
      have c5b0 : (((rd_T103 l0 x5_1).f0) == x1_1) = false := beq_eq_false_iff_ne.mpr c5
      have c5b1 : (((rd_T103 l0 x5_1).f0) != x1_1) = true := bne_iff_ne.mpr c5
      obtain rfl := Option.some.inj H
      have p101 : 0 ≤ (x5_1 : Int) := of_decide_eq_true as_
      have q101 : x5_1 < (l0.length : Int) := of_decide_eq_true as_
      obtain ⟨ad101, e101, hx101_0, hx101_1⟩ := at_T103 HR0.o x5_1 p101 q101
      cases e101
      replace p101 := eq_true p101; replace q101 := eq_true q101
      go_wp2
      go_ret
      exact ⟨by first | rfl | (simp; done) | (simp [*]; done), by repeat (first | exact Drawn0.refl _ | apply Drawn0.step)⟩
    ·rw [if_neg c4] at H
     exact absurd H (by simp)
   ·rw [if_neg c3] at H; have c3b0 := df_ c3; clear c3; obtain rfl := Option.some.inj H
    go_wp2
    go_ret
    exact ⟨by first | rfl | (simp; done) | (simp [*]; done), by repeat (first | exact Drawn0.refl _ | apply Drawn0.step)⟩
end Go.Proofs.Ytijmhelacmjggaa.P
namespace Go.Proofs.Ytijmhelacmjggaa.P
open Go.RowKit Go.Proofs.YtijmhelacmjggaaW.PrintWords Go.Proofs.YtijmhelacmjggaaW.PrintLast Go.Proofs.YtijmhelacmjggaaEv
set_option linter.unusedVariables false
set_option linter.unusedSimpArgs false
def mkSpan (a : Int) (j : Nat) : S103 := ⟨a + 2 * (j : Int), a + 2 * (j : Int) + 1⟩
theorem rd_T103_set (l : List S103) (i : Nat) (v : S103) (h : i < l.length) : rd_T103 (l.set i v) (i : Int) = v := by
  simp [rd_T103, h]
theorem laws_markSpanS_ev (l : List S103) (a : Int) (h0 : 0 ≤ a) (h1 : a + 2 * l.length ≤ 9000000000000000000) : Ev (fun k => laws_markSpanS.f k l a) (a + 2 * l.length, (List.range l.length).map (mkSpan a)) := by
  unfold laws_markSpanS.f
  have h := ev_loop l.length (fun k i => laws_markSpanS.l0 k (marked (mkSpan a) l i) (a + 2 * (i : Int)) (i : Nat)) (fun _ => (a + 2 * l.length, (List.range l.length).map (mkSpan a))) ?_ ?_ 0 (by omega)
  · simpa [marked] using h
  · rw [ev_succ]
    simp [laws_markSpanS.l0, ev_some, marked]
  · intro i hi ih
    rw [ev_succ]
    have hl : (marked (mkSpan a) l i).length = l.length := marked_length _ _ _ (by omega)
    simp only [laws_markSpanS.l0, Option.bind_some, ev_ite, hl, Int.toNat_natCast]
    rw [if_pos (by omega), if_pos (by omega)]
    simp only [rd_T103_set, List.length_set, hl, hi, List.set_set]
    rw [wrap_succ hi (by omega)]
    have e : ∀ x : Int, 0 ≤ x → x ≤ 9000000000000000100 → wrap64 (x + 1) = x + 1 := fun x hx hy => wrap_id (by omega) (by omega)
    rw [e _ (by omega) (by omega)]
    repeat rw [e _ (by omega) (by omega)]
    have hm := marked_set (mkSpan a) l i hi
    have ih' : Ev (fun k => laws_markSpanS.l0 k (marked (mkSpan a) l (i + 1)) (a + 2 * ((i + 1 : Nat) : Int)) ((i + 1 : Nat) : Int)) _ := ih
    rw [← hm, show a + 2 * ((i + 1 : Nat) : Int) = a + 2 * (i : Int) + 2 by omega] at ih'
    simpa [mkSpan, Int.add_assoc] using ih'
theorem laws_heldSpanS_ev (n : Nat) (a : Int) (h0 : 0 ≤ a) (h1 : a + 2 * n ≤ 9000000000000000000) : Ev (fun k => laws_heldSpanS.f k ((List.range n).map (mkSpan a)) a) (a + 2 * n) := by
  unfold laws_heldSpanS.f
  have h := ev_loop n (fun k i => laws_heldSpanS.l0 k ((List.range n).map (mkSpan a)) (a + 2 * (i : Int)) (i : Nat)) (fun _ => a + 2 * n) ?_ ?_ 0 (by omega)
  · simpa using h
  · rw [ev_succ]
    simp [laws_heldSpanS.l0, ev_some]
  · intro i hi ih
    rw [ev_succ]
    have hr : rd_T103 ((List.range n).map (mkSpan a)) (i : Int) = mkSpan a i := by simp [rd_T103, hi]
    have e : ∀ x : Int, 0 ≤ x → x ≤ 9000000000000000100 → wrap64 (x + 1) = x + 1 := fun x hx hy => wrap_id (by omega) (by omega)
    simp only [laws_heldSpanS.l0, ev_ite, hr, mkSpan, List.length_map, List.length_range]
    rw [if_pos (by omega), if_pos (by omega), wrap_succ hi (by omega)]
    repeat rw [e _ (by omega) (by omega)]
    have ih' : Ev (fun k => laws_heldSpanS.l0 k ((List.range n).map (mkSpan a)) (a + 2 * ((i + 1 : Nat) : Int)) ((i + 1 : Nat) : Int)) _ := ih
    rw [show a + 2 * ((i + 1 : Nat) : Int) = a + 2 * (i : Int) + 2 by omega] at ih'
    simpa [Int.add_assoc] using ih'
end Go.Proofs.Ytijmhelacmjggaa.P
namespace Go.Proofs.Ytijmhelacmjggaa.P
open Go.RowKit Go.Proofs.YtijmhelacmjggaaW.PrintWords Go.Proofs.YtijmhelacmjggaaW.PrintLast Go.Proofs.YtijmhelacmjggaaW.PrintMore Go.Proofs.YtijmhelacmjggaaEv
set_option linter.unusedVariables false
set_option linter.unusedSimpArgs false
def sk : Value → Value → Prop
  | .int k _, .int k' _ => k = k'
  | .string _, .string _ => True
  | .bool _, .bool _ => True
  | v, v' => v' = v
theorem sk_refl (v : Value) : sk v v := by
  cases v <;> simp [sk]
theorem sk_int {k : IntKind} {x : Int} {u : Value} (h : sk (.int k x) u) : ∃ y, u = .int k y := by
  cases u with
  | int k' y => simp [sk] at h; exact ⟨y, by rw [h]⟩
  | _ => simp [sk] at h
theorem sk_string {x : ByteArray} {u : Value} (h : sk (.string x) u) : ∃ y, u = .string y := by
  cases u with
  | string y => exact ⟨y, rfl⟩
  | _ => simp [sk] at h
theorem sk_bool {x : Bool} {u : Value} (h : sk (.bool x) u) : ∃ y, u = .bool y := by
  cases u with
  | bool y => exact ⟨y, rfl⟩
  | _ => simp [sk] at h
theorem sk_slice {A : Option Addr} {n c : Nat} {u : Value} (h : sk (.slice A n c) u) : u = .slice A n c := by
  cases u <;> exact h
theorem sk_trans {u v x : Value} (h : sk u v) (h2 : sk v x) : sk u x := by
  cases u with
  | int k a =>
    obtain ⟨b, rfl⟩ := sk_int h
    obtain ⟨c, rfl⟩ := sk_int h2
    simp [sk]
  | string a =>
    obtain ⟨b, rfl⟩ := sk_string h
    obtain ⟨c, rfl⟩ := sk_string h2
    simp [sk]
  | bool a =>
    obtain ⟨b, rfl⟩ := sk_bool h
    obtain ⟨c, rfl⟩ := sk_bool h2
    simp [sk]
  | _ =>
    have e : v = _ := h
    subst e
    exact h2
structure Like (w w' : World) : Prop where
  size : w.heap.size ≤ w'.heap.size
  block : ∀ (g : Nat) (cs : Array Value) (t : TypeId), w.heap[g]? = some (.cells cs t (0, 0)) → ∃ cs' : Array Value, w'.heap[g]? = some (.cells cs' t (0, 0)) ∧ cs'.size = cs.size ∧ ∀ (i : Nat) u, cs[i]? = some u → ∃ u', cs'[i]? = some u' ∧ sk u u'
theorem Like.refl (w : World) : Like w w := ⟨Nat.le_refl _, fun g cs t h => ⟨cs, h, rfl, fun i u hu => ⟨u, hu, sk_refl u⟩⟩⟩
theorem Like.trans {w w1 w2 : World} (h : Like w w1) (k : Like w1 w2) : Like w w2 := ⟨Nat.le_trans h.size k.size, fun g cs t hb => by
  obtain ⟨cs1, hb1, hs1, hc1⟩ := h.block g cs t hb
  obtain ⟨cs2, hb2, hs2, hc2⟩ := k.block g cs1 t hb1
  refine ⟨cs2, hb2, hs2.trans hs1, fun i u hu => ?_⟩
  obtain ⟨u1, hu1, k1⟩ := hc1 i u hu
  obtain ⟨u2, hu2, k2⟩ := hc2 i u1 hu1
  exact ⟨u2, hu2, sk_trans k1 k2⟩⟩
theorem Like.below {w w1 w2 : World} (h : Like w w1) (hb : Below w1.heap.size w1 w2) : Like w w2 := h.trans ⟨hb.size, fun g cs t hg => ⟨cs, blk_below hg hb, rfl, fun i u hu => ⟨u, hu, sk_refl u⟩⟩⟩
theorem Like.set {w w1 : World} (h : Like w w1) {g i : Nat} {t : TypeId} {cs : Array Value} {u u' : Value} (hg : w1.heap[g]? = some (.cells cs t (0, 0))) (hc : w1.cell? ⟨g, i, none⟩ = some u) (hs : sk u u') : Like w (w1.setCell ⟨g, i, none⟩ u') := h.trans ⟨by simp [World.setCell], fun b cs2 t2 hb => by
  by_cases e : b = g
  · subst e
    rw [hg] at hb
    injection hb with hb
    injection hb with e1 e2
    subst e1
    subst e2
    refine ⟨_, blk_set hg i u', by simp, fun j x hx => ?_⟩
    rw [blk_cell hg i] at hc
    by_cases e2 : i = j
    · subst e2
      have hu : x = u := by rw [hc] at hx; injection hx with hx; exact hx.symm
      have hi : i < cs.size := (Array.getElem?_eq_some_iff.1 hc).1
      exact ⟨u', by simp [Array.getElem?_setIfInBounds, hi], by rw [hu]; exact hs⟩
    · exact ⟨x, by rw [Array.getElem?_setIfInBounds_ne e2]; exact hx, sk_refl x⟩
  · exact ⟨cs2, blk_far hb e u', rfl, fun j x hx => ⟨x, hx, sk_refl x⟩⟩⟩
theorem Like.cell {w w1 : World} (h : Like w w1) {g i : Nat} {t : TypeId} {cs : Array Value} {u : Value} (hg : w.heap[g]? = some (.cells cs t (0, 0))) (hc : w.cell? ⟨g, i, none⟩ = some u) : ∃ u', w1.cell? ⟨g, i, none⟩ = some u' ∧ sk u u' ∧ w1.frozen? ⟨g, i, none⟩ = false ∧ ∃ cs', w1.heap[g]? = some (.cells cs' t (0, 0)) := by
  obtain ⟨cs', hb, _, hcc⟩ := h.block g cs t hg
  rw [blk_cell hg i] at hc
  obtain ⟨u', hu, k⟩ := hcc i u hc
  exact ⟨u', (blk_cell hb i).trans hu, k, blk_frozen hb i, cs', hb⟩
theorem like_int {w w1 : World} {g i : Nat} {t : TypeId} {cs : Array Value} {k : IntKind} {x : Int} (h : Like w w1) (hg : w.heap[g]? = some (.cells cs t (0, 0))) (hc : w.cell? ⟨g, i, none⟩ = some (.int k x)) : ∃ y, w1.cell? ⟨g, i, none⟩ = some (.int k y) ∧ w1.frozen? ⟨g, i, none⟩ = false := by
  obtain ⟨u, h1, h2, h3, _⟩ := h.cell hg hc
  obtain ⟨y, rfl⟩ := sk_int h2
  exact ⟨y, h1, h3⟩
theorem like_string {w w1 : World} {g i : Nat} {t : TypeId} {cs : Array Value} {x : ByteArray} (h : Like w w1) (hg : w.heap[g]? = some (.cells cs t (0, 0))) (hc : w.cell? ⟨g, i, none⟩ = some (.string x)) : ∃ y, w1.cell? ⟨g, i, none⟩ = some (.string y) ∧ w1.frozen? ⟨g, i, none⟩ = false := by
  obtain ⟨u, h1, h2, h3, _⟩ := h.cell hg hc
  obtain ⟨y, rfl⟩ := sk_string h2
  exact ⟨y, h1, h3⟩
theorem like_bool {w w1 : World} {g i : Nat} {t : TypeId} {cs : Array Value} {x : Bool} (h : Like w w1) (hg : w.heap[g]? = some (.cells cs t (0, 0))) (hc : w.cell? ⟨g, i, none⟩ = some (.bool x)) : ∃ y, w1.cell? ⟨g, i, none⟩ = some (.bool y) ∧ w1.frozen? ⟨g, i, none⟩ = false := by
  obtain ⟨u, h1, h2, h3, _⟩ := h.cell hg hc
  obtain ⟨y, rfl⟩ := sk_bool h2
  exact ⟨y, h1, h3⟩
theorem like_slice {w w1 : World} {g i : Nat} {t : TypeId} {cs : Array Value} {A : Option Addr} {n c : Nat} (h : Like w w1) (hg : w.heap[g]? = some (.cells cs t (0, 0))) (hc : w.cell? ⟨g, i, none⟩ = some (.slice A n c)) : w1.cell? ⟨g, i, none⟩ = some (.slice A n c) := by
  obtain ⟨u, h1, h2, _⟩ := h.cell hg hc
  rw [h1, sk_slice h2]
theorem Like.put_int {w w1 : World} {g i : Nat} {t : TypeId} {cs : Array Value} {k : IntKind} {x y : Int} (h : Like w w1) (hg : w.heap[g]? = some (.cells cs t (0, 0))) (hc : w.cell? ⟨g, i, none⟩ = some (.int k x)) : Like w (w1.setCell ⟨g, i, none⟩ (.int k y)) := by
  obtain ⟨u, h1, h2, h3, cs', h4⟩ := h.cell hg hc
  obtain ⟨z, rfl⟩ := sk_int h2
  exact h.set h4 h1 rfl
theorem Like.put_string {w w1 : World} {g i : Nat} {t : TypeId} {cs : Array Value} {x y : ByteArray} (h : Like w w1) (hg : w.heap[g]? = some (.cells cs t (0, 0))) (hc : w.cell? ⟨g, i, none⟩ = some (.string x)) : Like w (w1.setCell ⟨g, i, none⟩ (.string y)) := by
  obtain ⟨u, h1, h2, h3, cs', h4⟩ := h.cell hg hc
  obtain ⟨z, rfl⟩ := sk_string h2
  exact h.set h4 h1 trivial
theorem Like.put_bool {w w1 : World} {g i : Nat} {t : TypeId} {cs : Array Value} {x y : Bool} (h : Like w w1) (hg : w.heap[g]? = some (.cells cs t (0, 0))) (hc : w.cell? ⟨g, i, none⟩ = some (.bool x)) : Like w (w1.setCell ⟨g, i, none⟩ (.bool y)) := by
  obtain ⟨u, h1, h2, h3, cs', h4⟩ := h.cell hg hc
  obtain ⟨z, rfl⟩ := sk_bool h2
  exact h.set h4 h1 trivial
def sks (cs cs' : List Value) : Prop := cs'.length = cs.length ∧ ∀ (i : Nat) u, cs[i]? = some u → ∃ u', cs'[i]? = some u' ∧ sk u u'
theorem sks_one {u : Value} {cs' : List Value} (h : sks [u] cs') : ∃ u', cs' = [u'] ∧ sk u u' := by
  obtain ⟨h1, h2⟩ := h
  obtain ⟨u', h3, h4⟩ := h2 0 u rfl
  match cs', h1, h3 with
  | [x], _, h3 => exact ⟨x, rfl, by injection h3 with h3; rw [h3]; exact h4⟩
theorem sks_append {a b cs' : List Value} (h : sks (a ++ b) cs') : ∃ a' b', cs' = a' ++ b' ∧ sks a a' ∧ sks b b' := by
  obtain ⟨h1, h2⟩ := h
  rw [List.length_append] at h1
  refine ⟨cs'.take a.length, cs'.drop a.length, (List.take_append_drop _ _).symm, ⟨by rw [List.length_take]; omega, fun i u hu => ?_⟩, ⟨by rw [List.length_drop]; omega, fun i u hu => ?_⟩⟩
  · have hi : i < a.length := (List.getElem?_eq_some_iff.1 hu).1
    obtain ⟨u', h3, h4⟩ := h2 i u (by rw [List.getElem?_append_left hi]; exact hu)
    exact ⟨u', by rw [List.getElem?_take_of_lt hi]; exact h3, h4⟩
  · obtain ⟨u', h3, h4⟩ := h2 (a.length + i) u (by rw [List.getElem?_append_right (by omega)]; simpa using hu)
    exact ⟨u', by rw [List.getElem?_drop]; exact h3, h4⟩
def sumN {α : Type} (m : α → Nat) : List α → Nat
  | [] => 0
  | x :: xs => m x + sumN m xs
theorem sumN_len {α : Type} (m : α → Nat) (h : ∀ x, 1 ≤ m x) : ∀ l : List α, l.length ≤ sumN m l
  | [] => Nat.le_refl _
  | x :: xs => by have := sumN_len m h xs; have := h x; simp only [sumN, List.length_cons]; omega
theorem sumN_take {α : Type} (m : α → Nat) : ∀ (l : List α) (i : Nat) (h : i < l.length), sumN m (l.take (i + 1)) = sumN m (l.take i) + m l[i]
  | x :: xs, 0, _ => by simp [sumN]
  | x :: xs, i + 1, h => by
    simp only [List.take_succ_cons, sumN, List.getElem_cons_succ]
    rw [sumN_take m xs i (by simpa using h)]
    omega
theorem sumN_le {α : Type} (m : α → Nat) (l : List α) (i : Nat) : sumN m (l.take i) ≤ sumN m l := by
  induction l generalizing i with
  | nil => simp [sumN]
  | cons x xs ih =>
    cases i with
    | zero => simp [sumN]
    | succ i => simp only [List.take_succ_cons, sumN]; have := ih i; omega
theorem sumN_map {α : Type} (m : α → Nat) : ∀ l l' : List α, l'.map m = l.map m → sumN m l' = sumN m l
  | [], [], _ => rfl
  | x :: xs, [], h => by simp at h
  | [], x :: xs, h => by simp at h
  | x :: xs, y :: ys, h => by
    simp only [List.map_cons, List.cons.injEq] at h
    simp only [sumN, h.1, sumN_map m xs ys h.2]
def Keeps {α : Type} (d : Kd α) (m : α → Nat) : Prop := ∀ {w w' : World} {base : Nat} {ok : Nat → Prop} {x : α} {cs cs' : List Value}, Like w w' → d.M w base ok x cs → sks cs cs' → ∃ x', d.M w' base ok x' cs' ∧ m x' = m x
theorem like_list {α : Type} (P : Nat → α → Prop) : ∀ n : Nat, (∀ i, i < n → ∃ x, P i x) → ∃ l : List α, l.length = n ∧ ∀ i x, l[i]? = some x → P i x
  | 0, _ => ⟨[], rfl, fun i x h => by simp at h⟩
  | n + 1, h => by
    obtain ⟨l, hl, hp⟩ := like_list P n (fun i hi => h i (by omega))
    obtain ⟨x, hx⟩ := h n (by omega)
    refine ⟨l ++ [x], by simp [hl], fun i y hy => ?_⟩
    by_cases hi : i < n
    · rw [List.getElem?_append_left (by omega)] at hy
      exact hp i y hy
    · have hlt : i < (l ++ [x]).length := (List.getElem?_eq_some_iff.1 hy).1
      have e : i = n := by simp at hlt; omega
      subst e
      rw [List.getElem?_append_right (by omega), hl, Nat.sub_self] at hy
      injection hy with hy
      rw [← hy]
      exact hx
theorem R_like {α : Type} {d : Kd α} {m : α → Nat} (hd : Keeps d m) {e : Nat} {w w' : World} {base : Nat} {ok : Nat → Prop} {v : Value} {xs : List α} (h : d.R e w base ok v xs) (hl : Like w w') : ∃ xs', d.R e w' base ok v xs' ∧ xs'.map m = xs.map m := by
  obtain ⟨h0, inner, ⟨hi, ho⟩, hr⟩ := h
  rcases ho with ⟨rfl, hn⟩ | ⟨g, cap, cur, rfl, hg, hh, hnc, hcm, hcs, htk⟩
  · have : xs = [] := List.length_eq_zero_iff.1 hn
    subst this
    exact ⟨[], Kd.R_nil _ _ _ _ _, rfl⟩
  · obtain ⟨cur', hh', hs', hc'⟩ := hl.block g cur e hh
    have hsk : sks inner (cur'.toList.take (xs.length * d.sz)) := by
      rw [← htk]
      refine ⟨by simp [hs'], fun i u hu => ?_⟩
      have hlt : i < xs.length * d.sz := by
        have := (List.getElem?_eq_some_iff.1 hu).1
        rw [List.length_take] at this
        omega
      rw [List.getElem?_take_of_lt hlt] at hu ⊢
      obtain ⟨u', h1, h2⟩ := hc' i u (by simpa using hu)
      exact ⟨u', by simpa using h1, h2⟩
    have hx : ∀ i, i < xs.length → ∃ x', d.M w' base (fun k => ok k ∧ some k ≠ (Value.slice (some ⟨g, 0, none⟩) xs.length cap).ownBlock) x' (((cur'.toList.take (xs.length * d.sz)).drop (i * d.sz)).take d.sz) ∧ (∃ x, xs[i]? = some x ∧ m x' = m x) := by
      intro i hi2
      obtain ⟨x', h1, h2⟩ := hd hl (hr.2 i xs[i] (List.getElem?_eq_getElem hi2)) (cs' := ((cur'.toList.take (xs.length * d.sz)).drop (i * d.sz)).take d.sz) (by
        obtain ⟨s1, s2⟩ := hsk
        refine ⟨by simp only [List.length_take, List.length_drop] at s1 ⊢; omega, fun j u hu => ?_⟩
        have hj : j < d.sz := by
          have := (List.getElem?_eq_some_iff.1 hu).1
          rw [List.length_take] at this
          omega
        rw [List.getElem?_take_of_lt hj, List.getElem?_drop] at hu ⊢
        exact s2 _ u hu)
      exact ⟨x', h1, xs[i], List.getElem?_eq_getElem hi2, h2⟩
    obtain ⟨xs', hlen, hp⟩ := like_list _ xs.length hx
    refine ⟨xs', ⟨?_, cur'.toList.take (xs.length * d.sz), ⟨?_, .inr ⟨g, cap, cur', by rw [hlen], hg, hh', by rw [hlen]; exact hnc, hcm, by rw [hs', hcs], by rw [hlen]⟩⟩, ⟨?_, fun j p hj => (hp j p hj).1⟩⟩, ?_⟩
    · intro k hk
      exact h0 k hk
    · rw [hlen]
      exact hsk.1.trans hi
    · rw [hlen]
      exact hsk.1.trans hi
    · apply List.ext_getElem?
      intro i
      rw [List.getElem?_map, List.getElem?_map]
      by_cases hi2 : i < xs.length
      · obtain ⟨_, x, h1, h2⟩ := hp i xs'[i] (List.getElem?_eq_getElem (by omega))
        rw [List.getElem?_eq_getElem (by omega : i < xs'.length), h1]
        simp [h2]
      · rw [List.getElem?_eq_none (by omega), List.getElem?_eq_none (by omega)]
theorem keeps_int (k : IntKind) : Keeps (Kd.int k) (fun _ => 1) := by
  intro w w' base ok x cs cs' hl hM hs
  have e : cs = [.int k x] := hM
  subst e
  obtain ⟨u, rfl, hu⟩ := sks_one hs
  obtain ⟨y, rfl⟩ := sk_int hu
  exact ⟨y, rfl, rfl⟩
theorem keeps_string : Keeps Kd.string (fun _ => 1) := by
  intro w w' base ok x cs cs' hl hM hs
  have e : cs = [.string x] := hM
  subst e
  obtain ⟨u, rfl, hu⟩ := sks_one hs
  obtain ⟨y, rfl⟩ := sk_string hu
  exact ⟨y, rfl, rfl⟩
theorem keeps_bool : Keeps Kd.bool (fun _ => 1) := by
  intro w w' base ok x cs cs' hl hM hs
  have e : cs = [.bool x] := hM
  subst e
  obtain ⟨u, rfl, hu⟩ := sks_one hs
  obtain ⟨y, rfl⟩ := sk_bool hu
  exact ⟨y, rfl, rfl⟩
theorem keeps_pair {α β : Type} {a : Kd α} {b : Kd β} {m : α → Nat} {n : β → Nat} (ha : Keeps a m) (hb : Keeps b n) : Keeps (Kd.pair a b) (fun x => m x.1 + n x.2) := by
  intro w w' base ok x cs cs' hl hM hs
  obtain ⟨c0, c1, rfl, h0, h1⟩ := hM
  obtain ⟨a', b', rfl, s0, s1⟩ := sks_append hs
  obtain ⟨x0, k0, e0⟩ := ha hl h0 s0
  obtain ⟨x1, k1, e1⟩ := hb hl h1 s1
  exact ⟨(x0, x1), ⟨a', b', rfl, k0, k1⟩, by simp only [e0, e1]⟩
theorem keeps_slice {α : Type} {d : Kd α} {m : α → Nat} (hd : Keeps d m) (e : Nat) : Keeps (Kd.slice e d) (sumN m) := by
  intro w w' base ok x cs cs' hl hM hs
  obtain ⟨v, rfl, h⟩ := hM
  obtain ⟨u, rfl, hu⟩ := sks_one hs
  obtain ⟨A, c, rfl⟩ := Kd.R_slice h
  have e2 := sk_slice hu
  subst e2
  obtain ⟨xs', h1, h2⟩ := R_like hd h hl
  exact ⟨xs', ⟨_, rfl, h1⟩, sumN_map m _ _ h2⟩
theorem keeps_iso {α β : Type} {d : Kd α} {m : α → Nat} (hd : Keeps d m) (f : β → α) (g : α → β) (hfg : ∀ y, f (g y) = y) : Keeps (Kd.iso d f) (fun x => m (f x)) := by
  intro w w' base ok x cs cs' hl hM hs
  obtain ⟨y, h1, h2⟩ := hd hl (show d.M w base ok (f x) cs from hM) hs
  exact ⟨g y, show d.M w' base ok (f (g y)) cs' by rw [hfg]; exact h1, by show m (f (g y)) = m (f x); rw [hfg]; exact h2⟩
theorem R_at {α : Type} {d : Kd α} {e : Nat} {w : World} {base : Nat} {ok : Nat → Prop} {g n c : Nat} {xs : List α} (h : d.R e w base ok (.slice (some ⟨g, 0, none⟩) n c) xs) (i : Nat) (hi : i < xs.length) : ∃ cs, ∃ cur : Array Value, d.M w base ok xs[i] cs ∧ (∀ (j : Nat) u, cs[j]? = some u → w.cell? ⟨g, i * d.sz + j, none⟩ = some u) ∧ w.heap[g]? = some (.cells cur e (0, 0)) ∧ ok g ∧ base ≤ g := by
  obtain ⟨h0, inner, ⟨hl, ho⟩, hr⟩ := h
  rcases ho with ⟨he, _⟩ | ⟨g2, cap, cur, he, hg, hh, hnc, hcm, hcs, htk⟩
  · exact absurd he (by simp)
  · injection he with e1 e2 e3
    injection e1 with e1
    injection e1 with e1
    subst e1
    refine ⟨_, cur, d.M_mono (fun _ hk => hk.1) (hr.2 i xs[i] (List.getElem?_eq_getElem hi)), fun j u hu => ?_, hh, h0 g (by simp [Value.ownBlock]), hg⟩
    rw [blk_cell hh, ← Array.getElem?_toList]
    have hj : j < d.sz := by
      have := (List.getElem?_eq_some_iff.1 hu).1
      rw [List.length_take] at this
      omega
    rw [List.getElem?_take_of_lt hj, List.getElem?_drop, ← htk] at hu
    have hlt := (List.getElem?_eq_some_iff.1 hu).1
    rw [List.length_take] at hlt
    rw [List.getElem?_take_of_lt (by omega)] at hu
    exact hu
end Go.Proofs.Ytijmhelacmjggaa.P
namespace Go.Proofs.Ytijmhelacmjggaa.P
set_option linter.unusedVariables false
set_option linter.unusedSimpArgs false
open Go.RowKit Go.Proofs.YtijmhelacmjggaaW.PrintWords Go.Proofs.YtijmhelacmjggaaW.PrintLast Go.Proofs.YtijmhelacmjggaaW.PrintMore Go.Proofs.YtijmhelacmjggaaEv
def nm_Span (x : S103) : Nat := 1 + 1
theorem one_Span (x : S103) : 1 ≤ nm_Span x := by
  unfold nm_Span
  omega
theorem keeps_Span : Keeps k103 nm_Span := keeps_iso (keeps_pair (keeps_int _) (keeps_int _)) _ (fun y => ⟨y.1, y.2⟩) (fun _ => rfl)
theorem markSpanS_walk (P_ : Nat → Prop) (u : Value) (l0 : List S103) (a1 : Int) (n : Nat) (hn : sumN nm_Span l0 = n) (h0 : 0 ≤ a1) (h1 : a1 + n ≤ 9000000000000000000) (w0 w : World) (hB : Below w0.heap.size w0 w) (ho0 : Kd.R k103 103 w w0.heap.size P_ u l0) :
    Calls Try.prog 23 #[u, .int .i64 a1] w fun e w' => e = .returned (.int .i64 (a1 + n)) ∧ Like w w' ∧ Below w0.heap.size w0 w' ∧ Kept w w' P_ := by
  have hlen := sumN_len nm_Span one_Span l0
  obtain ⟨A, c, rfl⟩ := Kd.R_slice ho0
  have HO := q_ ho0
  have HB := q_ hB
  clear ho0 hB
  go_enter Try.func23, Try.ntmps23
  go_wp2
  go_loopg [1, 5] l0.length (fun gg v1 v5 w' => ∃ kk : Nat, kk ≤ l0.length ∧ l0.length - kk ≤ gg ∧ v1 = .int .i64 (a1 + (sumN nm_Span (l0.take kk) : Nat)) ∧ v5 = .int .i64 kk ∧ J0 (Like w w') ∧ J0 (Below w0.heap.size w0 w') ∧ J0 (Kept w w' P_))
  case atStart => exact ⟨0, Nat.zero_le _, by omega, by simp [sumN], rfl, ⟨Like.refl _⟩, HB, ⟨Kept.refl _ _⟩⟩
  case round =>
    obtain ⟨kk, hkk, hg, rfl, rfl, HW, HB2, HK⟩ := hrel
    clear HB
    by_cases hlt : kk < l0.length
    · have hltz : (kk : Int) < (l0.length : Int) := by omega
      obtain ⟨ls, hR, hm⟩ := R_like keeps_Span HO.o HW.o
      have hlen2 : ls.length = l0.length := by simpa using congrArg List.length hm
      obtain ⟨g, cap, hv, hgw, _, _⟩ := Kd.R_form hR (by omega)
      have hA : A = some ⟨g, 0, none⟩ := by injection hv
      subst hA
      obtain ⟨cs, cur, hM, hcc, hG, hP, _⟩ := R_at hR kk (by omega)
      have hmk : nm_Span ls[kk] = nm_Span l0[kk] := by
        have := congrArg (fun q => q[kk]?) hm
        simp only [List.getElem?_map] at this
        rw [List.getElem?_eq_getElem (by omega), List.getElem?_eq_getElem hlt] at this
        simpa using this
      have hcnt := sumN_take nm_Span l0 kk hlt
      have hcle := sumN_le nm_Span l0 (kk + 1)
      rw [← hmk] at hcnt
      obtain ⟨x, hxe⟩ : ∃ x, x = ls[kk] := ⟨_, rfl⟩
      rw [← hxe] at hM hcnt
      clear hxe hmk
      obtain rfl := k103_openM hM
      have hx0 : wr.cell? ⟨g, kk * 2, none⟩ = some (.int .i64 x.f0) := hcc 0 _ rfl
      have hx1 : wr.cell? ⟨g, kk * 2 + 1, none⟩ = some (.int .i64 x.f1) := hcc 1 _ rfl
      have X0 := q_ hx0
      have X1 := q_ hx1
      have HG := q_ hG
      have HP := q_ hP
      have HL := q_ (Like.refl wr)
      obtain ⟨K, hK⟩ : ∃ K : Int, a1 + (sumN nm_Span (l0.take kk) : Nat) = K := ⟨_, rfl⟩
      have hmx : nm_Span x = 1 + 1 := rfl
      rw [hmx] at hcnt
      clear hmx
      have hK0 : 0 ≤ K := by omega
      have hK1 : K + 1 + 1 = a1 + (sumN nm_Span (l0.take (kk + 1)) : Nat) := by omega
      have hK2 : K + 1 + 1 ≤ 9000000000000000000 := by omega
      rw [hK]
      clear hcc hM hG hP hv hm hR hcnt hcle hx0 hx1
      have qw0 : IntKind.i64.wrap (K + 1) = K + 1 := by rw [i64_w]; exact wrap_id (by omega) (by omega)
      have qw1 : IntKind.i64.wrap (K + 1 + 1) = K + 1 + 1 := by rw [i64_w]; exact wrap_id (by omega) (by omega)
      have T1 : J0 True := ⟨trivial⟩
      have T2 : J0 True := ⟨trivial⟩
      obtain ⟨y0, hc0, hf0⟩ := like_int HL.o HG.o X0.o
      go_wp2_with (first | ((with_reducible refine gate_store (t := 2) (p := 16) rfl ?_); clear T1; refine store_event (t := 2) (p := 16) (v := ?vo_w10) (w1 := (wr.setCell ⟨g, kk * 2, none⟩ (.int .i64 (K)))) ?hg ?ho ?hn ?hr ?_; (case ho => rfl); (case hg => rfl); (case hn => rfl); (case hr => first | (go_simp; done) | (go_simp; rfl)); intro w10 hw; replace HL := q_ (show Like wr w10 from (by rw [hw]; exact Like.put_int HL.o HG.o X0.o)); replace HB2 := q_ (show Below w0.heap.size w0 w10 from (by rw [hw]; exact below_set HB2.o hgw)); replace HK := q_ (show Kept w w10 P_ from (by rw [hw]; exact Kept.setCell HK.o (.inl HP.out) _)); clear hw hc0 hf0; obtain ⟨y1, hc1, hf1⟩ := like_int HL.o HG.o X1.o) | ((with_reducible refine gate_store (t := 2) (p := 23) rfl ?_); clear T2; refine store_event (t := 2) (p := 23) (v := ?vo_w11) (w1 := (w10.setCell ⟨g, kk * 2 + 1, none⟩ (.int .i64 (K + 1)))) ?hg ?ho ?hn ?hr ?_; (case ho => rfl); (case hg => rfl); (case hn => rfl); (case hr => first | (go_simp; done) | (go_simp; rfl)); intro w11 hw; replace HL := q_ (show Like wr w11 from (by rw [hw]; exact Like.put_int HL.o HG.o X1.o)); replace HB2 := q_ (show Below w0.heap.size w0 w11 from (by rw [hw]; exact below_set HB2.o hgw)); replace HK := q_ (show Kept w w11 P_ from (by rw [hw]; exact Kept.setCell HK.o (.inl HP.out) _)); clear hw hc1 hf1))
      go_roundg (l0.length - (kk + 1))
      case measure => omega
      case rel => exact ⟨kk + 1, by omega, by omega, by (first | (congr 1; omega) | (congr 1; done) | (congr 2; omega)), by go_num, ⟨HW.o.trans HL.o⟩, ⟨HB2.o⟩, ⟨HK.o⟩⟩
    · have hltz : ¬ (kk : Int) < (l0.length : Int) := by omega
      have hk : kk = l0.length := by omega
      subst hk
      rw [List.take_length, hn]
      go_wp2
      go_ret
      exact ⟨rfl, HW.o, HB2.o, HK.o⟩
theorem markInt64S_walk (P_ : Nat → Prop) (u : Value) (l0 : List Int) (a1 : Int) (n : Nat) (hn : sumN (fun _ => 1) l0 = n) (h0 : 0 ≤ a1) (h1 : a1 + n ≤ 9000000000000000000) (w0 w : World) (hB : Below w0.heap.size w0 w) (ho0 : Kd.R (Kd.int .i64) 2 w w0.heap.size P_ u l0) :
    Calls Try.prog 42 #[u, .int .i64 a1] w fun e w' => e = .returned (.int .i64 (a1 + n)) ∧ Like w w' ∧ Below w0.heap.size w0 w' ∧ Kept w w' P_ := by
  have hlen := sumN_len (fun _ => 1) (fun _ => Nat.le_refl _) l0
  obtain ⟨A, c, rfl⟩ := Kd.R_slice ho0
  have HO := q_ ho0
  have HB := q_ hB
  clear ho0 hB
  go_enter Try.func42, Try.ntmps42
  go_wp2
  go_loopg [1, 5] l0.length (fun gg v1 v5 w' => ∃ kk : Nat, kk ≤ l0.length ∧ l0.length - kk ≤ gg ∧ v1 = .int .i64 (a1 + (sumN (fun _ => 1) (l0.take kk) : Nat)) ∧ v5 = .int .i64 kk ∧ J0 (Like w w') ∧ J0 (Below w0.heap.size w0 w') ∧ J0 (Kept w w' P_))
  case atStart => exact ⟨0, Nat.zero_le _, by omega, by simp [sumN], rfl, ⟨Like.refl _⟩, HB, ⟨Kept.refl _ _⟩⟩
  case round =>
    obtain ⟨kk, hkk, hg, rfl, rfl, HW, HB2, HK⟩ := hrel
    clear HB
    by_cases hlt : kk < l0.length
    · have hltz : (kk : Int) < (l0.length : Int) := by omega
      obtain ⟨ls, hR, hm⟩ := R_like (keeps_int .i64) HO.o HW.o
      have hlen2 : ls.length = l0.length := by simpa using congrArg List.length hm
      obtain ⟨g, cap, hv, hgw, _, _⟩ := Kd.R_form hR (by omega)
      have hA : A = some ⟨g, 0, none⟩ := by injection hv
      subst hA
      obtain ⟨cs, cur, hM, hcc, hG, hP, _⟩ := R_at hR kk (by omega)
      have hcnt := sumN_take (fun _ => 1) l0 kk hlt
      have hcle := sumN_le (fun _ => 1) l0 (kk + 1)
      obtain ⟨x, hxe⟩ : ∃ x, x = ls[kk] := ⟨_, rfl⟩
      rw [← hxe] at hM
      clear hxe
      have hM : cs = [.int .i64 x] := hM
      subst hM
      have hx0 := hcc 0 _ rfl
      rw [show kk * (Kd.int .i64).sz + 0 = kk from Nat.mul_one kk] at hx0
      have X0 := q_ hx0
      have HG := q_ hG
      have HP := q_ hP
      have HL := q_ (Like.refl wr)
      obtain ⟨K, hK⟩ : ∃ K : Int, a1 + (sumN (fun _ => 1) (l0.take kk) : Nat) = K := ⟨_, rfl⟩
      have hK0 : 0 ≤ K := by omega
      have hK1 : K + 1 = a1 + (sumN (fun _ => 1) (l0.take (kk + 1)) : Nat) := by omega
      have hK2 : K + 1 ≤ 9000000000000000000 := by omega
      rw [hK]
      clear hcc hG hP hv hm hR hcnt hcle hx0
      have qw0 : IntKind.i64.wrap (K + 1) = K + 1 := by rw [i64_w]; exact wrap_id (by omega) (by omega)
      have T1 : J0 True := ⟨trivial⟩
      obtain ⟨y0, hc0, hf0⟩ := like_int HL.o HG.o X0.o
      go_wp2_with ((with_reducible refine gate_store (t := 2) (p := 15) rfl ?_); clear T1; refine store_event (t := 2) (p := 15) (v := ?vo_w10) (w1 := (wr.setCell ⟨g, kk, none⟩ (.int .i64 (K)))) ?hg ?ho ?hn ?hr ?_; (case ho => rfl); (case hg => rfl); (case hn => rfl); (case hr => first | (go_simp; done) | (go_simp; rfl)); intro w10 hw; replace HL := q_ (show Like wr w10 from (by rw [hw]; exact Like.put_int HL.o HG.o X0.o)); replace HB2 := q_ (show Below w0.heap.size w0 w10 from (by rw [hw]; exact below_set HB2.o hgw)); replace HK := q_ (show Kept w w10 P_ from (by rw [hw]; exact Kept.setCell HK.o (.inl HP.out) _)); clear hw hc0 hf0)
      go_roundg (l0.length - (kk + 1))
      case measure => omega
      case rel => exact ⟨kk + 1, by omega, by omega, by (first | (congr 1; omega) | (congr 1; done) | (congr 2; omega)), by go_num, ⟨HW.o.trans HL.o⟩, ⟨HB2.o⟩, ⟨HK.o⟩⟩
    · have hltz : ¬ (kk : Int) < (l0.length : Int) := by omega
      have hk : kk = l0.length := by omega
      subst hk
      rw [List.take_length, hn]
      go_wp2
      go_ret
      exact ⟨rfl, HW.o, HB2.o, HK.o⟩
def nm_RNode (x : S156) : Nat := 1 + (sumN nm_Span x.f1 + (sumN (fun _ => 1) x.f2 + (1 + 1)))
theorem one_RNode (x : S156) : 1 ≤ nm_RNode x := by
  unfold nm_RNode
  omega
theorem keeps_RNode : Keeps k156 nm_RNode := keeps_iso (keeps_pair (keeps_int _) (keeps_pair (keeps_slice keeps_Span _) (keeps_pair (keeps_slice (keeps_int .i64) _) (keeps_pair (keeps_int _) (keeps_int _))))) _ (fun y => ⟨y.1, y.2.1, y.2.2.1, y.2.2.2.1, y.2.2.2.2⟩) (fun _ => rfl)
theorem markRNodeS_walk (P_ : Nat → Prop) (u : Value) (l0 : List S156) (a1 : Int) (n : Nat) (hn : sumN nm_RNode l0 = n) (h0 : 0 ≤ a1) (h1 : a1 + n ≤ 9000000000000000000) (w0 w : World) (hB : Below w0.heap.size w0 w) (ho0 : Kd.R k156 156 w w0.heap.size P_ u l0) :
    Calls Try.prog 73 #[u, .int .i64 a1] w fun e w' => e = .returned (.int .i64 (a1 + n)) ∧ Like w w' ∧ Below w0.heap.size w0 w' ∧ Kept w w' P_ := by
  have hlen := sumN_len nm_RNode one_RNode l0
  obtain ⟨A, c, rfl⟩ := Kd.R_slice ho0
  have HO := q_ ho0
  have HB := q_ hB
  clear ho0 hB
  go_enter Try.func73, Try.ntmps73
  go_wp2
  go_loopg [1, 5] l0.length (fun gg v1 v5 w' => ∃ kk : Nat, kk ≤ l0.length ∧ l0.length - kk ≤ gg ∧ v1 = .int .i64 (a1 + (sumN nm_RNode (l0.take kk) : Nat)) ∧ v5 = .int .i64 kk ∧ J0 (Like w w') ∧ J0 (Below w0.heap.size w0 w') ∧ J0 (Kept w w' P_))
  case atStart => exact ⟨0, Nat.zero_le _, by omega, by simp [sumN], rfl, ⟨Like.refl _⟩, HB, ⟨Kept.refl _ _⟩⟩
  case round =>
    obtain ⟨kk, hkk, hg, rfl, rfl, HW, HB2, HK⟩ := hrel
    clear HB
    by_cases hlt : kk < l0.length
    · have hltz : (kk : Int) < (l0.length : Int) := by omega
      obtain ⟨ls, hR, hm⟩ := R_like keeps_RNode HO.o HW.o
      have hlen2 : ls.length = l0.length := by simpa using congrArg List.length hm
      obtain ⟨g, cap, hv, hgw, _, _⟩ := Kd.R_form hR (by omega)
      have hA : A = some ⟨g, 0, none⟩ := by injection hv
      subst hA
      obtain ⟨cs, cur, hM, hcc, hG, hP, _⟩ := R_at hR kk (by omega)
      have hmk : nm_RNode ls[kk] = nm_RNode l0[kk] := by
        have := congrArg (fun q => q[kk]?) hm
        simp only [List.getElem?_map] at this
        rw [List.getElem?_eq_getElem (by omega), List.getElem?_eq_getElem hlt] at this
        simpa using this
      have hcnt := sumN_take nm_RNode l0 kk hlt
      have hcle := sumN_le nm_RNode l0 (kk + 1)
      rw [← hmk] at hcnt
      obtain ⟨x, hxe⟩ : ∃ x, x = ls[kk] := ⟨_, rfl⟩
      rw [← hxe] at hM hcnt
      clear hxe hmk
      obtain ⟨v1, v2, rfl, hR1, hR2⟩ := k156_openM hM
      obtain ⟨A1, c1, rfl⟩ := Kd.R_slice hR1
      obtain ⟨A2, c2, rfl⟩ := Kd.R_slice hR2
      have hx0 : wr.cell? ⟨g, kk * 5, none⟩ = some (.int .i64 x.f0) := hcc 0 _ rfl
      have hx1 : wr.cell? ⟨g, kk * 5 + 1, none⟩ = some (.slice A1 x.f1.length c1) := hcc 1 _ rfl
      have hx2 : wr.cell? ⟨g, kk * 5 + 2, none⟩ = some (.slice A2 x.f2.length c2) := hcc 2 _ rfl
      have hx3 : wr.cell? ⟨g, kk * 5 + 3, none⟩ = some (.int .i64 x.f3) := hcc 3 _ rfl
      have hx4 : wr.cell? ⟨g, kk * 5 + 4, none⟩ = some (.int .i64 x.f4) := hcc 4 _ rfl
      have X0 := q_ hx0
      have X1 := q_ hx1
      have X2 := q_ hx2
      have X3 := q_ hx3
      have X4 := q_ hx4
      have HR1 := q_ hR1
      obtain ⟨n1, hn1⟩ : ∃ n_ : Nat, sumN nm_Span x.f1 = n_ := ⟨_, rfl⟩
      have HR2 := q_ hR2
      obtain ⟨n2, hn2⟩ : ∃ n_ : Nat, sumN (fun _ => 1) x.f2 = n_ := ⟨_, rfl⟩
      have HG := q_ hG
      have HP := q_ hP
      have HL := q_ (Like.refl wr)
      obtain ⟨K, hK⟩ : ∃ K : Int, a1 + (sumN nm_RNode (l0.take kk) : Nat) = K := ⟨_, rfl⟩
      have hmx : nm_RNode x = 1 + (sumN nm_Span x.f1 + (sumN (fun _ => 1) x.f2 + (1 + 1))) := rfl
      rw [hmx] at hcnt
      clear hmx
      rw [hn1, hn2] at hcnt
      have hK0 : 0 ≤ K := by omega
      have hK1 : K + 1 + (n1 : Int) + (n2 : Int) + 1 + 1 = a1 + (sumN nm_RNode (l0.take (kk + 1)) : Nat) := by omega
      have hK2 : K + 1 + (n1 : Int) + (n2 : Int) + 1 + 1 ≤ 9000000000000000000 := by omega
      rw [hK]
      clear hcc hM hG hP hv hm hR hcnt hcle hx0 hx1 hx2 hx3 hx4 hR1 hR2
      have qw0 : IntKind.i64.wrap (K + 1) = K + 1 := by rw [i64_w]; exact wrap_id (by omega) (by omega)
      have qw3 : IntKind.i64.wrap (K + 1 + (n1 : Int) + (n2 : Int) + 1) = K + 1 + (n1 : Int) + (n2 : Int) + 1 := by rw [i64_w]; exact wrap_id (by omega) (by omega)
      have qw4 : IntKind.i64.wrap (K + 1 + (n1 : Int) + (n2 : Int) + 1 + 1) = K + 1 + (n1 : Int) + (n2 : Int) + 1 + 1 := by rw [i64_w]; exact wrap_id (by omega) (by omega)
      have T1 : J0 True := ⟨trivial⟩
      have T2 : J0 True := ⟨trivial⟩
      have T3 : J0 True := ⟨trivial⟩
      have T4 : J0 True := ⟨trivial⟩
      have T5 : J0 True := ⟨trivial⟩
      obtain ⟨y0, hc0, hf0⟩ := like_int HL.o HG.o X0.o
      go_wp2_with (first | ((with_reducible refine gate_store (t := 2) (p := 16) rfl ?_); clear T1; refine store_event (t := 2) (p := 16) (v := ?vo_w10) (w1 := (wr.setCell ⟨g, kk * 5, none⟩ (.int .i64 (K)))) ?hg ?ho ?hn ?hr ?_; (case ho => rfl); (case hg => rfl); (case hn => rfl); (case hr => first | (go_simp; done) | (go_simp; rfl)); intro w10 hw; replace HL := q_ (show Like wr w10 from (by rw [hw]; exact Like.put_int HL.o HG.o X0.o)); replace HB2 := q_ (show Below w0.heap.size w0 w10 from (by rw [hw]; exact below_set HB2.o hgw)); replace HK := q_ (show Kept w w10 P_ from (by rw [hw]; exact Kept.setCell HK.o (.inl HP.out) _)); clear hw hc0 hf0; have hc1 := like_slice HL.o HG.o X1.o) | (go_at_call 23; clear T2; obtain ⟨ys, hRy, hmy⟩ := R_like keeps_Span HR1.o HL.o; refine (markSpanS_walk P_ _ ys (K + 1) n1 ((sumN_map _ _ _ hmy).trans hn1) (by omega) (by omega) w0 _ HB2.o hRy).mono ?_; rintro e w11 ⟨rfl, hL_, hB3, hK3⟩; replace HL := q_ (HL.o.trans hL_); replace HB2 := q_ hB3; replace HK := q_ (HK.o.then_ hK3 (fun k hk => .inl hk)); clear hRy hmy hL_ hB3 hK3 hc1; have hc2 := like_slice HL.o HG.o X2.o) | (go_at_call 42; clear T3; obtain ⟨ys, hRy, hmy⟩ := R_like (keeps_int .i64) HR2.o HL.o; refine (markInt64S_walk P_ _ ys (K + 1 + (n1 : Int)) n2 ((sumN_map _ _ _ hmy).trans hn2) (by omega) (by omega) w0 _ HB2.o hRy).mono ?_; rintro e w12 ⟨rfl, hL_, hB3, hK3⟩; replace HL := q_ (HL.o.trans hL_); replace HB2 := q_ hB3; replace HK := q_ (HK.o.then_ hK3 (fun k hk => .inl hk)); clear hRy hmy hL_ hB3 hK3 hc2; obtain ⟨y3, hc3, hf3⟩ := like_int HL.o HG.o X3.o) | ((with_reducible refine gate_store (t := 2) (p := 37) rfl ?_); clear T4; refine store_event (t := 2) (p := 37) (v := ?vo_w13) (w1 := (w12.setCell ⟨g, kk * 5 + 3, none⟩ (.int .i64 (K + 1 + (n1 : Int) + (n2 : Int))))) ?hg ?ho ?hn ?hr ?_; (case ho => rfl); (case hg => rfl); (case hn => rfl); (case hr => first | (go_simp; done) | (go_simp; rfl)); intro w13 hw; replace HL := q_ (show Like wr w13 from (by rw [hw]; exact Like.put_int HL.o HG.o X3.o)); replace HB2 := q_ (show Below w0.heap.size w0 w13 from (by rw [hw]; exact below_set HB2.o hgw)); replace HK := q_ (show Kept w w13 P_ from (by rw [hw]; exact Kept.setCell HK.o (.inl HP.out) _)); clear hw hc3 hf3; obtain ⟨y4, hc4, hf4⟩ := like_int HL.o HG.o X4.o) | ((with_reducible refine gate_store (t := 2) (p := 44) rfl ?_); clear T5; refine store_event (t := 2) (p := 44) (v := ?vo_w14) (w1 := (w13.setCell ⟨g, kk * 5 + 4, none⟩ (.int .i64 (K + 1 + (n1 : Int) + (n2 : Int) + 1)))) ?hg ?ho ?hn ?hr ?_; (case ho => rfl); (case hg => rfl); (case hn => rfl); (case hr => first | (go_simp; done) | (go_simp; rfl)); intro w14 hw; replace HL := q_ (show Like wr w14 from (by rw [hw]; exact Like.put_int HL.o HG.o X4.o)); replace HB2 := q_ (show Below w0.heap.size w0 w14 from (by rw [hw]; exact below_set HB2.o hgw)); replace HK := q_ (show Kept w w14 P_ from (by rw [hw]; exact Kept.setCell HK.o (.inl HP.out) _)); clear hw hc4 hf4))
      go_roundg (l0.length - (kk + 1))
      case measure => omega
      case rel => exact ⟨kk + 1, by omega, by omega, by (first | (congr 1; omega) | (congr 1; done) | (congr 2; omega)), by go_num, ⟨HW.o.trans HL.o⟩, ⟨HB2.o⟩, ⟨HK.o⟩⟩
    · have hltz : ¬ (kk : Int) < (l0.length : Int) := by omega
      have hk : kk = l0.length := by omega
      subst hk
      rw [List.take_length, hn]
      go_wp2
      go_ret
      exact ⟨rfl, HW.o, HB2.o, HK.o⟩
end Go.Proofs.Ytijmhelacmjggaa.P
namespace Go.Proofs.Ytijmhelacmjggaa.P
set_option linter.unusedVariables false
open Go.RowKit Go.Proofs.YtijmhelacmjggaaW.PrintWords Go.Proofs.YtijmhelacmjggaaW.PrintLast Go.Proofs.YtijmhelacmjggaaW.PrintMore Go.Proofs.YtijmhelacmjggaaEv
theorem markRx_walk (P_ : Nat → Prop) (A : Option Addr) (q c : Nat) (l0 : List S156) (a1 : Int) (n : Nat) (hn : sumN nm_RNode l0 = n) (h0 : 0 ≤ a1) (h1 : a1 + n ≤ 9000000000000000000) (w0 w : World) (hB : Below w0.heap.size w0 w) (ho0 : Kd.R k156 156 w w0.heap.size P_ (.slice A q c) l0) :
    Calls Try.prog 22 #[.agg #[.slice A q c], .int .i64 a1] w fun e w' => e = .returned (.int .i64 (a1 + n)) ∧ Below w0.heap.size w0 w' ∧ Kept w w' P_ := by
  have HO := q_ ho0
  have HB := q_ hB
  clear ho0 hB
  go_enter Try.func22, Try.ntmps22
  go_wp2_with fail
  refine (markRNodeS_walk P_ _ l0 a1 n hn h0 h1 w0 _ ?hb ?ho).mono ?_
  case hb => repeat (first | exact HB.o | apply below_alloc | apply pw_below_drewN | apply below_drew1)
  case ho => (with_reducible repeat (first | apply Kd.R_alloc | apply Kd.R_drewN | apply Kd.R_drew)); exact HO.o
  rintro e w1 ⟨rfl, _, hB2, hK⟩
  have HB2 := q_ hB2
  have HK : J0 (Kept w w1 P_) := ⟨Kept.then_ (by repeat (first | exact Kept.refl _ _ | apply Kept.alloc | apply Kept.drewN | apply Kept.drew)) hK (fun k hk => .inl hk)⟩
  clear hB2 hK
  go_wp2_with fail
  go_ret
  exact ⟨rfl, HB2.o, HK.o⟩
end Go.Proofs.Ytijmhelacmjggaa.P
namespace Go.Proofs.Ytijmhelacmjggaa.P
open Go.RowKit Go.Proofs.YtijmhelacmjggaaW.PrintWords Go.Proofs.YtijmhelacmjggaaW.PrintLast Go.Proofs.YtijmhelacmjggaaEv
set_option linter.unusedVariables false
set_option linter.unusedSimpArgs false
theorem sumN_few {α β : Type} (m : β → Nat) (f : α → β) (v : α → Nat) (c : Nat) (h : ∀ x, m (f x) ≤ c + c * v x) : ∀ l : List α, sumN m (l.map f) ≤ c * (l.length + ws v l)
  | [] => by simp [sumN]
  | x :: xs => by
    have h1 := sumN_few m f v c h xs
    have h2 := h x
    simp only [List.map_cons, sumN, List.length_cons, ws]
    have e : c * (xs.length + 1 + (v x + ws v xs)) = c * (xs.length + ws v xs) + (c + c * v x) := by
      simp only [Nat.mul_add, Nat.mul_one]
      omega
    omega
theorem sumN_one {α : Type} : ∀ l : List α, sumN (fun _ => 1) l = l.length
  | [] => rfl
  | x :: xs => by simp only [sumN, sumN_one xs, List.length_cons]; omega
theorem sumN_span : ∀ l : List S103, sumN nm_Span l = 2 * l.length
  | [] => rfl
  | x :: xs => by simp only [sumN, sumN_span xs, List.length_cons, nm_Span]; omega
theorem nm_RNode_few (x : S152) : nm_RNode (cRNode x) ≤ 3 + 3 * wRNode x := by
  have e : nm_RNode (cRNode x) = 1 + (sumN nm_Span (x.f1.map cSpan) + (sumN (fun _ => 1) x.f2 + (1 + 1))) := rfl
  have e2 : wRNode x = x.f1.length + x.f2.length := rfl
  rw [e, e2, sumN_one, sumN_span, List.length_map]
  omega
end Go.Proofs.Ytijmhelacmjggaa.P
