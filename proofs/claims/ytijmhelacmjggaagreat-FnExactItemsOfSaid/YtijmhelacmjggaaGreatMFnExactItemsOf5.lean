/- The law FnExactItemsOf holds for every call: part 6 of 7 of the proof (walks of functions, and what they answer). Conditions: none beyond what the given row says. -/
import Derived.Test.YtijmhelacmjggaaGreatMFnExactItemsOf0
import Derived.Test.YtijmhelacmjggaaGreatMFnExactItemsOf4
import Derived.Shelf.Abstract
import Derived.Lib.Hide
import Derived.Test.YtijmhelacmjggaaGreatMFnExactItemsOf2
import Derived.Test.YtijmhelacmjggaaGreatMFnExactItemsOf1
set_option maxHeartbeats 16000000
set_option maxRecDepth 100000
namespace Go.Proofs.YtijmhelacmjggaaGreat.P
open Go.RowKit Go.Proofs.YtijmhelacmjggaaGreatW.PrintWords Go.Proofs.YtijmhelacmjggaaGreatW.PrintLast Go.Proofs.YtijmhelacmjggaaGreatW.PrintMore
attribute [local go_sem] max2_int min2_int max_two min_two max_three min_three max_four min_four
set_option linter.unusedVariables false
set_option linter.unusedSimpArgs false
/-! ### spec_ItemsOf: function 15 -/
mutual
def spec_ItemsOf.j0 : Nat → List (S76) → List (S79) → Bool → List (S62) → Option ((List (S79)) × Bool)
 | 0, _, _, _, _ => none
 | k + 1, x1, x6, x19, x102000 => if x19 = true then (some (x6, false)) else ((spec_Kinds.f k x102000).bind fun t106 => (spec_ItemsOf.l0 k x1 x6 t106 0 x102000))
def spec_ItemsOf.l0 : Nat → List (S76) → List (S79) → List ByteArray → Int → List (S62) → Option ((List (S79)) × Bool)
 | 0, _, _, _, _, _ => none
 | k + 1, x1, x6, x7, x8, x102000 => if x8 < (x1.length : Int) then (if 0 ≤ x8 then ((spec_NameOf.f k x102000 ((rd_T76 x1 x8).f0) ((rd_T76 x1 x8).f1) ((rd_T76 x1 x8).f2) ((rd_T76 x1 x8).f3) ((rd_T76 x1 x8).f4) ((rd_T76 x1 x8).f5)).bind fun t114 => (if t114.toList = ([] : List UInt8) then (some ((([] : List (S79))), false)) else (if ((rd_T76 x1 x8).f1) ≥ 0 then ((spec_l20At.f k x7 t114).bind fun t119 => (if x6.length < 5864062014805 then (spec_ItemsOf.l0 k x1 (x6 ++ [(⟨t119, (rd_T76 x1 x8).f4, (rd_T76 x1 x8).f5⟩ : S79)]) x7 (wrap64 (x8 + 1)) x102000) else (none))) else (if x6.length < 5864062014805 then (spec_ItemsOf.l0 k x1 (x6 ++ [(⟨(x7.length : Int), (rd_T76 x1 x8).f4, (rd_T76 x1 x8).f5⟩ : S79)]) x7 (wrap64 (x8 + 1)) x102000) else (none))))) else (none)) else ((spec_l16Items.f x6).bind fun t109 => (if t109 = true then (some (x6, true)) else (some ((([] : List (S79))), false))))
end
def spec_ItemsOf.f (k : Nat) (l0_0 : List (S62)) (l1 : List (S76)) : Option ((List (S79)) × Bool) := (some (([] : List (S79)) : List (S79))).bind fun y102 => ((spec_GrammarOk.f k l0_0).bind fun t105 => (if t105 = true then (spec_ItemsOf.j0 k l1 y102 (decide ((l1.length : Int) > 5000)) l0_0) else (spec_ItemsOf.j0 k l1 y102 true l0_0)))
def spec_ItemsOf.T14 : Bool × List (List Nat × List Nat) := (true, [([], []), ([], []), ([], []), ([], []), ([2, 3], [2, 3]), ([4], [4]), ([5], [5]), ([], []), ([], []), ([7, 8], [7, 8]), ([9], [9]), ([10], [10]), ([1, 6, 11], [1, 6, 11]), ([12], [12]), ([0, 13], [0, 13]), ([14, 14, 0, 1, 2, 3, 4, 5, 6, 7, 8, 9, 10, 11, 12, 13, 14], [0, 14])])
def spec_ItemsOf.B14 : List Nat := [0, 0, 0, 0, 12, 28, 60, 0, 0, 384, 896, 1920, 4094, 8190, 16383, 32767]
theorem spec_ItemsOf.tab14 : rtab .any (opsOf Tryz.f15 14) = spec_ItemsOf.T14 := by kernel_rfl
theorem spec_ItemsOf.bits14 : waitsOk spec_ItemsOf.T14.2 spec_ItemsOf.B14 = true := by kernel_rfl
theorem spec_ItemsOf.calls (k : Nat) (A0_0 : Option Addr) (c0_0 : Nat) (l0_0 : List (S62)) (A1 : Option Addr) (c1 : Nat) (l1 : List (S76)) (r1 : List (S79)) (r2 : Bool) (w : World) (hr0_0 : Kd.C k62 w A0_0 l0_0.length l0_0) (hc0_0 : l0_0.length ≤ c0_0) (hr1 : Kd.C k76 w A1 l1.length l1) (hc1 : l1.length ≤ c1) (h : spec_ItemsOf.f k l0_0 l1 = some (r1, r2)) :
  Calls Tryz.prog 15 #[.agg #[.slice A0_0 l0_0.length c0_0], .slice A1 l1.length c1] w fun e w' => ∃ v0_ : Value, e = .returned (.tuple #[v0_, .bool r2]) ∧ Kd.R k79 79 w' w.heap.size (fun _ => True) v0_ r1 ∧ Below w.heap.size w w' := by
 have hu31 := Tryz.underlying31; have hu76 := Tryz.underlying76; have hu79 := Tryz.underlying79; have HR0_0 := q_ hr0_0; have HC0_0 := q_ hc0_0; clear hr0_0 hc0_0; have HR1 := q_ hr1; have HC1 := q_ hc1; clear hr1 hc1; have HB := q_ (Below.refl w.heap.size w)
 have H : ((some (([] : List (S79)) : List (S79))).bind fun y102 => ((spec_GrammarOk.f k l0_0).bind fun t105 => (if t105 = true then (spec_ItemsOf.j0 k l1 y102 (decide ((l1.length : Int) > 5000)) l0_0) else (spec_ItemsOf.j0 k l1 y102 true l0_0)))) = some (r1, r2) := h
 clear h
 obtain ⟨y102, hy102⟩ : ∃ y_ : List (S79), y_ = (([] : List (S79))) := ⟨_, rfl⟩
 replace H : ((spec_GrammarOk.f k l0_0).bind fun t105 => (if t105 = true then (spec_ItemsOf.j0 k l1 y102 (decide ((l1.length : Int) > 5000)) l0_0) else (spec_ItemsOf.j0 k l1 y102 true l0_0))) = some (r1, r2) := by first | (rw [hy102]; with_reducible exact H) | (have H2_ := (Option.bind_some _ _).symm.trans H; rw [hy102]; with_reducible exact H2_) | (have H2_ := (Option.bind_some _ _).symm.trans H; with_reducible exact H2_) | with_reducible exact H | (rw [hy102]; exact H) | exact H
 have Ny102 := q_ hy102; clear hy102; have HC3 := q_ H; clear H
 go_enter Tryz.func15, Tryz.ntmps15
 go_upto_region 2 with (first | ((with_reducible refine gate_dst (N := 2) rfl ?_); (try (refine gate_guard (by rfl) ?_; dsimp only)); refine bx_ 2 #[.slice A0_0 l0_0.length c0_0] 31 ?_; intro gb101 hg w4 hbox hb; have BK101 := q_ (hbox); have GE101 := ge_ hg HB; replace HB := sb_ HB hb; clear hb hbox hg) | ((with_reducible refine gate_dst (N := 11) rfl ?_); (try (refine gate_guard (by rfl) ?_; dsimp only)); refine Kd.R_lit k79 _ 79 ?hg (N := 11) ?hd (xs := ([] : List (S79))) (inner := []) (ok := fun _ => True) (okp := fun _ => True) ?hr ?hp (fun _ hk => hk) trivial (Below.refl _ _) (Nat.le_refl _) (by simp) ?_; (case hd => rfl); (case hg => rfl); (case hr => first | (go_simp; done) | (go_simp; rfl)); (case hp => exact (Reps.none _ _)); intro v103 w5 ho6 hb hg_ hnew_; clear hg_ hnew_; (first | rw [← Ny102.o] at ho6 | (simp only [Int.reduceToNat] at ho6; rw [← Ny102.o] at ho6)); have HO104 := q_ (Kd.R_lower ho6 (below_size (be1_ HB.o GE101.o))); replace BK101 := lb_ BK101 hb; replace HB := sb1_ HB GE101 hb; clear hb ho6))
 (try simp only [Act.put, List.setIfInBounds_toArray, List.set_cons_zero, List.set_cons_succ])
 go_cut [19] (fun v19 wc => ∃ (kq : Nat) (x19_2 : Bool), v19 = .bool x19_2 ∧ J0 (spec_ItemsOf.j0 kq l1 y102 x19_2 l0_0 = some (r1, r2)) ∧ J0 (kq ≤ k) ∧ J0 (Kd.R k79 79 wc w.heap.size (fun _ => True) v103 y102) ∧ J0 (wc.heap[gb101]? = some (.cells #[(.slice A0_0 l0_0.length c0_0)] 31 (0, 0))) ∧ J0 (Below w.heap.size w wc))
 case first =>
  have H := HC3.o; clear HC3; obtain ⟨t105, A7, H⟩ := ob_ H
  by_cases c8 : t105 = true
  ·subst c8; rw [if_pos rfl] at H
   have H' := q_ H
   clear H; obtain ⟨hcz9_0, hfz9_0⟩ := d1_ BK101
   go_wp2_with (((with_reducible refine gate_callee (f := 36) rfl ?_); refine gl_ (some 13) rfl rfl Tryz.func36 #[.agg #[.slice A0_0 l0_0.length c0_0]] ?_; (with_reducible refine (spec_GrammarOk.calls k _ _ l0_0 true _ ?side1 ?side2 A7.o).mono ?_); (case side1 => exact Kd.C_below HR0_0.o (be_ HB.o)); (case side2 => exact HC0_0.o); rintro e w10 ⟨rfl, hb⟩; refine ⟨_, rfl, ?_⟩; replace HO104 := q_ (Kd.R_below (ra_ HO104.o) hb); replace BK101 := lb_ BK101 hb; replace HB := sb1_ HB GE101 hb; (try clear hb)))
   go_meet
   case rel => exact ⟨_, (decide ((l1.length : Int) > 5000)), rs_, H', ⟨by first | omega | exact Nat.le_refl _⟩, ⟨ra_ HO104.o⟩, ⟨bk_ BK101.o⟩, ⟨be1_ HB.o GE101.o⟩⟩
  ·replace c8 := Bool.eq_false_iff.mpr c8; subst c8; rw [if_neg nft_] at H
   have H' := q_ H
   clear H; obtain ⟨hcz11_0, hfz11_0⟩ := d1_ BK101
   go_wp2_with (((with_reducible refine gate_callee (f := 36) rfl ?_); refine gl_ (some 13) rfl rfl Tryz.func36 #[.agg #[.slice A0_0 l0_0.length c0_0]] ?_; (with_reducible refine (spec_GrammarOk.calls k _ _ l0_0 false _ ?side1 ?side2 A7.o).mono ?_); (case side1 => exact Kd.C_below HR0_0.o (be_ HB.o)); (case side2 => exact HC0_0.o); rintro e w12 ⟨rfl, hb⟩; refine ⟨_, rfl, ?_⟩; replace HO104 := q_ (Kd.R_below (ra_ HO104.o) hb); replace BK101 := lb_ BK101 hb; replace HB := sb1_ HB GE101 hb; (try clear hb)))
   go_meet
   case rel => exact ⟨_, (true), rs_, H', ⟨by first | omega | exact Nat.le_refl _⟩, ⟨ra_ HO104.o⟩, ⟨bk_ BK101.o⟩, ⟨be1_ HB.o GE101.o⟩⟩
 case rest =>
  clear HC3; (try clear c1); (try clear c8); (try clear hcz11_0); (try clear hcz9_0); (try clear hfz11_0); (try clear hfz9_0); obtain ⟨kq, x19_2, rfl, HA, HJ2, HO_6, BK101, HB⟩ := hcut
  cases kq with
  | zero => exact absurd HA.o (by simp [spec_ItemsOf.j0])
  | succ kj2 =>
   have H := HA.o; clear HA
   simp only [spec_ItemsOf.j0] at H
   by_cases c13 : x19_2 = true
   ·subst c13; rw [if_pos rfl] at H
    simp only [Option.some.injEq, Prod.mk.injEq] at H
    obtain ⟨rfl, rfl⟩ := H
    go_wp2
    go_ret2
    exact ⟨_, rt_, ra_ HO_6.o, be1_ HB.o GE101.o⟩
   ·replace c13 := Bool.eq_false_iff.mpr c13; subst c13; rw [if_neg nft_] at H; obtain ⟨t106, A14, H⟩ := ob_ H
    have H' := q_ H
    clear H; obtain ⟨hcz15_0, hfz15_0⟩ := d1_ BK101
    go_wp2_with (((with_reducible refine gate_callee (f := 37) rfl ?_); refine gl_ (some 22) rfl rfl Tryz.func37 #[.agg #[.slice A0_0 l0_0.length c0_0]] ?_; (with_reducible refine (spec_Kinds.calls kj2 _ _ l0_0 t106 _ ?side1 ?side2 A14.o).mono ?_); (case side1 => exact Kd.C_below HR0_0.o (be_ HB.o)); (case side2 => exact HC0_0.o); rintro e w16 ⟨v107, rfl, ho0, hb⟩; refine ⟨_, rfl, ?_⟩; have HO108 := q_ (Kd.R_lower ho0 (below_size (be1_ HB.o GE101.o))); replace HO_6 := q_ (Kd.R_below (ra_ HO_6.o) hb); replace BK101 := lb_ BK101 hb; replace HB := sb1_ HB GE101 hb; (try clear hb); (try clear ho0)))
    go_loopg [6, 8] kj2 (fun kq v6 v8 w' => ∃ (x6_2 : List (S79)) (x8_2 : Int), v8 = .int .i64 x8_2 ∧ J0 (spec_ItemsOf.l0 kq l1 x6_2 t106 x8_2 l0_0 = some (r1, r2)) ∧ J0 (kq ≤ kj2) ∧ J0 (Kd.R k79 79 w' w.heap.size (fun _ => True) v6 x6_2) ∧ J0 (Kd.R Kd.string 9 w' w.heap.size (fun _ => True) v107 t106) ∧ J0 (w'.heap[gb101]? = some (.cells #[(.slice A0_0 l0_0.length c0_0)] 31 (0, 0))) ∧ J0 (Below w.heap.size w w'))
    case atStart => exact ⟨(y102), (0), rs_, H', ⟨Nat.le_refl _⟩, ⟨ra_ HO_6.o⟩, ⟨ra_ HO108.o⟩, ⟨bk_ BK101.o⟩, ⟨be1_ HB.o GE101.o⟩⟩
    case round =>
     clear H'; (try clear c1); (try clear c8); (try clear c13); (try clear hcz11_0); (try clear hcz15_0); (try clear hcz9_0); (try clear hfz11_0); (try clear hfz15_0); (try clear hfz9_0); obtain ⟨x6_2, x8_2, rfl, HA, HK2, HO_6, HO_7, BK101, HB⟩ := hrel
     cases gk with
     | zero => exact absurd HA.o (by simp [spec_ItemsOf.l0])
     | succ k2 =>
      have H := HA.o; clear HA
      simp only [spec_ItemsOf.l0] at H
      by_cases c17 : x8_2 < (l1.length : Int)
      ·rw [if_pos c17] at H; have c17b0 := dt_ c17; clear c17
       by_cases c18 : 0 ≤ x8_2
       ·rw [if_pos c18] at H; have c18b0 := dt_ c18; clear c18; obtain ⟨t114, A19, H⟩ := ob_ H
        by_cases c20 : t114.toList = ([] : List UInt8)
        ·rw [if_pos c20] at H
         have c20b0 : (t114.toList == ([] : List UInt8)) = true := beq_iff_eq.mpr c20
         have c20b1 : (t114.toList != ([] : List UInt8)) = false := bne_eq_false_iff_eq.mpr c20
         clear c20
         obtain ⟨y115, hy115⟩ : ∃ y_ : List (S79), y_ = (([] : List (S79))) := ⟨_, rfl⟩
         replace H : (some (y115, false)) = some (r1, r2) := by first | (rw [hy115]; with_reducible exact H) | (have H2_ := (Option.bind_some _ _).symm.trans H; rw [hy115]; with_reducible exact H2_) | (have H2_ := (Option.bind_some _ _).symm.trans H; with_reducible exact H2_) | with_reducible exact H | (rw [hy115]; exact H) | exact H
         have Ny115 := q_ hy115; clear hy115
         simp only [Option.some.injEq, Prod.mk.injEq] at H
         obtain ⟨rfl, rfl⟩ := H
         try go_wp2
         replace HO_6 := q_ (Kd.R_drew HO_6.o); replace HO_7 := q_ (Kd.R_drew HO_7.o); replace BK101 := q_ (blk_drew BK101.o); replace HB := q_ (below_drew1 HB.o)
         have p113 : 0 ≤ (x8_2 : Int) := of_decide_eq_true as_
         have q113 : x8_2 < (l1.length : Int) := of_decide_eq_true as_
         obtain ⟨ad113, e113, hx113_0, hx113_1, hx113_2, hx113_3, hx113_4, hx113_5⟩ := at_T76 HR1.o x8_2 p113 q113; have hw113_5 := hx113_5; have hw113_4 := hx113_4; have hw113_3 := hx113_3; have hw113_2 := hx113_2; have hw113_1 := hx113_1; have hw113_0 := hx113_0
         cases e113
         replace hx113_0 := mv_ HB.o hx113_0; replace hx113_1 := mv_ HB.o hx113_1; replace hx113_2 := mv_ HB.o hx113_2; replace hx113_3 := mv_ HB.o hx113_3; replace hx113_4 := mv_ HB.o hx113_4; replace hx113_5 := mv_ HB.o hx113_5; replace p113 := eq_true p113; replace q113 := eq_true q113
         refine start_ (n := 7) (S := fun w' => w'.cell? ⟨gb101, 0, none⟩ = some (.slice A0_0 l0_0.length c0_0) ∧ w'.cell? (ad113.add ((x8_2).toNat * 6)) = some (.int .i64 ((rd_T76 l1 x8_2).f0)) ∧ w'.cell? ⟨(ad113.add ((x8_2).toNat * 6)).block, (ad113.add ((x8_2).toNat * 6)).off + 1, none⟩ = some (.int .i64 ((rd_T76 l1 x8_2).f1)) ∧ w'.cell? ⟨(ad113.add ((x8_2).toNat * 6)).block, (ad113.add ((x8_2).toNat * 6)).off + 2, none⟩ = some (.int .i64 ((rd_T76 l1 x8_2).f2)) ∧ w'.cell? ⟨(ad113.add ((x8_2).toNat * 6)).block, (ad113.add ((x8_2).toNat * 6)).off + 3, none⟩ = some (.int .i64 ((rd_T76 l1 x8_2).f3)) ∧ w'.cell? ⟨(ad113.add ((x8_2).toNat * 6)).block, (ad113.add ((x8_2).toNat * 6)).off + 4, none⟩ = some (.int .i64 ((rd_T76 l1 x8_2).f4)) ∧ w'.cell? ⟨(ad113.add ((x8_2).toNat * 6)).block, (ad113.add ((x8_2).toNat * 6)).off + 5, none⟩ = some (.int .i64 ((rd_T76 l1 x8_2).f5))) (ds := []) (bb 7 0) (by kernel_rfl) rfl rfl ⟨(blk_cell BK101.o 0).trans rfl, (mv_ HB.o hw113_0), (mv_ HB.o hw113_1), (mv_ HB.o hw113_2), (mv_ HB.o hw113_3), (mv_ HB.o hw113_4), (mv_ HB.o hw113_5)⟩ (fun hHeld => ?_)
         generalize wr.drew = w21 at HO_6 HO_7 BK101 HB hx113_0 hx113_1 hx113_2 hx113_3 hx113_4 hx113_5 hHeld ⊢
         refine pk_ 1 30 2 ?_; refine pk_ 2 31 6 ?_; refine pk_ 3 32 14 ?_; refine tk_ 0 29 15 hHeld ?_; refine tk_ 4 33 31 hHeld ?_
         refine one_ (i := 5) (N := some 34) (bb 7 63) rfl rfl (by kernel_rfl) (by decide) (fun K hK => ?_)
         refine gs_ Tryz.func38 #[.agg #[.slice A0_0 l0_0.length c0_0], .agg #[.int .i64 ((rd_T76 l1 x8_2).f0), .int .i64 ((rd_T76 l1 x8_2).f1), .int .i64 ((rd_T76 l1 x8_2).f2), .int .i64 ((rd_T76 l1 x8_2).f3), .int .i64 ((rd_T76 l1 x8_2).f4), .int .i64 ((rd_T76 l1 x8_2).f5)]] ?_
         with_reducible refine (spec_NameOf.calls k2 _ _ l0_0 ((rd_T76 l1 x8_2).f0) ((rd_T76 l1 x8_2).f1) ((rd_T76 l1 x8_2).f2) ((rd_T76 l1 x8_2).f3) ((rd_T76 l1 x8_2).f4) ((rd_T76 l1 x8_2).f5) t114 _ ?side1 ?side2 A19.o).mono ?_
         (case side1 => exact Kd.C_below HR0_0.o (be_ HB.o))
         (case side2 => exact HC0_0.o)
         rintro e w22 ⟨rfl, hb⟩
         refine ⟨_, rfl, ?_⟩; replace HO_6 := q_ (Kd.R_below (ra_ HO_6.o) hb); replace HO_7 := q_ (Kd.R_below (ra_ HO_7.o) hb); replace BK101 := lb_ BK101 hb; replace HB := sb1_ HB GE101 hb
         (try clear hb)
         (try clear hb2)
         (try clear hk)
         (try clear hi)
         refine hK.out _ _ ⟨(blk_cell BK101.o 0).trans rfl, (mv_ HB.o hw113_0), (mv_ HB.o hw113_1), (mv_ HB.o hw113_2), (mv_ HB.o hw113_3), (mv_ HB.o hw113_4), (mv_ HB.o hw113_5)⟩ (fun hHeld => ?_)
         clear hK K; refine no_ (some 34) ?_; refine pk_ 6 9 127 ?_
         refine done_ (by kernel_rfl) ?_
         try go_wp2_with (((with_reducible refine gate_dst (N := 37) rfl ?_); (try (refine gate_guard (by rfl) ?_; dsimp only)); refine Kd.R_lit k79 _ 79 ?hg (N := 37) ?hd (xs := ([] : List (S79))) (inner := []) (ok := fun _ => True) (okp := fun _ => True) ?hr ?hp (fun _ hk => hk) trivial (Below.refl _ _) (Nat.le_refl _) (by simp) ?_; (case hd => rfl); (case hg => rfl); (case hr => first | (go_simp; done) | (go_simp; rfl)); (case hp => exact (Reps.none _ _)); intro v116 w23 ho24 hb hg_ hnew_; clear hg_ hnew_; (first | rw [← Ny115.o] at ho24 | (simp only [Int.reduceToNat] at ho24; rw [← Ny115.o] at ho24)); have HO117 := q_ (Kd.R_lower (Kd.R_new' ho24 (Kd.R_lt (ra_ HO_6.o))) (below_size (be1_ HB.o GE101.o))); replace HO_6 := q_ (Kd.R_elder' (ra_ HO_6.o) (Kd.R_base ho24) hb); replace HO_7 := q_ (Kd.R_below (ra_ HO_7.o) hb); replace BK101 := lb_ BK101 hb; replace HB := sb1_ HB GE101 hb; clear hb ho24))
         go_ret2
         exact ⟨_, rt_, by (with_reducible repeat (first | apply Kd.R_alloc | apply Kd.R_drewN | apply Kd.R_drew)); exact Kd.R_mono HO117.o (fun _ hk => trivial), be1_ HB.o GE101.o⟩
        ·rw [if_neg c20] at H
         have c20b0 : (t114.toList == ([] : List UInt8)) = false := beq_eq_false_iff_ne.mpr c20
         have c20b1 : (t114.toList != ([] : List UInt8)) = true := bne_iff_ne.mpr c20
         by_cases c25 : ((rd_T76 l1 x8_2).f1) ≥ 0
         ·rw [if_pos c25] at H
          have c25b0 : decide (0 ≤ ((rd_T76 l1 x8_2).f1)) = true := dt_ c25
          clear c25; obtain ⟨t119, A26, H⟩ := ob_ H
          by_cases c27 : x6_2.length < 5864062014805
          ·rw [if_pos c27] at H; have LMc27 := q_ c27; clear c27
           obtain ⟨y122, hy122⟩ : ∃ y_ : List (S79), y_ = (x6_2 ++ [(⟨t119, (rd_T76 l1 x8_2).f4, (rd_T76 l1 x8_2).f5⟩ : S79)]) := ⟨_, rfl⟩
           replace H : (spec_ItemsOf.l0 k2 l1 y122 t106 (wrap64 (x8_2 + 1)) l0_0) = some (r1, r2) := by first | (rw [hy122]; with_reducible exact H) | (have H2_ := (Option.bind_some _ _).symm.trans H; rw [hy122]; with_reducible exact H2_) | (have H2_ := (Option.bind_some _ _).symm.trans H; with_reducible exact H2_) | with_reducible exact H | (rw [hy122]; exact H) | exact H
           have Ny122 := q_ hy122; clear hy122
           have H' := q_ H
           clear H
           try go_wp2
           replace HO_6 := q_ (Kd.R_drew HO_6.o); replace HO_7 := q_ (Kd.R_drew HO_7.o); replace BK101 := q_ (blk_drew BK101.o); replace HB := q_ (below_drew1 HB.o)
           have p113 : 0 ≤ (x8_2 : Int) := of_decide_eq_true as_
           have q113 : x8_2 < (l1.length : Int) := of_decide_eq_true as_
           obtain ⟨ad113, e113, hx113_0, hx113_1, hx113_2, hx113_3, hx113_4, hx113_5⟩ := at_T76 HR1.o x8_2 p113 q113; have hw113_5 := hx113_5; have hw113_4 := hx113_4; have hw113_3 := hx113_3; have hw113_2 := hx113_2; have hw113_1 := hx113_1; have hw113_0 := hx113_0
           cases e113
           replace hx113_0 := mv_ HB.o hx113_0; replace hx113_1 := mv_ HB.o hx113_1; replace hx113_2 := mv_ HB.o hx113_2; replace hx113_3 := mv_ HB.o hx113_3; replace hx113_4 := mv_ HB.o hx113_4; replace hx113_5 := mv_ HB.o hx113_5; replace p113 := eq_true p113; replace q113 := eq_true q113
           refine start_ (n := 7) (S := fun w' => w'.cell? ⟨gb101, 0, none⟩ = some (.slice A0_0 l0_0.length c0_0) ∧ w'.cell? (ad113.add ((x8_2).toNat * 6)) = some (.int .i64 ((rd_T76 l1 x8_2).f0)) ∧ w'.cell? ⟨(ad113.add ((x8_2).toNat * 6)).block, (ad113.add ((x8_2).toNat * 6)).off + 1, none⟩ = some (.int .i64 ((rd_T76 l1 x8_2).f1)) ∧ w'.cell? ⟨(ad113.add ((x8_2).toNat * 6)).block, (ad113.add ((x8_2).toNat * 6)).off + 2, none⟩ = some (.int .i64 ((rd_T76 l1 x8_2).f2)) ∧ w'.cell? ⟨(ad113.add ((x8_2).toNat * 6)).block, (ad113.add ((x8_2).toNat * 6)).off + 3, none⟩ = some (.int .i64 ((rd_T76 l1 x8_2).f3)) ∧ w'.cell? ⟨(ad113.add ((x8_2).toNat * 6)).block, (ad113.add ((x8_2).toNat * 6)).off + 4, none⟩ = some (.int .i64 ((rd_T76 l1 x8_2).f4)) ∧ w'.cell? ⟨(ad113.add ((x8_2).toNat * 6)).block, (ad113.add ((x8_2).toNat * 6)).off + 5, none⟩ = some (.int .i64 ((rd_T76 l1 x8_2).f5))) (ds := []) (bb 7 0) (by kernel_rfl) rfl rfl ⟨(blk_cell BK101.o 0).trans rfl, (mv_ HB.o hw113_0), (mv_ HB.o hw113_1), (mv_ HB.o hw113_2), (mv_ HB.o hw113_3), (mv_ HB.o hw113_4), (mv_ HB.o hw113_5)⟩ (fun hHeld => ?_)
           generalize wr.drew = w28 at HO_6 HO_7 BK101 HB hx113_0 hx113_1 hx113_2 hx113_3 hx113_4 hx113_5 hHeld ⊢
           refine pk_ 1 30 2 ?_; refine pk_ 2 31 6 ?_; refine pk_ 3 32 14 ?_; refine tk_ 0 29 15 hHeld ?_; refine tk_ 4 33 31 hHeld ?_
           refine one_ (i := 5) (N := some 34) (bb 7 63) rfl rfl (by kernel_rfl) (by decide) (fun K hK => ?_)
           refine gs_ Tryz.func38 #[.agg #[.slice A0_0 l0_0.length c0_0], .agg #[.int .i64 ((rd_T76 l1 x8_2).f0), .int .i64 ((rd_T76 l1 x8_2).f1), .int .i64 ((rd_T76 l1 x8_2).f2), .int .i64 ((rd_T76 l1 x8_2).f3), .int .i64 ((rd_T76 l1 x8_2).f4), .int .i64 ((rd_T76 l1 x8_2).f5)]] ?_
           with_reducible refine (spec_NameOf.calls k2 _ _ l0_0 ((rd_T76 l1 x8_2).f0) ((rd_T76 l1 x8_2).f1) ((rd_T76 l1 x8_2).f2) ((rd_T76 l1 x8_2).f3) ((rd_T76 l1 x8_2).f4) ((rd_T76 l1 x8_2).f5) t114 _ ?side1 ?side2 A19.o).mono ?_
           (case side1 => exact Kd.C_below HR0_0.o (be_ HB.o))
           (case side2 => exact HC0_0.o)
           rintro e w29 ⟨rfl, hb⟩
           refine ⟨_, rfl, ?_⟩; replace HO_6 := q_ (Kd.R_below (ra_ HO_6.o) hb); replace HO_7 := q_ (Kd.R_below (ra_ HO_7.o) hb); replace BK101 := lb_ BK101 hb; replace HB := sb1_ HB GE101 hb
           (try clear hb)
           (try clear hb2)
           (try clear hk)
           (try clear hi)
           refine hK.out _ _ ⟨(blk_cell BK101.o 0).trans rfl, (mv_ HB.o hw113_0), (mv_ HB.o hw113_1), (mv_ HB.o hw113_2), (mv_ HB.o hw113_3), (mv_ HB.o hw113_4), (mv_ HB.o hw113_5)⟩ (fun hHeld => ?_)
           clear hK K; refine no_ (some 34) ?_; refine pk_ 6 9 127 ?_
           refine done_ (by kernel_rfl) ?_
           obtain ⟨Ao30, co30, eo30⟩ := Kd.R_slice HO_7.o; subst eo30
           have p118 : 0 ≤ (x8_2 : Int) := of_decide_eq_true as_
           have q118 : x8_2 < (l1.length : Int) := of_decide_eq_true as_
           obtain ⟨ad118, e118, hx118_0, hx118_1, hx118_2, hx118_3, hx118_4, hx118_5⟩ := at_T76 HR1.o x8_2 p118 q118
           obtain rfl : ad113 = ad118 := (by injection e118)
           replace hx118_0 := mv_ HB.o hx118_0; replace hx118_1 := mv_ HB.o hx118_1; replace hx118_2 := mv_ HB.o hx118_2; replace hx118_3 := mv_ HB.o hx118_3; replace hx118_4 := mv_ HB.o hx118_4; replace hx118_5 := mv_ HB.o hx118_5; replace p118 := eq_true p118; replace q118 := eq_true q118
           try go_wp2_with (((with_reducible refine gate_callee (f := 39) rfl ?_); refine gl_ (some 48) rfl rfl Tryz.func39 #[.slice Ao30 t106.length co30, .string t114] ?_; (with_reducible refine (spec_l20At.calls k2 _ _ t106 t114 t119 _ ?side1 ?side2 A26.o).mono ?_); (case side1 => repeat (first | exact (Kd.R_reads' HO_7.o).2.2 | (with_reducible refine Kd.C_alloc ?_ _) | (with_reducible refine Kd.C_drewN ?_ _) | (with_reducible refine Kd.C_drew ?_))); (case side2 => exact (Kd.R_reads' HO_7.o).2.1); rintro e w' ⟨rfl, ⟨nd, rfl⟩⟩; refine ⟨_, rfl, ?_⟩))
           (try (rw [drewN_self w29]; generalize hq_ : World.drewN w29 _ = w29; have n0_ : J0 (Kd.R k79 79 w29 w.heap.size (fun _ => True) u6 x6_2) := ⟨by rw [← hq_]; exact (ra_ HO_6.o)⟩; have n1_ : J0 (Kd.R Kd.string 9 w29 w.heap.size (fun _ => True) (.slice Ao30 t106.length co30) t106) := ⟨by rw [← hq_]; exact (ra_ HO_7.o)⟩; have n2_ : J0 (w29.heap[gb101]? = some (.cells #[.slice A0_0 l0_0.length c0_0] 31 (0, 0))) := ⟨by rw [← hq_]; exact (bk_ BK101.o)⟩; have n3_ : J0 (Below w.heap.size w w29) := ⟨by rw [← hq_]; exact (be1_ HB.o GE101.o)⟩; clear HO_6 HO_7 BK101 HB hq_; have HO_6 := n0_; have HO_7 := n1_; have BK101 := n2_; have HB := n3_; clear n0_ n1_ n2_ n3_))
           replace HO_6 := q_ (Kd.R_drew HO_6.o); replace HO_7 := q_ (Kd.R_drew HO_7.o); replace BK101 := q_ (blk_drew BK101.o); replace HB := q_ (below_drew1 HB.o)
           have p120 : 0 ≤ (x8_2 : Int) := of_decide_eq_true as_
           have q120 : x8_2 < (l1.length : Int) := of_decide_eq_true as_
           obtain ⟨ad120, e120, hx120_0, hx120_1, hx120_2, hx120_3, hx120_4, hx120_5⟩ := at_T76 HR1.o x8_2 p120 q120; have hw120_5 := hx120_5; have hw120_4 := hx120_4; have hw120_3 := hx120_3; have hw120_2 := hx120_2; have hw120_1 := hx120_1; have hw120_0 := hx120_0
           obtain rfl : ad113 = ad120 := (by injection e120)
           replace hx120_0 := mv_ HB.o hx120_0; replace hx120_1 := mv_ HB.o hx120_1; replace hx120_2 := mv_ HB.o hx120_2; replace hx120_3 := mv_ HB.o hx120_3; replace hx120_4 := mv_ HB.o hx120_4; replace hx120_5 := mv_ HB.o hx120_5; replace p120 := eq_true p120; replace q120 := eq_true q120
           refine start_ (n := 16) (S := fun w' => w'.cell? (ad113.add ((x8_2).toNat * 6)) = some (.int .i64 ((rd_T76 l1 x8_2).f0)) ∧ w'.cell? ⟨(ad113.add ((x8_2).toNat * 6)).block, (ad113.add ((x8_2).toNat * 6)).off + 1, none⟩ = some (.int .i64 ((rd_T76 l1 x8_2).f1)) ∧ w'.cell? ⟨(ad113.add ((x8_2).toNat * 6)).block, (ad113.add ((x8_2).toNat * 6)).off + 2, none⟩ = some (.int .i64 ((rd_T76 l1 x8_2).f2)) ∧ w'.cell? ⟨(ad113.add ((x8_2).toNat * 6)).block, (ad113.add ((x8_2).toNat * 6)).off + 3, none⟩ = some (.int .i64 ((rd_T76 l1 x8_2).f3)) ∧ w'.cell? ⟨(ad113.add ((x8_2).toNat * 6)).block, (ad113.add ((x8_2).toNat * 6)).off + 4, none⟩ = some (.int .i64 ((rd_T76 l1 x8_2).f4)) ∧ w'.cell? ⟨(ad113.add ((x8_2).toNat * 6)).block, (ad113.add ((x8_2).toNat * 6)).off + 5, none⟩ = some (.int .i64 ((rd_T76 l1 x8_2).f5))) (ds := []) (bb 16 0) (by kernel_rfl) rfl rfl ⟨(mv_ HB.o hw120_0), (mv_ HB.o hw120_1), (mv_ HB.o hw120_2), (mv_ HB.o hw120_3), (mv_ HB.o hw120_4), (mv_ HB.o hw120_5)⟩ (fun hHeld => ?_); refine with_tabW spec_ItemsOf.tab14 spec_ItemsOf.bits14 (fun HT_ HW_ => ?_)
           generalize w29.drew = w31 at HO_6 HO_7 BK101 HB hx120_0 hx120_1 hx120_2 hx120_3 hx120_4 hx120_5 hHeld ⊢
           refine pv_ 0 49 1 HT_.o ?_; refine pv_ 1 50 3 HT_.o ?_; refine pv_ 2 51 7 HT_.o ?_; refine pv_ 3 52 15 HT_.o ?_; refine pv_ 4 53 31 HT_.o ?_; refine pv_ 5 54 63 HT_.o ?_; refine pv_ 7 56 191 HT_.o ?_; refine pv_ 8 57 447 HT_.o ?_; refine pv_ 9 58 959 HT_.o ?_; refine pv_ 10 59 1983 HT_.o ?_; refine tv_ 6 55 2047 HT_.o HW_.o hHeld ?_; refine tv_ 11 60 4095 HT_.o HW_.o hHeld ?_; refine pv_ 12 61 8191 HT_.o ?_
           refine one_ (i := 13) (N := some 62) (bb 16 16383) rfl rfl (one_of HT_.o (by kernel_rfl)) (by decide) (fun K hK => ?_)
           refine value_ (w1 := ?_) (v := ?_) (by rfl) rfl ?_ ?_
           rotate_left 2
           ·go_simp
            constructor
            ·rfl
            ·rfl
           refine hK.out _ _ ⟨(World.cell?_alloc_lt _ _ _ (World.block_lt_of_cell? _ _ ((mv_ HB.o hw120_0)))).trans ((mv_ HB.o hw120_0)), (World.cell?_alloc_lt _ _ _ (World.block_lt_of_cell? _ _ ((mv_ HB.o hw120_1)))).trans ((mv_ HB.o hw120_1)), (World.cell?_alloc_lt _ _ _ (World.block_lt_of_cell? _ _ ((mv_ HB.o hw120_2)))).trans ((mv_ HB.o hw120_2)), (World.cell?_alloc_lt _ _ _ (World.block_lt_of_cell? _ _ ((mv_ HB.o hw120_3)))).trans ((mv_ HB.o hw120_3)), (World.cell?_alloc_lt _ _ _ (World.block_lt_of_cell? _ _ ((mv_ HB.o hw120_4)))).trans ((mv_ HB.o hw120_4)), (World.cell?_alloc_lt _ _ _ (World.block_lt_of_cell? _ _ ((mv_ HB.o hw120_5)))).trans ((mv_ HB.o hw120_5))⟩ (fun hHeld => ?_)
           clear hK K; refine no_ (some 62) ?_
           refine one_ (i := 14) (N := some 63) (bb 16 32767) rfl rfl (one_of HT_.o (by kernel_rfl)) (by decide) (fun K hK => ?_)
           refine Kd.R_append_step k79 (w0 := w) w.heap.size (by rfl) (.tmp 49) (.tmp 62) 40 79 (.agg #[(.int .i64 0), (.int .i64 0), (.int .i64 0)]) 24 rfl Tryz.underlying40 info79 rfl (by decide) (by omega) u6 x6_2 (⟨t119, (rd_T76 l1 x8_2).f4, (rd_T76 l1 x8_2).f5⟩ : S79) [.int .i64 t119, .int .i64 ((rd_T76 l1 x8_2).f4), .int .i64 ((rd_T76 l1 x8_2).f5)] (fun _ => True) (fun _ => False) rfl rfl ?aP (fun _ hk => hk.elim) ?aF ?aO ?aB ?aS ?aL ?_
           (case aP => exact k79_mkM _ _ _ (⟨t119, (rd_T76 l1 x8_2).f4, (rd_T76 l1 x8_2).f5⟩ : S79))
           (case aB => exact (be1_ HB.o GE101.o))
           (case aF => exact (fun _ _ => trivial))
           (case aO => exact (ra_ HO_6.o))
           (case aS => exact (below_size (be1_ HB.o GE101.o)))
           (case aL => have := LMc27.o; omega)
           intro v123 w32 ho hb hg hat
           rw [← Ny122.o] at ho
           have HO124 := q_ (ho)
           replace HO_7 := q_ (Kd.R_over' (ra_ HO_7.o) (Kd.R_typed (ra_ HO_6.o)) (by decide) hg)
           replace BK101 := q_ (blk_grown (g := gb101) (o := .cells #[.slice A0_0 l0_0.length c0_0] 31 (0, 0)) (bk_ BK101.o) hg (Kd.R_ne HO_6.o BK101.o (by decide)))
           replace HB := q_ (hb); clear HO_6; clear ho hb hg hat
           refine hK.out _ _ ⟨(mv_ HB.o hw120_0), (mv_ HB.o hw120_1), (mv_ HB.o hw120_2), (mv_ HB.o hw120_3), (mv_ HB.o hw120_4), (mv_ HB.o hw120_5)⟩ (fun hHeld => ?_)
           clear hK K; refine no_ (some 63) ?_; refine pv_ 15 6 65535 HT_.o ?_
           refine done_ (done_of HT_.o (by kernel_rfl)) ?_
           try go_wp2
           go_roundg k2
           case measure => have := HJ2.o; have := HK2.o; omega
           case rel => exact ⟨(y122), (wrap64 (x8_2 + 1)), rs_, H', ⟨by have := HJ2.o; have := HK2.o; omega⟩, ⟨ra_ HO124.o⟩, ⟨ra_ HO_7.o⟩, ⟨bk_ BK101.o⟩, ⟨be1_ HB.o GE101.o⟩⟩
          ·rw [if_neg c27] at H
           exact absurd H (by simp)
         ·rw [if_neg c25] at H
          have c25b0 : decide (0 ≤ ((rd_T76 l1 x8_2).f1)) = false := df_ c25
          clear c25
          by_cases c33 : x6_2.length < 5864062014805
          ·rw [if_pos c33] at H; have LMc33 := q_ c33; clear c33
           obtain ⟨y127, hy127⟩ : ∃ y_ : List (S79), y_ = (x6_2 ++ [(⟨(t106.length : Int), (rd_T76 l1 x8_2).f4, (rd_T76 l1 x8_2).f5⟩ : S79)]) := ⟨_, rfl⟩
           replace H : (spec_ItemsOf.l0 k2 l1 y127 t106 (wrap64 (x8_2 + 1)) l0_0) = some (r1, r2) := by first | (rw [hy127]; with_reducible exact H) | (have H2_ := (Option.bind_some _ _).symm.trans H; rw [hy127]; with_reducible exact H2_) | (have H2_ := (Option.bind_some _ _).symm.trans H; with_reducible exact H2_) | with_reducible exact H | (rw [hy127]; exact H) | exact H
           have Ny127 := q_ hy127; clear hy127
           have H' := q_ H
           clear H
           try go_wp2
           replace HO_6 := q_ (Kd.R_drew HO_6.o); replace HO_7 := q_ (Kd.R_drew HO_7.o); replace BK101 := q_ (blk_drew BK101.o); replace HB := q_ (below_drew1 HB.o)
           have p113 : 0 ≤ (x8_2 : Int) := of_decide_eq_true as_
           have q113 : x8_2 < (l1.length : Int) := of_decide_eq_true as_
           obtain ⟨ad113, e113, hx113_0, hx113_1, hx113_2, hx113_3, hx113_4, hx113_5⟩ := at_T76 HR1.o x8_2 p113 q113; have hw113_5 := hx113_5; have hw113_4 := hx113_4; have hw113_3 := hx113_3; have hw113_2 := hx113_2; have hw113_1 := hx113_1; have hw113_0 := hx113_0
           cases e113
           replace hx113_0 := mv_ HB.o hx113_0; replace hx113_1 := mv_ HB.o hx113_1; replace hx113_2 := mv_ HB.o hx113_2; replace hx113_3 := mv_ HB.o hx113_3; replace hx113_4 := mv_ HB.o hx113_4; replace hx113_5 := mv_ HB.o hx113_5; replace p113 := eq_true p113; replace q113 := eq_true q113
           refine start_ (n := 7) (S := fun w' => w'.cell? ⟨gb101, 0, none⟩ = some (.slice A0_0 l0_0.length c0_0) ∧ w'.cell? (ad113.add ((x8_2).toNat * 6)) = some (.int .i64 ((rd_T76 l1 x8_2).f0)) ∧ w'.cell? ⟨(ad113.add ((x8_2).toNat * 6)).block, (ad113.add ((x8_2).toNat * 6)).off + 1, none⟩ = some (.int .i64 ((rd_T76 l1 x8_2).f1)) ∧ w'.cell? ⟨(ad113.add ((x8_2).toNat * 6)).block, (ad113.add ((x8_2).toNat * 6)).off + 2, none⟩ = some (.int .i64 ((rd_T76 l1 x8_2).f2)) ∧ w'.cell? ⟨(ad113.add ((x8_2).toNat * 6)).block, (ad113.add ((x8_2).toNat * 6)).off + 3, none⟩ = some (.int .i64 ((rd_T76 l1 x8_2).f3)) ∧ w'.cell? ⟨(ad113.add ((x8_2).toNat * 6)).block, (ad113.add ((x8_2).toNat * 6)).off + 4, none⟩ = some (.int .i64 ((rd_T76 l1 x8_2).f4)) ∧ w'.cell? ⟨(ad113.add ((x8_2).toNat * 6)).block, (ad113.add ((x8_2).toNat * 6)).off + 5, none⟩ = some (.int .i64 ((rd_T76 l1 x8_2).f5))) (ds := []) (bb 7 0) (by kernel_rfl) rfl rfl ⟨(blk_cell BK101.o 0).trans rfl, (mv_ HB.o hw113_0), (mv_ HB.o hw113_1), (mv_ HB.o hw113_2), (mv_ HB.o hw113_3), (mv_ HB.o hw113_4), (mv_ HB.o hw113_5)⟩ (fun hHeld => ?_)
           generalize wr.drew = w34 at HO_6 HO_7 BK101 HB hx113_0 hx113_1 hx113_2 hx113_3 hx113_4 hx113_5 hHeld ⊢
           refine pk_ 1 30 2 ?_; refine pk_ 2 31 6 ?_; refine pk_ 3 32 14 ?_; refine tk_ 0 29 15 hHeld ?_; refine tk_ 4 33 31 hHeld ?_
           refine one_ (i := 5) (N := some 34) (bb 7 63) rfl rfl (by kernel_rfl) (by decide) (fun K hK => ?_)
           refine gs_ Tryz.func38 #[.agg #[.slice A0_0 l0_0.length c0_0], .agg #[.int .i64 ((rd_T76 l1 x8_2).f0), .int .i64 ((rd_T76 l1 x8_2).f1), .int .i64 ((rd_T76 l1 x8_2).f2), .int .i64 ((rd_T76 l1 x8_2).f3), .int .i64 ((rd_T76 l1 x8_2).f4), .int .i64 ((rd_T76 l1 x8_2).f5)]] ?_
           with_reducible refine (spec_NameOf.calls k2 _ _ l0_0 ((rd_T76 l1 x8_2).f0) ((rd_T76 l1 x8_2).f1) ((rd_T76 l1 x8_2).f2) ((rd_T76 l1 x8_2).f3) ((rd_T76 l1 x8_2).f4) ((rd_T76 l1 x8_2).f5) t114 _ ?side1 ?side2 A19.o).mono ?_
           (case side1 => exact Kd.C_below HR0_0.o (be_ HB.o))
           (case side2 => exact HC0_0.o)
           rintro e w35 ⟨rfl, hb⟩
           refine ⟨_, rfl, ?_⟩; replace HO_6 := q_ (Kd.R_below (ra_ HO_6.o) hb); replace HO_7 := q_ (Kd.R_below (ra_ HO_7.o) hb); replace BK101 := lb_ BK101 hb; replace HB := sb1_ HB GE101 hb
           (try clear hb)
           (try clear hb2)
           (try clear hk)
           (try clear hi)
           refine hK.out _ _ ⟨(blk_cell BK101.o 0).trans rfl, (mv_ HB.o hw113_0), (mv_ HB.o hw113_1), (mv_ HB.o hw113_2), (mv_ HB.o hw113_3), (mv_ HB.o hw113_4), (mv_ HB.o hw113_5)⟩ (fun hHeld => ?_)
           clear hK K; refine no_ (some 34) ?_; refine pk_ 6 9 127 ?_
           refine done_ (by kernel_rfl) ?_
           obtain ⟨Ao36, co36, eo36⟩ := Kd.R_slice HO_7.o; subst eo36
           have p118 : 0 ≤ (x8_2 : Int) := of_decide_eq_true as_
           have q118 : x8_2 < (l1.length : Int) := of_decide_eq_true as_
           obtain ⟨ad118, e118, hx118_0, hx118_1, hx118_2, hx118_3, hx118_4, hx118_5⟩ := at_T76 HR1.o x8_2 p118 q118
           obtain rfl : ad113 = ad118 := (by injection e118)
           replace hx118_0 := mv_ HB.o hx118_0; replace hx118_1 := mv_ HB.o hx118_1; replace hx118_2 := mv_ HB.o hx118_2; replace hx118_3 := mv_ HB.o hx118_3; replace hx118_4 := mv_ HB.o hx118_4; replace hx118_5 := mv_ HB.o hx118_5; replace p118 := eq_true p118; replace q118 := eq_true q118
           try go_wp2
           replace HO_6 := q_ (Kd.R_drew HO_6.o); replace HO_7 := q_ (Kd.R_drew HO_7.o); replace BK101 := q_ (blk_drew BK101.o); replace HB := q_ (below_drew1 HB.o)
           have p125 : 0 ≤ (x8_2 : Int) := of_decide_eq_true as_
           have q125 : x8_2 < (l1.length : Int) := of_decide_eq_true as_
           obtain ⟨ad125, e125, hx125_0, hx125_1, hx125_2, hx125_3, hx125_4, hx125_5⟩ := at_T76 HR1.o x8_2 p125 q125; have hw125_5 := hx125_5; have hw125_4 := hx125_4; have hw125_3 := hx125_3; have hw125_2 := hx125_2; have hw125_1 := hx125_1; have hw125_0 := hx125_0
           obtain rfl : ad113 = ad125 := (by injection e125)
           replace hx125_0 := mv_ HB.o hx125_0; replace hx125_1 := mv_ HB.o hx125_1; replace hx125_2 := mv_ HB.o hx125_2; replace hx125_3 := mv_ HB.o hx125_3; replace hx125_4 := mv_ HB.o hx125_4; replace hx125_5 := mv_ HB.o hx125_5; replace p125 := eq_true p125; replace q125 := eq_true q125
           refine start_ (n := 16) (S := fun w' => w'.cell? (ad113.add ((x8_2).toNat * 6)) = some (.int .i64 ((rd_T76 l1 x8_2).f0)) ∧ w'.cell? ⟨(ad113.add ((x8_2).toNat * 6)).block, (ad113.add ((x8_2).toNat * 6)).off + 1, none⟩ = some (.int .i64 ((rd_T76 l1 x8_2).f1)) ∧ w'.cell? ⟨(ad113.add ((x8_2).toNat * 6)).block, (ad113.add ((x8_2).toNat * 6)).off + 2, none⟩ = some (.int .i64 ((rd_T76 l1 x8_2).f2)) ∧ w'.cell? ⟨(ad113.add ((x8_2).toNat * 6)).block, (ad113.add ((x8_2).toNat * 6)).off + 3, none⟩ = some (.int .i64 ((rd_T76 l1 x8_2).f3)) ∧ w'.cell? ⟨(ad113.add ((x8_2).toNat * 6)).block, (ad113.add ((x8_2).toNat * 6)).off + 4, none⟩ = some (.int .i64 ((rd_T76 l1 x8_2).f4)) ∧ w'.cell? ⟨(ad113.add ((x8_2).toNat * 6)).block, (ad113.add ((x8_2).toNat * 6)).off + 5, none⟩ = some (.int .i64 ((rd_T76 l1 x8_2).f5))) (ds := []) (bb 16 0) (by kernel_rfl) rfl rfl ⟨(mv_ HB.o hw125_0), (mv_ HB.o hw125_1), (mv_ HB.o hw125_2), (mv_ HB.o hw125_3), (mv_ HB.o hw125_4), (mv_ HB.o hw125_5)⟩ (fun hHeld => ?_); refine with_tabW spec_ItemsOf.tab14 spec_ItemsOf.bits14 (fun HT_ HW_ => ?_)
           generalize w35.drew = w37 at HO_6 HO_7 BK101 HB hx125_0 hx125_1 hx125_2 hx125_3 hx125_4 hx125_5 hHeld ⊢
           refine pv_ 0 49 1 HT_.o ?_; refine pv_ 1 50 3 HT_.o ?_; refine pv_ 2 51 7 HT_.o ?_; refine pv_ 3 52 15 HT_.o ?_; refine pv_ 4 53 31 HT_.o ?_; refine pv_ 5 54 63 HT_.o ?_; refine pv_ 7 56 191 HT_.o ?_; refine pv_ 8 57 447 HT_.o ?_; refine pv_ 9 58 959 HT_.o ?_; refine pv_ 10 59 1983 HT_.o ?_; refine tv_ 6 55 2047 HT_.o HW_.o hHeld ?_; refine tv_ 11 60 4095 HT_.o HW_.o hHeld ?_; refine pv_ 12 61 8191 HT_.o ?_
           refine one_ (i := 13) (N := some 62) (bb 16 16383) rfl rfl (one_of HT_.o (by kernel_rfl)) (by decide) (fun K hK => ?_)
           refine value_ (w1 := ?_) (v := ?_) (by rfl) rfl ?_ ?_
           rotate_left 2
           ·go_simp
            constructor
            ·rfl
            ·rfl
           refine hK.out _ _ ⟨(World.cell?_alloc_lt _ _ _ (World.block_lt_of_cell? _ _ ((mv_ HB.o hw125_0)))).trans ((mv_ HB.o hw125_0)), (World.cell?_alloc_lt _ _ _ (World.block_lt_of_cell? _ _ ((mv_ HB.o hw125_1)))).trans ((mv_ HB.o hw125_1)), (World.cell?_alloc_lt _ _ _ (World.block_lt_of_cell? _ _ ((mv_ HB.o hw125_2)))).trans ((mv_ HB.o hw125_2)), (World.cell?_alloc_lt _ _ _ (World.block_lt_of_cell? _ _ ((mv_ HB.o hw125_3)))).trans ((mv_ HB.o hw125_3)), (World.cell?_alloc_lt _ _ _ (World.block_lt_of_cell? _ _ ((mv_ HB.o hw125_4)))).trans ((mv_ HB.o hw125_4)), (World.cell?_alloc_lt _ _ _ (World.block_lt_of_cell? _ _ ((mv_ HB.o hw125_5)))).trans ((mv_ HB.o hw125_5))⟩ (fun hHeld => ?_)
           clear hK K; refine no_ (some 62) ?_
           refine one_ (i := 14) (N := some 63) (bb 16 32767) rfl rfl (one_of HT_.o (by kernel_rfl)) (by decide) (fun K hK => ?_)
           refine Kd.R_append_step k79 (w0 := w) w.heap.size (by rfl) (.tmp 49) (.tmp 62) 40 79 (.agg #[(.int .i64 0), (.int .i64 0), (.int .i64 0)]) 24 rfl Tryz.underlying40 info79 rfl (by decide) (by omega) u6 x6_2 (⟨(t106.length : Int), (rd_T76 l1 x8_2).f4, (rd_T76 l1 x8_2).f5⟩ : S79) [.int .i64 (t106.length : Int), .int .i64 ((rd_T76 l1 x8_2).f4), .int .i64 ((rd_T76 l1 x8_2).f5)] (fun _ => True) (fun _ => False) rfl rfl ?aP (fun _ hk => hk.elim) ?aF ?aO ?aB ?aS ?aL ?_
           (case aP => exact k79_mkM _ _ _ (⟨(t106.length : Int), (rd_T76 l1 x8_2).f4, (rd_T76 l1 x8_2).f5⟩ : S79))
           (case aB => exact (be1_ HB.o GE101.o))
           (case aF => exact (fun _ _ => trivial))
           (case aO => exact (ra_ HO_6.o))
           (case aS => exact (below_size (be1_ HB.o GE101.o)))
           (case aL => have := LMc33.o; omega)
           intro v128 w38 ho hb hg hat
           rw [← Ny127.o] at ho
           have HO129 := q_ (ho)
           replace HO_7 := q_ (Kd.R_over' (ra_ HO_7.o) (Kd.R_typed (ra_ HO_6.o)) (by decide) hg)
           replace BK101 := q_ (blk_grown (g := gb101) (o := .cells #[.slice A0_0 l0_0.length c0_0] 31 (0, 0)) (bk_ BK101.o) hg (Kd.R_ne HO_6.o BK101.o (by decide)))
           replace HB := q_ (hb); clear HO_6; clear ho hb hg hat
           refine hK.out _ _ ⟨(mv_ HB.o hw125_0), (mv_ HB.o hw125_1), (mv_ HB.o hw125_2), (mv_ HB.o hw125_3), (mv_ HB.o hw125_4), (mv_ HB.o hw125_5)⟩ (fun hHeld => ?_)
           clear hK K; refine no_ (some 63) ?_; refine pv_ 15 6 65535 HT_.o ?_
           refine done_ (done_of HT_.o (by kernel_rfl)) ?_
           try go_wp2
           go_roundg k2
           case measure => have := HJ2.o; have := HK2.o; omega
           case rel => exact ⟨(y127), (wrap64 (x8_2 + 1)), rs_, H', ⟨by have := HJ2.o; have := HK2.o; omega⟩, ⟨ra_ HO129.o⟩, ⟨ra_ HO_7.o⟩, ⟨bk_ BK101.o⟩, ⟨be1_ HB.o GE101.o⟩⟩
          ·rw [if_neg c33] at H
           exact absurd H (by simp)
       ·rw [if_neg c18] at H
        exact absurd H (by simp)
      ·rw [if_neg c17] at H; have c17b0 := df_ c17; clear c17; obtain ⟨t109, A39, H⟩ := ob_ H
       by_cases c40 : t109 = true
       ·subst c40; rw [if_pos rfl] at H
        simp only [Option.some.injEq, Prod.mk.injEq] at H
        obtain ⟨rfl, rfl⟩ := H; obtain ⟨Ao41, co41, eo41⟩ := Kd.R_slice HO_6.o; subst eo41
        go_wp2_with (((with_reducible refine gate_callee (f := 40) rfl ?_); refine gl_ (some 65) rfl rfl Tryz.func40 #[.slice Ao41 x6_2.length co41] ?_; (with_reducible refine (spec_l16Items.calls _ _ x6_2 true _ ?side1 ?side2 A39.o).mono ?_); (case side1 => repeat (first | exact (Kd.R_reads' HO_6.o).2.2 | (with_reducible refine Kd.C_alloc ?_ _) | (with_reducible refine Kd.C_drewN ?_ _) | (with_reducible refine Kd.C_drew ?_))); (case side2 => exact (Kd.R_reads' HO_6.o).2.1); rintro e w42 ⟨rfl, hb⟩; refine ⟨_, rfl, ?_⟩; replace HO_6 := q_ (Kd.R_below (ra_ HO_6.o) hb); replace HO_7 := q_ (Kd.R_below (ra_ HO_7.o) hb); replace BK101 := lb_ BK101 hb; replace HB := sb1_ HB GE101 hb; (try clear hb)))
        go_ret2
        exact ⟨_, rt_, ra_ HO_6.o, be1_ HB.o GE101.o⟩
       ·replace c40 := Bool.eq_false_iff.mpr c40; subst c40; rw [if_neg nft_] at H
        obtain ⟨y110, hy110⟩ : ∃ y_ : List (S79), y_ = (([] : List (S79))) := ⟨_, rfl⟩
        replace H : (some (y110, false)) = some (r1, r2) := by first | (rw [hy110]; with_reducible exact H) | (have H2_ := (Option.bind_some _ _).symm.trans H; rw [hy110]; with_reducible exact H2_) | (have H2_ := (Option.bind_some _ _).symm.trans H; with_reducible exact H2_) | with_reducible exact H | (rw [hy110]; exact H) | exact H
        have Ny110 := q_ hy110; clear hy110
        simp only [Option.some.injEq, Prod.mk.injEq] at H
        obtain ⟨rfl, rfl⟩ := H; obtain ⟨Ao43, co43, eo43⟩ := Kd.R_slice HO_6.o; subst eo43
        go_wp2_with (first | ((with_reducible refine gate_callee (f := 40) rfl ?_); refine gl_ (some 65) rfl rfl Tryz.func40 #[.slice Ao43 x6_2.length co43] ?_; (with_reducible refine (spec_l16Items.calls _ _ x6_2 false _ ?side1 ?side2 A39.o).mono ?_); (case side1 => repeat (first | exact (Kd.R_reads' HO_6.o).2.2 | (with_reducible refine Kd.C_alloc ?_ _) | (with_reducible refine Kd.C_drewN ?_ _) | (with_reducible refine Kd.C_drew ?_))); (case side2 => exact (Kd.R_reads' HO_6.o).2.1); rintro e w44 ⟨rfl, hb⟩; refine ⟨_, rfl, ?_⟩; replace HO_6 := q_ (Kd.R_below (ra_ HO_6.o) hb); replace HO_7 := q_ (Kd.R_below (ra_ HO_7.o) hb); replace BK101 := lb_ BK101 hb; replace HB := sb1_ HB GE101 hb; (try clear hb)) | ((with_reducible refine gate_dst (N := 67) rfl ?_); (try (refine gate_guard (by rfl) ?_; dsimp only)); refine Kd.R_lit k79 _ 79 ?hg (N := 67) ?hd (xs := ([] : List (S79))) (inner := []) (ok := fun _ => True) (okp := fun _ => True) ?hr ?hp (fun _ hk => hk) trivial (Below.refl _ _) (Nat.le_refl _) (by simp) ?_; (case hd => rfl); (case hg => rfl); (case hr => first | (go_simp; done) | (go_simp; rfl)); (case hp => exact (Reps.none _ _)); intro v111 w45 ho46 hb hg_ hnew_; clear hg_ hnew_; (first | rw [← Ny110.o] at ho46 | (simp only [Int.reduceToNat] at ho46; rw [← Ny110.o] at ho46)); have HO112 := q_ (Kd.R_lower (Kd.R_new' ho46 (Kd.R_lt (ra_ HO_6.o))) (below_size (be1_ HB.o GE101.o))); replace HO_6 := q_ (Kd.R_elder' (ra_ HO_6.o) (Kd.R_base ho46) hb); replace HO_7 := q_ (Kd.R_below (ra_ HO_7.o) hb); replace BK101 := lb_ BK101 hb; replace HB := sb1_ HB GE101 hb; clear hb ho46))
        go_ret2
        exact ⟨_, rt_, by (with_reducible repeat (first | apply Kd.R_alloc | apply Kd.R_drewN | apply Kd.R_drew)); exact Kd.R_mono HO112.o (fun _ hk => trivial), be1_ HB.o GE101.o⟩
end Go.Proofs.YtijmhelacmjggaaGreat.P
namespace Go.Proofs.YtijmhelacmjggaaGreat.P
open Go.RowKit Go.Shelf Go.Proofs.YtijmhelacmjggaaGreatW.PrintWords Go.Proofs.YtijmhelacmjggaaGreatW.PrintLast Go.Proofs.YtijmhelacmjggaaGreatW.PrintMore Go.Proofs.YtijmhelacmjggaaGreatEv
set_option linter.unusedVariables false
set_option linter.unusedSimpArgs false
theorem quietT_within {x lo hi : Int} {b : Bool} (h : impl_within.f x lo hi = some b) (W : World) (n : Nat) : Calls Tryz.prog 56 #[.int .i64 x, .int .i64 lo, .int .i64 hi] (W.drewN n) fun e w' => e = .returned (.bool b) ∧ ∃ m, w' = W.drewN m := by
  refine (impl_within.calls x lo hi b _ h).mono ?_
  rintro e w' ⟨rfl, ⟨nd, rfl⟩⟩
  exact ⟨rfl, _, World.drewN_drewN _ _ _⟩
theorem quietT_sizeM {A : Option Addr} {c : Nat} {l : List S62} {W : World} (hr : Kd.C k62 W A l.length l) (hc : l.length ≤ c) (n : Nat) : Calls Tryz.prog 57 #[.slice A l.length c] (W.drewN n) fun e w' => e = .returned (.int .i64 (l.length : Int)) ∧ ∃ m, w' = W.drewN m := by
  refine (impl_Mode_57.calls A c l _ _ (Kd.C_below hr (pw_below_drewN (Below.refl _ _) n)) hc rfl).mono ?_
  rintro e w' ⟨rfl, ⟨nd, rfl⟩⟩
  exact ⟨rfl, _, World.drewN_drewN _ _ _⟩
theorem quietT_sizeR {A : Option Addr} {c : Nat} {l : List S64} {W : World} (hr : Kd.C k64 W A l.length l) (hc : l.length ≤ c) (n : Nat) : Calls Tryz.prog 71 #[.slice A l.length c] (W.drewN n) fun e w' => e = .returned (.int .i64 (l.length : Int)) ∧ ∃ m, w' = W.drewN m := by
  refine (impl_Rule_71.calls A c l _ _ (Kd.C_below hr (pw_below_drewN (Below.refl _ _) n)) hc rfl).mono ?_
  rintro e w' ⟨rfl, ⟨nd, rfl⟩⟩
  exact ⟨rfl, _, World.drewN_drewN _ _ _⟩
def tokOkB (g : List S62) (a b : Int) : Bool := decide (0 ≤ a ∧ a ≤ (g.length : Int) - 1) && decide (-1 ≤ b ∧ b ≤ ((rd_T62 g a).f1.length : Int) - 1)
theorem tokenOk_hand (A0 : Option Addr) (c0 : Nat) (l0 : List S62) (a b c d e0 f : Int) (w : World) (hl : l0.length ≤ 1048576) (hr0 : Kd.C k62 w A0 l0.length l0) (hc0 : l0.length ≤ c0) :
    Calls Tryz.prog 44 #[.agg #[.slice A0 l0.length c0], .agg #[.int .i64 a, .int .i64 b, .int .i64 c, .int .i64 d, .int .i64 e0, .int .i64 f]] w fun e w' => e = .returned (.bool (tokOkB l0 a b)) ∧ Below w.heap.size w w' := by
  have HI := q_ (impl_within_eq a 0 ((l0.length : Int) - 1))
  have qw0 : IntKind.i64.wrap ((l0.length : Int) - 1) = (l0.length : Int) - 1 := by rw [i64_w]; exact wrap_id (by omega) (by omega)
  obtain ⟨W1, hW1⟩ : ∃ W1 : World, W1 = w.alloc (.cells #[.slice A0 l0.length c0] 31) := ⟨_, rfl⟩
  obtain ⟨W2, hW2⟩ : ∃ W2 : World, W2 = W1.alloc (.cells #[.int .i64 a, .int .i64 b, .int .i64 c, .int .i64 d, .int .i64 e0, .int .i64 f] 76) := ⟨_, rfl⟩
  have HB : J0 (Below w.heap.size w W2) := ⟨by rw [hW2, hW1]; exact below_alloc (below_alloc (Below.refl _ _) _) _⟩
  have B1 : W2.heap[w.heap.size]? = some (.cells #[.slice A0 l0.length c0] 31) := by rw [hW2, hW1]; exact blk_alloc (blk_new _ _) _
  have B2 : W2.heap[W1.heap.size]? = some (.cells #[.int .i64 a, .int .i64 b, .int .i64 c, .int .i64 d, .int .i64 e0, .int .i64 f] 76) := by rw [hW2]; exact blk_new _ _
  have HR := q_ (Kd.C_below hr0 HB.o)
  have HC := q_ hc0
  have hg1 : W2.cell? ⟨w.heap.size, 0, none⟩ = some (.slice A0 l0.length c0) := (blk_cell B1 0).trans rfl
  rw [show W1.heap.size = w.heap.size + 1 by rw [hW1]; simp [World.alloc_eq]] at B2
  have ha0 : W2.cell? ⟨w.heap.size + 1, 0, none⟩ = some (.int .i64 a) := (blk_cell B2 0).trans rfl
  have ha1 : W2.cell? ⟨w.heap.size + 1, 1, none⟩ = some (.int .i64 b) := (blk_cell B2 1).trans rfl
  clear B1 B2 hr0 hc0
  unfold tokOkB
  cases h1 : decide (0 ≤ a ∧ a ≤ (l0.length : Int) - 1)
  · rw [h1] at HI
    rw [Bool.false_and]
    clear h1
    go_enter Tryz.func44, Tryz.ntmps44
    go_upto_region 1 with fail
    rw [← hW1, ← hW2]
    clear hW1 hW2
    go_wp2_with fail
    go_quiet (first | (go_at_call 57; with_reducible exact quietT_sizeM HR.o HC.o _) | (go_at_call 56; with_reducible exact quietT_within HI.o _ _))
    go_wp2_with fail
    go_ret
    exact ⟨rfl, by repeat (first | (with_reducible exact HB.o) | apply pw_below_drewN | apply below_drew1)⟩
  · rw [h1] at HI
    have h2 := of_decide_eq_true h1
    rw [Bool.true_and]
    clear h1
    have p1 : 0 ≤ a := h2.1
    have q1 : a < (l0.length : Int) := by omega
    obtain ⟨ad, A1, c1, e1, hx0, hx1, hl1, hi1⟩ := at_T62 HR.o a p1 q1
    cases e1
    have hrl : ((rd_T62 l0 a).f1.length : Int) ≤ 9223372036854775807 := by have := hi1.2.1; omega
    have HR1 := q_ hi1
    have HC1 := q_ hl1
    generalize rd_T62 l0 a = y at *
    have HJ := q_ (impl_within_eq b (-1) ((y.f1.length : Int) - 1))
    have qw1 : IntKind.i64.wrap ((y.f1.length : Int) - 1) = (y.f1.length : Int) - 1 := by rw [i64_w]; exact wrap_id (by omega) (by omega)
    generalize decide (-1 ≤ b ∧ b ≤ (y.f1.length : Int) - 1) = r at *
    replace p1 := eq_true p1
    replace q1 := eq_true q1
    clear hi1 hl1 h2
    go_enter Tryz.func44, Tryz.ntmps44
    go_upto_region 1 with fail
    rw [← hW1, ← hW2]
    clear hW1 hW2
    go_wp2_with fail
    go_quiet (first | (go_at_call 57; with_reducible exact quietT_sizeM HR.o HC.o _) | (go_at_call 71; with_reducible exact quietT_sizeR HR1.o HC1.o _) | (go_at_call 56; with_reducible exact quietT_within HI.o _ _) | (go_at_call 56; with_reducible exact quietT_within HJ.o _ _))
    go_wp2_with fail
    go_ret
    exact ⟨rfl, by repeat (first | (with_reducible exact HB.o) | apply pw_below_drewN | apply below_drew1)⟩
end Go.Proofs.YtijmhelacmjggaaGreat.P
namespace Go.Proofs.YtijmhelacmjggaaGreat.P
open Go.RowKit Go.Proofs.YtijmhelacmjggaaGreatW.PrintWords Go.Proofs.YtijmhelacmjggaaGreatW.PrintLast Go.Proofs.YtijmhelacmjggaaGreatW.PrintMore
attribute [local go_sem] max2_int min2_int max_two min_two max_three min_three max_four min_four
set_option linter.unusedVariables false
set_option linter.unusedSimpArgs false
/-! ### impl_tokenOk: function 44 -/
def impl_tokenOk.f (l0_0 : List (S62)) (a1_0 : Int) (a1_1 : Int) (a1_2 : Int) (a1_3 : Int) (a1_4 : Int) (a1_5 : Int) : Option (Bool) := if l0_0.length ≤ 1048576 then some (tokOkB l0_0 a1_0 a1_1) else none
theorem impl_tokenOk.calls (A0_0 : Option Addr) (c0_0 : Nat) (l0_0 : List (S62)) (a1_0 : Int) (a1_1 : Int) (a1_2 : Int) (a1_3 : Int) (a1_4 : Int) (a1_5 : Int) (r : Bool) (w : World) (hr0_0 : Kd.C k62 w A0_0 l0_0.length l0_0) (hc0_0 : l0_0.length ≤ c0_0) (h : impl_tokenOk.f l0_0 a1_0 a1_1 a1_2 a1_3 a1_4 a1_5 = some r) :
    Calls Tryz.prog 44 #[.agg #[.slice A0_0 l0_0.length c0_0], .agg #[.int .i64 a1_0, .int .i64 a1_1, .int .i64 a1_2, .int .i64 a1_3, .int .i64 a1_4, .int .i64 a1_5]] w fun e w' => e = .returned (.bool r) ∧ Below w.heap.size w w' := by
  unfold impl_tokenOk.f at h
  by_cases hp : l0_0.length ≤ 1048576
  · rw [if_pos hp] at h
    obtain rfl := Option.some.inj h
    exact tokenOk_hand A0_0 c0_0 l0_0 a1_0 a1_1 a1_2 a1_3 a1_4 a1_5 w hp hr0_0 hc0_0
  · rw [if_neg hp] at h
    exact absurd h (by simp)
/-! ### impl_size_string: function 45 -/
def impl_size_string.f (l0 : List ByteArray) : Option (Int) := some (l0.length : Int)
theorem impl_size_string.calls (A0 : Option Addr) (c0 : Nat) (l0 : List ByteArray) (r : Int) (w : World) (hr0 : Kd.C Kd.string w A0 l0.length l0) (hc0 : l0.length ≤ c0) (h : impl_size_string.f l0 = some r) :
  Calls Tryz.prog 45 #[.slice A0 l0.length c0] w fun e w' => e = .returned (.int .i64 r) ∧ Drawn0 w w' := by
 have HR0 := q_ hr0; have HC0 := q_ hc0; clear hr0 hc0
 have H : (some (l0.length : Int)) = some r := h
 clear h; obtain rfl := Option.some.inj H
 go_enter Tryz.func45, Tryz.ntmps45
 go_wp2
 go_ret
 exact ⟨by first | rfl | (simp; done) | (simp [*]; done), by repeat (first | exact Drawn0.refl _ | apply Drawn0.step)⟩
/-! ### impl_ItemsOf: function 17 -/
mutual
def impl_ItemsOf.j0 : Nat → List (S76) → Bool → List (S62) → Option ((List (S79)) × Bool)
 | 0, _, _, _ => none
 | k + 1, x1, x18, x102000 => if x18 = true then (some (([] : List (S79)), false)) else ((impl_Kinds.f k x102000).bind fun t103 => (impl_ItemsOf.l0 k t103 (([] : List (S79))) x1 (x1.length : Int) 0 x102000))
def impl_ItemsOf.l0 : Nat → List ByteArray → List (S79) → List (S76) → Int → Int → List (S62) → Option ((List (S79)) × Bool)
 | 0, _, _, _, _, _, _ => none
 | k + 1, x6, x7, x22, x23, x24, x102000 => if x24 < x23 then (if 0 ≤ x24 then (if x24 < (x22.length : Int) then ((impl_tokenOk.f x102000 ((rd_T76 x22 x24).f0) ((rd_T76 x22 x24).f1) ((rd_T76 x22 x24).f2) ((rd_T76 x22 x24).f3) ((rd_T76 x22 x24).f4) ((rd_T76 x22 x24).f5)).bind fun t112 => (if t112 = true then ((impl_size_string.f x6).bind fun t113 => (if ((rd_T76 x22 x24).f1) ≥ 0 then (if 0 ≤ ((rd_T76 x22 x24).f0) then (if ((rd_T76 x22 x24).f0) < (x102000.length : Int) then (if 0 ≤ ((rd_T76 x22 x24).f1) then (if ((rd_T76 x22 x24).f1) < (((rd_T62 x102000 ((rd_T76 x22 x24).f0)).f1).length : Int) then ((slices_Index_string_string.f k x6 ((rd_T64 ((rd_T62 x102000 ((rd_T76 x22 x24).f0)).f1) ((rd_T76 x22 x24).f1)).f0)).bind fun t116 => (if x7.length < 5864062014805 then (impl_ItemsOf.l0 k x6 (x7 ++ [(⟨t116, (rd_T76 x22 x24).f4, (rd_T76 x22 x24).f5⟩ : S79)]) x22 x23 (wrap64 (x24 + 1)) x102000) else (none))) else (none)) else (none)) else (none)) else (none)) else (if x7.length < 5864062014805 then (impl_ItemsOf.l0 k x6 (x7 ++ [(⟨t113, (rd_T76 x22 x24).f4, (rd_T76 x22 x24).f5⟩ : S79)]) x22 x23 (wrap64 (x24 + 1)) x102000) else (none)))) else (some (([] : List (S79)), false)))) else (none)) else (none)) else ((impl_itemsOk.f x7).bind fun t109 => (if t109 = true then (some (x7, true)) else (some (([] : List (S79)), false))))
end
def impl_ItemsOf.f (k : Nat) (l0_0 : List (S62)) (l1 : List (S76)) : Option ((List (S79)) × Bool) := (impl_GrammarOk.f l0_0).bind fun t102 => (if t102 = true then (impl_ItemsOf.j0 k l1 (decide ((l1.length : Int) > 5000)) l0_0) else (impl_ItemsOf.j0 k l1 true l0_0))
theorem impl_ItemsOf.calls (k : Nat) (A0_0 : Option Addr) (c0_0 : Nat) (l0_0 : List (S62)) (A1 : Option Addr) (c1 : Nat) (l1 : List (S76)) (r1 : List (S79)) (r2 : Bool) (w : World) (hr0_0 : Kd.C k62 w A0_0 l0_0.length l0_0) (hc0_0 : l0_0.length ≤ c0_0) (hr1 : Kd.C k76 w A1 l1.length l1) (hc1 : l1.length ≤ c1) (h : impl_ItemsOf.f k l0_0 l1 = some (r1, r2)) :
  Calls Tryz.prog 17 #[.agg #[.slice A0_0 l0_0.length c0_0], .slice A1 l1.length c1] w fun e w' => ∃ v0_ : Value, e = .returned (.tuple #[v0_, .bool r2]) ∧ Kd.R k79 79 w' w.heap.size (fun _ => True) v0_ r1 ∧ Below w.heap.size w w' := by
 have hu31 := Tryz.underlying31; have hu76 := Tryz.underlying76; have hu79 := Tryz.underlying79; have HR0_0 := q_ hr0_0; have HC0_0 := q_ hc0_0; clear hr0_0 hc0_0; have HR1 := q_ hr1; have HC1 := q_ hc1; clear hr1 hc1; have HB := q_ (Below.refl w.heap.size w)
 have H : ((impl_GrammarOk.f l0_0).bind fun t102 => (if t102 = true then (impl_ItemsOf.j0 k l1 (decide ((l1.length : Int) > 5000)) l0_0) else (impl_ItemsOf.j0 k l1 true l0_0))) = some (r1, r2) := h
 clear h; have HC3 := q_ H; clear H
 go_enter Tryz.func17, Tryz.ntmps17
 go_upto_region 1 with (((with_reducible refine gate_dst (N := 2) rfl ?_); (try (refine gate_guard (by rfl) ?_; dsimp only)); refine bx_ 2 #[.slice A0_0 l0_0.length c0_0] 31 ?_; intro gb101 hg w4 hbox hb; have BK101 := q_ (hbox); have GE101 := ge_ hg HB; replace HB := sb_ HB hb; clear hb hbox hg))
 repeat (go_quiet (fail); go_upto_region 1 with (fail))
 (try simp only [Act.put, List.setIfInBounds_toArray, List.set_cons_zero, List.set_cons_succ])
 go_cut [18] (fun v18 wc => ∃ (kq : Nat) (x18_2 : Bool), v18 = .bool x18_2 ∧ J0 (impl_ItemsOf.j0 kq l1 x18_2 l0_0 = some (r1, r2)) ∧ J0 (kq ≤ k) ∧ J0 (wc.heap[gb101]? = some (.cells #[(.slice A0_0 l0_0.length c0_0)] 31 (0, 0))) ∧ J0 (Below w.heap.size w wc))
 case first =>
  have H := HC3.o; clear HC3; obtain ⟨t102, A5, H⟩ := ob_ H
  by_cases c6 : t102 = true
  ·subst c6; rw [if_pos rfl] at H
   have H' := q_ H
   clear H; obtain ⟨hcz7_0, hfz7_0⟩ := d1_ BK101
   go_wp2_with ((go_at_call 42; (with_reducible refine (impl_GrammarOk.calls _ _ l0_0 true _ ?side1 ?side2 A5.o).mono ?_); (case side1 => exact Kd.C_below HR0_0.o (be_ HB.o)); (case side2 => exact HC0_0.o); rintro e w8 ⟨rfl, hb⟩; replace BK101 := lb_ BK101 hb; replace HB := sb1_ HB GE101 hb; (try clear hb)))
   repeat (go_quiet (fail); try go_wp2_with (fail))
   go_meet
   case rel => exact ⟨_, (decide ((l1.length : Int) > 5000)), rs_, H', ⟨by first | omega | exact Nat.le_refl _⟩, ⟨bk_ BK101.o⟩, ⟨be1_ HB.o GE101.o⟩⟩
  ·replace c6 := Bool.eq_false_iff.mpr c6; subst c6; rw [if_neg nft_] at H
   have H' := q_ H
   clear H; obtain ⟨hcz9_0, hfz9_0⟩ := d1_ BK101
   go_wp2_with ((go_at_call 42; (with_reducible refine (impl_GrammarOk.calls _ _ l0_0 false _ ?side1 ?side2 A5.o).mono ?_); (case side1 => exact Kd.C_below HR0_0.o (be_ HB.o)); (case side2 => exact HC0_0.o); rintro e w10 ⟨rfl, hb⟩; replace BK101 := lb_ BK101 hb; replace HB := sb1_ HB GE101 hb; (try clear hb)))
   repeat (go_quiet (fail); try go_wp2_with (fail))
   go_meet
   case rel => exact ⟨_, (true), rs_, H', ⟨by first | omega | exact Nat.le_refl _⟩, ⟨bk_ BK101.o⟩, ⟨be1_ HB.o GE101.o⟩⟩
 case rest =>
  clear HC3; (try clear c1); (try clear c6); (try clear hcz7_0); (try clear hcz9_0); (try clear hfz7_0); (try clear hfz9_0); obtain ⟨kq, x18_2, rfl, HA, HJ2, BK101, HB⟩ := hcut
  cases kq with
  | zero => exact absurd HA.o (by simp [impl_ItemsOf.j0])
  | succ kj2 =>
   have H := HA.o; clear HA
   simp only [impl_ItemsOf.j0] at H
   by_cases c11 : x18_2 = true
   ·subst c11; rw [if_pos rfl] at H
    simp only [Option.some.injEq, Prod.mk.injEq] at H
    obtain ⟨rfl, rfl⟩ := H
    go_wp2
    repeat (go_quiet (fail); try go_wp2)
    go_ret2
    exact ⟨_, rt_, by first | exact Kd.R_nil _ _ _ _ _ | exact Kd.N_nil _ _ _ _ _ | exact Kd.V_nil _ _ _ _ _ | exact Kd.Q_nil _ _ _ _ _ | exact Kd.S_nil _ _ _ _ _, be1_ HB.o GE101.o⟩
   ·replace c11 := Bool.eq_false_iff.mpr c11; subst c11; rw [if_neg nft_] at H; obtain ⟨t103, A12, H⟩ := ob_ H
    obtain ⟨y106, hy106⟩ : ∃ y_ : List (S79), y_ = (([] : List (S79))) := ⟨_, rfl⟩
    replace H : (impl_ItemsOf.l0 kj2 t103 y106 l1 (l1.length : Int) 0 l0_0) = some (r1, r2) := by first | (rw [hy106]; with_reducible exact H) | (have H2_ := (Option.bind_some _ _).symm.trans H; rw [hy106]; with_reducible exact H2_) | (have H2_ := (Option.bind_some _ _).symm.trans H; with_reducible exact H2_) | with_reducible exact H | (rw [hy106]; exact H) | exact H
    have Ny106 := q_ hy106; clear hy106
    have H' := q_ H
    clear H; obtain ⟨hcz13_0, hfz13_0⟩ := d1_ BK101
    go_wp2_with (first | (go_at_call 43; (with_reducible refine (impl_Kinds.calls kj2 _ _ l0_0 t103 _ ?side1 ?side2 A12.o).mono ?_); (case side1 => exact Kd.C_below HR0_0.o (be_ HB.o)); (case side2 => exact HC0_0.o); rintro e w14 ⟨v104, rfl, ho0, hb⟩; have HO105 := q_ (Kd.R_lower ho0 (below_size (be1_ HB.o GE101.o))); replace BK101 := lb_ BK101 hb; replace HB := sb1_ HB GE101 hb; (try clear hb); (try clear ho0)) | ((with_reducible refine gate_dst (N := 21) rfl ?_); (try (refine gate_guard (by rfl) ?_; dsimp only)); refine Kd.R_lit k79 _ 79 ?hg (N := 21) ?hd (xs := ([] : List (S79))) (inner := []) (ok := fun _ => True) (okp := fun _ => True) ?hr ?hp (fun _ hk => hk) trivial (Below.refl _ _) (Nat.le_refl _) (by simp) ?_; (case hd => rfl); (case hg => rfl); (case hr => first | (go_simp; done) | (go_simp; rfl)); (case hp => exact (Reps.none _ _)); intro v107 w15 ho16 hb hg_ hnew_; clear hg_ hnew_; (first | rw [← Ny106.o] at ho16 | (simp only [Int.reduceToNat] at ho16; rw [← Ny106.o] at ho16)); have HO108 := q_ (Kd.R_lower ho16 (below_size (be1_ HB.o GE101.o))); replace HO105 := q_ (Kd.R_below (ra_ HO105.o) hb); replace BK101 := lb_ BK101 hb; replace HB := sb1_ HB GE101 hb; clear hb ho16))
    repeat (go_quiet (fail); try go_wp2_with (fail))
    go_loopg [7, 24] kj2 (fun kq v7 v24 w' => ∃ (x7_2 : List (S79)) (x24_2 : Int), v24 = .int .i64 x24_2 ∧ J0 (impl_ItemsOf.l0 kq t103 x7_2 l1 (l1.length : Int) x24_2 l0_0 = some (r1, r2)) ∧ J0 (kq ≤ kj2) ∧ J0 (Kd.R Kd.string 9 w' w.heap.size (fun _ => True) v104 t103) ∧ J0 (Kd.R k79 79 w' w.heap.size (fun _ => True) v7 x7_2) ∧ J0 (w'.heap[gb101]? = some (.cells #[(.slice A0_0 l0_0.length c0_0)] 31 (0, 0))) ∧ J0 (Below w.heap.size w w'))
    case atStart => exact ⟨(y106), (0), rs_, H', ⟨Nat.le_refl _⟩, ⟨ra_ HO105.o⟩, ⟨ra_ HO108.o⟩, ⟨bk_ BK101.o⟩, ⟨be1_ HB.o GE101.o⟩⟩
    case round =>
     clear H'; (try clear c1); (try clear c6); (try clear c11); (try clear hcz13_0); (try clear hcz7_0); (try clear hcz9_0); (try clear hfz13_0); (try clear hfz7_0); (try clear hfz9_0); obtain ⟨x7_2, x24_2, rfl, HA, HK2, HO_6, HO_7, BK101, HB⟩ := hrel
     cases gk with
     | zero => exact absurd HA.o (by simp [impl_ItemsOf.l0])
     | succ k2 =>
      have H := HA.o; clear HA
      simp only [impl_ItemsOf.l0] at H
      by_cases c17 : x24_2 < (l1.length : Int)
      ·rw [if_pos c17] at H; have c17b0 := dt_ c17; clear c17
       by_cases c18 : 0 ≤ x24_2
       ·rw [if_pos c18] at H; have c18b0 := dt_ c18; clear c18
        by_cases c19 : x24_2 < (l1.length : Int)
        ·rw [if_pos c19] at H; have c19b0 := dt_ c19; clear c19; obtain ⟨t112, A20, H⟩ := ob_ H
         by_cases c21 : t112 = true
         ·subst c21; rw [if_pos rfl] at H; obtain ⟨t113, A22, H⟩ := ob_ H
          by_cases c23 : ((rd_T76 l1 x24_2).f1) ≥ 0
          ·rw [if_pos c23] at H
           have c23b0 : decide (0 ≤ ((rd_T76 l1 x24_2).f1)) = true := dt_ c23
           clear c23
           by_cases c24 : 0 ≤ ((rd_T76 l1 x24_2).f0)
           ·rw [if_pos c24] at H; have c24b0 := dt_ c24; clear c24
            by_cases c25 : ((rd_T76 l1 x24_2).f0) < (l0_0.length : Int)
            ·rw [if_pos c25] at H; have c25b0 := dt_ c25; clear c25
             by_cases c26 : 0 ≤ ((rd_T76 l1 x24_2).f1)
             ·rw [if_pos c26] at H; have c26b0 := dt_ c26; clear c26
              by_cases c27 : ((rd_T76 l1 x24_2).f1) < (((rd_T62 l0_0 ((rd_T76 l1 x24_2).f0)).f1).length : Int)
              ·rw [if_pos c27] at H; have c27b0 := dt_ c27; clear c27; obtain ⟨t116, A28, H⟩ := ob_ H
               by_cases c29 : x7_2.length < 5864062014805
               ·rw [if_pos c29] at H; have LMc29 := q_ c29; clear c29
                obtain ⟨y117, hy117⟩ : ∃ y_ : List (S79), y_ = (x7_2 ++ [(⟨t116, (rd_T76 l1 x24_2).f4, (rd_T76 l1 x24_2).f5⟩ : S79)]) := ⟨_, rfl⟩
                replace H : (impl_ItemsOf.l0 k2 t103 y117 l1 (l1.length : Int) (wrap64 (x24_2 + 1)) l0_0) = some (r1, r2) := by first | (rw [hy117]; with_reducible exact H) | (have H2_ := (Option.bind_some _ _).symm.trans H; rw [hy117]; with_reducible exact H2_) | (have H2_ := (Option.bind_some _ _).symm.trans H; with_reducible exact H2_) | with_reducible exact H | (rw [hy117]; exact H) | exact H
                have Ny117 := q_ hy117; clear hy117
                have H' := q_ H
                clear H
                have p110 : 0 ≤ (x24_2 : Int) := of_decide_eq_true as_
                have q110 : x24_2 < (l1.length : Int) := of_decide_eq_true as_
                obtain ⟨ad110, e110, hx110_0, hx110_1, hx110_2, hx110_3, hx110_4, hx110_5⟩ := at_T76 HR1.o x24_2 p110 q110
                cases e110
                replace hx110_0 := mv_ HB.o hx110_0; replace hx110_1 := mv_ HB.o hx110_1; replace hx110_2 := mv_ HB.o hx110_2; replace hx110_3 := mv_ HB.o hx110_3; replace hx110_4 := mv_ HB.o hx110_4; replace hx110_5 := mv_ HB.o hx110_5; replace p110 := eq_true p110; replace q110 := eq_true q110
                go_wp2_with (first | ((with_reducible refine gate_dst (N := 9) rfl ?_); (try (refine gate_guard (by rfl) ?_; dsimp only)); refine bx_ 9 #[.int .i64 0, .int .i64 0, .int .i64 0, .int .i64 0, .int .i64 0, .int .i64 0] 76 ?_; intro gb111 hg w30 hbox hb; have BK111 := q_ (hbox); have GE111 := ge1_ hg HB GE101; have NB101_111 := nl_ hg BK101; have NB111_101 := ng_ hg BK101; replace HO_6 := q_ (Kd.R_below (ra_ HO_6.o) hb); replace HO_7 := q_ (Kd.R_below (ra_ HO_7.o) hb); replace BK101 := lb_ BK101 hb; replace HB := sb1_ HB GE101 hb; clear hb hbox hg; have hnb31 := NB111_101.o; have hnc31 := NB101_111.o; obtain ⟨hcz32_0, hcz32_1, hcz32_2, hcz32_3, hcz32_4, hcz32_5, hfz32_0, hfz32_1, hfz32_2, hfz32_3, hfz32_4, hfz32_5⟩ := d6_ BK111; obtain ⟨hcz33_0, hfz33_0⟩ := d1_ BK101) | (go_at_call 44; (with_reducible refine (impl_tokenOk.calls _ _ l0_0 ((rd_T76 l1 x24_2).f0) ((rd_T76 l1 x24_2).f1) ((rd_T76 l1 x24_2).f2) ((rd_T76 l1 x24_2).f3) ((rd_T76 l1 x24_2).f4) ((rd_T76 l1 x24_2).f5) true _ ?side1 ?side2 A20.o).mono ?_); (case side1 => exact Kd.C_below HR0_0.o (be2_ HB.o GE101.o GE111.o)); (case side2 => exact HC0_0.o); rintro e w34 ⟨rfl, hb⟩; replace HO_6 := q_ (Kd.R_below (by (with_reducible repeat (first | apply Kd.R_alloc | apply Kd.R_drewN | apply Kd.R_drew)); exact (Kd.R_mono (Kd.R_far (p := ⟨gb111, 5, none⟩) (Kd.R_far (p := ⟨gb111, 4, none⟩) (Kd.R_far (p := ⟨gb111, 3, none⟩) (Kd.R_far (p := ⟨gb111, 2, none⟩) (Kd.R_far (p := ⟨gb111, 1, none⟩) (Kd.R_far (p := ⟨gb111, 0, none⟩) (Kd.R_types HO_6.o BK111.o (by decide)) (fun _ hk => hk.2) (.int .i64 ((rd_T76 l1 x24_2).f0))) (fun _ hk => hk.2) (.int .i64 ((rd_T76 l1 x24_2).f1))) (fun _ hk => hk.2) (.int .i64 ((rd_T76 l1 x24_2).f2))) (fun _ hk => hk.2) (.int .i64 ((rd_T76 l1 x24_2).f3))) (fun _ hk => hk.2) (.int .i64 ((rd_T76 l1 x24_2).f4))) (fun _ hk => hk.2) (.int .i64 ((rd_T76 l1 x24_2).f5))) (fun _ h_ => h_.1))) hb); replace HO_7 := q_ (Kd.R_below (by (with_reducible repeat (first | apply Kd.R_alloc | apply Kd.R_drewN | apply Kd.R_drew)); exact (Kd.R_mono (Kd.R_far (p := ⟨gb111, 5, none⟩) (Kd.R_far (p := ⟨gb111, 4, none⟩) (Kd.R_far (p := ⟨gb111, 3, none⟩) (Kd.R_far (p := ⟨gb111, 2, none⟩) (Kd.R_far (p := ⟨gb111, 1, none⟩) (Kd.R_far (p := ⟨gb111, 0, none⟩) (Kd.R_types HO_7.o BK111.o (by decide)) (fun _ hk => hk.2) (.int .i64 ((rd_T76 l1 x24_2).f0))) (fun _ hk => hk.2) (.int .i64 ((rd_T76 l1 x24_2).f1))) (fun _ hk => hk.2) (.int .i64 ((rd_T76 l1 x24_2).f2))) (fun _ hk => hk.2) (.int .i64 ((rd_T76 l1 x24_2).f3))) (fun _ hk => hk.2) (.int .i64 ((rd_T76 l1 x24_2).f4))) (fun _ hk => hk.2) (.int .i64 ((rd_T76 l1 x24_2).f5))) (fun _ h_ => h_.1))) hb); replace BK101 := q_ (blk_below (g := gb101) (o := .cells #[.slice A0_0 l0_0.length c0_0] 31 (0, 0)) (by (with_reducible repeat (first | refine blk_drewN ?_ _ | refine blk_drew ?_ | refine blk_alloc ?_ _)); refine blk_far ?_ NB101_111.o _; (with_reducible repeat (first | refine blk_drewN ?_ _ | refine blk_drew ?_ | refine blk_alloc ?_ _)); refine blk_far ?_ NB101_111.o _; (with_reducible repeat (first | refine blk_drewN ?_ _ | refine blk_drew ?_ | refine blk_alloc ?_ _)); refine blk_far ?_ NB101_111.o _; (with_reducible repeat (first | refine blk_drewN ?_ _ | refine blk_drew ?_ | refine blk_alloc ?_ _)); refine blk_far ?_ NB101_111.o _; (with_reducible repeat (first | refine blk_drewN ?_ _ | refine blk_drew ?_ | refine blk_alloc ?_ _)); refine blk_far ?_ NB101_111.o _; (with_reducible repeat (first | refine blk_drewN ?_ _ | refine blk_drew ?_ | refine blk_alloc ?_ _)); refine blk_far ?_ NB101_111.o _; (with_reducible repeat (first | refine blk_drewN ?_ _ | refine blk_drew ?_ | refine blk_alloc ?_ _)); exact BK101.o) hb); replace BK111 := q_ (blk_below (g := gb111) (o := .cells #[.int .i64 ((rd_T76 l1 x24_2).f0), .int .i64 ((rd_T76 l1 x24_2).f1), .int .i64 ((rd_T76 l1 x24_2).f2), .int .i64 ((rd_T76 l1 x24_2).f3), .int .i64 ((rd_T76 l1 x24_2).f4), .int .i64 ((rd_T76 l1 x24_2).f5)] 76 (0, 0)) (by (with_reducible repeat (first | refine blk_drewN ?_ _ | refine blk_drew ?_ | refine blk_alloc ?_ _)); refine blk_put (cs := #[.int .i64 ((rd_T76 l1 x24_2).f0), .int .i64 ((rd_T76 l1 x24_2).f1), .int .i64 ((rd_T76 l1 x24_2).f2), .int .i64 ((rd_T76 l1 x24_2).f3), .int .i64 ((rd_T76 l1 x24_2).f4), .int .i64 0]) ?_ 5 _ rfl; (with_reducible repeat (first | refine blk_drewN ?_ _ | refine blk_drew ?_ | refine blk_alloc ?_ _)); refine blk_put (cs := #[.int .i64 ((rd_T76 l1 x24_2).f0), .int .i64 ((rd_T76 l1 x24_2).f1), .int .i64 ((rd_T76 l1 x24_2).f2), .int .i64 ((rd_T76 l1 x24_2).f3), .int .i64 0, .int .i64 0]) ?_ 4 _ rfl; (with_reducible repeat (first | refine blk_drewN ?_ _ | refine blk_drew ?_ | refine blk_alloc ?_ _)); refine blk_put (cs := #[.int .i64 ((rd_T76 l1 x24_2).f0), .int .i64 ((rd_T76 l1 x24_2).f1), .int .i64 ((rd_T76 l1 x24_2).f2), .int .i64 0, .int .i64 0, .int .i64 0]) ?_ 3 _ rfl; (with_reducible repeat (first | refine blk_drewN ?_ _ | refine blk_drew ?_ | refine blk_alloc ?_ _)); refine blk_put (cs := #[.int .i64 ((rd_T76 l1 x24_2).f0), .int .i64 ((rd_T76 l1 x24_2).f1), .int .i64 0, .int .i64 0, .int .i64 0, .int .i64 0]) ?_ 2 _ rfl; (with_reducible repeat (first | refine blk_drewN ?_ _ | refine blk_drew ?_ | refine blk_alloc ?_ _)); refine blk_put (cs := #[.int .i64 ((rd_T76 l1 x24_2).f0), .int .i64 0, .int .i64 0, .int .i64 0, .int .i64 0, .int .i64 0]) ?_ 1 _ rfl; (with_reducible repeat (first | refine blk_drewN ?_ _ | refine blk_drew ?_ | refine blk_alloc ?_ _)); refine blk_put (cs := #[.int .i64 0, .int .i64 0, .int .i64 0, .int .i64 0, .int .i64 0, .int .i64 0]) ?_ 0 _ rfl; (with_reducible repeat (first | refine blk_drewN ?_ _ | refine blk_drew ?_ | refine blk_alloc ?_ _)); exact BK111.o) hb); replace HB := sb2_ HB GE101 GE111 hb; (try clear hb); obtain ⟨Ao35, co35, eo35⟩ := Kd.R_slice HO_6.o; subst eo35) | (go_at_call 45; (with_reducible refine (impl_size_string.calls _ _ t103 t113 _ ?side1 ?side2 A22.o).mono ?_); (case side1 => repeat (first | exact (Kd.R_reads' HO_6.o).2.2 | (with_reducible refine Kd.C_alloc ?_ _) | (with_reducible refine Kd.C_drewN ?_ _) | (with_reducible refine Kd.C_drew ?_))); (case side2 => exact (Kd.R_reads' HO_6.o).2.1); rintro e w' ⟨rfl, ⟨nd, rfl⟩⟩; (try first | exact ⟨rfl, _, World.drewN_drewN _ _ _⟩ | exact ⟨rfl, _, Eq.trans (World.drewN_drewN _ _ _) (congrArg (World.drewN _) (Nat.add_assoc _ _ _))⟩); obtain ⟨hcz36_0, hcz36_1, hcz36_2, hcz36_3, hcz36_4, hcz36_5, hfz36_0, hfz36_1, hfz36_2, hfz36_3, hfz36_4, hfz36_5⟩ := d6_ BK111; obtain ⟨hcz37_0, hfz37_0⟩ := d1_ BK101; have p114 : 0 ≤ (((rd_T76 l1 x24_2).f0) : Int) := of_decide_eq_true as_; have q114 : ((rd_T76 l1 x24_2).f0) < (l0_0.length : Int) := of_decide_eq_true as_; obtain ⟨ad114, A114_1, c114_1, e114, hx114_0, hx114_1, hl114_1, hi114_1⟩ := at_T62 HR0_0.o ((rd_T76 l1 x24_2).f0) p114 q114; cases e114; replace hx114_0 := mv_ HB.o hx114_0; replace hx114_1 := mv_ HB.o hx114_1; have HR114_1 := q_ hi114_1; have HC114_1 := q_ hl114_1; clear hi114_1 hl114_1; replace p114 := eq_true p114; replace q114 := eq_true q114; have p115 : 0 ≤ (((rd_T76 l1 x24_2).f1) : Int) := of_decide_eq_true as_; have q115 : ((rd_T76 l1 x24_2).f1) < (((rd_T62 l0_0 ((rd_T76 l1 x24_2).f0)).f1).length : Int) := of_decide_eq_true as_; obtain ⟨ad115, A115_1, c115_1, e115, hx115_0, hx115_1, hx115_2, hx115_3, hx115_4, hl115_1, hi115_1⟩ := at_T64 HR114_1.o ((rd_T76 l1 x24_2).f1) p115 q115; cases e115; replace hx115_0 := mv_ HB.o hx115_0; replace hx115_1 := mv_ HB.o hx115_1; replace hx115_2 := mv_ HB.o hx115_2; replace hx115_3 := mv_ HB.o hx115_3; replace hx115_4 := mv_ HB.o hx115_4; have HR115_1 := q_ hi115_1; have HC115_1 := q_ hl115_1; clear hi115_1 hl115_1; replace p115 := eq_true p115; replace q115 := eq_true q115))
                repeat (go_quiet ((go_at_call 46; (with_reducible refine (slices_Index_string_string.calls k2 _ _ t103 ((rd_T64 ((rd_T62 l0_0 ((rd_T76 l1 x24_2).f0)).f1) ((rd_T76 l1 x24_2).f1)).f0) t116 _ ?side1 ?side2 A28.o).mono ?_); (case side1 => repeat (first | exact (Kd.R_reads' HO_6.o).2.2 | (with_reducible refine Kd.C_alloc ?_ _) | (with_reducible refine Kd.C_drewN ?_ _) | (with_reducible refine Kd.C_drew ?_))); (case side2 => exact (Kd.R_reads' HO_6.o).2.1); rintro e w' ⟨rfl, ⟨nd, rfl⟩⟩; (try first | exact ⟨rfl, _, World.drewN_drewN _ _ _⟩ | exact ⟨rfl, _, Eq.trans (World.drewN_drewN _ _ _) (congrArg (World.drewN _) (Nat.add_assoc _ _ _))⟩))); try go_wp2_with (((with_reducible refine gate_builtin (b := .append) (xs := #[.tmp 51, .tmp 58]) rfl ?_); (try (refine gate_guard (by rfl) ?_; dsimp only)); at_builtin; refine Kd.R_append k79 (w0 := w) w.heap.size rfl (.tmp 51) (.tmp 58) 40 79 (.agg #[(.int .i64 0), (.int .i64 0), (.int .i64 0)]) 24 rfl Tryz.underlying40 info79 rfl (by decide) (by omega) u7 x7_2 (⟨t116, (rd_T76 l1 x24_2).f4, (rd_T76 l1 x24_2).f5⟩ : S79) [.int .i64 t116, .int .i64 ((rd_T76 l1 x24_2).f4), .int .i64 ((rd_T76 l1 x24_2).f5)] (fun _ => True) (fun _ => False) rfl rfl ?aP (fun _ hk => hk.elim) ?aF ?aO ?aB ?aS ?aL ?_; (case aP => exact k79_mkM _ _ _ (⟨t116, (rd_T76 l1 x24_2).f4, (rd_T76 l1 x24_2).f5⟩ : S79)); (case aB => exact (be2_ HB.o GE101.o GE111.o)); (case aF => exact (fun _ _ => trivial)); (case aO => exact (ra_ HO_7.o)); (case aS => exact (below_size (be2_ HB.o GE101.o GE111.o))); (case aL => have := LMc29.o; omega); intro v118 w38 ho hb hg hat; rw [← Ny117.o] at ho; have HO119 := q_ (ho); replace HO_6 := q_ (Kd.R_over' (ra_ HO_6.o) (Kd.R_typed (ra_ HO_7.o)) (by decide) hg); replace BK101 := q_ (blk_grown (g := gb101) (o := .cells #[.slice (some ad114) l0_0.length c0_0] 31 (0, 0)) (bk_ BK101.o) hg (Kd.R_ne HO_7.o BK101.o (by decide))); replace BK111 := q_ (blk_grown (g := gb111) (o := .cells #[.int .i64 ((rd_T76 l1 x24_2).f0), .int .i64 ((rd_T76 l1 x24_2).f1), .int .i64 ((rd_T76 l1 x24_2).f2), .int .i64 ((rd_T76 l1 x24_2).f3), .int .i64 ((rd_T76 l1 x24_2).f4), .int .i64 ((rd_T76 l1 x24_2).f5)] 76 (0, 0)) (bk_ BK111.o) hg (Kd.R_ne HO_7.o BK111.o (by decide))); replace HB := q_ (hb); clear HO_7; clear ho hb hg hat)))
                go_roundg k2
                case measure => have := HJ2.o; have := HK2.o; omega
                case rel => exact ⟨(y117), (wrap64 (x24_2 + 1)), rs_, H', ⟨by have := HJ2.o; have := HK2.o; omega⟩, ⟨ra_ HO_6.o⟩, ⟨ra_ HO119.o⟩, ⟨bk_ BK101.o⟩, ⟨be2_ HB.o GE101.o GE111.o⟩⟩
               ·rw [if_neg c29] at H
                exact absurd H (by simp)
              ·rw [if_neg c27] at H
               exact absurd H (by simp)
             ·rw [if_neg c26] at H
              exact absurd H (by simp)
            ·rw [if_neg c25] at H
             exact absurd H (by simp)
           ·rw [if_neg c24] at H
            exact absurd H (by simp)
          ·rw [if_neg c23] at H
           have c23b0 : decide (0 ≤ ((rd_T76 l1 x24_2).f1)) = false := df_ c23
           clear c23
           by_cases c39 : x7_2.length < 5864062014805
           ·rw [if_pos c39] at H; have LMc39 := q_ c39; clear c39
            obtain ⟨y120, hy120⟩ : ∃ y_ : List (S79), y_ = (x7_2 ++ [(⟨t113, (rd_T76 l1 x24_2).f4, (rd_T76 l1 x24_2).f5⟩ : S79)]) := ⟨_, rfl⟩
            replace H : (impl_ItemsOf.l0 k2 t103 y120 l1 (l1.length : Int) (wrap64 (x24_2 + 1)) l0_0) = some (r1, r2) := by first | (rw [hy120]; with_reducible exact H) | (have H2_ := (Option.bind_some _ _).symm.trans H; rw [hy120]; with_reducible exact H2_) | (have H2_ := (Option.bind_some _ _).symm.trans H; with_reducible exact H2_) | with_reducible exact H | (rw [hy120]; exact H) | exact H
            have Ny120 := q_ hy120; clear hy120
            have H' := q_ H
            clear H
            have p110 : 0 ≤ (x24_2 : Int) := of_decide_eq_true as_
            have q110 : x24_2 < (l1.length : Int) := of_decide_eq_true as_
            obtain ⟨ad110, e110, hx110_0, hx110_1, hx110_2, hx110_3, hx110_4, hx110_5⟩ := at_T76 HR1.o x24_2 p110 q110
            cases e110
            replace hx110_0 := mv_ HB.o hx110_0; replace hx110_1 := mv_ HB.o hx110_1; replace hx110_2 := mv_ HB.o hx110_2; replace hx110_3 := mv_ HB.o hx110_3; replace hx110_4 := mv_ HB.o hx110_4; replace hx110_5 := mv_ HB.o hx110_5; replace p110 := eq_true p110; replace q110 := eq_true q110
            go_wp2_with (first | ((with_reducible refine gate_dst (N := 9) rfl ?_); (try (refine gate_guard (by rfl) ?_; dsimp only)); refine bx_ 9 #[.int .i64 0, .int .i64 0, .int .i64 0, .int .i64 0, .int .i64 0, .int .i64 0] 76 ?_; intro gb111 hg w40 hbox hb; have BK111 := q_ (hbox); have GE111 := ge1_ hg HB GE101; have NB101_111 := nl_ hg BK101; have NB111_101 := ng_ hg BK101; replace HO_6 := q_ (Kd.R_below (ra_ HO_6.o) hb); replace HO_7 := q_ (Kd.R_below (ra_ HO_7.o) hb); replace BK101 := lb_ BK101 hb; replace HB := sb1_ HB GE101 hb; clear hb hbox hg; have hnb41 := NB111_101.o; have hnc41 := NB101_111.o; obtain ⟨hcz42_0, hcz42_1, hcz42_2, hcz42_3, hcz42_4, hcz42_5, hfz42_0, hfz42_1, hfz42_2, hfz42_3, hfz42_4, hfz42_5⟩ := d6_ BK111; obtain ⟨hcz43_0, hfz43_0⟩ := d1_ BK101) | (go_at_call 44; (with_reducible refine (impl_tokenOk.calls _ _ l0_0 ((rd_T76 l1 x24_2).f0) ((rd_T76 l1 x24_2).f1) ((rd_T76 l1 x24_2).f2) ((rd_T76 l1 x24_2).f3) ((rd_T76 l1 x24_2).f4) ((rd_T76 l1 x24_2).f5) true _ ?side1 ?side2 A20.o).mono ?_); (case side1 => exact Kd.C_below HR0_0.o (be2_ HB.o GE101.o GE111.o)); (case side2 => exact HC0_0.o); rintro e w44 ⟨rfl, hb⟩; replace HO_6 := q_ (Kd.R_below (by (with_reducible repeat (first | apply Kd.R_alloc | apply Kd.R_drewN | apply Kd.R_drew)); exact (Kd.R_mono (Kd.R_far (p := ⟨gb111, 5, none⟩) (Kd.R_far (p := ⟨gb111, 4, none⟩) (Kd.R_far (p := ⟨gb111, 3, none⟩) (Kd.R_far (p := ⟨gb111, 2, none⟩) (Kd.R_far (p := ⟨gb111, 1, none⟩) (Kd.R_far (p := ⟨gb111, 0, none⟩) (Kd.R_types HO_6.o BK111.o (by decide)) (fun _ hk => hk.2) (.int .i64 ((rd_T76 l1 x24_2).f0))) (fun _ hk => hk.2) (.int .i64 ((rd_T76 l1 x24_2).f1))) (fun _ hk => hk.2) (.int .i64 ((rd_T76 l1 x24_2).f2))) (fun _ hk => hk.2) (.int .i64 ((rd_T76 l1 x24_2).f3))) (fun _ hk => hk.2) (.int .i64 ((rd_T76 l1 x24_2).f4))) (fun _ hk => hk.2) (.int .i64 ((rd_T76 l1 x24_2).f5))) (fun _ h_ => h_.1))) hb); replace HO_7 := q_ (Kd.R_below (by (with_reducible repeat (first | apply Kd.R_alloc | apply Kd.R_drewN | apply Kd.R_drew)); exact (Kd.R_mono (Kd.R_far (p := ⟨gb111, 5, none⟩) (Kd.R_far (p := ⟨gb111, 4, none⟩) (Kd.R_far (p := ⟨gb111, 3, none⟩) (Kd.R_far (p := ⟨gb111, 2, none⟩) (Kd.R_far (p := ⟨gb111, 1, none⟩) (Kd.R_far (p := ⟨gb111, 0, none⟩) (Kd.R_types HO_7.o BK111.o (by decide)) (fun _ hk => hk.2) (.int .i64 ((rd_T76 l1 x24_2).f0))) (fun _ hk => hk.2) (.int .i64 ((rd_T76 l1 x24_2).f1))) (fun _ hk => hk.2) (.int .i64 ((rd_T76 l1 x24_2).f2))) (fun _ hk => hk.2) (.int .i64 ((rd_T76 l1 x24_2).f3))) (fun _ hk => hk.2) (.int .i64 ((rd_T76 l1 x24_2).f4))) (fun _ hk => hk.2) (.int .i64 ((rd_T76 l1 x24_2).f5))) (fun _ h_ => h_.1))) hb); replace BK101 := q_ (blk_below (g := gb101) (o := .cells #[.slice A0_0 l0_0.length c0_0] 31 (0, 0)) (by (with_reducible repeat (first | refine blk_drewN ?_ _ | refine blk_drew ?_ | refine blk_alloc ?_ _)); refine blk_far ?_ NB101_111.o _; (with_reducible repeat (first | refine blk_drewN ?_ _ | refine blk_drew ?_ | refine blk_alloc ?_ _)); refine blk_far ?_ NB101_111.o _; (with_reducible repeat (first | refine blk_drewN ?_ _ | refine blk_drew ?_ | refine blk_alloc ?_ _)); refine blk_far ?_ NB101_111.o _; (with_reducible repeat (first | refine blk_drewN ?_ _ | refine blk_drew ?_ | refine blk_alloc ?_ _)); refine blk_far ?_ NB101_111.o _; (with_reducible repeat (first | refine blk_drewN ?_ _ | refine blk_drew ?_ | refine blk_alloc ?_ _)); refine blk_far ?_ NB101_111.o _; (with_reducible repeat (first | refine blk_drewN ?_ _ | refine blk_drew ?_ | refine blk_alloc ?_ _)); refine blk_far ?_ NB101_111.o _; (with_reducible repeat (first | refine blk_drewN ?_ _ | refine blk_drew ?_ | refine blk_alloc ?_ _)); exact BK101.o) hb); replace BK111 := q_ (blk_below (g := gb111) (o := .cells #[.int .i64 ((rd_T76 l1 x24_2).f0), .int .i64 ((rd_T76 l1 x24_2).f1), .int .i64 ((rd_T76 l1 x24_2).f2), .int .i64 ((rd_T76 l1 x24_2).f3), .int .i64 ((rd_T76 l1 x24_2).f4), .int .i64 ((rd_T76 l1 x24_2).f5)] 76 (0, 0)) (by (with_reducible repeat (first | refine blk_drewN ?_ _ | refine blk_drew ?_ | refine blk_alloc ?_ _)); refine blk_put (cs := #[.int .i64 ((rd_T76 l1 x24_2).f0), .int .i64 ((rd_T76 l1 x24_2).f1), .int .i64 ((rd_T76 l1 x24_2).f2), .int .i64 ((rd_T76 l1 x24_2).f3), .int .i64 ((rd_T76 l1 x24_2).f4), .int .i64 0]) ?_ 5 _ rfl; (with_reducible repeat (first | refine blk_drewN ?_ _ | refine blk_drew ?_ | refine blk_alloc ?_ _)); refine blk_put (cs := #[.int .i64 ((rd_T76 l1 x24_2).f0), .int .i64 ((rd_T76 l1 x24_2).f1), .int .i64 ((rd_T76 l1 x24_2).f2), .int .i64 ((rd_T76 l1 x24_2).f3), .int .i64 0, .int .i64 0]) ?_ 4 _ rfl; (with_reducible repeat (first | refine blk_drewN ?_ _ | refine blk_drew ?_ | refine blk_alloc ?_ _)); refine blk_put (cs := #[.int .i64 ((rd_T76 l1 x24_2).f0), .int .i64 ((rd_T76 l1 x24_2).f1), .int .i64 ((rd_T76 l1 x24_2).f2), .int .i64 0, .int .i64 0, .int .i64 0]) ?_ 3 _ rfl; (with_reducible repeat (first | refine blk_drewN ?_ _ | refine blk_drew ?_ | refine blk_alloc ?_ _)); refine blk_put (cs := #[.int .i64 ((rd_T76 l1 x24_2).f0), .int .i64 ((rd_T76 l1 x24_2).f1), .int .i64 0, .int .i64 0, .int .i64 0, .int .i64 0]) ?_ 2 _ rfl; (with_reducible repeat (first | refine blk_drewN ?_ _ | refine blk_drew ?_ | refine blk_alloc ?_ _)); refine blk_put (cs := #[.int .i64 ((rd_T76 l1 x24_2).f0), .int .i64 0, .int .i64 0, .int .i64 0, .int .i64 0, .int .i64 0]) ?_ 1 _ rfl; (with_reducible repeat (first | refine blk_drewN ?_ _ | refine blk_drew ?_ | refine blk_alloc ?_ _)); refine blk_put (cs := #[.int .i64 0, .int .i64 0, .int .i64 0, .int .i64 0, .int .i64 0, .int .i64 0]) ?_ 0 _ rfl; (with_reducible repeat (first | refine blk_drewN ?_ _ | refine blk_drew ?_ | refine blk_alloc ?_ _)); exact BK111.o) hb); replace HB := sb2_ HB GE101 GE111 hb; (try clear hb); obtain ⟨Ao45, co45, eo45⟩ := Kd.R_slice HO_6.o; subst eo45) | (go_at_call 45; (with_reducible refine (impl_size_string.calls _ _ t103 t113 _ ?side1 ?side2 A22.o).mono ?_); (case side1 => repeat (first | exact (Kd.R_reads' HO_6.o).2.2 | (with_reducible refine Kd.C_alloc ?_ _) | (with_reducible refine Kd.C_drewN ?_ _) | (with_reducible refine Kd.C_drew ?_))); (case side2 => exact (Kd.R_reads' HO_6.o).2.1); rintro e w' ⟨rfl, ⟨nd, rfl⟩⟩; (try first | exact ⟨rfl, _, World.drewN_drewN _ _ _⟩ | exact ⟨rfl, _, Eq.trans (World.drewN_drewN _ _ _) (congrArg (World.drewN _) (Nat.add_assoc _ _ _))⟩); obtain ⟨hcz46_0, hcz46_1, hcz46_2, hcz46_3, hcz46_4, hcz46_5, hfz46_0, hfz46_1, hfz46_2, hfz46_3, hfz46_4, hfz46_5⟩ := d6_ BK111) | ((with_reducible refine gate_builtin (b := .append) (xs := #[.tmp 51, .tmp 58]) rfl ?_); (try (refine gate_guard (by rfl) ?_; dsimp only)); at_builtin; refine Kd.R_append k79 (w0 := w) w.heap.size rfl (.tmp 51) (.tmp 58) 40 79 (.agg #[(.int .i64 0), (.int .i64 0), (.int .i64 0)]) 24 rfl Tryz.underlying40 info79 rfl (by decide) (by omega) u7 x7_2 (⟨t113, (rd_T76 l1 x24_2).f4, (rd_T76 l1 x24_2).f5⟩ : S79) [.int .i64 t113, .int .i64 ((rd_T76 l1 x24_2).f4), .int .i64 ((rd_T76 l1 x24_2).f5)] (fun _ => True) (fun _ => False) rfl rfl ?aP (fun _ hk => hk.elim) ?aF ?aO ?aB ?aS ?aL ?_; (case aP => exact k79_mkM _ _ _ (⟨t113, (rd_T76 l1 x24_2).f4, (rd_T76 l1 x24_2).f5⟩ : S79)); (case aB => exact (be2_ HB.o GE101.o GE111.o)); (case aF => exact (fun _ _ => trivial)); (case aO => exact (ra_ HO_7.o)); (case aS => exact (below_size (be2_ HB.o GE101.o GE111.o))); (case aL => have := LMc39.o; omega); intro v121 w47 ho hb hg hat; rw [← Ny120.o] at ho; have HO122 := q_ (ho); replace HO_6 := q_ (Kd.R_over' (ra_ HO_6.o) (Kd.R_typed (ra_ HO_7.o)) (by decide) hg); replace BK101 := q_ (blk_grown (g := gb101) (o := .cells #[.slice A0_0 l0_0.length c0_0] 31 (0, 0)) (bk_ BK101.o) hg (Kd.R_ne HO_7.o BK101.o (by decide))); replace BK111 := q_ (blk_grown (g := gb111) (o := .cells #[.int .i64 ((rd_T76 l1 x24_2).f0), .int .i64 ((rd_T76 l1 x24_2).f1), .int .i64 ((rd_T76 l1 x24_2).f2), .int .i64 ((rd_T76 l1 x24_2).f3), .int .i64 ((rd_T76 l1 x24_2).f4), .int .i64 ((rd_T76 l1 x24_2).f5)] 76 (0, 0)) (bk_ BK111.o) hg (Kd.R_ne HO_7.o BK111.o (by decide))); replace HB := q_ (hb); clear HO_7; clear ho hb hg hat))
            repeat (go_quiet (fail); try go_wp2_with (fail))
            go_roundg k2
            case measure => have := HJ2.o; have := HK2.o; omega
            case rel => exact ⟨(y120), (wrap64 (x24_2 + 1)), rs_, H', ⟨by have := HJ2.o; have := HK2.o; omega⟩, ⟨ra_ HO_6.o⟩, ⟨ra_ HO122.o⟩, ⟨bk_ BK101.o⟩, ⟨be2_ HB.o GE101.o GE111.o⟩⟩
           ·rw [if_neg c39] at H
            exact absurd H (by simp)
         ·replace c21 := Bool.eq_false_iff.mpr c21; subst c21; rw [if_neg nft_] at H
          simp only [Option.some.injEq, Prod.mk.injEq] at H
          obtain ⟨rfl, rfl⟩ := H
          have p110 : 0 ≤ (x24_2 : Int) := of_decide_eq_true as_
          have q110 : x24_2 < (l1.length : Int) := of_decide_eq_true as_
          obtain ⟨ad110, e110, hx110_0, hx110_1, hx110_2, hx110_3, hx110_4, hx110_5⟩ := at_T76 HR1.o x24_2 p110 q110
          cases e110
          replace hx110_0 := mv_ HB.o hx110_0; replace hx110_1 := mv_ HB.o hx110_1; replace hx110_2 := mv_ HB.o hx110_2; replace hx110_3 := mv_ HB.o hx110_3; replace hx110_4 := mv_ HB.o hx110_4; replace hx110_5 := mv_ HB.o hx110_5; replace p110 := eq_true p110; replace q110 := eq_true q110
          go_wp2_with (first | ((with_reducible refine gate_dst (N := 9) rfl ?_); (try (refine gate_guard (by rfl) ?_; dsimp only)); refine bx_ 9 #[.int .i64 0, .int .i64 0, .int .i64 0, .int .i64 0, .int .i64 0, .int .i64 0] 76 ?_; intro gb111 hg w48 hbox hb; have BK111 := q_ (hbox); have GE111 := ge1_ hg HB GE101; have NB101_111 := nl_ hg BK101; have NB111_101 := ng_ hg BK101; replace HO_6 := q_ (Kd.R_below (ra_ HO_6.o) hb); replace HO_7 := q_ (Kd.R_below (ra_ HO_7.o) hb); replace BK101 := lb_ BK101 hb; replace HB := sb1_ HB GE101 hb; clear hb hbox hg; have hnb49 := NB111_101.o; have hnc49 := NB101_111.o; obtain ⟨hcz50_0, hcz50_1, hcz50_2, hcz50_3, hcz50_4, hcz50_5, hfz50_0, hfz50_1, hfz50_2, hfz50_3, hfz50_4, hfz50_5⟩ := d6_ BK111; obtain ⟨hcz51_0, hfz51_0⟩ := d1_ BK101) | (go_at_call 44; (with_reducible refine (impl_tokenOk.calls _ _ l0_0 ((rd_T76 l1 x24_2).f0) ((rd_T76 l1 x24_2).f1) ((rd_T76 l1 x24_2).f2) ((rd_T76 l1 x24_2).f3) ((rd_T76 l1 x24_2).f4) ((rd_T76 l1 x24_2).f5) false _ ?side1 ?side2 A20.o).mono ?_); (case side1 => exact Kd.C_below HR0_0.o (be2_ HB.o GE101.o GE111.o)); (case side2 => exact HC0_0.o); rintro e w52 ⟨rfl, hb⟩; replace HO_6 := q_ (Kd.R_below (by (with_reducible repeat (first | apply Kd.R_alloc | apply Kd.R_drewN | apply Kd.R_drew)); exact (Kd.R_mono (Kd.R_far (p := ⟨gb111, 5, none⟩) (Kd.R_far (p := ⟨gb111, 4, none⟩) (Kd.R_far (p := ⟨gb111, 3, none⟩) (Kd.R_far (p := ⟨gb111, 2, none⟩) (Kd.R_far (p := ⟨gb111, 1, none⟩) (Kd.R_far (p := ⟨gb111, 0, none⟩) (Kd.R_types HO_6.o BK111.o (by decide)) (fun _ hk => hk.2) (.int .i64 ((rd_T76 l1 x24_2).f0))) (fun _ hk => hk.2) (.int .i64 ((rd_T76 l1 x24_2).f1))) (fun _ hk => hk.2) (.int .i64 ((rd_T76 l1 x24_2).f2))) (fun _ hk => hk.2) (.int .i64 ((rd_T76 l1 x24_2).f3))) (fun _ hk => hk.2) (.int .i64 ((rd_T76 l1 x24_2).f4))) (fun _ hk => hk.2) (.int .i64 ((rd_T76 l1 x24_2).f5))) (fun _ h_ => h_.1))) hb); replace HO_7 := q_ (Kd.R_below (by (with_reducible repeat (first | apply Kd.R_alloc | apply Kd.R_drewN | apply Kd.R_drew)); exact (Kd.R_mono (Kd.R_far (p := ⟨gb111, 5, none⟩) (Kd.R_far (p := ⟨gb111, 4, none⟩) (Kd.R_far (p := ⟨gb111, 3, none⟩) (Kd.R_far (p := ⟨gb111, 2, none⟩) (Kd.R_far (p := ⟨gb111, 1, none⟩) (Kd.R_far (p := ⟨gb111, 0, none⟩) (Kd.R_types HO_7.o BK111.o (by decide)) (fun _ hk => hk.2) (.int .i64 ((rd_T76 l1 x24_2).f0))) (fun _ hk => hk.2) (.int .i64 ((rd_T76 l1 x24_2).f1))) (fun _ hk => hk.2) (.int .i64 ((rd_T76 l1 x24_2).f2))) (fun _ hk => hk.2) (.int .i64 ((rd_T76 l1 x24_2).f3))) (fun _ hk => hk.2) (.int .i64 ((rd_T76 l1 x24_2).f4))) (fun _ hk => hk.2) (.int .i64 ((rd_T76 l1 x24_2).f5))) (fun _ h_ => h_.1))) hb); replace BK101 := q_ (blk_below (g := gb101) (o := .cells #[.slice A0_0 l0_0.length c0_0] 31 (0, 0)) (by (with_reducible repeat (first | refine blk_drewN ?_ _ | refine blk_drew ?_ | refine blk_alloc ?_ _)); refine blk_far ?_ NB101_111.o _; (with_reducible repeat (first | refine blk_drewN ?_ _ | refine blk_drew ?_ | refine blk_alloc ?_ _)); refine blk_far ?_ NB101_111.o _; (with_reducible repeat (first | refine blk_drewN ?_ _ | refine blk_drew ?_ | refine blk_alloc ?_ _)); refine blk_far ?_ NB101_111.o _; (with_reducible repeat (first | refine blk_drewN ?_ _ | refine blk_drew ?_ | refine blk_alloc ?_ _)); refine blk_far ?_ NB101_111.o _; (with_reducible repeat (first | refine blk_drewN ?_ _ | refine blk_drew ?_ | refine blk_alloc ?_ _)); refine blk_far ?_ NB101_111.o _; (with_reducible repeat (first | refine blk_drewN ?_ _ | refine blk_drew ?_ | refine blk_alloc ?_ _)); refine blk_far ?_ NB101_111.o _; (with_reducible repeat (first | refine blk_drewN ?_ _ | refine blk_drew ?_ | refine blk_alloc ?_ _)); exact BK101.o) hb); replace BK111 := q_ (blk_below (g := gb111) (o := .cells #[.int .i64 ((rd_T76 l1 x24_2).f0), .int .i64 ((rd_T76 l1 x24_2).f1), .int .i64 ((rd_T76 l1 x24_2).f2), .int .i64 ((rd_T76 l1 x24_2).f3), .int .i64 ((rd_T76 l1 x24_2).f4), .int .i64 ((rd_T76 l1 x24_2).f5)] 76 (0, 0)) (by (with_reducible repeat (first | refine blk_drewN ?_ _ | refine blk_drew ?_ | refine blk_alloc ?_ _)); refine blk_put (cs := #[.int .i64 ((rd_T76 l1 x24_2).f0), .int .i64 ((rd_T76 l1 x24_2).f1), .int .i64 ((rd_T76 l1 x24_2).f2), .int .i64 ((rd_T76 l1 x24_2).f3), .int .i64 ((rd_T76 l1 x24_2).f4), .int .i64 0]) ?_ 5 _ rfl; (with_reducible repeat (first | refine blk_drewN ?_ _ | refine blk_drew ?_ | refine blk_alloc ?_ _)); refine blk_put (cs := #[.int .i64 ((rd_T76 l1 x24_2).f0), .int .i64 ((rd_T76 l1 x24_2).f1), .int .i64 ((rd_T76 l1 x24_2).f2), .int .i64 ((rd_T76 l1 x24_2).f3), .int .i64 0, .int .i64 0]) ?_ 4 _ rfl; (with_reducible repeat (first | refine blk_drewN ?_ _ | refine blk_drew ?_ | refine blk_alloc ?_ _)); refine blk_put (cs := #[.int .i64 ((rd_T76 l1 x24_2).f0), .int .i64 ((rd_T76 l1 x24_2).f1), .int .i64 ((rd_T76 l1 x24_2).f2), .int .i64 0, .int .i64 0, .int .i64 0]) ?_ 3 _ rfl; (with_reducible repeat (first | refine blk_drewN ?_ _ | refine blk_drew ?_ | refine blk_alloc ?_ _)); refine blk_put (cs := #[.int .i64 ((rd_T76 l1 x24_2).f0), .int .i64 ((rd_T76 l1 x24_2).f1), .int .i64 0, .int .i64 0, .int .i64 0, .int .i64 0]) ?_ 2 _ rfl; (with_reducible repeat (first | refine blk_drewN ?_ _ | refine blk_drew ?_ | refine blk_alloc ?_ _)); refine blk_put (cs := #[.int .i64 ((rd_T76 l1 x24_2).f0), .int .i64 0, .int .i64 0, .int .i64 0, .int .i64 0, .int .i64 0]) ?_ 1 _ rfl; (with_reducible repeat (first | refine blk_drewN ?_ _ | refine blk_drew ?_ | refine blk_alloc ?_ _)); refine blk_put (cs := #[.int .i64 0, .int .i64 0, .int .i64 0, .int .i64 0, .int .i64 0, .int .i64 0]) ?_ 0 _ rfl; (with_reducible repeat (first | refine blk_drewN ?_ _ | refine blk_drew ?_ | refine blk_alloc ?_ _)); exact BK111.o) hb); replace HB := sb2_ HB GE101 GE111 hb; (try clear hb)))
          repeat (go_quiet (fail); try go_wp2_with (fail))
          go_ret2
          exact ⟨_, rt_, by first | exact Kd.R_nil _ _ _ _ _ | exact Kd.N_nil _ _ _ _ _ | exact Kd.V_nil _ _ _ _ _ | exact Kd.Q_nil _ _ _ _ _ | exact Kd.S_nil _ _ _ _ _, be2_ HB.o GE101.o GE111.o⟩
        ·rw [if_neg c19] at H
         exact absurd H (by simp)
       ·rw [if_neg c18] at H
        exact absurd H (by simp)
      ·rw [if_neg c17] at H; have c17b0 := df_ c17; clear c17; obtain ⟨t109, A53, H⟩ := ob_ H
       by_cases c54 : t109 = true
       ·subst c54; rw [if_pos rfl] at H
        simp only [Option.some.injEq, Prod.mk.injEq] at H
        obtain ⟨rfl, rfl⟩ := H; obtain ⟨Ao55, co55, eo55⟩ := Kd.R_slice HO_7.o; subst eo55
        go_wp2_with ((go_at_call 47; (with_reducible refine (impl_itemsOk.calls _ _ x7_2 true _ ?side1 ?side2 A53.o).mono ?_); (case side1 => repeat (first | exact (Kd.R_reads' HO_7.o).2.2 | (with_reducible refine Kd.C_alloc ?_ _) | (with_reducible refine Kd.C_drewN ?_ _) | (with_reducible refine Kd.C_drew ?_))); (case side2 => exact (Kd.R_reads' HO_7.o).2.1); rintro e w56 ⟨rfl, hb⟩; replace HO_6 := q_ (Kd.R_below (ra_ HO_6.o) hb); replace HO_7 := q_ (Kd.R_below (ra_ HO_7.o) hb); replace BK101 := lb_ BK101 hb; replace HB := sb1_ HB GE101 hb; (try clear hb)))
        repeat (go_quiet (fail); try go_wp2_with (fail))
        go_ret2
        exact ⟨_, rt_, ra_ HO_7.o, be1_ HB.o GE101.o⟩
       ·replace c54 := Bool.eq_false_iff.mpr c54; subst c54; rw [if_neg nft_] at H
        simp only [Option.some.injEq, Prod.mk.injEq] at H
        obtain ⟨rfl, rfl⟩ := H; obtain ⟨Ao57, co57, eo57⟩ := Kd.R_slice HO_7.o; subst eo57
        go_wp2_with ((go_at_call 47; (with_reducible refine (impl_itemsOk.calls _ _ x7_2 false _ ?side1 ?side2 A53.o).mono ?_); (case side1 => repeat (first | exact (Kd.R_reads' HO_7.o).2.2 | (with_reducible refine Kd.C_alloc ?_ _) | (with_reducible refine Kd.C_drewN ?_ _) | (with_reducible refine Kd.C_drew ?_))); (case side2 => exact (Kd.R_reads' HO_7.o).2.1); rintro e w58 ⟨rfl, hb⟩; replace HO_6 := q_ (Kd.R_below (ra_ HO_6.o) hb); replace HO_7 := q_ (Kd.R_below (ra_ HO_7.o) hb); replace BK101 := lb_ BK101 hb; replace HB := sb1_ HB GE101 hb; (try clear hb)))
        repeat (go_quiet (fail); try go_wp2_with (fail))
        go_ret2
        exact ⟨_, rt_, by first | exact Kd.R_nil _ _ _ _ _ | exact Kd.N_nil _ _ _ _ _ | exact Kd.V_nil _ _ _ _ _ | exact Kd.Q_nil _ _ _ _ _ | exact Kd.S_nil _ _ _ _ _, be1_ HB.o GE101.o⟩
end Go.Proofs.YtijmhelacmjggaaGreat.P
namespace Go.Proofs.YtijmhelacmjggaaGreat.P
open Go.RowKit Go.Proofs.YtijmhelacmjggaaGreatW.PrintWords Go.Proofs.YtijmhelacmjggaaGreatW.PrintLast Go.Proofs.YtijmhelacmjggaaGreatEv
set_option linter.unusedVariables false
set_option linter.unusedSimpArgs false
def tokB (g : List S62) (t : S76) : Bool := decide (0 ≤ t.f0 ∧ t.f0 ≤ (g.length : Int) - 1) && decide (-1 ≤ t.f1 ∧ t.f1 ≤ ((rd_T62 g t.f0).f1.length : Int) - 1)
def kindOf (g : List S62) (t : S76) : Int := if t.f1 ≥ 0 then idxP (isS (rd_T64 (rd_T62 g t.f0).f1 t.f1).f0) (tokKinds g) 0 else ((tokKinds g).length : Int)
def itemOf (g : List S62) (t : S76) : S79 := ⟨kindOf g t, t.f4, t.f5⟩
def itemsFrom (g : List S62) (l : List S76) (i : Nat) : List S79 × Bool := if ((l.drop i).all (tokB g) && itemsB (l.map (itemOf g))) = true then (l.map (itemOf g), true) else ([], false)
def itemsOfB (g : List S62) (l : List S76) : List S79 × Bool := if (grammarB g && decide (l.length ≤ 5000)) = true then itemsFrom g l 0 else ([], false)
theorem nameOf_in (g : List S62) (hb : grammarB g = true) (t : S76) (h : tokB g t = true) : nameOfB g t.f0 t.f1 = if t.f1 < 0 then (⟨#[101, 114, 114, 111, 114]⟩ : ByteArray) else (rd_T64 (rd_T62 g t.f0).f1 t.f1).f0 := by
  unfold tokB at h
  rw [Bool.and_eq_true] at h
  unfold nameOfB isModeB
  rw [hb, h.1, Bool.true_and, if_pos rfl, if_pos h.2]
theorem nameOf_out (g : List S62) (hb : grammarB g = true) (t : S76) (h : tokB g t = false) : nameOfB g t.f0 t.f1 = (⟨#[]⟩ : ByteArray) := by
  unfold tokB at h
  unfold nameOfB isModeB
  rw [hb, Bool.true_and]
  cases h1 : decide (0 ≤ t.f0 ∧ t.f0 ≤ (g.length : Int) - 1)
  · rfl
  · rw [h1, Bool.true_and] at h
    rw [if_pos rfl, if_neg (by rw [h]; decide)]
theorem rule_named (g : List S62) (hb : grammarB g = true) (i : Nat) (hi : i < g.length) (r : S64) (hr : r ∈ (rd_T62 g (i : Int)).f1) : 1 ≤ r.f0.size := by
  have hm : modesB g 0 = true := by
    unfold grammarB at hb
    rw [Bool.and_eq_true] at hb
    exact hb.2
  unfold modesB at hm
  rw [List.drop_zero, List.all_eq_true] at hm
  have h3 := hm i (List.mem_range.2 hi)
  unfold modeB at h3
  simp only [Bool.and_eq_true] at h3
  have h4 := List.all_eq_true.1 h3.2.2.2 r hr
  unfold ruleB nameB at h4
  simp only [Bool.and_eq_true, decide_eq_true_eq] at h4
  exact h4.1.2.1
theorem nameOf_empty (g : List S62) (hb : grammarB g = true) (t : S76) : (nameOfB g t.f0 t.f1).toList = [] ↔ tokB g t = false := by
  cases h : tokB g t
  · rw [nameOf_out g hb t h, ByteArray.toList_eq]
    simp
  · rw [nameOf_in g hb t h, ByteArray.toList_eq]
    unfold tokB at h
    simp only [Bool.and_eq_true, decide_eq_true_eq] at h
    by_cases c : t.f1 < 0
    · rw [if_pos c]
      simp
    · rw [if_neg c]
      constructor
      · intro e
        exfalso
        obtain ⟨i, hi⟩ : ∃ i : Nat, t.f0 = (i : Int) := ⟨t.f0.toNat, by omega⟩
        obtain ⟨j, hj⟩ : ∃ j : Nat, t.f1 = (j : Int) := ⟨t.f1.toNat, by omega⟩
        rw [hi] at h e
        rw [hj] at h e
        have h1 := rule_named g hb i (by omega) _ (rd_rule_mem (rd_T62 g (i : Int)).f1 j (by omega))
        have h2 := congrArg List.length e
        have h3 : (rd_T64 (rd_T62 g (i : Int)).f1 (j : Int)).f0.size = 0 := by simpa using h2
        omega
      · intro e
        exact absurd e (by simp)
theorem impl_tokenOk_eq (g : List S62) (hg : smallG g) (t : S76) : impl_tokenOk.f g t.f0 t.f1 t.f2 t.f3 t.f4 t.f5 = some (tokB g t) := if_pos hg.1
theorem itemsFrom_step (g : List S62) (l : List S76) (i : Nat) (h : i < l.length) : itemsFrom g l i = if tokB g (rd_T76 l (i : Int)) = true then itemsFrom g l (i + 1) else ([], false) := by
  unfold itemsFrom
  rw [all_drop l z76 (tokB g) i h]
  have hr : l.getD i z76 = rd_T76 l (i : Int) := by simp [rd_T76]
  rw [hr]
  cases tokB g (rd_T76 l (i : Int))
  · rw [Bool.false_and, Bool.false_and, if_neg (by decide), if_neg (by decide)]
  · rw [Bool.true_and, if_pos rfl]
theorem itemsFrom_end (g : List S62) (l : List S76) : itemsFrom g l l.length = if itemsB (l.map (itemOf g)) = true then (l.map (itemOf g), true) else ([], false) := by
  unfold itemsFrom
  rw [List.drop_length, List.all_nil, Bool.true_and]
theorem items_take (g : List S62) (l : List S76) (i : Nat) (h : i < l.length) : (l.take (i + 1)).map (itemOf g) = (l.take i).map (itemOf g) ++ [itemOf g (rd_T76 l (i : Int))] := by
  have e : rd_T76 l (i : Int) = l[i] := by simp [rd_T76, h]
  rw [List.take_succ_eq_append_getElem h, List.map_append, e]
  rfl
theorem spec_ItemsOf_ev (g : List S62) (hg : smallG g) (l : List S76) : Ev (fun k => spec_ItemsOf.f k g l) (itemsOfB g l) := by
  have hkl := tokKinds_length g hg
  unfold spec_ItemsOf.f itemsOfB
  simp only [Option.bind_some]
  rw [ev_bind (spec_GrammarOk_ev g hg)]
  cases hb : grammarB g
  · rw [Bool.false_and, if_neg (by decide), ev_ite, if_neg (by decide), ev_succ]
    simp only [spec_ItemsOf.j0, if_true]
    exact ev_some.2 rfl
  rw [Bool.true_and, ev_ite, if_pos rfl]
  by_cases hl : l.length ≤ 5000
  · rw [decide_eq_true hl, if_pos rfl, decide_eq_false (by omega), ev_succ]
    simp only [spec_ItemsOf.j0, Bool.false_eq_true, if_false]
    rw [ev_bind (spec_Kinds_ev g hg)]
    refine ev_loop l.length (fun k i => spec_ItemsOf.l0 k l ((l.take i).map (itemOf g)) (tokKinds g) (i : Nat) g) (fun i => itemsFrom g l i) ?_ ?_ 0 (by omega)
    · rw [ev_succ, itemsFrom_end, List.take_length]
      simp only [spec_ItemsOf.l0, ev_ite]
      rw [if_neg (by omega), ev_bind (spec_l16Items_ev _)]
      cases itemsB (l.map (itemOf g))
      · exact ev_some.2 rfl
      · exact ev_some.2 rfl
    · intro i hi ih
      rw [items_take g l i hi] at ih
      rw [ev_succ, itemsFrom_step g l i hi]
      simp only [spec_ItemsOf.l0, ev_ite]
      rw [if_pos (by omega), if_pos (by omega), wrap_succ hi (by omega)]
      have hlen : ((l.take i).map (itemOf g)).length ≤ 5000 := by simp; omega
      generalize rd_T76 l (i : Int) = t at *
      rw [ev_bind (spec_NameOf_ev g hg t.f0 t.f1 t.f2 t.f3 t.f4 t.f5), ev_ite]
      cases ht : tokB g t
      · rw [if_pos ((nameOf_empty g hb t).2 ht), if_neg (by decide)]
        exact ev_some.2 rfl
      · rw [if_neg (fun e => by rw [(nameOf_empty g hb t).1 e] at ht; exact absurd ht (by decide)), if_pos rfl, nameOf_in g hb t ht]
        unfold itemOf kindOf at ih
        by_cases c : t.f1 ≥ 0
        · rw [if_pos c] at ih
          simp only [ev_ite]
          rw [if_pos c, if_neg (by omega), ev_bind (spec_l20At_ev _ _ (by omega)), ev_ite, if_pos (by omega)]
          exact ih
        · rw [if_neg c] at ih
          simp only [ev_ite]
          rw [if_neg c, if_pos (by omega)]
          exact ih
  · rw [decide_eq_false hl, if_neg (by decide), decide_eq_true (by omega), ev_succ]
    simp only [spec_ItemsOf.j0, if_true]
    exact ev_some.2 rfl
theorem impl_ItemsOf_ev (g : List S62) (hg : smallG g) (l : List S76) : Ev (fun k => impl_ItemsOf.f k g l) (itemsOfB g l) := by
  have hkl := tokKinds_length g hg
  have hgl := hg.1
  unfold impl_ItemsOf.f itemsOfB
  simp only [impl_GrammarOk_eq g hg, Option.bind_some]
  cases hb : grammarB g
  · rw [Bool.false_and, if_neg (by decide), ev_ite, if_neg (by decide), ev_succ]
    simp only [impl_ItemsOf.j0, if_true]
    exact ev_some.2 rfl
  rw [Bool.true_and, ev_ite, if_pos rfl]
  by_cases hl : l.length ≤ 5000
  · rw [decide_eq_true hl, if_pos rfl, decide_eq_false (by omega), ev_succ]
    simp only [impl_ItemsOf.j0, Bool.false_eq_true, if_false]
    rw [ev_bind (impl_Kinds_ev g hg)]
    refine ev_loop l.length (fun k i => impl_ItemsOf.l0 k (tokKinds g) ((l.take i).map (itemOf g)) l (l.length : Int) (i : Nat) g) (fun i => itemsFrom g l i) ?_ ?_ 0 (by omega)
    · rw [ev_succ, itemsFrom_end, List.take_length]
      simp only [impl_ItemsOf.l0, ev_ite]
      rw [if_neg (by omega), ev_bind (impl_itemsOk_ev _ (by simp; omega))]
      cases itemsB (l.map (itemOf g))
      · exact ev_some.2 rfl
      · exact ev_some.2 rfl
    · intro i hi ih
      rw [items_take g l i hi] at ih
      rw [ev_succ, itemsFrom_step g l i hi]
      simp only [impl_ItemsOf.l0, ev_ite]
      rw [if_pos (by omega), if_pos (by omega), if_pos (by omega), wrap_succ hi (by omega)]
      have hlen : ((l.take i).map (itemOf g)).length ≤ 5000 := by simp; omega
      generalize rd_T76 l (i : Int) = t at *
      simp only [impl_tokenOk_eq g hg t, impl_size_string.f, Option.bind_some]
      cases ht : tokB g t
      · rw [if_neg (by decide)]
        exact ev_some.2 rfl
      · have h2 := ht
        unfold tokB at h2
        simp only [Bool.and_eq_true, decide_eq_true_eq] at h2
        simp only [if_true, ev_ite]
        unfold itemOf kindOf at ih
        by_cases c : t.f1 ≥ 0
        · rw [if_pos c] at ih
          rw [if_pos c, if_pos (by omega), if_pos (by omega), if_pos (by omega), if_pos (by omega), ev_bind (slices_IndexS_ev _ _ (by omega)), ev_ite, if_pos (by omega)]
          exact ih
        · rw [if_neg c] at ih
          rw [if_neg c, if_pos (by omega)]
          exact ih
  · rw [decide_eq_false hl, if_neg (by decide), decide_eq_true (by omega), ev_succ]
    simp only [impl_ItemsOf.j0, if_true]
    exact ev_some.2 rfl
theorem itemsOfB_length (g : List S62) (l : List S76) : (itemsOfB g l).1.length ≤ l.length := by
  unfold itemsOfB itemsFrom
  split
  · split <;> simp
  · simp
end Go.Proofs.YtijmhelacmjggaaGreat.P
namespace Go.Proofs.YtijmhelacmjggaaGreat.P
open Go.RowKit Go.Proofs.YtijmhelacmjggaaGreatW.PrintWords Go.Proofs.YtijmhelacmjggaaGreatW.PrintLast Go.Proofs.YtijmhelacmjggaaGreatW.PrintMore
attribute [local go_sem] max2_int min2_int max_two min_two max_three min_three max_four min_four
set_option linter.unusedVariables false
set_option linter.unusedSimpArgs false
/-! ### laws_eqItem: function 48 -/
def laws_eqItem.f (a0_0 : Int) (a0_1 : Int) (a0_2 : Int) (a1_0 : Int) (a1_1 : Int) (a1_2 : Int) : Option (Bool) := if a0_0 = a1_0 then (if a0_1 = a1_1 then (if a0_2 = a1_2 then (some true) else (none)) else (none)) else (none)
theorem laws_eqItem.calls (a0_0 : Int) (a0_1 : Int) (a0_2 : Int) (a1_0 : Int) (a1_1 : Int) (a1_2 : Int) (r : Bool) (w : World) (h : laws_eqItem.f a0_0 a0_1 a0_2 a1_0 a1_1 a1_2 = some r) :
  Calls Tryz.prog 48 #[.agg #[.int .i64 a0_0, .int .i64 a0_1, .int .i64 a0_2], .agg #[.int .i64 a1_0, .int .i64 a1_1, .int .i64 a1_2]] w fun e w' => e = .returned (.bool r) ∧ Below w.heap.size w w' := by
 have hu79 := Tryz.underlying79; have HB := q_ (Below.refl w.heap.size w)
 have H : (if a0_0 = a1_0 then (if a0_1 = a1_1 then (if a0_2 = a1_2 then (some true) else (none)) else (none)) else (none)) = some r := h
 clear h
 by_cases c3 : a0_0 = a1_0
 ·rw [if_pos c3] at H
  have c3b0 : (a0_0 == a1_0) = true := beq_iff_eq.mpr c3
  have c3b1 : (a0_0 != a1_0) = false := bne_eq_false_iff_eq.mpr c3
  clear c3
  by_cases c4 : a0_1 = a1_1
  ·rw [if_pos c4] at H
   have c4b0 : (a0_1 == a1_1) = true := beq_iff_eq.mpr c4
   have c4b1 : (a0_1 != a1_1) = false := bne_eq_false_iff_eq.mpr c4
   clear c4
   by_cases c5 : a0_2 = a1_2
   ·rw [if_pos c5] at H
    have c5b0 : (a0_2 == a1_2) = true := beq_iff_eq.mpr c5
    have c5b1 : (a0_2 != a1_2) = false := bne_eq_false_iff_eq.mpr c5
    clear c5; obtain rfl := Option.some.inj H
    go_enter Tryz.func48, Tryz.ntmps48
    go_wp2_with (first | ((with_reducible refine gate_dst (N := 2) rfl ?_); refine bx_ 2 #[.int .i64 a0_0, .int .i64 a0_1, .int .i64 a0_2] 79 ?_; intro gb101 hg w6 hbox hb; have BK101 := q_ (hbox); have GE101 := ge_ hg HB; replace HB := sb_ HB hb; clear hb hbox hg) | ((with_reducible refine gate_dst (N := 3) rfl ?_); refine bx_ 3 #[.int .i64 a1_0, .int .i64 a1_1, .int .i64 a1_2] 79 ?_; intro gb102 hg w7 hbox hb; have BK102 := q_ (hbox); have GE102 := ge1_ hg HB GE101; have NB101_102 := nl_ hg BK101; have NB102_101 := ng_ hg BK101; replace BK101 := lb_ BK101 hb; replace HB := sb1_ HB GE101 hb; clear hb hbox hg; have hnb8 := NB101_102.o; have hnc8 := NB102_101.o; obtain ⟨hcz9_0, hcz9_1, hcz9_2, hfz9_0, hfz9_1, hfz9_2⟩ := d3_ BK101; obtain ⟨hcz10_0, hcz10_1, hcz10_2, hfz10_0, hfz10_1, hfz10_2⟩ := d3_ BK102))
    go_ret
    exact ⟨rt_, be2_ HB.o GE101.o GE102.o⟩
   ·rw [if_neg c5] at H
    have c5b0 : (a0_2 == a1_2) = false := beq_eq_false_iff_ne.mpr c5
    have c5b1 : (a0_2 != a1_2) = true := bne_iff_ne.mpr c5
    exact absurd H (by simp)
  ·rw [if_neg c4] at H
   have c4b0 : (a0_1 == a1_1) = false := beq_eq_false_iff_ne.mpr c4
   have c4b1 : (a0_1 != a1_1) = true := bne_iff_ne.mpr c4
   exact absurd H (by simp)
 ·rw [if_neg c3] at H
  have c3b0 : (a0_0 == a1_0) = false := beq_eq_false_iff_ne.mpr c3
  have c3b1 : (a0_0 != a1_0) = true := bne_iff_ne.mpr c3
  exact absurd H (by simp)
/-! ### laws_eqItemS: function 18 -/
def laws_eqItemS.l0 : Nat → List (S79) → List (S79) → Int → Option (Bool)
 | 0, _, _, _ => none
 | k + 1, x0, x1, x5 => if x5 < (x0.length : Int) then (if 0 ≤ x5 then (if x5 < (x1.length : Int) then ((laws_eqItem.f ((rd_T79 x0 x5).f0) ((rd_T79 x0 x5).f1) ((rd_T79 x0 x5).f2) ((rd_T79 x1 x5).f0) ((rd_T79 x1 x5).f1) ((rd_T79 x1 x5).f2)).bind fun t103 => (if t103 = true then (laws_eqItemS.l0 k x0 x1 (wrap64 (x5 + 1))) else (none))) else (none)) else (none)) else (some true)
def laws_eqItemS.f (k : Nat) (l0 : List (S79)) (l1 : List (S79)) : Option (Bool) := if (l0.length : Int) = (l1.length : Int) then (laws_eqItemS.l0 k l0 l1 0) else (none)
def laws_eqItemS.T6 : Bool × List (List Nat × List Nat) := (true, [([], []), ([], []), ([0, 1], [0, 1]), ([2], [2]), ([], []), ([], []), ([4, 5], [4, 5]), ([6], [6]), ([3, 7], [3, 7]), ([8], [8])])
def laws_eqItemS.B6 : List Nat := [0, 0, 3, 7, 0, 0, 48, 112, 255, 511]
theorem laws_eqItemS.tab6 : rtab .any (opsOf Tryz.f18 6) = laws_eqItemS.T6 := by kernel_rfl
theorem laws_eqItemS.bits6 : waitsOk laws_eqItemS.T6.2 laws_eqItemS.B6 = true := by kernel_rfl
theorem laws_eqItemS.calls (k : Nat) (A0 : Option Addr) (c0 : Nat) (l0 : List (S79)) (A1 : Option Addr) (c1 : Nat) (l1 : List (S79)) (r : Bool) (w : World) (hr0 : Kd.C k79 w A0 l0.length l0) (hc0 : l0.length ≤ c0) (hr1 : Kd.C k79 w A1 l1.length l1) (hc1 : l1.length ≤ c1) (h : laws_eqItemS.f k l0 l1 = some r) :
  Calls Tryz.prog 18 #[.slice A0 l0.length c0, .slice A1 l1.length c1] w fun e w' => e = .returned (.bool r) ∧ Below w.heap.size w w' := by
 have hu79 := Tryz.underlying79; have HR0 := q_ hr0; have HC0 := q_ hc0; clear hr0 hc0; have HR1 := q_ hr1; have HC1 := q_ hc1; clear hr1 hc1; have HB := q_ (Below.refl w.heap.size w)
 have H : (if (l0.length : Int) = (l1.length : Int) then (laws_eqItemS.l0 k l0 l1 0) else (none)) = some r := h
 clear h
 by_cases c3 : (l0.length : Int) = (l1.length : Int)
 ·rw [if_pos c3] at H
  have c3b0 : ((l0.length : Int) == (l1.length : Int)) = true := beq_iff_eq.mpr c3
  have c3b1 : ((l0.length : Int) != (l1.length : Int)) = false := bne_eq_false_iff_eq.mpr c3
  have c3b2 : (l0.length == l1.length) = true := by first | simpa using c3 | (simp at c3 ⊢; omega)
  clear c3
  have H' := q_ H
  clear H
  go_enter Tryz.func18, Tryz.ntmps18
  go_wp2
  go_loopg [5] k (fun kq v5 w' => ∃ (x5_1 : Int), v5 = .int .i64 x5_1 ∧ J0 (laws_eqItemS.l0 kq l0 l1 x5_1 = some r) ∧ J0 (kq ≤ k) ∧ J0 (Below w.heap.size w w'))
  case atStart => exact ⟨(0), rs_, H', ⟨Nat.le_refl _⟩, ⟨be_ HB.o⟩⟩
  case round =>
   clear H'; (try clear c1); (try clear c3); (try clear c3b0); (try clear c3b1); (try clear c3b2); obtain ⟨x5_1, rfl, HA, HK1, HB⟩ := hrel
   cases gk with
   | zero => exact absurd HA.o (by simp [laws_eqItemS.l0])
   | succ k1 =>
    have H := HA.o; clear HA
    simp only [laws_eqItemS.l0] at H
    by_cases c4 : x5_1 < (l0.length : Int)
    ·rw [if_pos c4] at H; have c4b0 := dt_ c4; clear c4
     by_cases c5 : 0 ≤ x5_1
     ·rw [if_pos c5] at H; have c5b0 := dt_ c5; clear c5
      by_cases c6 : x5_1 < (l1.length : Int)
      ·rw [if_pos c6] at H; have c6b0 := dt_ c6; clear c6; obtain ⟨t103, A7, H⟩ := ob_ H
       by_cases c8 : t103 = true
       ·subst c8; rw [if_pos rfl] at H
        have H' := q_ H
        clear H
        try go_wp2
        replace HB := q_ (below_drew1 HB.o)
        have p101 : 0 ≤ (x5_1 : Int) := of_decide_eq_true as_
        have q101 : x5_1 < (l0.length : Int) := of_decide_eq_true as_
        obtain ⟨ad101, e101, hx101_0, hx101_1, hx101_2⟩ := at_T79 HR0.o x5_1 p101 q101; have hw101_2 := hx101_2; have hw101_1 := hx101_1; have hw101_0 := hx101_0
        cases e101
        replace hx101_0 := mv_ HB.o hx101_0; replace hx101_1 := mv_ HB.o hx101_1; replace hx101_2 := mv_ HB.o hx101_2; replace p101 := eq_true p101; replace q101 := eq_true q101
        have p102 : 0 ≤ (x5_1 : Int) := of_decide_eq_true as_
        have q102 : x5_1 < (l1.length : Int) := of_decide_eq_true as_
        obtain ⟨ad102, e102, hx102_0, hx102_1, hx102_2⟩ := at_T79 HR1.o x5_1 p102 q102; have hw102_2 := hx102_2; have hw102_1 := hx102_1; have hw102_0 := hx102_0
        cases e102
        replace hx102_0 := mv_ HB.o hx102_0; replace hx102_1 := mv_ HB.o hx102_1; replace hx102_2 := mv_ HB.o hx102_2; replace p102 := eq_true p102; replace q102 := eq_true q102
        refine start_ (n := 10) (S := fun w' => w'.cell? (ad101.add ((x5_1).toNat * 3)) = some (.int .i64 ((rd_T79 l0 x5_1).f0)) ∧ w'.cell? ⟨(ad101.add ((x5_1).toNat * 3)).block, (ad101.add ((x5_1).toNat * 3)).off + 1, none⟩ = some (.int .i64 ((rd_T79 l0 x5_1).f1)) ∧ w'.cell? ⟨(ad101.add ((x5_1).toNat * 3)).block, (ad101.add ((x5_1).toNat * 3)).off + 2, none⟩ = some (.int .i64 ((rd_T79 l0 x5_1).f2)) ∧ w'.cell? (ad102.add ((x5_1).toNat * 3)) = some (.int .i64 ((rd_T79 l1 x5_1).f0)) ∧ w'.cell? ⟨(ad102.add ((x5_1).toNat * 3)).block, (ad102.add ((x5_1).toNat * 3)).off + 1, none⟩ = some (.int .i64 ((rd_T79 l1 x5_1).f1)) ∧ w'.cell? ⟨(ad102.add ((x5_1).toNat * 3)).block, (ad102.add ((x5_1).toNat * 3)).off + 2, none⟩ = some (.int .i64 ((rd_T79 l1 x5_1).f2))) (ds := []) (bb 10 0) (by kernel_rfl) rfl rfl ⟨(mv_ HB.o hw101_0), (mv_ HB.o hw101_1), (mv_ HB.o hw101_2), (mv_ HB.o hw102_0), (mv_ HB.o hw102_1), (mv_ HB.o hw102_2)⟩ (fun hHeld => ?_); refine with_tabW laws_eqItemS.tab6 laws_eqItemS.bits6 (fun HT_ HW_ => ?_)
        generalize wr.drew = w9 at HB hx101_0 hx101_1 hx101_2 hx102_0 hx102_1 hx102_2 hHeld ⊢
        refine pv_ 0 17 1 HT_.o ?_; refine pv_ 1 18 3 HT_.o ?_; refine pv_ 2 19 7 HT_.o ?_; refine pv_ 4 21 23 HT_.o ?_; refine pv_ 5 22 55 HT_.o ?_; refine pv_ 6 23 119 HT_.o ?_; refine tv_ 3 20 127 HT_.o HW_.o hHeld ?_; refine tv_ 7 24 255 HT_.o HW_.o hHeld ?_
        refine one_ (i := 8) (N := some 25) (bb 10 511) rfl rfl (one_of HT_.o (by kernel_rfl)) (by decide) (fun K hK => ?_)
        refine gs_ Tryz.func48 #[.agg #[.int .i64 ((rd_T79 l0 x5_1).f0), .int .i64 ((rd_T79 l0 x5_1).f1), .int .i64 ((rd_T79 l0 x5_1).f2)], .agg #[.int .i64 ((rd_T79 l1 x5_1).f0), .int .i64 ((rd_T79 l1 x5_1).f1), .int .i64 ((rd_T79 l1 x5_1).f2)]] ?_
        with_reducible refine (laws_eqItem.calls ((rd_T79 l0 x5_1).f0) ((rd_T79 l0 x5_1).f1) ((rd_T79 l0 x5_1).f2) ((rd_T79 l1 x5_1).f0) ((rd_T79 l1 x5_1).f1) ((rd_T79 l1 x5_1).f2) true _ A7.o).mono ?_
        rintro e w10 ⟨rfl, hb⟩
        refine ⟨_, rfl, ?_⟩; replace HB := sb_ HB hb
        (try clear hb)
        (try clear hb2)
        (try clear hk)
        (try clear hi)
        refine hK.out _ _ ⟨(mv_ HB.o hw101_0), (mv_ HB.o hw101_1), (mv_ HB.o hw101_2), (mv_ HB.o hw102_0), (mv_ HB.o hw102_1), (mv_ HB.o hw102_2)⟩ (fun hHeld => ?_)
        clear hK K; refine no_ (some 25) ?_; refine pv_ 9 26 1023 HT_.o ?_
        refine done_ (done_of HT_.o (by kernel_rfl)) ?_
        try go_wp2
        go_roundg k1
        case measure => have := HK1.o; omega
        case rel => exact ⟨(wrap64 (x5_1 + 1)), rs_, H', ⟨by have := HK1.o; omega⟩, ⟨be_ HB.o⟩⟩
       ·replace c8 := Bool.eq_false_iff.mpr c8; subst c8; rw [if_neg nft_] at H
        exact absurd H (by simp)
      ·rw [if_neg c6] at H
       exact absurd H (by simp)
     ·rw [if_neg c5] at H
      exact absurd H (by simp)
    ·rw [if_neg c4] at H; have c4b0 := df_ c4; clear c4; obtain rfl := Option.some.inj H
     go_wp2
     go_ret
     exact ⟨rt_, be_ HB.o⟩
 ·rw [if_neg c3] at H
  have c3b0 : ((l0.length : Int) == (l1.length : Int)) = false := beq_eq_false_iff_ne.mpr c3
  have c3b1 : ((l0.length : Int) != (l1.length : Int)) = true := bne_iff_ne.mpr c3
  have c3b2 : (l0.length == l1.length) = false := by first | simpa using c3 | (simp at c3 ⊢; omega)
  exact absurd H (by simp)
/-! ### laws_markItemS: function 21 -/
def laws_markItemS.l0 : Nat → List (S79) → Int → Int → Option (Int × (List (S79)))
 | 0, _, _, _ => none
 | k + 1, x0, x1, x5 => if x5 < (x0.length : Int) then (if 0 ≤ x5 then ((some (x0.set (x5 : Int).toNat (⟨x1, (rd_T79 x0 x5).f1, (rd_T79 x0 x5).f2⟩ : S79) : List (S79))).bind fun y101 => ((some (y101.set (x5 : Int).toNat (⟨(rd_T79 y101 x5).f0, wrap64 (x1 + 1), (rd_T79 y101 x5).f2⟩ : S79) : List (S79))).bind fun y102 => (laws_markItemS.l0 k (y102.set (x5 : Int).toNat (⟨(rd_T79 y102 x5).f0, (rd_T79 y102 x5).f1, wrap64 ((wrap64 (x1 + 1)) + 1)⟩ : S79)) (wrap64 ((wrap64 ((wrap64 (x1 + 1)) + 1)) + 1)) (wrap64 (x5 + 1))))) else (none)) else (some (x1, x0))
def laws_markItemS.f (k : Nat) (l0 : List (S79)) (a1 : Int) : Option (Int × (List (S79))) := laws_markItemS.l0 k l0 a1 0
theorem laws_markItemS.calls (k : Nat) (P0_ : Nat → Prop) (u9000_ : Value) (l0 : List (S79)) (a1 : Int) (r1 : Int) (r2 : List (S79)) (w0 w : World) (hB : Below w0.heap.size w0 w) (ho0 : Kd.R k79 79 w w0.heap.size P0_ u9000_ l0) (h : laws_markItemS.f k l0 a1 = some (r1, r2)) :
  Calls Tryz.prog 21 #[u9000_, .int .i64 a1] w fun e w' => e = .returned (.int .i64 r1) ∧ Kd.R k79 79 w' w0.heap.size (fun k_ => (P0_ k_ ∨ w.heap.size ≤ k_)) u9000_ r2 ∧ Below w0.heap.size w0 w' ∧ Kept w w' (fun k_ => P0_ k_) := by
 have HO0 := q_ (show Kd.R k79 79 w w0.heap.size (fun k_ => (P0_ k_ ∨ w.heap.size ≤ k_)) u9000_ l0 from Kd.R_mono ho0 (fun k_ hk => (.inl hk)))
 have HK := q_ (Kept.refl w (fun k_ => P0_ k_))
 have HW0 := q_ hB.size; have HB := q_ hB; clear hB
 have H : (laws_markItemS.l0 k l0 a1 0) = some (r1, r2) := h
 clear h
 have H' := q_ H
 clear H
 go_enter Tryz.func21, Tryz.ntmps21
 go_wp2
 go_loopg [1, 5] k (fun kq v1 v5 w' => ∃ (x0_1 : List (S79)) (x1_1 : Int) (x5_1 : Int), v1 = .int .i64 x1_1 ∧ v5 = .int .i64 x5_1 ∧ J0 (laws_markItemS.l0 kq x0_1 x1_1 x5_1 = some (r1, r2)) ∧ J0 (kq ≤ k) ∧ J0 (Kd.R k79 79 w' w0.heap.size (fun k_ => (P0_ k_ ∨ w.heap.size ≤ k_)) u9000_ x0_1) ∧ J0 (Kept w w' (fun k_ => P0_ k_)) ∧ J0 (Below w0.heap.size w0 w'))
 case atStart => exact ⟨(l0), (a1), (0), rs_, rs_, H', ⟨Nat.le_refl _⟩, ⟨ra_ HO0.o⟩, ⟨by repeat (first | (with_reducible first | exact HK.o | apply Kept.alloc | apply Kept.drewN | apply Kept.drew) | exact HK.o)⟩, ⟨be_ HB.o⟩⟩
 case round =>
  clear H'; obtain ⟨x0_1, x1_1, x5_1, rfl, rfl, HA, HK1, HO_0, HK, HB⟩ := hrel
  cases gk with
  | zero => exact absurd HA.o (by simp [laws_markItemS.l0])
  | succ k1 =>
   have H := HA.o; clear HA
   simp only [laws_markItemS.l0] at H
   by_cases c3 : x5_1 < (x0_1.length : Int)
   ·rw [if_pos c3] at H; have c3b0 := dt_ c3; clear c3
    by_cases c4 : 0 ≤ x5_1
    ·rw [if_pos c4] at H; have c4b0 := dt_ c4; clear c4
     obtain ⟨y101, hy101⟩ : ∃ y_ : List (S79), y_ = (x0_1.set (x5_1 : Int).toNat (⟨x1_1, (rd_T79 x0_1 x5_1).f1, (rd_T79 x0_1 x5_1).f2⟩ : S79)) := ⟨_, rfl⟩
     replace H : ((some (y101.set (x5_1 : Int).toNat (⟨(rd_T79 y101 x5_1).f0, wrap64 (x1_1 + 1), (rd_T79 y101 x5_1).f2⟩ : S79) : List (S79))).bind fun y102 => (laws_markItemS.l0 k1 (y102.set (x5_1 : Int).toNat (⟨(rd_T79 y102 x5_1).f0, (rd_T79 y102 x5_1).f1, wrap64 ((wrap64 (x1_1 + 1)) + 1)⟩ : S79)) (wrap64 ((wrap64 ((wrap64 (x1_1 + 1)) + 1)) + 1)) (wrap64 (x5_1 + 1)))) = some (r1, r2) := by first | (rw [hy101]; with_reducible exact H) | (have H2_ := (Option.bind_some _ _).symm.trans H; rw [hy101]; with_reducible exact H2_) | (have H2_ := (Option.bind_some _ _).symm.trans H; with_reducible exact H2_) | with_reducible exact H | (rw [hy101]; exact H) | exact H
     have Ny101 := q_ hy101; clear hy101
     obtain ⟨y102, hy102⟩ : ∃ y_ : List (S79), y_ = (y101.set (x5_1 : Int).toNat (⟨(rd_T79 y101 x5_1).f0, wrap64 (x1_1 + 1), (rd_T79 y101 x5_1).f2⟩ : S79)) := ⟨_, rfl⟩
     replace H : (laws_markItemS.l0 k1 (y102.set (x5_1 : Int).toNat (⟨(rd_T79 y102 x5_1).f0, (rd_T79 y102 x5_1).f1, wrap64 ((wrap64 (x1_1 + 1)) + 1)⟩ : S79)) (wrap64 ((wrap64 ((wrap64 (x1_1 + 1)) + 1)) + 1)) (wrap64 (x5_1 + 1))) = some (r1, r2) := by first | (rw [hy102]; with_reducible exact H) | (have H2_ := (Option.bind_some _ _).symm.trans H; rw [hy102]; with_reducible exact H2_) | (have H2_ := (Option.bind_some _ _).symm.trans H; with_reducible exact H2_) | with_reducible exact H | (rw [hy102]; exact H) | exact H
     have Ny102 := q_ hy102; clear hy102
     obtain ⟨y103, hy103⟩ : ∃ y_ : List (S79), y_ = (y102.set (x5_1 : Int).toNat (⟨(rd_T79 y102 x5_1).f0, (rd_T79 y102 x5_1).f1, wrap64 ((wrap64 (x1_1 + 1)) + 1)⟩ : S79)) := ⟨_, rfl⟩
     replace H : (laws_markItemS.l0 k1 y103 (wrap64 ((wrap64 ((wrap64 (x1_1 + 1)) + 1)) + 1)) (wrap64 (x5_1 + 1))) = some (r1, r2) := by first | (rw [hy103]; with_reducible exact H) | (have H2_ := (Option.bind_some _ _).symm.trans H; rw [hy103]; with_reducible exact H2_) | (have H2_ := (Option.bind_some _ _).symm.trans H; with_reducible exact H2_) | with_reducible exact H | (rw [hy103]; exact H) | exact H
     have Ny103 := q_ hy103; clear hy103
     have H' := q_ H
     clear H; obtain ⟨Ao8, co8, eo8⟩ := Kd.R_slice HO_0.o; subst eo8
     have p5 : 0 ≤ (x5_1 : Int) := of_decide_eq_true as_
     have q5 : (x5_1 : Int) < ((x0_1.length : Int) : Int) := of_decide_eq_true as_
     obtain ⟨go5, co5, eo5, gb5, gl5, cl5, HG5⟩ := Kd.R_form HO_0.o (by omega)
     (first | cases eo5 | (injection eo5 with ea_ en_ ec_; (first | subst ea_ | (injection ea_ with ea_; subst ea_)); subst ec_; clear en_))
     have GB5 := q_ gb5; have GG5 := q_ HG5; clear gb5 gl5 HG5
     have HMgo5 := q_ (show (P0_ go5 ∨ w.heap.size ≤ go5) from (HO_0.o.1 _ rfl))
     obtain ⟨ce5, hcl5, hM5, hcc5, hfr5⟩ := Kd.R_elem HO_0.o z79 (x5_1 : Int) p5 q5
     obtain rfl := k79_openM hM5
     have hx5_0 : wr.cell? ⟨go5, (x5_1 : Int).toNat * 3, none⟩ = some (.int .i64 ((rd_T79 x0_1 x5_1).f0)) := hcc5 0 _ rfl
     have hx5_1 : wr.cell? ⟨go5, (x5_1 : Int).toNat * 3 + 1, none⟩ = some (.int .i64 ((rd_T79 x0_1 x5_1).f1)) := hcc5 1 _ rfl
     have hx5_2 : wr.cell? ⟨go5, (x5_1 : Int).toNat * 3 + 2, none⟩ = some (.int .i64 ((rd_T79 x0_1 x5_1).f2)) := hcc5 2 _ rfl
     have hf5_0 : wr.frozen? ⟨go5, (x5_1 : Int).toNat * 3, none⟩ = false := hfr5 0
     have hf5_1 : wr.frozen? ⟨go5, (x5_1 : Int).toNat * 3 + 1, none⟩ = false := hfr5 1
     have hf5_2 : wr.frozen? ⟨go5, (x5_1 : Int).toNat * 3 + 2, none⟩ = false := hfr5 2
     clear hcl5 hcc5 hfr5 hM5; replace p5 := eq_true p5; replace q5 := eq_true q5
     have HX9 := q_ (show Kd.R k79 79 wr w0.heap.size (fun k_ => (P0_ k_ ∨ w.heap.size ≤ k_)) (.slice (some ⟨go5, 0, none⟩) x0_1.length co8) x0_1 from (ra_ HO_0.o))
     obtain ⟨ce9, hcl9, hM9, hcc9, hfr9⟩ := Kd.R_elem HX9.o z79 (x5_1 : Int) (of_decide_eq_true as_) (by have h_ : (x5_1 : Int) < ((x0_1.length : Int) : Int) := of_decide_eq_true as_; first | exact h_ | (have e_ := (Kd.R_reads' HO_0.o).1; omega) | simpa using h_)
     obtain rfl := k79_openM hM9
     have HP9 := Kd.R_seg HX9.o (x5_1 : Int) (of_decide_eq_true as_) (by have h_ : (x5_1 : Int) < ((x0_1.length : Int) : Int) := of_decide_eq_true as_; first | exact h_ | (have e_ := (Kd.R_reads' HO_0.o).1; omega) | simpa using h_) (seg := [.int .i64 x1_1]) (j := 0) hcl9 hcc9 (show 1 ≤ 3 from by decide) (x' := (⟨x1_1, (rd_T79 x0_1 x5_1).f1, (rd_T79 x0_1 x5_1).f2⟩ : S79)) (k79_mkM _ _ _ (⟨x1_1, (rd_T79 x0_1 x5_1).f1, (rd_T79 x0_1 x5_1).f2⟩ : S79) ) (fun _ hk => hk)
     have hx9_0 := hcc9 0 _ rfl
     (try simp only [show (k79).sz = 3 from rfl, Nat.mul_one, Nat.add_zero] at hx9_0)
     have hf9_0 := hfr9 0
     (try simp only [show (k79).sz = 3 from rfl, Nat.mul_one, Nat.add_zero] at hf9_0)
     clear hcl9 hcc9 hfr9 hM9
     go_wp2_with (first | ((with_reducible refine gate_store (t := 2) (p := 16) rfl ?_); refine store_event (t := 2) (p := 16) (v := ?vo_w10) (w1 := (wr.setCell ⟨go5, (x5_1 : Int).toNat * 3, none⟩ (.int .i64 x1_1))) ?hg ?ho ?hn ?hr ?_; (case ho => rfl); (case hg => rfl); (case hn => rfl); (case hr => first | (go_simp; done) | (go_simp; rfl)); intro w10 hw; have hg : wr.grownBy w10 (some go5) := (by rw [hw]; exact HP9.2); have hp_ : Kd.R k79 79 w10 w0.heap.size (fun k_ => (P0_ k_ ∨ w.heap.size ≤ k_)) (.slice (some ⟨go5, 0, none⟩) x0_1.length co8) y101 := (by rw [hw, Ny101.o]; exact HP9.1); clear HP9; replace HB := q_ ((by rw [hw]; exact below_set (HB.o) GB5.out : Below w0.heap.size w0 w10)); replace HK := q_ (Kept.of_grown (S := (fun k_ => P0_ k_)) hg (by repeat (first | (with_reducible first | exact HK.o | apply Kept.alloc | apply Kept.drewN | apply Kept.drew) | exact HK.o)) (fun k_ e_ => (HO_0.o.1 k_ e_))); replace HO_0 := q_ (hp_); clear hg hw hp_; have p6 : 0 ≤ (x5_1 : Int) := of_decide_eq_true as_; have q6 : (x5_1 : Int) < ((x0_1.length : Int) : Int) := of_decide_eq_true as_; obtain ⟨ce6, hcl6, hM6, hcc6, hfr6⟩ := Kd.R_elem HO_0.o z79 (x5_1 : Int) p6 q6; obtain rfl := k79_openM hM6; have hx6_0 : w10.cell? ⟨go5, (x5_1 : Int).toNat * 3, none⟩ = some (.int .i64 ((rd_T79 y101 x5_1).f0)) := hcc6 0 _ rfl; have hx6_1 : w10.cell? ⟨go5, (x5_1 : Int).toNat * 3 + 1, none⟩ = some (.int .i64 ((rd_T79 y101 x5_1).f1)) := hcc6 1 _ rfl; have hx6_2 : w10.cell? ⟨go5, (x5_1 : Int).toNat * 3 + 2, none⟩ = some (.int .i64 ((rd_T79 y101 x5_1).f2)) := hcc6 2 _ rfl; have hf6_0 : w10.frozen? ⟨go5, (x5_1 : Int).toNat * 3, none⟩ = false := hfr6 0; have hf6_1 : w10.frozen? ⟨go5, (x5_1 : Int).toNat * 3 + 1, none⟩ = false := hfr6 1; have hf6_2 : w10.frozen? ⟨go5, (x5_1 : Int).toNat * 3 + 2, none⟩ = false := hfr6 2; clear hcl6 hcc6 hfr6 hM6; replace p6 := eq_true p6; replace q6 := eq_true q6; have HX11 := q_ (show Kd.R k79 79 w10 w0.heap.size (fun k_ => (P0_ k_ ∨ w.heap.size ≤ k_)) (.slice (some ⟨go5, 0, none⟩) x0_1.length co8) y101 from (ra_ HO_0.o)); obtain ⟨ce11, hcl11, hM11, hcc11, hfr11⟩ := Kd.R_elem HX11.o z79 (x5_1 : Int) (of_decide_eq_true as_) (by have h_ : (x5_1 : Int) < ((x0_1.length : Int) : Int) := of_decide_eq_true as_; first | exact h_ | (have e_ := (Kd.R_reads' HO_0.o).1; omega) | simpa using h_); obtain rfl := k79_openM hM11; have HP11 := Kd.R_seg HX11.o (x5_1 : Int) (of_decide_eq_true as_) (by have h_ : (x5_1 : Int) < ((x0_1.length : Int) : Int) := of_decide_eq_true as_; first | exact h_ | (have e_ := (Kd.R_reads' HO_0.o).1; omega) | simpa using h_) (seg := [.int .i64 (wrap64 (x1_1 + 1))]) (j := 1) hcl11 hcc11 (show 2 ≤ 3 from by decide) (x' := (⟨(rd_T79 y101 x5_1).f0, wrap64 (x1_1 + 1), (rd_T79 y101 x5_1).f2⟩ : S79)) (k79_mkM _ _ _ (⟨(rd_T79 y101 x5_1).f0, wrap64 (x1_1 + 1), (rd_T79 y101 x5_1).f2⟩ : S79) ) (fun _ hk => hk); have hx11_1 := hcc11 1 _ rfl; (try simp only [show (k79).sz = 3 from rfl, Nat.mul_one, Nat.add_zero] at hx11_1); have hf11_1 := hfr11 1; (try simp only [show (k79).sz = 3 from rfl, Nat.mul_one, Nat.add_zero] at hf11_1); clear hcl11 hcc11 hfr11 hM11) | ((with_reducible refine gate_store (t := 2) (p := 23) rfl ?_); refine store_event (t := 2) (p := 23) (v := ?vo_w12) (w1 := (w10.setCell ⟨go5, (x5_1 : Int).toNat * 3 + 1, none⟩ (.int .i64 (wrap64 (x1_1 + 1))))) ?hg ?ho ?hn ?hr ?_; (case ho => rfl); (case hg => rfl); (case hn => rfl); (case hr => first | (go_simp; done) | (go_simp; rfl)); intro w12 hw; have hg : w10.grownBy w12 (some go5) := (by rw [hw]; exact HP11.2); have hp_ : Kd.R k79 79 w12 w0.heap.size (fun k_ => (P0_ k_ ∨ w.heap.size ≤ k_)) (.slice (some ⟨go5, 0, none⟩) x0_1.length co8) y102 := (by rw [hw, Ny102.o]; exact HP11.1); clear HP11; replace HB := q_ ((by rw [hw]; exact below_set (HB.o) GB5.out : Below w0.heap.size w0 w12)); replace HK := q_ (Kept.of_grown (S := (fun k_ => P0_ k_)) hg (by repeat (first | (with_reducible first | exact HK.o | apply Kept.alloc | apply Kept.drewN | apply Kept.drew) | exact HK.o)) (fun k_ e_ => (HO_0.o.1 k_ e_))); replace HO_0 := q_ (hp_); clear hg hw hp_; have p7 : 0 ≤ (x5_1 : Int) := of_decide_eq_true as_; have q7 : (x5_1 : Int) < ((x0_1.length : Int) : Int) := of_decide_eq_true as_; obtain ⟨ce7, hcl7, hM7, hcc7, hfr7⟩ := Kd.R_elem HO_0.o z79 (x5_1 : Int) p7 q7; obtain rfl := k79_openM hM7; have hx7_0 : w12.cell? ⟨go5, (x5_1 : Int).toNat * 3, none⟩ = some (.int .i64 ((rd_T79 y102 x5_1).f0)) := hcc7 0 _ rfl; have hx7_1 : w12.cell? ⟨go5, (x5_1 : Int).toNat * 3 + 1, none⟩ = some (.int .i64 ((rd_T79 y102 x5_1).f1)) := hcc7 1 _ rfl; have hx7_2 : w12.cell? ⟨go5, (x5_1 : Int).toNat * 3 + 2, none⟩ = some (.int .i64 ((rd_T79 y102 x5_1).f2)) := hcc7 2 _ rfl; have hf7_0 : w12.frozen? ⟨go5, (x5_1 : Int).toNat * 3, none⟩ = false := hfr7 0; have hf7_1 : w12.frozen? ⟨go5, (x5_1 : Int).toNat * 3 + 1, none⟩ = false := hfr7 1; have hf7_2 : w12.frozen? ⟨go5, (x5_1 : Int).toNat * 3 + 2, none⟩ = false := hfr7 2; clear hcl7 hcc7 hfr7 hM7; replace p7 := eq_true p7; replace q7 := eq_true q7; have HX13 := q_ (show Kd.R k79 79 w12 w0.heap.size (fun k_ => (P0_ k_ ∨ w.heap.size ≤ k_)) (.slice (some ⟨go5, 0, none⟩) x0_1.length co8) y102 from (ra_ HO_0.o)); obtain ⟨ce13, hcl13, hM13, hcc13, hfr13⟩ := Kd.R_elem HX13.o z79 (x5_1 : Int) (of_decide_eq_true as_) (by have h_ : (x5_1 : Int) < ((x0_1.length : Int) : Int) := of_decide_eq_true as_; first | exact h_ | (have e_ := (Kd.R_reads' HO_0.o).1; omega) | simpa using h_); obtain rfl := k79_openM hM13; have HP13 := Kd.R_seg HX13.o (x5_1 : Int) (of_decide_eq_true as_) (by have h_ : (x5_1 : Int) < ((x0_1.length : Int) : Int) := of_decide_eq_true as_; first | exact h_ | (have e_ := (Kd.R_reads' HO_0.o).1; omega) | simpa using h_) (seg := [.int .i64 (wrap64 ((wrap64 (x1_1 + 1)) + 1))]) (j := 2) hcl13 hcc13 (show 3 ≤ 3 from by decide) (x' := (⟨(rd_T79 y102 x5_1).f0, (rd_T79 y102 x5_1).f1, wrap64 ((wrap64 (x1_1 + 1)) + 1)⟩ : S79)) (k79_mkM _ _ _ (⟨(rd_T79 y102 x5_1).f0, (rd_T79 y102 x5_1).f1, wrap64 ((wrap64 (x1_1 + 1)) + 1)⟩ : S79) ) (fun _ hk => hk); have hx13_2 := hcc13 2 _ rfl; (try simp only [show (k79).sz = 3 from rfl, Nat.mul_one, Nat.add_zero] at hx13_2); have hf13_2 := hfr13 2; (try simp only [show (k79).sz = 3 from rfl, Nat.mul_one, Nat.add_zero] at hf13_2); clear hcl13 hcc13 hfr13 hM13) | ((with_reducible refine gate_store (t := 2) (p := 30) rfl ?_); refine store_event (t := 2) (p := 30) (v := ?vo_w14) (w1 := (w12.setCell ⟨go5, (x5_1 : Int).toNat * 3 + 2, none⟩ (.int .i64 (wrap64 ((wrap64 (x1_1 + 1)) + 1))))) ?hg ?ho ?hn ?hr ?_; (case ho => rfl); (case hg => rfl); (case hn => rfl); (case hr => first | (go_simp; done) | (go_simp; rfl)); intro w14 hw; have hg : w12.grownBy w14 (some go5) := (by rw [hw]; exact HP13.2); have hp_ : Kd.R k79 79 w14 w0.heap.size (fun k_ => (P0_ k_ ∨ w.heap.size ≤ k_)) (.slice (some ⟨go5, 0, none⟩) x0_1.length co8) y103 := (by rw [hw, Ny103.o]; exact HP13.1); clear HP13; replace HB := q_ ((by rw [hw]; exact below_set (HB.o) GB5.out : Below w0.heap.size w0 w14)); replace HK := q_ (Kept.of_grown (S := (fun k_ => P0_ k_)) hg (by repeat (first | (with_reducible first | exact HK.o | apply Kept.alloc | apply Kept.drewN | apply Kept.drew) | exact HK.o)) (fun k_ e_ => (HO_0.o.1 k_ e_))); replace HO_0 := q_ (hp_); clear hg hw hp_))
     go_roundg k1
     case measure => have := HK1.o; omega
     case rel => exact ⟨(y103), (wrap64 ((wrap64 ((wrap64 (x1_1 + 1)) + 1)) + 1)), (wrap64 (x5_1 + 1)), rs_, rs_, H', ⟨by have := HK1.o; omega⟩, ⟨ra_ HO_0.o⟩, ⟨by repeat (first | (with_reducible first | exact HK.o | apply Kept.alloc | apply Kept.drewN | apply Kept.drew) | exact HK.o)⟩, ⟨be_ HB.o⟩⟩
    ·rw [if_neg c4] at H
     exact absurd H (by simp)
   ·rw [if_neg c3] at H; have c3b0 := df_ c3; clear c3
    simp only [Option.some.injEq, Prod.mk.injEq] at H
    obtain ⟨rfl, rfl⟩ := H; obtain ⟨Ao15, co15, eo15⟩ := Kd.R_slice HO_0.o; subst eo15
    go_wp2
    go_ret
    exact ⟨rt_, ra_ HO_0.o, be_ HB.o, by repeat (first | (with_reducible first | exact HK.o | apply Kept.alloc | apply Kept.drewN | apply Kept.drew) | exact HK.o)⟩
/-! ### laws_heldItemS: function 22 -/
def laws_heldItemS.l0 : Nat → List (S79) → Int → Int → Option (Int)
 | 0, _, _, _ => none
 | k + 1, x0, x1, x5 => if x5 < (x0.length : Int) then (if 0 ≤ x5 then (if ((rd_T79 x0 x5).f0) = x1 then (if ((rd_T79 x0 x5).f1) = (wrap64 (x1 + 1)) then (if ((rd_T79 x0 x5).f2) = (wrap64 ((wrap64 (x1 + 1)) + 1)) then (laws_heldItemS.l0 k x0 (wrap64 ((wrap64 ((wrap64 (x1 + 1)) + 1)) + 1)) (wrap64 (x5 + 1))) else (some (-1))) else (some (-1))) else (some (-1))) else (none)) else (some x1)
def laws_heldItemS.f (k : Nat) (l0 : List (S79)) (a1 : Int) : Option (Int) := laws_heldItemS.l0 k l0 a1 0
theorem laws_heldItemS.calls (k : Nat) (A0 : Option Addr) (c0 : Nat) (l0 : List (S79)) (a1 : Int) (r : Int) (w : World) (hr0 : Kd.C k79 w A0 l0.length l0) (hc0 : l0.length ≤ c0) (h : laws_heldItemS.f k l0 a1 = some r) :
  Calls Tryz.prog 22 #[.slice A0 l0.length c0, .int .i64 a1] w fun e w' => e = .returned (.int .i64 r) ∧ Drawn0 w w' := by
 have HR0 := q_ hr0; have HC0 := q_ hc0; clear hr0 hc0
 have H : (laws_heldItemS.l0 k l0 a1 0) = some r := h
 clear h
 have H' := q_ H
 clear H
 go_enter Tryz.func22, Tryz.ntmps22
 go_wp2
 go_loopg [1, 5] k (fun kq v1 v5 w' => ∃ (x1_1 : Int) (x5_1 : Int), v1 = .int .i64 x1_1 ∧ v5 = .int .i64 x5_1 ∧ J0 (laws_heldItemS.l0 kq l0 x1_1 x5_1 = some r) ∧ J0 (kq ≤ k) ∧ Drawn0 w w')
 case atStart => exact ⟨(a1), (0), rs_, rs_, H', ⟨Nat.le_refl _⟩, by repeat (first | exact Drawn0.refl _ | apply Drawn0.step)⟩
 case round =>
  clear H'
  obtain ⟨x1_1, x5_1, rfl, rfl, HA, HK1, ⟨m1, rfl⟩⟩ := hrel
  cases gk with
  | zero => exact absurd HA.o (by simp [laws_heldItemS.l0])
  | succ k1 =>
   have H := HA.o; clear HA
   simp only [laws_heldItemS.l0] at H
   by_cases c3 : x5_1 < (l0.length : Int)
   ·rw [if_pos c3] at H; have c3b0 := dt_ c3; clear c3
    by_cases c4 : 0 ≤ x5_1
    ·rw [if_pos c4] at H; have c4b0 := dt_ c4; clear c4
     by_cases c5 : ((rd_T79 l0 x5_1).f0) = x1_1
     ·rw [if_pos c5] at H
      have c5b0 : (((rd_T79 l0 x5_1).f0) == x1_1) = true := beq_iff_eq.mpr c5
      have c5b1 : (((rd_T79 l0 x5_1).f0) != x1_1) = false := bne_eq_false_iff_eq.mpr c5
      clear c5
      by_cases c6 : ((rd_T79 l0 x5_1).f1) = (wrap64 (x1_1 + 1))
      ·rw [if_pos c6] at H
       have c6b0 : (((rd_T79 l0 x5_1).f1) == (wrap64 (x1_1 + 1))) = true := beq_iff_eq.mpr c6
       have c6b1 : (((rd_T79 l0 x5_1).f1) != (wrap64 (x1_1 + 1))) = false := bne_eq_false_iff_eq.mpr c6
       clear c6
       by_cases c7 : ((rd_T79 l0 x5_1).f2) = (wrap64 ((wrap64 (x1_1 + 1)) + 1))
       ·rw [if_pos c7] at H
        have c7b0 : (((rd_T79 l0 x5_1).f2) == (wrap64 ((wrap64 (x1_1 + 1)) + 1))) = true := beq_iff_eq.mpr c7
        have c7b1 : (((rd_T79 l0 x5_1).f2) != (wrap64 ((wrap64 (x1_1 + 1)) + 1))) = false := bne_eq_false_iff_eq.mpr c7
        clear c7
        have H' := q_ H
        clear H
        have p101 : 0 ≤ (x5_1 : Int) := of_decide_eq_true as_
        have q101 : x5_1 < (l0.length : Int) := of_decide_eq_true as_
        obtain ⟨ad101, e101, hx101_0, hx101_1, hx101_2⟩ := at_T79 HR0.o x5_1 p101 q101
        cases e101
        replace p101 := eq_true p101; replace q101 := eq_true q101
        go_wp2
        go_roundg k1
        case measure => have := HK1.o; omega
        case rel => exact ⟨(wrap64 ((wrap64 ((wrap64 (x1_1 + 1)) + 1)) + 1)), (wrap64 (x5_1 + 1)), rs_, rs_, H', ⟨by have := HK1.o; omega⟩, by repeat (first | exact Drawn0.refl _ | apply Drawn0.step)⟩
       ·rw [if_neg c7] at H
        have c7b0 : (((rd_T79 l0 x5_1).f2) == (wrap64 ((wrap64 (x1_1 + 1)) + 1))) = false := beq_eq_false_iff_ne.mpr c7
        have c7b1 : (((rd_T79 l0 x5_1).f2) != (wrap64 ((wrap64 (x1_1 + 1)) + 1))) = true := bne_iff_ne.mpr c7
        obtain rfl := Option.some.inj H
        have p101 : 0 ≤ (x5_1 : Int) := of_decide_eq_true as_
        have q101 : x5_1 < (l0.length : Int) := of_decide_eq_true as_
        obtain ⟨ad101, e101, hx101_0, hx101_1, hx101_2⟩ := at_T79 HR0.o x5_1 p101 q101
        cases e101
        replace p101 := eq_true p101; replace q101 := eq_true q101
        go_wp2
        go_ret
        exact ⟨by first | rfl | (simp; done) | (simp [*]; done), by repeat (first | exact Drawn0.refl _ | apply Drawn0.step)⟩
      ·rw [if_neg c6] at H
       have c6b0 : (((rd_T79 l0 x5_1).f1) == (wrap64 (x1_1 + 1))) = false := beq_eq_false_iff_ne.mpr c6
       have c6b1 : (((rd_T79 l0 x5_1).f1) != (wrap64 (x1_1 + 1))) = true := bne_iff_ne.mpr c6
       obtain rfl := Option.some.inj H
       have p101 : 0 ≤ (x5_1 : Int) := of_decide_eq_true as_
       have q101 : x5_1 < (l0.length : Int) := of_decide_eq_true as_
       obtain ⟨ad101, e101, hx101_0, hx101_1, hx101_2⟩ := at_T79 HR0.o x5_1 p101 q101
       cases e101
       replace p101 := eq_true p101; replace q101 := eq_true q101
       go_wp2
       go_ret
       exact ⟨by first | rfl | (simp; done) | (simp [*]; done), by repeat (first | exact Drawn0.refl _ | apply Drawn0.step)⟩
     ·rw [if_neg c5] at H
      have c5b0 : (((rd_T79 l0 x5_1).f0) == x1_1) = false := beq_eq_false_iff_ne.mpr c5
      have c5b1 : (((rd_T79 l0 x5_1).f0) != x1_1) = true := bne_iff_ne.mpr c5
      obtain rfl := Option.some.inj H
      have p101 : 0 ≤ (x5_1 : Int) := of_decide_eq_true as_
      have q101 : x5_1 < (l0.length : Int) := of_decide_eq_true as_
      obtain ⟨ad101, e101, hx101_0, hx101_1, hx101_2⟩ := at_T79 HR0.o x5_1 p101 q101
      cases e101
      replace p101 := eq_true p101; replace q101 := eq_true q101
      go_wp2
      go_ret
      exact ⟨by first | rfl | (simp; done) | (simp [*]; done), by repeat (first | exact Drawn0.refl _ | apply Drawn0.step)⟩
    ·rw [if_neg c4] at H
     exact absurd H (by simp)
   ·rw [if_neg c3] at H; have c3b0 := df_ c3; clear c3; obtain rfl := Option.some.inj H
    go_wp2
    go_ret
    exact ⟨by first | rfl | (simp; done) | (simp [*]; done), by repeat (first | exact Drawn0.refl _ | apply Drawn0.step)⟩
end Go.Proofs.YtijmhelacmjggaaGreat.P
namespace Go.Proofs.YtijmhelacmjggaaGreat.P
open Go.RowKit Go.Proofs.YtijmhelacmjggaaGreatW.PrintWords Go.Proofs.YtijmhelacmjggaaGreatW.PrintLast Go.Proofs.YtijmhelacmjggaaGreatEv
set_option linter.unusedVariables false
set_option linter.unusedSimpArgs false
theorem laws_eqItemS_ev (l : List S79) (hl : l.length ≤ 9223372036854775807) : Ev (fun k => laws_eqItemS.f k l l) true := by
  unfold laws_eqItemS.f
  simp only [ev_ite]
  rw [if_pos trivial]
  refine ev_loop l.length (fun k i => laws_eqItemS.l0 k l l (i : Nat)) (fun _ => true) ?_ ?_ 0 (by omega)
  · rw [ev_succ]
    simp [laws_eqItemS.l0, ev_some]
  · intro i hi ih
    rw [ev_succ]
    simp only [laws_eqItemS.l0, laws_eqItem.f, if_true, Option.bind_some, ev_ite]
    rw [if_pos (by omega), if_pos (by omega), wrap_succ hi (by omega), if_pos (by omega)]
    exact ih
def mkItem (a : Int) (j : Nat) : S79 := ⟨a + 3 * (j : Int), a + 3 * (j : Int) + 1, a + 3 * (j : Int) + 2⟩
theorem rd_T79_set (l : List S79) (i : Nat) (v : S79) (h : i < l.length) : rd_T79 (l.set i v) (i : Int) = v := by
  simp [rd_T79, h]
theorem laws_markItemS_ev (l : List S79) (a : Int) (h0 : 0 ≤ a) (h1 : a + 3 * l.length ≤ 9000000000000000000) : Ev (fun k => laws_markItemS.f k l a) (a + 3 * l.length, (List.range l.length).map (mkItem a)) := by
  unfold laws_markItemS.f
  have h := ev_loop l.length (fun k i => laws_markItemS.l0 k (marked (mkItem a) l i) (a + 3 * (i : Int)) (i : Nat)) (fun _ => (a + 3 * l.length, (List.range l.length).map (mkItem a))) ?_ ?_ 0 (by omega)
  · simpa [marked] using h
  · rw [ev_succ]
    simp [laws_markItemS.l0, ev_some, marked]
  · intro i hi ih
    rw [ev_succ]
    have hl : (marked (mkItem a) l i).length = l.length := marked_length _ _ _ (by omega)
    simp only [laws_markItemS.l0, Option.bind_some, ev_ite, hl, Int.toNat_natCast]
    rw [if_pos (by omega), if_pos (by omega)]
    simp only [rd_T79_set, List.length_set, hl, hi, List.set_set]
    rw [wrap_succ hi (by omega)]
    have e : ∀ x : Int, 0 ≤ x → x ≤ 9000000000000000100 → wrap64 (x + 1) = x + 1 := fun x hx hy => wrap_id (by omega) (by omega)
    rw [e _ (by omega) (by omega)]
    repeat rw [e _ (by omega) (by omega)]
    have hm := marked_set (mkItem a) l i hi
    have ih' : Ev (fun k => laws_markItemS.l0 k (marked (mkItem a) l (i + 1)) (a + 3 * ((i + 1 : Nat) : Int)) ((i + 1 : Nat) : Int)) _ := ih
    rw [← hm, show a + 3 * ((i + 1 : Nat) : Int) = a + 3 * (i : Int) + 3 by omega] at ih'
    simpa [mkItem, Int.add_assoc] using ih'
theorem laws_heldItemS_ev (n : Nat) (a : Int) (h0 : 0 ≤ a) (h1 : a + 3 * n ≤ 9000000000000000000) : Ev (fun k => laws_heldItemS.f k ((List.range n).map (mkItem a)) a) (a + 3 * n) := by
  unfold laws_heldItemS.f
  have h := ev_loop n (fun k i => laws_heldItemS.l0 k ((List.range n).map (mkItem a)) (a + 3 * (i : Int)) (i : Nat)) (fun _ => a + 3 * n) ?_ ?_ 0 (by omega)
  · simpa using h
  · rw [ev_succ]
    simp [laws_heldItemS.l0, ev_some]
  · intro i hi ih
    rw [ev_succ]
    have hr : rd_T79 ((List.range n).map (mkItem a)) (i : Int) = mkItem a i := by simp [rd_T79, hi]
    have e : ∀ x : Int, 0 ≤ x → x ≤ 9000000000000000100 → wrap64 (x + 1) = x + 1 := fun x hx hy => wrap_id (by omega) (by omega)
    simp only [laws_heldItemS.l0, ev_ite, hr, mkItem, List.length_map, List.length_range]
    rw [if_pos (by omega), if_pos (by omega), wrap_succ hi (by omega)]
    repeat rw [e _ (by omega) (by omega)]
    have ih' : Ev (fun k => laws_heldItemS.l0 k ((List.range n).map (mkItem a)) (a + 3 * ((i + 1 : Nat) : Int)) ((i + 1 : Nat) : Int)) _ := ih
    rw [show a + 3 * ((i + 1 : Nat) : Int) = a + 3 * (i : Int) + 3 by omega] at ih'
    simpa [Int.add_assoc] using ih'
end Go.Proofs.YtijmhelacmjggaaGreat.P
namespace Go.Proofs.YtijmhelacmjggaaGreat.P
open Go.RowKit Go.Proofs.YtijmhelacmjggaaGreatW.PrintWords Go.Proofs.YtijmhelacmjggaaGreatW.PrintLast Go.Proofs.YtijmhelacmjggaaGreatW.PrintMore
attribute [local go_sem] max2_int min2_int max_two min_two max_three min_three max_four min_four
set_option linter.unusedVariables false
set_option linter.unusedSimpArgs false
/-! ### laws_szTokenS: function 14 -/
def laws_szTokenS.f (l0 : List (S82)) (a1 : Int) : Option (Int) := if (wrap64 (a1 - (l0.length : Int))) < 0 then (some (-1)) else (some (wrap64 (a1 - (l0.length : Int))))
theorem laws_szTokenS.calls (A0 : Option Addr) (c0 : Nat) (l0 : List (S82)) (a1 : Int) (r : Int) (w : World) (hr0 : Kd.C k82 w A0 l0.length l0) (hc0 : l0.length ≤ c0) (h : laws_szTokenS.f l0 a1 = some r) :
  Calls Tryz.prog 14 #[.slice A0 l0.length c0, .int .i64 a1] w fun e w' => e = .returned (.int .i64 r) ∧ Drawn0 w w' := by
 have HR0 := q_ hr0; have HC0 := q_ hc0; clear hr0 hc0
 have H : (if (wrap64 (a1 - (l0.length : Int))) < 0 then (some (-1)) else (some (wrap64 (a1 - (l0.length : Int))))) = some r := h
 clear h
 by_cases c3 : (wrap64 (a1 - (l0.length : Int))) < 0
 ·rw [if_pos c3] at H; have c3b0 := dt_ c3; clear c3; obtain rfl := Option.some.inj H
  go_enter Tryz.func14, Tryz.ntmps14
  go_wp2
  go_ret
  exact ⟨by first | rfl | (simp; done) | (simp [*]; done), by repeat (first | exact Drawn0.refl _ | apply Drawn0.step)⟩
 ·rw [if_neg c3] at H; have c3b0 := df_ c3; clear c3; obtain rfl := Option.some.inj H
  go_enter Tryz.func14, Tryz.ntmps14
  go_wp2
  go_ret
  exact ⟨by first | rfl | (simp; done) | (simp [*]; done), by repeat (first | exact Drawn0.refl _ | apply Drawn0.step)⟩
/-! ### laws_toToken: function 41 -/
def laws_toToken.f (a0_0 : Int) (a0_1 : Int) (a0_2 : Int) (a0_3 : Int) (a0_4 : Int) (a0_5 : Int) : Option (Int × Int × Int × Int × Int × Int) := some (a0_0, a0_1, a0_2, a0_3, a0_4, a0_5)
theorem laws_toToken.calls (a0_0 : Int) (a0_1 : Int) (a0_2 : Int) (a0_3 : Int) (a0_4 : Int) (a0_5 : Int) (r1 : Int) (r2 : Int) (r3 : Int) (r4 : Int) (r5 : Int) (r6 : Int) (w : World) (h : laws_toToken.f a0_0 a0_1 a0_2 a0_3 a0_4 a0_5 = some (r1, r2, r3, r4, r5, r6)) :
  Calls Tryz.prog 41 #[.agg #[.int .i64 a0_0, .int .i64 a0_1, .int .i64 a0_2, .int .i64 a0_3, .int .i64 a0_4, .int .i64 a0_5]] w fun e w' => e = .returned (.agg #[.int .i64 r1, .int .i64 r2, .int .i64 r3, .int .i64 r4, .int .i64 r5, .int .i64 r6]) ∧ Below w.heap.size w w' := by
 have hu82 := Tryz.underlying82; have hu76 := Tryz.underlying76; have HB := q_ (Below.refl w.heap.size w)
 have H : (some (a0_0, a0_1, a0_2, a0_3, a0_4, a0_5)) = some (r1, r2, r3, r4, r5, r6) := h
 clear h
 simp only [Option.some.injEq, Prod.mk.injEq] at H
 obtain ⟨rfl, rfl, rfl, rfl, rfl, rfl⟩ := H
 go_enter Tryz.func41, Tryz.ntmps41
 go_wp2_with (first | ((with_reducible refine gate_dst (N := 1) rfl ?_); refine bx_ 1 #[.int .i64 a0_0, .int .i64 a0_1, .int .i64 a0_2, .int .i64 a0_3, .int .i64 a0_4, .int .i64 a0_5] 82 ?_; intro gb101 hg w2 hbox hb; have BK101 := q_ (hbox); have GE101 := ge_ hg HB; replace HB := sb_ HB hb; clear hb hbox hg) | ((with_reducible refine gate_dst (N := 2) rfl ?_); refine bx_ 2 #[.int .i64 0, .int .i64 0, .int .i64 0, .int .i64 0, .int .i64 0, .int .i64 0] 76 ?_; intro gb102 hg w3 hbox hb; have BK102 := q_ (hbox); have GE102 := ge1_ hg HB GE101; have NB101_102 := nl_ hg BK101; have NB102_101 := ng_ hg BK101; replace BK101 := lb_ BK101 hb; replace HB := sb1_ HB GE101 hb; clear hb hbox hg) | ((with_reducible refine gate_dst (N := 3) rfl ?_); refine bx_ 3 #[.int .i64 0, .int .i64 0, .int .i64 0, .int .i64 0, .int .i64 0, .int .i64 0] 76 ?_; intro gb103 hg w4 hbox hb; have BK103 := q_ (hbox); have GE103 := ge2_ hg HB GE101 GE102; have NB101_103 := nl_ hg BK101; have NB103_101 := ng_ hg BK101; have NB102_103 := nl_ hg BK102; have NB103_102 := ng_ hg BK102; replace BK101 := lb_ BK101 hb; replace BK102 := lb_ BK102 hb; replace HB := sb2_ HB GE101 GE102 hb; clear hb hbox hg; have hnb5 := NB101_102.o; have hnc5 := NB102_101.o; have hnb6 := NB101_103.o; have hnc6 := NB103_101.o; obtain ⟨hcz7_0, hcz7_1, hcz7_2, hcz7_3, hcz7_4, hcz7_5, hfz7_0, hfz7_1, hfz7_2, hfz7_3, hfz7_4, hfz7_5⟩ := d6_ BK101; have hnb8 := NB103_102.o; have hnc8 := NB102_103.o; obtain ⟨hcz9_0, hcz9_1, hcz9_2, hcz9_3, hcz9_4, hcz9_5, hfz9_0, hfz9_1, hfz9_2, hfz9_3, hfz9_4, hfz9_5⟩ := d6_ BK103; obtain ⟨hcz10_0, hcz10_1, hcz10_2, hcz10_3, hcz10_4, hcz10_5, hfz10_0, hfz10_1, hfz10_2, hfz10_3, hfz10_4, hfz10_5⟩ := d6_ BK102))
 refine bodyPost_ret (results_cell_row rfl _ _ gb102 76 #[.int .i64 a0_0, .int .i64 a0_1, .int .i64 a0_2, .int .i64 a0_3, .int .i64 a0_4, .int .i64 a0_5] (0, 0) _ rfl (by (with_reducible repeat (first | refine blk_drewN ?_ _ | refine blk_drew ?_ | refine blk_alloc ?_ _)); refine blk_put (cs := #[.int .i64 a0_0, .int .i64 a0_1, .int .i64 a0_2, .int .i64 a0_3, .int .i64 a0_4, .int .i64 0]) ?_ 5 _ rfl; (with_reducible repeat (first | refine blk_drewN ?_ _ | refine blk_drew ?_ | refine blk_alloc ?_ _)); refine blk_put (cs := #[.int .i64 a0_0, .int .i64 a0_1, .int .i64 a0_2, .int .i64 a0_3, .int .i64 0, .int .i64 0]) ?_ 4 _ rfl; (with_reducible repeat (first | refine blk_drewN ?_ _ | refine blk_drew ?_ | refine blk_alloc ?_ _)); refine blk_put (cs := #[.int .i64 a0_0, .int .i64 a0_1, .int .i64 a0_2, .int .i64 0, .int .i64 0, .int .i64 0]) ?_ 3 _ rfl; (with_reducible repeat (first | refine blk_drewN ?_ _ | refine blk_drew ?_ | refine blk_alloc ?_ _)); refine blk_put (cs := #[.int .i64 a0_0, .int .i64 a0_1, .int .i64 0, .int .i64 0, .int .i64 0, .int .i64 0]) ?_ 2 _ rfl; (with_reducible repeat (first | refine blk_drewN ?_ _ | refine blk_drew ?_ | refine blk_alloc ?_ _)); refine blk_put (cs := #[.int .i64 a0_0, .int .i64 0, .int .i64 0, .int .i64 0, .int .i64 0, .int .i64 0]) ?_ 1 _ rfl; (with_reducible repeat (first | refine blk_drewN ?_ _ | refine blk_drew ?_ | refine blk_alloc ?_ _)); refine blk_put (cs := #[.int .i64 0, .int .i64 0, .int .i64 0, .int .i64 0, .int .i64 0, .int .i64 0]) ?_ 0 _ rfl; (with_reducible repeat (first | refine blk_drewN ?_ _ | refine blk_drew ?_ | refine blk_alloc ?_ _)); refine blk_far ?_ NB102_103.o _; (with_reducible repeat (first | refine blk_drewN ?_ _ | refine blk_drew ?_ | refine blk_alloc ?_ _)); refine blk_far ?_ NB102_103.o _; (with_reducible repeat (first | refine blk_drewN ?_ _ | refine blk_drew ?_ | refine blk_alloc ?_ _)); refine blk_far ?_ NB102_103.o _; (with_reducible repeat (first | refine blk_drewN ?_ _ | refine blk_drew ?_ | refine blk_alloc ?_ _)); refine blk_far ?_ NB102_103.o _; (with_reducible repeat (first | refine blk_drewN ?_ _ | refine blk_drew ?_ | refine blk_alloc ?_ _)); refine blk_far ?_ NB102_103.o _; (with_reducible repeat (first | refine blk_drewN ?_ _ | refine blk_drew ?_ | refine blk_alloc ?_ _)); refine blk_far ?_ NB102_103.o _; (with_reducible repeat (first | refine blk_drewN ?_ _ | refine blk_drew ?_ | refine blk_alloc ?_ _)); exact BK102.o) Tryz.underlying76 rfl (by kernel_rfl)) rfl ?_
 exact ⟨rt_, be3_ HB.o GE101.o GE102.o GE103.o⟩
/-! ### laws_toTokenS: function 16 -/
def laws_toTokenS.l0 : Nat → List (S82) → List (S76) → Int → Option ((List (S76)))
 | 0, _, _, _ => none
 | k + 1, x0, x3, x4 => if x4 < (x0.length : Int) then (if 0 ≤ x4 then ((laws_toToken.f ((rd_T82 x0 x4).f0) ((rd_T82 x0 x4).f1) ((rd_T82 x0 x4).f2) ((rd_T82 x0 x4).f3) ((rd_T82 x0 x4).f4) ((rd_T82 x0 x4).f5)).bind fun bt105 => (if x4 < (x3.length : Int) then (laws_toTokenS.l0 k x0 (x3.set (x4 : Int).toNat (⟨bt105.1, bt105.2.1, bt105.2.2.1, bt105.2.2.2.1, bt105.2.2.2.2.1, bt105.2.2.2.2.2⟩ : S76)) (wrap64 (x4 + 1))) else (none))) else (none)) else (some x3)
def laws_toTokenS.f (k : Nat) (l0 : List (S82)) : Option ((List (S76))) := if 0 ≤ (l0.length : Int) then (if ((l0.length : Int) : Int).toNat ≤ 5864062014805 then (laws_toTokenS.l0 k l0 (List.replicate ((l0.length : Int) : Int).toNat z76) 0) else (none)) else (none)
theorem laws_toTokenS.calls (k : Nat) (A0 : Option Addr) (c0 : Nat) (l0 : List (S82)) (r : List (S76)) (w : World) (hr0 : Kd.C k82 w A0 l0.length l0) (hc0 : l0.length ≤ c0) (h : laws_toTokenS.f k l0 = some r) :
  Calls Tryz.prog 16 #[.slice A0 l0.length c0] w fun e w' => ∃ v0_ : Value, e = .returned (v0_) ∧ Kd.R k76 76 w' w.heap.size (fun _ => True) v0_ r ∧ Below w.heap.size w w' := by
 have hu82 := Tryz.underlying82; have hu76 := Tryz.underlying76; have HR0 := q_ hr0; have HC0 := q_ hc0; clear hr0 hc0; have HB := q_ (Below.refl w.heap.size w)
 have H : (if 0 ≤ (l0.length : Int) then (if ((l0.length : Int) : Int).toNat ≤ 5864062014805 then (laws_toTokenS.l0 k l0 (List.replicate ((l0.length : Int) : Int).toNat z76) 0) else (none)) else (none)) = some r := h
 clear h
 by_cases c2 : 0 ≤ (l0.length : Int)
 ·rw [if_pos c2] at H; have c2b0 := eq_true c2; have c2b1 := dt_ c2; clear c2
  by_cases c3 : ((l0.length : Int) : Int).toNat ≤ 5864062014805
  ·rw [if_pos c3] at H; have c3b0 := eq_true c3; have c3b1 := dt_ c3; clear c3
   obtain ⟨y101, hy101⟩ : ∃ y_ : List (S76), y_ = (List.replicate ((l0.length : Int) : Int).toNat z76) := ⟨_, rfl⟩
   replace H : (laws_toTokenS.l0 k l0 y101 0) = some r := by first | (rw [hy101]; with_reducible exact H) | (have H2_ := (Option.bind_some _ _).symm.trans H; rw [hy101]; with_reducible exact H2_) | (have H2_ := (Option.bind_some _ _).symm.trans H; with_reducible exact H2_) | with_reducible exact H | (rw [hy101]; exact H) | exact H
   have Ny101 := q_ hy101; clear hy101
   have H' := q_ H
   clear H
   go_enter Tryz.func16, Tryz.ntmps16
   go_wp2_with (((with_reducible refine gate_dst (N := 7) rfl ?_); refine Kd.R_make k76 _ 76 rfl (N := 7) rfl 43 _ _ rfl (l0.length : Int) rfl rfl Tryz.underlying43 (.agg #[(.int .i64 0), (.int .i64 0), (.int .i64 0), (.int .i64 0), (.int .i64 0), (.int .i64 0)]) 48 info76 rfl (by decide) (by omega) z76 (ok := fun _ => True) (okp := fun _ => True) (k76_mkM _ _ _ z76 ) (fun _ hk => hk) trivial (of_decide_eq_true as_) (Nat.le_trans (Nat.mul_le_mul_right _ (of_decide_eq_true as_ : (l0.length : Int).toNat ≤ 5864062014805)) (by omega)) (Below.refl _ _) (Nat.le_refl _) ?_; intro v102 w4 ho5 hb hg_ hnew_; clear hg_ hnew_; (first | rw [← Ny101.o] at ho5 | (simp only [Int.reduceToNat] at ho5; rw [← Ny101.o] at ho5)); have HO103 := q_ (Kd.R_lower ho5 (below_size (be_ HB.o))); replace HB := sb_ HB hb; clear hb ho5))
   go_loopg [4] k (fun kq v4 w' => ∃ (x3_1 : List (S76)) (x4_1 : Int), v4 = .int .i64 x4_1 ∧ J0 (laws_toTokenS.l0 kq l0 x3_1 x4_1 = some r) ∧ J0 (kq ≤ k) ∧ J0 (Kd.R k76 76 w' w.heap.size (fun _ => True) v102 x3_1) ∧ J0 (Below w.heap.size w w'))
   case atStart => exact ⟨(y101), (0), rs_, H', ⟨Nat.le_refl _⟩, ⟨ra_ HO103.o⟩, ⟨be_ HB.o⟩⟩
   case round =>
    clear H'; (try clear c2); (try clear c2b0); (try clear c2b1); (try clear c3); (try clear c3b0); (try clear c3b1); obtain ⟨x3_1, x4_1, rfl, HA, HK1, HO_3, HB⟩ := hrel
    cases gk with
    | zero => exact absurd HA.o (by simp [laws_toTokenS.l0])
    | succ k1 =>
     have H := HA.o; clear HA
     simp only [laws_toTokenS.l0] at H
     by_cases c6 : x4_1 < (l0.length : Int)
     ·rw [if_pos c6] at H; have c6b0 := dt_ c6; clear c6
      by_cases c7 : 0 ≤ x4_1
      ·rw [if_pos c7] at H; have c7b0 := dt_ c7; clear c7; replace H := Option.bind_eq_some_iff.mp H
       obtain ⟨⟨t105, t106, t107, t108, t109, t110⟩, A80, H⟩ := H
       replace H : (if x4_1 < (x3_1.length : Int) then (laws_toTokenS.l0 k1 l0 (x3_1.set (x4_1 : Int).toNat (⟨t105, t106, t107, t108, t109, t110⟩ : S76)) (wrap64 (x4_1 + 1))) else (none)) = some r := H
       have A8 := q_ A80; clear A80
       by_cases c9 : x4_1 < (x3_1.length : Int)
       ·rw [if_pos c9] at H; have c9b0 := dt_ c9; clear c9
        obtain ⟨y111, hy111⟩ : ∃ y_ : List (S76), y_ = (x3_1.set (x4_1 : Int).toNat (⟨t105, t106, t107, t108, t109, t110⟩ : S76)) := ⟨_, rfl⟩
        replace H : (laws_toTokenS.l0 k1 l0 y111 (wrap64 (x4_1 + 1))) = some r := by first | (rw [hy111]; with_reducible exact H) | (have H2_ := (Option.bind_some _ _).symm.trans H; rw [hy111]; with_reducible exact H2_) | (have H2_ := (Option.bind_some _ _).symm.trans H; with_reducible exact H2_) | with_reducible exact H | (rw [hy111]; exact H) | exact H
        have Ny111 := q_ hy111; clear hy111
        have H' := q_ H
        clear H
        have p104 : 0 ≤ (x4_1 : Int) := of_decide_eq_true as_
        have q104 : x4_1 < (l0.length : Int) := of_decide_eq_true as_
        obtain ⟨ad104, e104, hx104_0, hx104_1, hx104_2, hx104_3, hx104_4, hx104_5⟩ := at_T82 HR0.o x4_1 p104 q104
        cases e104
        replace hx104_0 := mv_ HB.o hx104_0; replace hx104_1 := mv_ HB.o hx104_1; replace hx104_2 := mv_ HB.o hx104_2; replace hx104_3 := mv_ HB.o hx104_3; replace hx104_4 := mv_ HB.o hx104_4; replace hx104_5 := mv_ HB.o hx104_5; replace p104 := eq_true p104; replace q104 := eq_true q104
        go_wp2_with (first | ((with_reducible refine gate_callee (f := 41) rfl ?_); refine gl_ (some 20) rfl rfl Tryz.func41 #[.agg #[.int .i64 ((rd_T82 l0 x4_1).f0), .int .i64 ((rd_T82 l0 x4_1).f1), .int .i64 ((rd_T82 l0 x4_1).f2), .int .i64 ((rd_T82 l0 x4_1).f3), .int .i64 ((rd_T82 l0 x4_1).f4), .int .i64 ((rd_T82 l0 x4_1).f5)]] ?_; (with_reducible refine (laws_toToken.calls ((rd_T82 l0 x4_1).f0) ((rd_T82 l0 x4_1).f1) ((rd_T82 l0 x4_1).f2) ((rd_T82 l0 x4_1).f3) ((rd_T82 l0 x4_1).f4) ((rd_T82 l0 x4_1).f5) t105 t106 t107 t108 t109 t110 _ A8.o).mono ?_); rintro e w11 ⟨rfl, hb⟩; refine ⟨_, rfl, ?_⟩; replace HO_3 := q_ (Kd.R_below (ra_ HO_3.o) hb); replace HB := sb_ HB hb; (try clear hb); have p10 : 0 ≤ (x4_1 : Int) := of_decide_eq_true as_; have q10 : (x4_1 : Int) < ((x3_1.length : Int) : Int) := of_decide_eq_true as_; obtain ⟨go10, co10, eo10, gb10, gl10, cl10, HG10⟩ := Kd.R_form HO_3.o (by omega); (first | cases eo10 | (injection eo10 with ea_ en_ ec_; (first | subst ea_ | (injection ea_ with ea_; subst ea_)); subst ec_; clear en_)); have GB10 := q_ gb10; have GG10 := q_ HG10; clear gb10 gl10 HG10; obtain ⟨ce10, hcl10, hM10, hcc10, hfr10⟩ := Kd.R_elem HO_3.o z76 (x4_1 : Int) p10 q10; obtain rfl := k76_openM hM10; have hx10_0 : w11.cell? ⟨go10, (x4_1 : Int).toNat * 6, none⟩ = some (.int .i64 ((rd_T76 x3_1 x4_1).f0)) := hcc10 0 _ rfl; have hx10_1 : w11.cell? ⟨go10, (x4_1 : Int).toNat * 6 + 1, none⟩ = some (.int .i64 ((rd_T76 x3_1 x4_1).f1)) := hcc10 1 _ rfl; have hx10_2 : w11.cell? ⟨go10, (x4_1 : Int).toNat * 6 + 2, none⟩ = some (.int .i64 ((rd_T76 x3_1 x4_1).f2)) := hcc10 2 _ rfl; have hx10_3 : w11.cell? ⟨go10, (x4_1 : Int).toNat * 6 + 3, none⟩ = some (.int .i64 ((rd_T76 x3_1 x4_1).f3)) := hcc10 3 _ rfl; have hx10_4 : w11.cell? ⟨go10, (x4_1 : Int).toNat * 6 + 4, none⟩ = some (.int .i64 ((rd_T76 x3_1 x4_1).f4)) := hcc10 4 _ rfl; have hx10_5 : w11.cell? ⟨go10, (x4_1 : Int).toNat * 6 + 5, none⟩ = some (.int .i64 ((rd_T76 x3_1 x4_1).f5)) := hcc10 5 _ rfl; have hf10_0 : w11.frozen? ⟨go10, (x4_1 : Int).toNat * 6, none⟩ = false := hfr10 0; have hf10_1 : w11.frozen? ⟨go10, (x4_1 : Int).toNat * 6 + 1, none⟩ = false := hfr10 1; have hf10_2 : w11.frozen? ⟨go10, (x4_1 : Int).toNat * 6 + 2, none⟩ = false := hfr10 2; have hf10_3 : w11.frozen? ⟨go10, (x4_1 : Int).toNat * 6 + 3, none⟩ = false := hfr10 3; have hf10_4 : w11.frozen? ⟨go10, (x4_1 : Int).toNat * 6 + 4, none⟩ = false := hfr10 4; have hf10_5 : w11.frozen? ⟨go10, (x4_1 : Int).toNat * 6 + 5, none⟩ = false := hfr10 5; clear hcl10 hcc10 hfr10 hM10; replace p10 := eq_true p10; replace q10 := eq_true q10; have HX12 := q_ (show Kd.R k76 76 w11 w.heap.size (fun _ => True) (.slice (some ⟨go10, 0, none⟩) x3_1.length co10) x3_1 from (ra_ HO_3.o)); obtain ⟨ce12, hcl12, hM12, hcc12, hfr12⟩ := Kd.R_elem HX12.o z76 (x4_1 : Int) (of_decide_eq_true as_) (by have h_ : (x4_1 : Int) < ((x3_1.length : Int) : Int) := of_decide_eq_true as_; first | exact h_ | (have e_ := (Kd.R_reads' HO_3.o).1; omega) | simpa using h_); obtain rfl := k76_openM hM12; have HP12 := Kd.R_seg HX12.o (x4_1 : Int) (of_decide_eq_true as_) (by have h_ : (x4_1 : Int) < ((x3_1.length : Int) : Int) := of_decide_eq_true as_; first | exact h_ | (have e_ := (Kd.R_reads' HO_3.o).1; omega) | simpa using h_) (seg := [.int .i64 t105, .int .i64 t106, .int .i64 t107, .int .i64 t108, .int .i64 t109, .int .i64 t110]) (j := 0) hcl12 hcc12 (show 6 ≤ 6 from by decide) (x' := (⟨t105, t106, t107, t108, t109, t110⟩ : S76)) (k76_mkM _ _ _ (⟨t105, t106, t107, t108, t109, t110⟩ : S76) ) (fun _ hk => hk); have hx12_0 := hcc12 0 _ rfl; (try simp only [show (k76).sz = 6 from rfl, Nat.mul_one, Nat.add_zero] at hx12_0); have hf12_0 := hfr12 0; (try simp only [show (k76).sz = 6 from rfl, Nat.mul_one, Nat.add_zero] at hf12_0); have hx12_1 := hcc12 1 _ rfl; (try simp only [show (k76).sz = 6 from rfl, Nat.mul_one, Nat.add_zero] at hx12_1); have hf12_1 := hfr12 1; (try simp only [show (k76).sz = 6 from rfl, Nat.mul_one, Nat.add_zero] at hf12_1); have hx12_2 := hcc12 2 _ rfl; (try simp only [show (k76).sz = 6 from rfl, Nat.mul_one, Nat.add_zero] at hx12_2); have hf12_2 := hfr12 2; (try simp only [show (k76).sz = 6 from rfl, Nat.mul_one, Nat.add_zero] at hf12_2); have hx12_3 := hcc12 3 _ rfl; (try simp only [show (k76).sz = 6 from rfl, Nat.mul_one, Nat.add_zero] at hx12_3); have hf12_3 := hfr12 3; (try simp only [show (k76).sz = 6 from rfl, Nat.mul_one, Nat.add_zero] at hf12_3); have hx12_4 := hcc12 4 _ rfl; (try simp only [show (k76).sz = 6 from rfl, Nat.mul_one, Nat.add_zero] at hx12_4); have hf12_4 := hfr12 4; (try simp only [show (k76).sz = 6 from rfl, Nat.mul_one, Nat.add_zero] at hf12_4); have hx12_5 := hcc12 5 _ rfl; (try simp only [show (k76).sz = 6 from rfl, Nat.mul_one, Nat.add_zero] at hx12_5); have hf12_5 := hfr12 5; (try simp only [show (k76).sz = 6 from rfl, Nat.mul_one, Nat.add_zero] at hf12_5); clear hcl12 hcc12 hfr12 hM12) | ((with_reducible refine gate_store (t := 76) (p := 21) rfl ?_); refine store_event (t := 76) (p := 21) (v := ?vo_w13) (w1 := ((((((w11.setCell ⟨go10, (x4_1 : Int).toNat * 6, none⟩ (.int .i64 t105)).setCell ⟨go10, (x4_1 : Int).toNat * 6 + 1, none⟩ (.int .i64 t106)).setCell ⟨go10, (x4_1 : Int).toNat * 6 + 2, none⟩ (.int .i64 t107)).setCell ⟨go10, (x4_1 : Int).toNat * 6 + 3, none⟩ (.int .i64 t108)).setCell ⟨go10, (x4_1 : Int).toNat * 6 + 4, none⟩ (.int .i64 t109)).setCell ⟨go10, (x4_1 : Int).toNat * 6 + 5, none⟩ (.int .i64 t110))) ?hg ?ho ?hn ?hr ?_; (case ho => rfl); (case hg => rfl); (case hn => rfl); (case hr => first | (go_simp; done) | (go_simp; rfl)); intro w13 hw; have hg : w11.grownBy w13 (some go10) := (by rw [hw]; exact HP12.2); have hp_ : Kd.R k76 76 w13 w.heap.size (fun _ => True) (.slice (some ⟨go10, 0, none⟩) x3_1.length co10) y111 := (by rw [hw, Ny111.o]; exact HP12.1); clear HP12; replace HO_3 := q_ (hp_); replace HB := q_ ((by rw [hw]; exact below_set (below_set (below_set (below_set (below_set (below_set (HB.o) GB10.o) GB10.o) GB10.o) GB10.o) GB10.o) GB10.out : Below w.heap.size w w13)); clear hg hw hp_))
        go_roundg k1
        case measure => have := HK1.o; omega
        case rel => exact ⟨(y111), (wrap64 (x4_1 + 1)), rs_, H', ⟨by have := HK1.o; omega⟩, ⟨ra_ HO_3.o⟩, ⟨be_ HB.o⟩⟩
       ·rw [if_neg c9] at H
        exact absurd H (by simp)
      ·rw [if_neg c7] at H
       exact absurd H (by simp)
     ·rw [if_neg c6] at H; have c6b0 := df_ c6; clear c6; obtain rfl := Option.some.inj H
      go_wp2
      go_ret
      exact ⟨_, rt_, ra_ HO_3.o, be_ HB.o⟩
  ·rw [if_neg c3] at H
   exact absurd H (by simp)
 ·rw [if_neg c2] at H
  exact absurd H (by simp)
/-! ### laws_eqToken: function 49 -/
def laws_eqToken.f (a0_0 : Int) (a0_1 : Int) (a0_2 : Int) (a0_3 : Int) (a0_4 : Int) (a0_5 : Int) (a1_0 : Int) (a1_1 : Int) (a1_2 : Int) (a1_3 : Int) (a1_4 : Int) (a1_5 : Int) : Option (Bool) := if a0_0 = a1_0 then (if a0_1 = a1_1 then (if a0_2 = a1_2 then (if a0_3 = a1_3 then (if a0_4 = a1_4 then (if a0_5 = a1_5 then (some true) else (none)) else (none)) else (none)) else (none)) else (none)) else (none)
theorem laws_eqToken.calls (a0_0 : Int) (a0_1 : Int) (a0_2 : Int) (a0_3 : Int) (a0_4 : Int) (a0_5 : Int) (a1_0 : Int) (a1_1 : Int) (a1_2 : Int) (a1_3 : Int) (a1_4 : Int) (a1_5 : Int) (r : Bool) (w : World) (h : laws_eqToken.f a0_0 a0_1 a0_2 a0_3 a0_4 a0_5 a1_0 a1_1 a1_2 a1_3 a1_4 a1_5 = some r) :
  Calls Tryz.prog 49 #[.agg #[.int .i64 a0_0, .int .i64 a0_1, .int .i64 a0_2, .int .i64 a0_3, .int .i64 a0_4, .int .i64 a0_5], .agg #[.int .i64 a1_0, .int .i64 a1_1, .int .i64 a1_2, .int .i64 a1_3, .int .i64 a1_4, .int .i64 a1_5]] w fun e w' => e = .returned (.bool r) ∧ Below w.heap.size w w' := by
 have hu76 := Tryz.underlying76; have HB := q_ (Below.refl w.heap.size w)
 have H : (if a0_0 = a1_0 then (if a0_1 = a1_1 then (if a0_2 = a1_2 then (if a0_3 = a1_3 then (if a0_4 = a1_4 then (if a0_5 = a1_5 then (some true) else (none)) else (none)) else (none)) else (none)) else (none)) else (none)) = some r := h
 clear h
 by_cases c3 : a0_0 = a1_0
 ·rw [if_pos c3] at H
  have c3b0 : (a0_0 == a1_0) = true := beq_iff_eq.mpr c3
  have c3b1 : (a0_0 != a1_0) = false := bne_eq_false_iff_eq.mpr c3
  clear c3
  by_cases c4 : a0_1 = a1_1
  ·rw [if_pos c4] at H
   have c4b0 : (a0_1 == a1_1) = true := beq_iff_eq.mpr c4
   have c4b1 : (a0_1 != a1_1) = false := bne_eq_false_iff_eq.mpr c4
   clear c4
   by_cases c5 : a0_2 = a1_2
   ·rw [if_pos c5] at H
    have c5b0 : (a0_2 == a1_2) = true := beq_iff_eq.mpr c5
    have c5b1 : (a0_2 != a1_2) = false := bne_eq_false_iff_eq.mpr c5
    clear c5
    by_cases c6 : a0_3 = a1_3
    ·rw [if_pos c6] at H
     have c6b0 : (a0_3 == a1_3) = true := beq_iff_eq.mpr c6
     have c6b1 : (a0_3 != a1_3) = false := bne_eq_false_iff_eq.mpr c6
     clear c6
     by_cases c7 : a0_4 = a1_4
     ·rw [if_pos c7] at H
      have c7b0 : (a0_4 == a1_4) = true := beq_iff_eq.mpr c7
      have c7b1 : (a0_4 != a1_4) = false := bne_eq_false_iff_eq.mpr c7
      clear c7
      by_cases c8 : a0_5 = a1_5
      ·rw [if_pos c8] at H
       have c8b0 : (a0_5 == a1_5) = true := beq_iff_eq.mpr c8
       have c8b1 : (a0_5 != a1_5) = false := bne_eq_false_iff_eq.mpr c8
       clear c8; obtain rfl := Option.some.inj H
       go_enter Tryz.func49, Tryz.ntmps49
       go_wp2_with (first | ((with_reducible refine gate_dst (N := 2) rfl ?_); refine bx_ 2 #[.int .i64 a0_0, .int .i64 a0_1, .int .i64 a0_2, .int .i64 a0_3, .int .i64 a0_4, .int .i64 a0_5] 76 ?_; intro gb101 hg w9 hbox hb; have BK101 := q_ (hbox); have GE101 := ge_ hg HB; replace HB := sb_ HB hb; clear hb hbox hg) | ((with_reducible refine gate_dst (N := 3) rfl ?_); refine bx_ 3 #[.int .i64 a1_0, .int .i64 a1_1, .int .i64 a1_2, .int .i64 a1_3, .int .i64 a1_4, .int .i64 a1_5] 76 ?_; intro gb102 hg w10 hbox hb; have BK102 := q_ (hbox); have GE102 := ge1_ hg HB GE101; have NB101_102 := nl_ hg BK101; have NB102_101 := ng_ hg BK101; replace BK101 := lb_ BK101 hb; replace HB := sb1_ HB GE101 hb; clear hb hbox hg; have hnb11 := NB101_102.o; have hnc11 := NB102_101.o; obtain ⟨hcz12_0, hcz12_1, hcz12_2, hcz12_3, hcz12_4, hcz12_5, hfz12_0, hfz12_1, hfz12_2, hfz12_3, hfz12_4, hfz12_5⟩ := d6_ BK101; obtain ⟨hcz13_0, hcz13_1, hcz13_2, hcz13_3, hcz13_4, hcz13_5, hfz13_0, hfz13_1, hfz13_2, hfz13_3, hfz13_4, hfz13_5⟩ := d6_ BK102))
       go_ret
       exact ⟨rt_, be2_ HB.o GE101.o GE102.o⟩
      ·rw [if_neg c8] at H
       have c8b0 : (a0_5 == a1_5) = false := beq_eq_false_iff_ne.mpr c8
       have c8b1 : (a0_5 != a1_5) = true := bne_iff_ne.mpr c8
       exact absurd H (by simp)
     ·rw [if_neg c7] at H
      have c7b0 : (a0_4 == a1_4) = false := beq_eq_false_iff_ne.mpr c7
      have c7b1 : (a0_4 != a1_4) = true := bne_iff_ne.mpr c7
      exact absurd H (by simp)
    ·rw [if_neg c6] at H
     have c6b0 : (a0_3 == a1_3) = false := beq_eq_false_iff_ne.mpr c6
     have c6b1 : (a0_3 != a1_3) = true := bne_iff_ne.mpr c6
     exact absurd H (by simp)
   ·rw [if_neg c5] at H
    have c5b0 : (a0_2 == a1_2) = false := beq_eq_false_iff_ne.mpr c5
    have c5b1 : (a0_2 != a1_2) = true := bne_iff_ne.mpr c5
    exact absurd H (by simp)
  ·rw [if_neg c4] at H
   have c4b0 : (a0_1 == a1_1) = false := beq_eq_false_iff_ne.mpr c4
   have c4b1 : (a0_1 != a1_1) = true := bne_iff_ne.mpr c4
   exact absurd H (by simp)
 ·rw [if_neg c3] at H
  have c3b0 : (a0_0 == a1_0) = false := beq_eq_false_iff_ne.mpr c3
  have c3b1 : (a0_0 != a1_0) = true := bne_iff_ne.mpr c3
  exact absurd H (by simp)
/-! ### laws_eqTokenS: function 19 -/
def laws_eqTokenS.l0 : Nat → List (S76) → List (S76) → Int → Option (Bool)
 | 0, _, _, _ => none
 | k + 1, x0, x1, x5 => if x5 < (x0.length : Int) then (if 0 ≤ x5 then (if x5 < (x1.length : Int) then ((laws_eqToken.f ((rd_T76 x0 x5).f0) ((rd_T76 x0 x5).f1) ((rd_T76 x0 x5).f2) ((rd_T76 x0 x5).f3) ((rd_T76 x0 x5).f4) ((rd_T76 x0 x5).f5) ((rd_T76 x1 x5).f0) ((rd_T76 x1 x5).f1) ((rd_T76 x1 x5).f2) ((rd_T76 x1 x5).f3) ((rd_T76 x1 x5).f4) ((rd_T76 x1 x5).f5)).bind fun t103 => (if t103 = true then (laws_eqTokenS.l0 k x0 x1 (wrap64 (x5 + 1))) else (none))) else (none)) else (none)) else (some true)
def laws_eqTokenS.f (k : Nat) (l0 : List (S76)) (l1 : List (S76)) : Option (Bool) := if (l0.length : Int) = (l1.length : Int) then (laws_eqTokenS.l0 k l0 l1 0) else (none)
def laws_eqTokenS.T6 : Bool × List (List Nat × List Nat) := (true, [([], []), ([], []), ([0, 1], [0, 1]), ([2], [2]), ([], []), ([], []), ([4, 5], [4, 5]), ([6], [6]), ([3, 7], [3, 7]), ([8], [8])])
def laws_eqTokenS.B6 : List Nat := [0, 0, 3, 7, 0, 0, 48, 112, 255, 511]
theorem laws_eqTokenS.tab6 : rtab .any (opsOf Tryz.f19 6) = laws_eqTokenS.T6 := by kernel_rfl
theorem laws_eqTokenS.bits6 : waitsOk laws_eqTokenS.T6.2 laws_eqTokenS.B6 = true := by kernel_rfl
theorem laws_eqTokenS.calls (k : Nat) (A0 : Option Addr) (c0 : Nat) (l0 : List (S76)) (A1 : Option Addr) (c1 : Nat) (l1 : List (S76)) (r : Bool) (w : World) (hr0 : Kd.C k76 w A0 l0.length l0) (hc0 : l0.length ≤ c0) (hr1 : Kd.C k76 w A1 l1.length l1) (hc1 : l1.length ≤ c1) (h : laws_eqTokenS.f k l0 l1 = some r) :
  Calls Tryz.prog 19 #[.slice A0 l0.length c0, .slice A1 l1.length c1] w fun e w' => e = .returned (.bool r) ∧ Below w.heap.size w w' := by
 have hu76 := Tryz.underlying76; have HR0 := q_ hr0; have HC0 := q_ hc0; clear hr0 hc0; have HR1 := q_ hr1; have HC1 := q_ hc1; clear hr1 hc1; have HB := q_ (Below.refl w.heap.size w)
 have H : (if (l0.length : Int) = (l1.length : Int) then (laws_eqTokenS.l0 k l0 l1 0) else (none)) = some r := h
 clear h
 by_cases c3 : (l0.length : Int) = (l1.length : Int)
 ·rw [if_pos c3] at H
  have c3b0 : ((l0.length : Int) == (l1.length : Int)) = true := beq_iff_eq.mpr c3
  have c3b1 : ((l0.length : Int) != (l1.length : Int)) = false := bne_eq_false_iff_eq.mpr c3
  have c3b2 : (l0.length == l1.length) = true := by first | simpa using c3 | (simp at c3 ⊢; omega)
  clear c3
  have H' := q_ H
  clear H
  go_enter Tryz.func19, Tryz.ntmps19
  go_wp2
  go_loopg [5] k (fun kq v5 w' => ∃ (x5_1 : Int), v5 = .int .i64 x5_1 ∧ J0 (laws_eqTokenS.l0 kq l0 l1 x5_1 = some r) ∧ J0 (kq ≤ k) ∧ J0 (Below w.heap.size w w'))
  case atStart => exact ⟨(0), rs_, H', ⟨Nat.le_refl _⟩, ⟨be_ HB.o⟩⟩
  case round =>
   clear H'; (try clear c1); (try clear c3); (try clear c3b0); (try clear c3b1); (try clear c3b2); obtain ⟨x5_1, rfl, HA, HK1, HB⟩ := hrel
   cases gk with
   | zero => exact absurd HA.o (by simp [laws_eqTokenS.l0])
   | succ k1 =>
    have H := HA.o; clear HA
    simp only [laws_eqTokenS.l0] at H
    by_cases c4 : x5_1 < (l0.length : Int)
    ·rw [if_pos c4] at H; have c4b0 := dt_ c4; clear c4
     by_cases c5 : 0 ≤ x5_1
     ·rw [if_pos c5] at H; have c5b0 := dt_ c5; clear c5
      by_cases c6 : x5_1 < (l1.length : Int)
      ·rw [if_pos c6] at H; have c6b0 := dt_ c6; clear c6; obtain ⟨t103, A7, H⟩ := ob_ H
       by_cases c8 : t103 = true
       ·subst c8; rw [if_pos rfl] at H
        have H' := q_ H
        clear H
        try go_wp2
        replace HB := q_ (below_drew1 HB.o)
        have p101 : 0 ≤ (x5_1 : Int) := of_decide_eq_true as_
        have q101 : x5_1 < (l0.length : Int) := of_decide_eq_true as_
        obtain ⟨ad101, e101, hx101_0, hx101_1, hx101_2, hx101_3, hx101_4, hx101_5⟩ := at_T76 HR0.o x5_1 p101 q101; have hw101_5 := hx101_5; have hw101_4 := hx101_4; have hw101_3 := hx101_3; have hw101_2 := hx101_2; have hw101_1 := hx101_1; have hw101_0 := hx101_0
        cases e101
        replace hx101_0 := mv_ HB.o hx101_0; replace hx101_1 := mv_ HB.o hx101_1; replace hx101_2 := mv_ HB.o hx101_2; replace hx101_3 := mv_ HB.o hx101_3; replace hx101_4 := mv_ HB.o hx101_4; replace hx101_5 := mv_ HB.o hx101_5; replace p101 := eq_true p101; replace q101 := eq_true q101
        have p102 : 0 ≤ (x5_1 : Int) := of_decide_eq_true as_
        have q102 : x5_1 < (l1.length : Int) := of_decide_eq_true as_
        obtain ⟨ad102, e102, hx102_0, hx102_1, hx102_2, hx102_3, hx102_4, hx102_5⟩ := at_T76 HR1.o x5_1 p102 q102; have hw102_5 := hx102_5; have hw102_4 := hx102_4; have hw102_3 := hx102_3; have hw102_2 := hx102_2; have hw102_1 := hx102_1; have hw102_0 := hx102_0
        cases e102
        replace hx102_0 := mv_ HB.o hx102_0; replace hx102_1 := mv_ HB.o hx102_1; replace hx102_2 := mv_ HB.o hx102_2; replace hx102_3 := mv_ HB.o hx102_3; replace hx102_4 := mv_ HB.o hx102_4; replace hx102_5 := mv_ HB.o hx102_5; replace p102 := eq_true p102; replace q102 := eq_true q102
        refine start_ (n := 10) (S := fun w' => w'.cell? (ad101.add ((x5_1).toNat * 6)) = some (.int .i64 ((rd_T76 l0 x5_1).f0)) ∧ w'.cell? ⟨(ad101.add ((x5_1).toNat * 6)).block, (ad101.add ((x5_1).toNat * 6)).off + 1, none⟩ = some (.int .i64 ((rd_T76 l0 x5_1).f1)) ∧ w'.cell? ⟨(ad101.add ((x5_1).toNat * 6)).block, (ad101.add ((x5_1).toNat * 6)).off + 2, none⟩ = some (.int .i64 ((rd_T76 l0 x5_1).f2)) ∧ w'.cell? ⟨(ad101.add ((x5_1).toNat * 6)).block, (ad101.add ((x5_1).toNat * 6)).off + 3, none⟩ = some (.int .i64 ((rd_T76 l0 x5_1).f3)) ∧ w'.cell? ⟨(ad101.add ((x5_1).toNat * 6)).block, (ad101.add ((x5_1).toNat * 6)).off + 4, none⟩ = some (.int .i64 ((rd_T76 l0 x5_1).f4)) ∧ w'.cell? ⟨(ad101.add ((x5_1).toNat * 6)).block, (ad101.add ((x5_1).toNat * 6)).off + 5, none⟩ = some (.int .i64 ((rd_T76 l0 x5_1).f5)) ∧ w'.cell? (ad102.add ((x5_1).toNat * 6)) = some (.int .i64 ((rd_T76 l1 x5_1).f0)) ∧ w'.cell? ⟨(ad102.add ((x5_1).toNat * 6)).block, (ad102.add ((x5_1).toNat * 6)).off + 1, none⟩ = some (.int .i64 ((rd_T76 l1 x5_1).f1)) ∧ w'.cell? ⟨(ad102.add ((x5_1).toNat * 6)).block, (ad102.add ((x5_1).toNat * 6)).off + 2, none⟩ = some (.int .i64 ((rd_T76 l1 x5_1).f2)) ∧ w'.cell? ⟨(ad102.add ((x5_1).toNat * 6)).block, (ad102.add ((x5_1).toNat * 6)).off + 3, none⟩ = some (.int .i64 ((rd_T76 l1 x5_1).f3)) ∧ w'.cell? ⟨(ad102.add ((x5_1).toNat * 6)).block, (ad102.add ((x5_1).toNat * 6)).off + 4, none⟩ = some (.int .i64 ((rd_T76 l1 x5_1).f4)) ∧ w'.cell? ⟨(ad102.add ((x5_1).toNat * 6)).block, (ad102.add ((x5_1).toNat * 6)).off + 5, none⟩ = some (.int .i64 ((rd_T76 l1 x5_1).f5))) (ds := []) (bb 10 0) (by kernel_rfl) rfl rfl ⟨(mv_ HB.o hw101_0), (mv_ HB.o hw101_1), (mv_ HB.o hw101_2), (mv_ HB.o hw101_3), (mv_ HB.o hw101_4), (mv_ HB.o hw101_5), (mv_ HB.o hw102_0), (mv_ HB.o hw102_1), (mv_ HB.o hw102_2), (mv_ HB.o hw102_3), (mv_ HB.o hw102_4), (mv_ HB.o hw102_5)⟩ (fun hHeld => ?_); refine with_tabW laws_eqTokenS.tab6 laws_eqTokenS.bits6 (fun HT_ HW_ => ?_)
        generalize wr.drew = w9 at HB hx101_0 hx101_1 hx101_2 hx101_3 hx101_4 hx101_5 hx102_0 hx102_1 hx102_2 hx102_3 hx102_4 hx102_5 hHeld ⊢
        refine pv_ 0 17 1 HT_.o ?_; refine pv_ 1 18 3 HT_.o ?_; refine pv_ 2 19 7 HT_.o ?_; refine pv_ 4 21 23 HT_.o ?_; refine pv_ 5 22 55 HT_.o ?_; refine pv_ 6 23 119 HT_.o ?_; refine tv_ 3 20 127 HT_.o HW_.o hHeld ?_; refine tv_ 7 24 255 HT_.o HW_.o hHeld ?_
        refine one_ (i := 8) (N := some 25) (bb 10 511) rfl rfl (one_of HT_.o (by kernel_rfl)) (by decide) (fun K hK => ?_)
        refine gs_ Tryz.func49 #[.agg #[.int .i64 ((rd_T76 l0 x5_1).f0), .int .i64 ((rd_T76 l0 x5_1).f1), .int .i64 ((rd_T76 l0 x5_1).f2), .int .i64 ((rd_T76 l0 x5_1).f3), .int .i64 ((rd_T76 l0 x5_1).f4), .int .i64 ((rd_T76 l0 x5_1).f5)], .agg #[.int .i64 ((rd_T76 l1 x5_1).f0), .int .i64 ((rd_T76 l1 x5_1).f1), .int .i64 ((rd_T76 l1 x5_1).f2), .int .i64 ((rd_T76 l1 x5_1).f3), .int .i64 ((rd_T76 l1 x5_1).f4), .int .i64 ((rd_T76 l1 x5_1).f5)]] ?_
        with_reducible refine (laws_eqToken.calls ((rd_T76 l0 x5_1).f0) ((rd_T76 l0 x5_1).f1) ((rd_T76 l0 x5_1).f2) ((rd_T76 l0 x5_1).f3) ((rd_T76 l0 x5_1).f4) ((rd_T76 l0 x5_1).f5) ((rd_T76 l1 x5_1).f0) ((rd_T76 l1 x5_1).f1) ((rd_T76 l1 x5_1).f2) ((rd_T76 l1 x5_1).f3) ((rd_T76 l1 x5_1).f4) ((rd_T76 l1 x5_1).f5) true _ A7.o).mono ?_
        rintro e w10 ⟨rfl, hb⟩
        refine ⟨_, rfl, ?_⟩; replace HB := sb_ HB hb
        (try clear hb)
        (try clear hb2)
        (try clear hk)
        (try clear hi)
        refine hK.out _ _ ⟨(mv_ HB.o hw101_0), (mv_ HB.o hw101_1), (mv_ HB.o hw101_2), (mv_ HB.o hw101_3), (mv_ HB.o hw101_4), (mv_ HB.o hw101_5), (mv_ HB.o hw102_0), (mv_ HB.o hw102_1), (mv_ HB.o hw102_2), (mv_ HB.o hw102_3), (mv_ HB.o hw102_4), (mv_ HB.o hw102_5)⟩ (fun hHeld => ?_)
        clear hK K; refine no_ (some 25) ?_; refine pv_ 9 26 1023 HT_.o ?_
        refine done_ (done_of HT_.o (by kernel_rfl)) ?_
        try go_wp2
        go_roundg k1
        case measure => have := HK1.o; omega
        case rel => exact ⟨(wrap64 (x5_1 + 1)), rs_, H', ⟨by have := HK1.o; omega⟩, ⟨be_ HB.o⟩⟩
       ·replace c8 := Bool.eq_false_iff.mpr c8; subst c8; rw [if_neg nft_] at H
        exact absurd H (by simp)
      ·rw [if_neg c6] at H
       exact absurd H (by simp)
     ·rw [if_neg c5] at H
      exact absurd H (by simp)
    ·rw [if_neg c4] at H; have c4b0 := df_ c4; clear c4; obtain rfl := Option.some.inj H
     go_wp2
     go_ret
     exact ⟨rt_, be_ HB.o⟩
 ·rw [if_neg c3] at H
  have c3b0 : ((l0.length : Int) == (l1.length : Int)) = false := beq_eq_false_iff_ne.mpr c3
  have c3b1 : ((l0.length : Int) != (l1.length : Int)) = true := bne_iff_ne.mpr c3
  have c3b2 : (l0.length == l1.length) = false := by first | simpa using c3 | (simp at c3 ⊢; omega)
  exact absurd H (by simp)
end Go.Proofs.YtijmhelacmjggaaGreat.P
namespace Go.Proofs.YtijmhelacmjggaaGreat.P
open Go.RowKit Go.Proofs.YtijmhelacmjggaaGreatW.PrintWords Go.Proofs.YtijmhelacmjggaaGreatW.PrintLast Go.Proofs.YtijmhelacmjggaaGreatEv
set_option linter.unusedVariables false
set_option linter.unusedSimpArgs false
def g82 (x : S82) : Prop := (Lit.int .i64 x.f0).wf = true ∧ (Lit.int .i64 x.f1).wf = true ∧ (Lit.int .i64 x.f2).wf = true ∧ (Lit.int .i64 x.f3).wf = true ∧ (Lit.int .i64 x.f4).wf = true ∧ (Lit.int .i64 x.f5).wf = true
theorem laws_szTokenS_eq (l : List S82) (a : Int) (hl : l.length ≤ 9223372036854775807) (h0 : 0 ≤ a) (h1 : a ≤ 1048576) : laws_szTokenS.f l a = some (if a < l.length then -1 else a - l.length) := by
  unfold laws_szTokenS.f
  rw [wrap_id (by omega) (by omega)]
  split <;> split <;> first | rfl | omega
def cToken (x : S82) : S76 := ⟨x.f0, x.f1, x.f2, x.f3, x.f4, x.f5⟩
theorem laws_toTokenS_ev (l : List S82) (hl : l.length ≤ 1048576) : Ev (fun k => laws_toTokenS.f k l) (l.map cToken) := by
  unfold laws_toTokenS.f
  simp only [ev_ite]
  rw [if_pos (by omega), if_pos (by omega)]
  have h := ev_loop l.length (fun k i => laws_toTokenS.l0 k l (upTo cToken z76 l i) (i : Nat)) (fun _ => l.map cToken) ?_ ?_ 0 (by omega)
  · rw [upTo_zero] at h
    exact h
  · rw [ev_succ, upTo_all]
    simp [laws_toTokenS.l0, ev_some]
  · intro i hi ih
    rw [ev_succ]
    simp only [laws_toTokenS.l0, laws_toToken.f, Option.bind_some, ev_ite]
    rw [if_pos (by omega), if_pos (by omega), if_pos (by rw [upTo_length _ _ _ _ (by omega)]; omega), wrap_succ hi (by omega)]
    have := upTo_set cToken z76 l z82 i hi
    have e : (cToken (l.getD i z82)) = ⟨(rd_T82 l i).f0, (rd_T82 l i).f1, (rd_T82 l i).f2, (rd_T82 l i).f3, (rd_T82 l i).f4, (rd_T82 l i).f5⟩ := by simp [rd_T82, cToken]
    rw [e] at this
    simp only [Int.toNat_natCast]
    rw [this]
    exact ih
theorem laws_eqTokenS_ev (l : List S76) (hl : l.length ≤ 9223372036854775807) : Ev (fun k => laws_eqTokenS.f k l l) true := by
  unfold laws_eqTokenS.f
  simp only [ev_ite]
  rw [if_pos trivial]
  refine ev_loop l.length (fun k i => laws_eqTokenS.l0 k l l (i : Nat)) (fun _ => true) ?_ ?_ 0 (by omega)
  · rw [ev_succ]
    simp [laws_eqTokenS.l0, ev_some]
  · intro i hi ih
    rw [ev_succ]
    simp only [laws_eqTokenS.l0, laws_eqToken.f, if_true, Option.bind_some, ev_ite]
    rw [if_pos (by omega), if_pos (by omega), wrap_succ hi (by omega), if_pos (by omega)]
    exact ih
end Go.Proofs.YtijmhelacmjggaaGreat.P
namespace Go.Proofs.YtijmhelacmjggaaGreat.P
open Go.RowKit Go.Proofs.YtijmhelacmjggaaGreatW.PrintWords Go.Proofs.YtijmhelacmjggaaGreatW.PrintLast Go.Proofs.YtijmhelacmjggaaGreatW.PrintMore Go.Proofs.YtijmhelacmjggaaGreatEv
set_option linter.unusedVariables false
set_option linter.unusedSimpArgs false
def sk : Value → Value → Prop
  | .int k _, .int k' _ => k = k'
  | .string _, .string _ => True
  | .bool _, .bool _ => True
  | v, v' => v' = v
theorem sk_refl (v : Value) : sk v v := by
  cases v <;> simp [sk]
theorem sk_int {k : IntKind} {x : Int} {u : Value} (h : sk (.int k x) u) : ∃ y, u = .int k y := by
  cases u with
  | int k' y => simp [sk] at h; exact ⟨y, by rw [h]⟩
  | _ => simp [sk] at h
theorem sk_string {x : ByteArray} {u : Value} (h : sk (.string x) u) : ∃ y, u = .string y := by
  cases u with
  | string y => exact ⟨y, rfl⟩
  | _ => simp [sk] at h
theorem sk_bool {x : Bool} {u : Value} (h : sk (.bool x) u) : ∃ y, u = .bool y := by
  cases u with
  | bool y => exact ⟨y, rfl⟩
  | _ => simp [sk] at h
theorem sk_slice {A : Option Addr} {n c : Nat} {u : Value} (h : sk (.slice A n c) u) : u = .slice A n c := by
  cases u <;> exact h
theorem sk_trans {u v x : Value} (h : sk u v) (h2 : sk v x) : sk u x := by
  cases u with
  | int k a =>
    obtain ⟨b, rfl⟩ := sk_int h
    obtain ⟨c, rfl⟩ := sk_int h2
    simp [sk]
  | string a =>
    obtain ⟨b, rfl⟩ := sk_string h
    obtain ⟨c, rfl⟩ := sk_string h2
    simp [sk]
  | bool a =>
    obtain ⟨b, rfl⟩ := sk_bool h
    obtain ⟨c, rfl⟩ := sk_bool h2
    simp [sk]
  | _ =>
    have e : v = _ := h
    subst e
    exact h2
structure Like (w w' : World) : Prop where
  size : w.heap.size ≤ w'.heap.size
  block : ∀ (g : Nat) (cs : Array Value) (t : TypeId), w.heap[g]? = some (.cells cs t (0, 0)) → ∃ cs' : Array Value, w'.heap[g]? = some (.cells cs' t (0, 0)) ∧ cs'.size = cs.size ∧ ∀ (i : Nat) u, cs[i]? = some u → ∃ u', cs'[i]? = some u' ∧ sk u u'
theorem Like.refl (w : World) : Like w w := ⟨Nat.le_refl _, fun g cs t h => ⟨cs, h, rfl, fun i u hu => ⟨u, hu, sk_refl u⟩⟩⟩
theorem Like.trans {w w1 w2 : World} (h : Like w w1) (k : Like w1 w2) : Like w w2 := ⟨Nat.le_trans h.size k.size, fun g cs t hb => by
  obtain ⟨cs1, hb1, hs1, hc1⟩ := h.block g cs t hb
  obtain ⟨cs2, hb2, hs2, hc2⟩ := k.block g cs1 t hb1
  refine ⟨cs2, hb2, hs2.trans hs1, fun i u hu => ?_⟩
  obtain ⟨u1, hu1, k1⟩ := hc1 i u hu
  obtain ⟨u2, hu2, k2⟩ := hc2 i u1 hu1
  exact ⟨u2, hu2, sk_trans k1 k2⟩⟩
theorem Like.below {w w1 w2 : World} (h : Like w w1) (hb : Below w1.heap.size w1 w2) : Like w w2 := h.trans ⟨hb.size, fun g cs t hg => ⟨cs, blk_below hg hb, rfl, fun i u hu => ⟨u, hu, sk_refl u⟩⟩⟩
theorem Like.set {w w1 : World} (h : Like w w1) {g i : Nat} {t : TypeId} {cs : Array Value} {u u' : Value} (hg : w1.heap[g]? = some (.cells cs t (0, 0))) (hc : w1.cell? ⟨g, i, none⟩ = some u) (hs : sk u u') : Like w (w1.setCell ⟨g, i, none⟩ u') := h.trans ⟨by simp [World.setCell], fun b cs2 t2 hb => by
  by_cases e : b = g
  · subst e
    rw [hg] at hb
    injection hb with hb
    injection hb with e1 e2
    subst e1
    subst e2
    refine ⟨_, blk_set hg i u', by simp, fun j x hx => ?_⟩
    rw [blk_cell hg i] at hc
    by_cases e2 : i = j
    · subst e2
      have hu : x = u := by rw [hc] at hx; injection hx with hx; exact hx.symm
      have hi : i < cs.size := (Array.getElem?_eq_some_iff.1 hc).1
      exact ⟨u', by simp [Array.getElem?_setIfInBounds, hi], by rw [hu]; exact hs⟩
    · exact ⟨x, by rw [Array.getElem?_setIfInBounds_ne e2]; exact hx, sk_refl x⟩
  · exact ⟨cs2, blk_far hb e u', rfl, fun j x hx => ⟨x, hx, sk_refl x⟩⟩⟩
theorem Like.cell {w w1 : World} (h : Like w w1) {g i : Nat} {t : TypeId} {cs : Array Value} {u : Value} (hg : w.heap[g]? = some (.cells cs t (0, 0))) (hc : w.cell? ⟨g, i, none⟩ = some u) : ∃ u', w1.cell? ⟨g, i, none⟩ = some u' ∧ sk u u' ∧ w1.frozen? ⟨g, i, none⟩ = false ∧ ∃ cs', w1.heap[g]? = some (.cells cs' t (0, 0)) := by
  obtain ⟨cs', hb, _, hcc⟩ := h.block g cs t hg
  rw [blk_cell hg i] at hc
  obtain ⟨u', hu, k⟩ := hcc i u hc
  exact ⟨u', (blk_cell hb i).trans hu, k, blk_frozen hb i, cs', hb⟩
theorem like_int {w w1 : World} {g i : Nat} {t : TypeId} {cs : Array Value} {k : IntKind} {x : Int} (h : Like w w1) (hg : w.heap[g]? = some (.cells cs t (0, 0))) (hc : w.cell? ⟨g, i, none⟩ = some (.int k x)) : ∃ y, w1.cell? ⟨g, i, none⟩ = some (.int k y) ∧ w1.frozen? ⟨g, i, none⟩ = false := by
  obtain ⟨u, h1, h2, h3, _⟩ := h.cell hg hc
  obtain ⟨y, rfl⟩ := sk_int h2
  exact ⟨y, h1, h3⟩
theorem like_string {w w1 : World} {g i : Nat} {t : TypeId} {cs : Array Value} {x : ByteArray} (h : Like w w1) (hg : w.heap[g]? = some (.cells cs t (0, 0))) (hc : w.cell? ⟨g, i, none⟩ = some (.string x)) : ∃ y, w1.cell? ⟨g, i, none⟩ = some (.string y) ∧ w1.frozen? ⟨g, i, none⟩ = false := by
  obtain ⟨u, h1, h2, h3, _⟩ := h.cell hg hc
  obtain ⟨y, rfl⟩ := sk_string h2
  exact ⟨y, h1, h3⟩
theorem like_bool {w w1 : World} {g i : Nat} {t : TypeId} {cs : Array Value} {x : Bool} (h : Like w w1) (hg : w.heap[g]? = some (.cells cs t (0, 0))) (hc : w.cell? ⟨g, i, none⟩ = some (.bool x)) : ∃ y, w1.cell? ⟨g, i, none⟩ = some (.bool y) ∧ w1.frozen? ⟨g, i, none⟩ = false := by
  obtain ⟨u, h1, h2, h3, _⟩ := h.cell hg hc
  obtain ⟨y, rfl⟩ := sk_bool h2
  exact ⟨y, h1, h3⟩
theorem like_slice {w w1 : World} {g i : Nat} {t : TypeId} {cs : Array Value} {A : Option Addr} {n c : Nat} (h : Like w w1) (hg : w.heap[g]? = some (.cells cs t (0, 0))) (hc : w.cell? ⟨g, i, none⟩ = some (.slice A n c)) : w1.cell? ⟨g, i, none⟩ = some (.slice A n c) := by
  obtain ⟨u, h1, h2, _⟩ := h.cell hg hc
  rw [h1, sk_slice h2]
theorem Like.put_int {w w1 : World} {g i : Nat} {t : TypeId} {cs : Array Value} {k : IntKind} {x y : Int} (h : Like w w1) (hg : w.heap[g]? = some (.cells cs t (0, 0))) (hc : w.cell? ⟨g, i, none⟩ = some (.int k x)) : Like w (w1.setCell ⟨g, i, none⟩ (.int k y)) := by
  obtain ⟨u, h1, h2, h3, cs', h4⟩ := h.cell hg hc
  obtain ⟨z, rfl⟩ := sk_int h2
  exact h.set h4 h1 rfl
theorem Like.put_string {w w1 : World} {g i : Nat} {t : TypeId} {cs : Array Value} {x y : ByteArray} (h : Like w w1) (hg : w.heap[g]? = some (.cells cs t (0, 0))) (hc : w.cell? ⟨g, i, none⟩ = some (.string x)) : Like w (w1.setCell ⟨g, i, none⟩ (.string y)) := by
  obtain ⟨u, h1, h2, h3, cs', h4⟩ := h.cell hg hc
  obtain ⟨z, rfl⟩ := sk_string h2
  exact h.set h4 h1 trivial
theorem Like.put_bool {w w1 : World} {g i : Nat} {t : TypeId} {cs : Array Value} {x y : Bool} (h : Like w w1) (hg : w.heap[g]? = some (.cells cs t (0, 0))) (hc : w.cell? ⟨g, i, none⟩ = some (.bool x)) : Like w (w1.setCell ⟨g, i, none⟩ (.bool y)) := by
  obtain ⟨u, h1, h2, h3, cs', h4⟩ := h.cell hg hc
  obtain ⟨z, rfl⟩ := sk_bool h2
  exact h.set h4 h1 trivial
def sks (cs cs' : List Value) : Prop := cs'.length = cs.length ∧ ∀ (i : Nat) u, cs[i]? = some u → ∃ u', cs'[i]? = some u' ∧ sk u u'
theorem sks_one {u : Value} {cs' : List Value} (h : sks [u] cs') : ∃ u', cs' = [u'] ∧ sk u u' := by
  obtain ⟨h1, h2⟩ := h
  obtain ⟨u', h3, h4⟩ := h2 0 u rfl
  match cs', h1, h3 with
  | [x], _, h3 => exact ⟨x, rfl, by injection h3 with h3; rw [h3]; exact h4⟩
theorem sks_append {a b cs' : List Value} (h : sks (a ++ b) cs') : ∃ a' b', cs' = a' ++ b' ∧ sks a a' ∧ sks b b' := by
  obtain ⟨h1, h2⟩ := h
  rw [List.length_append] at h1
  refine ⟨cs'.take a.length, cs'.drop a.length, (List.take_append_drop _ _).symm, ⟨by rw [List.length_take]; omega, fun i u hu => ?_⟩, ⟨by rw [List.length_drop]; omega, fun i u hu => ?_⟩⟩
  · have hi : i < a.length := (List.getElem?_eq_some_iff.1 hu).1
    obtain ⟨u', h3, h4⟩ := h2 i u (by rw [List.getElem?_append_left hi]; exact hu)
    exact ⟨u', by rw [List.getElem?_take_of_lt hi]; exact h3, h4⟩
  · obtain ⟨u', h3, h4⟩ := h2 (a.length + i) u (by rw [List.getElem?_append_right (by omega)]; simpa using hu)
    exact ⟨u', by rw [List.getElem?_drop]; exact h3, h4⟩
def sumN {α : Type} (m : α → Nat) : List α → Nat
  | [] => 0
  | x :: xs => m x + sumN m xs
theorem sumN_len {α : Type} (m : α → Nat) (h : ∀ x, 1 ≤ m x) : ∀ l : List α, l.length ≤ sumN m l
  | [] => Nat.le_refl _
  | x :: xs => by have := sumN_len m h xs; have := h x; simp only [sumN, List.length_cons]; omega
theorem sumN_take {α : Type} (m : α → Nat) : ∀ (l : List α) (i : Nat) (h : i < l.length), sumN m (l.take (i + 1)) = sumN m (l.take i) + m l[i]
  | x :: xs, 0, _ => by simp [sumN]
  | x :: xs, i + 1, h => by
    simp only [List.take_succ_cons, sumN, List.getElem_cons_succ]
    rw [sumN_take m xs i (by simpa using h)]
    omega
theorem sumN_le {α : Type} (m : α → Nat) (l : List α) (i : Nat) : sumN m (l.take i) ≤ sumN m l := by
  induction l generalizing i with
  | nil => simp [sumN]
  | cons x xs ih =>
    cases i with
    | zero => simp [sumN]
    | succ i => simp only [List.take_succ_cons, sumN]; have := ih i; omega
theorem sumN_map {α : Type} (m : α → Nat) : ∀ l l' : List α, l'.map m = l.map m → sumN m l' = sumN m l
  | [], [], _ => rfl
  | x :: xs, [], h => by simp at h
  | [], x :: xs, h => by simp at h
  | x :: xs, y :: ys, h => by
    simp only [List.map_cons, List.cons.injEq] at h
    simp only [sumN, h.1, sumN_map m xs ys h.2]
def Keeps {α : Type} (d : Kd α) (m : α → Nat) : Prop := ∀ {w w' : World} {base : Nat} {ok : Nat → Prop} {x : α} {cs cs' : List Value}, Like w w' → d.M w base ok x cs → sks cs cs' → ∃ x', d.M w' base ok x' cs' ∧ m x' = m x
theorem like_list {α : Type} (P : Nat → α → Prop) : ∀ n : Nat, (∀ i, i < n → ∃ x, P i x) → ∃ l : List α, l.length = n ∧ ∀ i x, l[i]? = some x → P i x
  | 0, _ => ⟨[], rfl, fun i x h => by simp at h⟩
  | n + 1, h => by
    obtain ⟨l, hl, hp⟩ := like_list P n (fun i hi => h i (by omega))
    obtain ⟨x, hx⟩ := h n (by omega)
    refine ⟨l ++ [x], by simp [hl], fun i y hy => ?_⟩
    by_cases hi : i < n
    · rw [List.getElem?_append_left (by omega)] at hy
      exact hp i y hy
    · have hlt : i < (l ++ [x]).length := (List.getElem?_eq_some_iff.1 hy).1
      have e : i = n := by simp at hlt; omega
      subst e
      rw [List.getElem?_append_right (by omega), hl, Nat.sub_self] at hy
      injection hy with hy
      rw [← hy]
      exact hx
theorem R_like {α : Type} {d : Kd α} {m : α → Nat} (hd : Keeps d m) {e : Nat} {w w' : World} {base : Nat} {ok : Nat → Prop} {v : Value} {xs : List α} (h : d.R e w base ok v xs) (hl : Like w w') : ∃ xs', d.R e w' base ok v xs' ∧ xs'.map m = xs.map m := by
  obtain ⟨h0, inner, ⟨hi, ho⟩, hr⟩ := h
  rcases ho with ⟨rfl, hn⟩ | ⟨g, cap, cur, rfl, hg, hh, hnc, hcm, hcs, htk⟩
  · have : xs = [] := List.length_eq_zero_iff.1 hn
    subst this
    exact ⟨[], Kd.R_nil _ _ _ _ _, rfl⟩
  · obtain ⟨cur', hh', hs', hc'⟩ := hl.block g cur e hh
    have hsk : sks inner (cur'.toList.take (xs.length * d.sz)) := by
      rw [← htk]
      refine ⟨by simp [hs'], fun i u hu => ?_⟩
      have hlt : i < xs.length * d.sz := by
        have := (List.getElem?_eq_some_iff.1 hu).1
        rw [List.length_take] at this
        omega
      rw [List.getElem?_take_of_lt hlt] at hu ⊢
      obtain ⟨u', h1, h2⟩ := hc' i u (by simpa using hu)
      exact ⟨u', by simpa using h1, h2⟩
    have hx : ∀ i, i < xs.length → ∃ x', d.M w' base (fun k => ok k ∧ some k ≠ (Value.slice (some ⟨g, 0, none⟩) xs.length cap).ownBlock) x' (((cur'.toList.take (xs.length * d.sz)).drop (i * d.sz)).take d.sz) ∧ (∃ x, xs[i]? = some x ∧ m x' = m x) := by
      intro i hi2
      obtain ⟨x', h1, h2⟩ := hd hl (hr.2 i xs[i] (List.getElem?_eq_getElem hi2)) (cs' := ((cur'.toList.take (xs.length * d.sz)).drop (i * d.sz)).take d.sz) (by
        obtain ⟨s1, s2⟩ := hsk
        refine ⟨by simp only [List.length_take, List.length_drop] at s1 ⊢; omega, fun j u hu => ?_⟩
        have hj : j < d.sz := by
          have := (List.getElem?_eq_some_iff.1 hu).1
          rw [List.length_take] at this
          omega
        rw [List.getElem?_take_of_lt hj, List.getElem?_drop] at hu ⊢
        exact s2 _ u hu)
      exact ⟨x', h1, xs[i], List.getElem?_eq_getElem hi2, h2⟩
    obtain ⟨xs', hlen, hp⟩ := like_list _ xs.length hx
    refine ⟨xs', ⟨?_, cur'.toList.take (xs.length * d.sz), ⟨?_, .inr ⟨g, cap, cur', by rw [hlen], hg, hh', by rw [hlen]; exact hnc, hcm, by rw [hs', hcs], by rw [hlen]⟩⟩, ⟨?_, fun j p hj => (hp j p hj).1⟩⟩, ?_⟩
    · intro k hk
      exact h0 k hk
    · rw [hlen]
      exact hsk.1.trans hi
    · rw [hlen]
      exact hsk.1.trans hi
    · apply List.ext_getElem?
      intro i
      rw [List.getElem?_map, List.getElem?_map]
      by_cases hi2 : i < xs.length
      · obtain ⟨_, x, h1, h2⟩ := hp i xs'[i] (List.getElem?_eq_getElem (by omega))
        rw [List.getElem?_eq_getElem (by omega : i < xs'.length), h1]
        simp [h2]
      · rw [List.getElem?_eq_none (by omega), List.getElem?_eq_none (by omega)]
theorem keeps_int (k : IntKind) : Keeps (Kd.int k) (fun _ => 1) := by
  intro w w' base ok x cs cs' hl hM hs
  have e : cs = [.int k x] := hM
  subst e
  obtain ⟨u, rfl, hu⟩ := sks_one hs
  obtain ⟨y, rfl⟩ := sk_int hu
  exact ⟨y, rfl, rfl⟩
theorem keeps_string : Keeps Kd.string (fun _ => 1) := by
  intro w w' base ok x cs cs' hl hM hs
  have e : cs = [.string x] := hM
  subst e
  obtain ⟨u, rfl, hu⟩ := sks_one hs
  obtain ⟨y, rfl⟩ := sk_string hu
  exact ⟨y, rfl, rfl⟩
theorem keeps_bool : Keeps Kd.bool (fun _ => 1) := by
  intro w w' base ok x cs cs' hl hM hs
  have e : cs = [.bool x] := hM
  subst e
  obtain ⟨u, rfl, hu⟩ := sks_one hs
  obtain ⟨y, rfl⟩ := sk_bool hu
  exact ⟨y, rfl, rfl⟩
theorem keeps_pair {α β : Type} {a : Kd α} {b : Kd β} {m : α → Nat} {n : β → Nat} (ha : Keeps a m) (hb : Keeps b n) : Keeps (Kd.pair a b) (fun x => m x.1 + n x.2) := by
  intro w w' base ok x cs cs' hl hM hs
  obtain ⟨c0, c1, rfl, h0, h1⟩ := hM
  obtain ⟨a', b', rfl, s0, s1⟩ := sks_append hs
  obtain ⟨x0, k0, e0⟩ := ha hl h0 s0
  obtain ⟨x1, k1, e1⟩ := hb hl h1 s1
  exact ⟨(x0, x1), ⟨a', b', rfl, k0, k1⟩, by simp only [e0, e1]⟩
theorem keeps_slice {α : Type} {d : Kd α} {m : α → Nat} (hd : Keeps d m) (e : Nat) : Keeps (Kd.slice e d) (sumN m) := by
  intro w w' base ok x cs cs' hl hM hs
  obtain ⟨v, rfl, h⟩ := hM
  obtain ⟨u, rfl, hu⟩ := sks_one hs
  obtain ⟨A, c, rfl⟩ := Kd.R_slice h
  have e2 := sk_slice hu
  subst e2
  obtain ⟨xs', h1, h2⟩ := R_like hd h hl
  exact ⟨xs', ⟨_, rfl, h1⟩, sumN_map m _ _ h2⟩
theorem keeps_iso {α β : Type} {d : Kd α} {m : α → Nat} (hd : Keeps d m) (f : β → α) (g : α → β) (hfg : ∀ y, f (g y) = y) : Keeps (Kd.iso d f) (fun x => m (f x)) := by
  intro w w' base ok x cs cs' hl hM hs
  obtain ⟨y, h1, h2⟩ := hd hl (show d.M w base ok (f x) cs from hM) hs
  exact ⟨g y, show d.M w' base ok (f (g y)) cs' by rw [hfg]; exact h1, by show m (f (g y)) = m (f x); rw [hfg]; exact h2⟩
theorem R_at {α : Type} {d : Kd α} {e : Nat} {w : World} {base : Nat} {ok : Nat → Prop} {g n c : Nat} {xs : List α} (h : d.R e w base ok (.slice (some ⟨g, 0, none⟩) n c) xs) (i : Nat) (hi : i < xs.length) : ∃ cs, ∃ cur : Array Value, d.M w base ok xs[i] cs ∧ (∀ (j : Nat) u, cs[j]? = some u → w.cell? ⟨g, i * d.sz + j, none⟩ = some u) ∧ w.heap[g]? = some (.cells cur e (0, 0)) ∧ ok g ∧ base ≤ g := by
  obtain ⟨h0, inner, ⟨hl, ho⟩, hr⟩ := h
  rcases ho with ⟨he, _⟩ | ⟨g2, cap, cur, he, hg, hh, hnc, hcm, hcs, htk⟩
  · exact absurd he (by simp)
  · injection he with e1 e2 e3
    injection e1 with e1
    injection e1 with e1
    subst e1
    refine ⟨_, cur, d.M_mono (fun _ hk => hk.1) (hr.2 i xs[i] (List.getElem?_eq_getElem hi)), fun j u hu => ?_, hh, h0 g (by simp [Value.ownBlock]), hg⟩
    rw [blk_cell hh, ← Array.getElem?_toList]
    have hj : j < d.sz := by
      have := (List.getElem?_eq_some_iff.1 hu).1
      rw [List.length_take] at this
      omega
    rw [List.getElem?_take_of_lt hj, List.getElem?_drop, ← htk] at hu
    have hlt := (List.getElem?_eq_some_iff.1 hu).1
    rw [List.length_take] at hlt
    rw [List.getElem?_take_of_lt (by omega)] at hu
    exact hu
end Go.Proofs.YtijmhelacmjggaaGreat.P
namespace Go.Proofs.YtijmhelacmjggaaGreat.P
set_option linter.unusedVariables false
set_option linter.unusedSimpArgs false
open Go.RowKit Go.Proofs.YtijmhelacmjggaaGreatW.PrintWords Go.Proofs.YtijmhelacmjggaaGreatW.PrintLast Go.Proofs.YtijmhelacmjggaaGreatW.PrintMore Go.Proofs.YtijmhelacmjggaaGreatEv
def nm_Span (x : S67) : Nat := 1 + 1
theorem one_Span (x : S67) : 1 ≤ nm_Span x := by
  unfold nm_Span
  omega
theorem keeps_Span : Keeps k67 nm_Span := keeps_iso (keeps_pair (keeps_int _) (keeps_int _)) _ (fun y => ⟨y.1, y.2⟩) (fun _ => rfl)
theorem markSpanS_walk (P_ : Nat → Prop) (u : Value) (l0 : List S67) (a1 : Int) (n : Nat) (hn : sumN nm_Span l0 = n) (h0 : 0 ≤ a1) (h1 : a1 + n ≤ 9000000000000000000) (w0 w : World) (hB : Below w0.heap.size w0 w) (ho0 : Kd.R k67 67 w w0.heap.size P_ u l0) :
    Calls Tryz.prog 12 #[u, .int .i64 a1] w fun e w' => e = .returned (.int .i64 (a1 + n)) ∧ Like w w' ∧ Below w0.heap.size w0 w' ∧ Kept w w' P_ := by
  have hlen := sumN_len nm_Span one_Span l0
  obtain ⟨A, c, rfl⟩ := Kd.R_slice ho0
  have HO := q_ ho0
  have HB := q_ hB
  clear ho0 hB
  go_enter Tryz.func12, Tryz.ntmps12
  go_wp2
  go_loopg [1, 5] l0.length (fun gg v1 v5 w' => ∃ kk : Nat, kk ≤ l0.length ∧ l0.length - kk ≤ gg ∧ v1 = .int .i64 (a1 + (sumN nm_Span (l0.take kk) : Nat)) ∧ v5 = .int .i64 kk ∧ J0 (Like w w') ∧ J0 (Below w0.heap.size w0 w') ∧ J0 (Kept w w' P_))
  case atStart => exact ⟨0, Nat.zero_le _, by omega, by simp [sumN], rfl, ⟨Like.refl _⟩, HB, ⟨Kept.refl _ _⟩⟩
  case round =>
    obtain ⟨kk, hkk, hg, rfl, rfl, HW, HB2, HK⟩ := hrel
    clear HB
    by_cases hlt : kk < l0.length
    · have hltz : (kk : Int) < (l0.length : Int) := by omega
      obtain ⟨ls, hR, hm⟩ := R_like keeps_Span HO.o HW.o
      have hlen2 : ls.length = l0.length := by simpa using congrArg List.length hm
      obtain ⟨g, cap, hv, hgw, _, _⟩ := Kd.R_form hR (by omega)
      have hA : A = some ⟨g, 0, none⟩ := by injection hv
      subst hA
      obtain ⟨cs, cur, hM, hcc, hG, hP, _⟩ := R_at hR kk (by omega)
      have hmk : nm_Span ls[kk] = nm_Span l0[kk] := by
        have := congrArg (fun q => q[kk]?) hm
        simp only [List.getElem?_map] at this
        rw [List.getElem?_eq_getElem (by omega), List.getElem?_eq_getElem hlt] at this
        simpa using this
      have hcnt := sumN_take nm_Span l0 kk hlt
      have hcle := sumN_le nm_Span l0 (kk + 1)
      rw [← hmk] at hcnt
      obtain ⟨x, hxe⟩ : ∃ x, x = ls[kk] := ⟨_, rfl⟩
      rw [← hxe] at hM hcnt
      clear hxe hmk
      obtain rfl := k67_openM hM
      have hx0 : wr.cell? ⟨g, kk * 2, none⟩ = some (.int .i64 x.f0) := hcc 0 _ rfl
      have hx1 : wr.cell? ⟨g, kk * 2 + 1, none⟩ = some (.int .i64 x.f1) := hcc 1 _ rfl
      have X0 := q_ hx0
      have X1 := q_ hx1
      have HG := q_ hG
      have HP := q_ hP
      have HL := q_ (Like.refl wr)
      obtain ⟨K, hK⟩ : ∃ K : Int, a1 + (sumN nm_Span (l0.take kk) : Nat) = K := ⟨_, rfl⟩
      have hmx : nm_Span x = 1 + 1 := rfl
      rw [hmx] at hcnt
      clear hmx
      have hK0 : 0 ≤ K := by omega
      have hK1 : K + 1 + 1 = a1 + (sumN nm_Span (l0.take (kk + 1)) : Nat) := by omega
      have hK2 : K + 1 + 1 ≤ 9000000000000000000 := by omega
      rw [hK]
      clear hcc hM hG hP hv hm hR hcnt hcle hx0 hx1
      have qw0 : IntKind.i64.wrap (K + 1) = K + 1 := by rw [i64_w]; exact wrap_id (by omega) (by omega)
      have qw1 : IntKind.i64.wrap (K + 1 + 1) = K + 1 + 1 := by rw [i64_w]; exact wrap_id (by omega) (by omega)
      have T1 : J0 True := ⟨trivial⟩
      have T2 : J0 True := ⟨trivial⟩
      obtain ⟨y0, hc0, hf0⟩ := like_int HL.o HG.o X0.o
      go_wp2_with (first | ((with_reducible refine gate_store (t := 2) (p := 16) rfl ?_); clear T1; refine store_event (t := 2) (p := 16) (v := ?vo_w10) (w1 := (wr.setCell ⟨g, kk * 2, none⟩ (.int .i64 (K)))) ?hg ?ho ?hn ?hr ?_; (case ho => rfl); (case hg => rfl); (case hn => rfl); (case hr => first | (go_simp; done) | (go_simp; rfl)); intro w10 hw; replace HL := q_ (show Like wr w10 from (by rw [hw]; exact Like.put_int HL.o HG.o X0.o)); replace HB2 := q_ (show Below w0.heap.size w0 w10 from (by rw [hw]; exact below_set HB2.o hgw)); replace HK := q_ (show Kept w w10 P_ from (by rw [hw]; exact Kept.setCell HK.o (.inl HP.out) _)); clear hw hc0 hf0; obtain ⟨y1, hc1, hf1⟩ := like_int HL.o HG.o X1.o) | ((with_reducible refine gate_store (t := 2) (p := 23) rfl ?_); clear T2; refine store_event (t := 2) (p := 23) (v := ?vo_w11) (w1 := (w10.setCell ⟨g, kk * 2 + 1, none⟩ (.int .i64 (K + 1)))) ?hg ?ho ?hn ?hr ?_; (case ho => rfl); (case hg => rfl); (case hn => rfl); (case hr => first | (go_simp; done) | (go_simp; rfl)); intro w11 hw; replace HL := q_ (show Like wr w11 from (by rw [hw]; exact Like.put_int HL.o HG.o X1.o)); replace HB2 := q_ (show Below w0.heap.size w0 w11 from (by rw [hw]; exact below_set HB2.o hgw)); replace HK := q_ (show Kept w w11 P_ from (by rw [hw]; exact Kept.setCell HK.o (.inl HP.out) _)); clear hw hc1 hf1))
      go_roundg (l0.length - (kk + 1))
      case measure => omega
      case rel => exact ⟨kk + 1, by omega, by omega, by (first | (congr 1; omega) | (congr 1; done) | (congr 2; omega)), by go_num, ⟨HW.o.trans HL.o⟩, ⟨HB2.o⟩, ⟨HK.o⟩⟩
    · have hltz : ¬ (kk : Int) < (l0.length : Int) := by omega
      have hk : kk = l0.length := by omega
      subst hk
      rw [List.take_length, hn]
      go_wp2
      go_ret
      exact ⟨rfl, HW.o, HB2.o, HK.o⟩
theorem markInt64S_walk (P_ : Nat → Prop) (u : Value) (l0 : List Int) (a1 : Int) (n : Nat) (hn : sumN (fun _ => 1) l0 = n) (h0 : 0 ≤ a1) (h1 : a1 + n ≤ 9000000000000000000) (w0 w : World) (hB : Below w0.heap.size w0 w) (ho0 : Kd.R (Kd.int .i64) 2 w w0.heap.size P_ u l0) :
    Calls Tryz.prog 106 #[u, .int .i64 a1] w fun e w' => e = .returned (.int .i64 (a1 + n)) ∧ Like w w' ∧ Below w0.heap.size w0 w' ∧ Kept w w' P_ := by
  have hlen := sumN_len (fun _ => 1) (fun _ => Nat.le_refl _) l0
  obtain ⟨A, c, rfl⟩ := Kd.R_slice ho0
  have HO := q_ ho0
  have HB := q_ hB
  clear ho0 hB
  go_enter Tryz.func106, Tryz.ntmps106
  go_wp2
  go_loopg [1, 5] l0.length (fun gg v1 v5 w' => ∃ kk : Nat, kk ≤ l0.length ∧ l0.length - kk ≤ gg ∧ v1 = .int .i64 (a1 + (sumN (fun _ => 1) (l0.take kk) : Nat)) ∧ v5 = .int .i64 kk ∧ J0 (Like w w') ∧ J0 (Below w0.heap.size w0 w') ∧ J0 (Kept w w' P_))
  case atStart => exact ⟨0, Nat.zero_le _, by omega, by simp [sumN], rfl, ⟨Like.refl _⟩, HB, ⟨Kept.refl _ _⟩⟩
  case round =>
    obtain ⟨kk, hkk, hg, rfl, rfl, HW, HB2, HK⟩ := hrel
    clear HB
    by_cases hlt : kk < l0.length
    · have hltz : (kk : Int) < (l0.length : Int) := by omega
      obtain ⟨ls, hR, hm⟩ := R_like (keeps_int .i64) HO.o HW.o
      have hlen2 : ls.length = l0.length := by simpa using congrArg List.length hm
      obtain ⟨g, cap, hv, hgw, _, _⟩ := Kd.R_form hR (by omega)
      have hA : A = some ⟨g, 0, none⟩ := by injection hv
      subst hA
      obtain ⟨cs, cur, hM, hcc, hG, hP, _⟩ := R_at hR kk (by omega)
      have hcnt := sumN_take (fun _ => 1) l0 kk hlt
      have hcle := sumN_le (fun _ => 1) l0 (kk + 1)
      obtain ⟨x, hxe⟩ : ∃ x, x = ls[kk] := ⟨_, rfl⟩
      rw [← hxe] at hM
      clear hxe
      have hM : cs = [.int .i64 x] := hM
      subst hM
      have hx0 := hcc 0 _ rfl
      rw [show kk * (Kd.int .i64).sz + 0 = kk from Nat.mul_one kk] at hx0
      have X0 := q_ hx0
      have HG := q_ hG
      have HP := q_ hP
      have HL := q_ (Like.refl wr)
      obtain ⟨K, hK⟩ : ∃ K : Int, a1 + (sumN (fun _ => 1) (l0.take kk) : Nat) = K := ⟨_, rfl⟩
      have hK0 : 0 ≤ K := by omega
      have hK1 : K + 1 = a1 + (sumN (fun _ => 1) (l0.take (kk + 1)) : Nat) := by omega
      have hK2 : K + 1 ≤ 9000000000000000000 := by omega
      rw [hK]
      clear hcc hG hP hv hm hR hcnt hcle hx0
      have qw0 : IntKind.i64.wrap (K + 1) = K + 1 := by rw [i64_w]; exact wrap_id (by omega) (by omega)
      have T1 : J0 True := ⟨trivial⟩
      obtain ⟨y0, hc0, hf0⟩ := like_int HL.o HG.o X0.o
      go_wp2_with ((with_reducible refine gate_store (t := 2) (p := 15) rfl ?_); clear T1; refine store_event (t := 2) (p := 15) (v := ?vo_w10) (w1 := (wr.setCell ⟨g, kk, none⟩ (.int .i64 (K)))) ?hg ?ho ?hn ?hr ?_; (case ho => rfl); (case hg => rfl); (case hn => rfl); (case hr => first | (go_simp; done) | (go_simp; rfl)); intro w10 hw; replace HL := q_ (show Like wr w10 from (by rw [hw]; exact Like.put_int HL.o HG.o X0.o)); replace HB2 := q_ (show Below w0.heap.size w0 w10 from (by rw [hw]; exact below_set HB2.o hgw)); replace HK := q_ (show Kept w w10 P_ from (by rw [hw]; exact Kept.setCell HK.o (.inl HP.out) _)); clear hw hc0 hf0)
      go_roundg (l0.length - (kk + 1))
      case measure => omega
      case rel => exact ⟨kk + 1, by omega, by omega, by (first | (congr 1; omega) | (congr 1; done) | (congr 2; omega)), by go_num, ⟨HW.o.trans HL.o⟩, ⟨HB2.o⟩, ⟨HK.o⟩⟩
    · have hltz : ¬ (kk : Int) < (l0.length : Int) := by omega
      have hk : kk = l0.length := by omega
      subst hk
      rw [List.take_length, hn]
      go_wp2
      go_ret
      exact ⟨rfl, HW.o, HB2.o, HK.o⟩
def nm_RNode (x : S121) : Nat := 1 + (sumN nm_Span x.f1 + (sumN (fun _ => 1) x.f2 + (1 + 1)))
theorem one_RNode (x : S121) : 1 ≤ nm_RNode x := by
  unfold nm_RNode
  omega
theorem keeps_RNode : Keeps k121 nm_RNode := keeps_iso (keeps_pair (keeps_int _) (keeps_pair (keeps_slice keeps_Span _) (keeps_pair (keeps_slice (keeps_int .i64) _) (keeps_pair (keeps_int _) (keeps_int _))))) _ (fun y => ⟨y.1, y.2.1, y.2.2.1, y.2.2.2.1, y.2.2.2.2⟩) (fun _ => rfl)
theorem markRNodeS_walk (P_ : Nat → Prop) (u : Value) (l0 : List S121) (a1 : Int) (n : Nat) (hn : sumN nm_RNode l0 = n) (h0 : 0 ≤ a1) (h1 : a1 + n ≤ 9000000000000000000) (w0 w : World) (hB : Below w0.heap.size w0 w) (ho0 : Kd.R k121 121 w w0.heap.size P_ u l0) :
    Calls Tryz.prog 89 #[u, .int .i64 a1] w fun e w' => e = .returned (.int .i64 (a1 + n)) ∧ Like w w' ∧ Below w0.heap.size w0 w' ∧ Kept w w' P_ := by
  have hlen := sumN_len nm_RNode one_RNode l0
  obtain ⟨A, c, rfl⟩ := Kd.R_slice ho0
  have HO := q_ ho0
  have HB := q_ hB
  clear ho0 hB
  go_enter Tryz.func89, Tryz.ntmps89
  go_wp2
  go_loopg [1, 5] l0.length (fun gg v1 v5 w' => ∃ kk : Nat, kk ≤ l0.length ∧ l0.length - kk ≤ gg ∧ v1 = .int .i64 (a1 + (sumN nm_RNode (l0.take kk) : Nat)) ∧ v5 = .int .i64 kk ∧ J0 (Like w w') ∧ J0 (Below w0.heap.size w0 w') ∧ J0 (Kept w w' P_))
  case atStart => exact ⟨0, Nat.zero_le _, by omega, by simp [sumN], rfl, ⟨Like.refl _⟩, HB, ⟨Kept.refl _ _⟩⟩
  case round =>
    obtain ⟨kk, hkk, hg, rfl, rfl, HW, HB2, HK⟩ := hrel
    clear HB
    by_cases hlt : kk < l0.length
    · have hltz : (kk : Int) < (l0.length : Int) := by omega
      obtain ⟨ls, hR, hm⟩ := R_like keeps_RNode HO.o HW.o
      have hlen2 : ls.length = l0.length := by simpa using congrArg List.length hm
      obtain ⟨g, cap, hv, hgw, _, _⟩ := Kd.R_form hR (by omega)
      have hA : A = some ⟨g, 0, none⟩ := by injection hv
      subst hA
      obtain ⟨cs, cur, hM, hcc, hG, hP, _⟩ := R_at hR kk (by omega)
      have hmk : nm_RNode ls[kk] = nm_RNode l0[kk] := by
        have := congrArg (fun q => q[kk]?) hm
        simp only [List.getElem?_map] at this
        rw [List.getElem?_eq_getElem (by omega), List.getElem?_eq_getElem hlt] at this
        simpa using this
      have hcnt := sumN_take nm_RNode l0 kk hlt
      have hcle := sumN_le nm_RNode l0 (kk + 1)
      rw [← hmk] at hcnt
      obtain ⟨x, hxe⟩ : ∃ x, x = ls[kk] := ⟨_, rfl⟩
      rw [← hxe] at hM hcnt
      clear hxe hmk
      obtain ⟨v1, v2, rfl, hR1, hR2⟩ := k121_openM hM
      obtain ⟨A1, c1, rfl⟩ := Kd.R_slice hR1
      obtain ⟨A2, c2, rfl⟩ := Kd.R_slice hR2
      have hx0 : wr.cell? ⟨g, kk * 5, none⟩ = some (.int .i64 x.f0) := hcc 0 _ rfl
      have hx1 : wr.cell? ⟨g, kk * 5 + 1, none⟩ = some (.slice A1 x.f1.length c1) := hcc 1 _ rfl
      have hx2 : wr.cell? ⟨g, kk * 5 + 2, none⟩ = some (.slice A2 x.f2.length c2) := hcc 2 _ rfl
      have hx3 : wr.cell? ⟨g, kk * 5 + 3, none⟩ = some (.int .i64 x.f3) := hcc 3 _ rfl
      have hx4 : wr.cell? ⟨g, kk * 5 + 4, none⟩ = some (.int .i64 x.f4) := hcc 4 _ rfl
      have X0 := q_ hx0
      have X1 := q_ hx1
      have X2 := q_ hx2
      have X3 := q_ hx3
      have X4 := q_ hx4
      have HR1 := q_ hR1
      obtain ⟨n1, hn1⟩ : ∃ n_ : Nat, sumN nm_Span x.f1 = n_ := ⟨_, rfl⟩
      have HR2 := q_ hR2
      obtain ⟨n2, hn2⟩ : ∃ n_ : Nat, sumN (fun _ => 1) x.f2 = n_ := ⟨_, rfl⟩
      have HG := q_ hG
      have HP := q_ hP
      have HL := q_ (Like.refl wr)
      obtain ⟨K, hK⟩ : ∃ K : Int, a1 + (sumN nm_RNode (l0.take kk) : Nat) = K := ⟨_, rfl⟩
      have hmx : nm_RNode x = 1 + (sumN nm_Span x.f1 + (sumN (fun _ => 1) x.f2 + (1 + 1))) := rfl
      rw [hmx] at hcnt
      clear hmx
      rw [hn1, hn2] at hcnt
      have hK0 : 0 ≤ K := by omega
      have hK1 : K + 1 + (n1 : Int) + (n2 : Int) + 1 + 1 = a1 + (sumN nm_RNode (l0.take (kk + 1)) : Nat) := by omega
      have hK2 : K + 1 + (n1 : Int) + (n2 : Int) + 1 + 1 ≤ 9000000000000000000 := by omega
      rw [hK]
      clear hcc hM hG hP hv hm hR hcnt hcle hx0 hx1 hx2 hx3 hx4 hR1 hR2
      have qw0 : IntKind.i64.wrap (K + 1) = K + 1 := by rw [i64_w]; exact wrap_id (by omega) (by omega)
      have qw3 : IntKind.i64.wrap (K + 1 + (n1 : Int) + (n2 : Int) + 1) = K + 1 + (n1 : Int) + (n2 : Int) + 1 := by rw [i64_w]; exact wrap_id (by omega) (by omega)
      have qw4 : IntKind.i64.wrap (K + 1 + (n1 : Int) + (n2 : Int) + 1 + 1) = K + 1 + (n1 : Int) + (n2 : Int) + 1 + 1 := by rw [i64_w]; exact wrap_id (by omega) (by omega)
      have T1 : J0 True := ⟨trivial⟩
      have T2 : J0 True := ⟨trivial⟩
      have T3 : J0 True := ⟨trivial⟩
      have T4 : J0 True := ⟨trivial⟩
      have T5 : J0 True := ⟨trivial⟩
      obtain ⟨y0, hc0, hf0⟩ := like_int HL.o HG.o X0.o
      go_wp2_with (first | ((with_reducible refine gate_store (t := 2) (p := 16) rfl ?_); clear T1; refine store_event (t := 2) (p := 16) (v := ?vo_w10) (w1 := (wr.setCell ⟨g, kk * 5, none⟩ (.int .i64 (K)))) ?hg ?ho ?hn ?hr ?_; (case ho => rfl); (case hg => rfl); (case hn => rfl); (case hr => first | (go_simp; done) | (go_simp; rfl)); intro w10 hw; replace HL := q_ (show Like wr w10 from (by rw [hw]; exact Like.put_int HL.o HG.o X0.o)); replace HB2 := q_ (show Below w0.heap.size w0 w10 from (by rw [hw]; exact below_set HB2.o hgw)); replace HK := q_ (show Kept w w10 P_ from (by rw [hw]; exact Kept.setCell HK.o (.inl HP.out) _)); clear hw hc0 hf0; have hc1 := like_slice HL.o HG.o X1.o) | (go_at_call 12; clear T2; obtain ⟨ys, hRy, hmy⟩ := R_like keeps_Span HR1.o HL.o; refine (markSpanS_walk P_ _ ys (K + 1) n1 ((sumN_map _ _ _ hmy).trans hn1) (by omega) (by omega) w0 _ HB2.o hRy).mono ?_; rintro e w11 ⟨rfl, hL_, hB3, hK3⟩; replace HL := q_ (HL.o.trans hL_); replace HB2 := q_ hB3; replace HK := q_ (HK.o.then_ hK3 (fun k hk => .inl hk)); clear hRy hmy hL_ hB3 hK3 hc1; have hc2 := like_slice HL.o HG.o X2.o) | (go_at_call 106; clear T3; obtain ⟨ys, hRy, hmy⟩ := R_like (keeps_int .i64) HR2.o HL.o; refine (markInt64S_walk P_ _ ys (K + 1 + (n1 : Int)) n2 ((sumN_map _ _ _ hmy).trans hn2) (by omega) (by omega) w0 _ HB2.o hRy).mono ?_; rintro e w12 ⟨rfl, hL_, hB3, hK3⟩; replace HL := q_ (HL.o.trans hL_); replace HB2 := q_ hB3; replace HK := q_ (HK.o.then_ hK3 (fun k hk => .inl hk)); clear hRy hmy hL_ hB3 hK3 hc2; obtain ⟨y3, hc3, hf3⟩ := like_int HL.o HG.o X3.o) | ((with_reducible refine gate_store (t := 2) (p := 37) rfl ?_); clear T4; refine store_event (t := 2) (p := 37) (v := ?vo_w13) (w1 := (w12.setCell ⟨g, kk * 5 + 3, none⟩ (.int .i64 (K + 1 + (n1 : Int) + (n2 : Int))))) ?hg ?ho ?hn ?hr ?_; (case ho => rfl); (case hg => rfl); (case hn => rfl); (case hr => first | (go_simp; done) | (go_simp; rfl)); intro w13 hw; replace HL := q_ (show Like wr w13 from (by rw [hw]; exact Like.put_int HL.o HG.o X3.o)); replace HB2 := q_ (show Below w0.heap.size w0 w13 from (by rw [hw]; exact below_set HB2.o hgw)); replace HK := q_ (show Kept w w13 P_ from (by rw [hw]; exact Kept.setCell HK.o (.inl HP.out) _)); clear hw hc3 hf3; obtain ⟨y4, hc4, hf4⟩ := like_int HL.o HG.o X4.o) | ((with_reducible refine gate_store (t := 2) (p := 44) rfl ?_); clear T5; refine store_event (t := 2) (p := 44) (v := ?vo_w14) (w1 := (w13.setCell ⟨g, kk * 5 + 4, none⟩ (.int .i64 (K + 1 + (n1 : Int) + (n2 : Int) + 1)))) ?hg ?ho ?hn ?hr ?_; (case ho => rfl); (case hg => rfl); (case hn => rfl); (case hr => first | (go_simp; done) | (go_simp; rfl)); intro w14 hw; replace HL := q_ (show Like wr w14 from (by rw [hw]; exact Like.put_int HL.o HG.o X4.o)); replace HB2 := q_ (show Below w0.heap.size w0 w14 from (by rw [hw]; exact below_set HB2.o hgw)); replace HK := q_ (show Kept w w14 P_ from (by rw [hw]; exact Kept.setCell HK.o (.inl HP.out) _)); clear hw hc4 hf4))
      go_roundg (l0.length - (kk + 1))
      case measure => omega
      case rel => exact ⟨kk + 1, by omega, by omega, by (first | (congr 1; omega) | (congr 1; done) | (congr 2; omega)), by go_num, ⟨HW.o.trans HL.o⟩, ⟨HB2.o⟩, ⟨HK.o⟩⟩
    · have hltz : ¬ (kk : Int) < (l0.length : Int) := by omega
      have hk : kk = l0.length := by omega
      subst hk
      rw [List.take_length, hn]
      go_wp2
      go_ret
      exact ⟨rfl, HW.o, HB2.o, HK.o⟩
end Go.Proofs.YtijmhelacmjggaaGreat.P
namespace Go.Proofs.YtijmhelacmjggaaGreat.P
open Go.RowKit Go.Proofs.YtijmhelacmjggaaGreatW.PrintWords Go.Proofs.YtijmhelacmjggaaGreatW.PrintLast Go.Proofs.YtijmhelacmjggaaGreatW.PrintMore
attribute [local go_sem] max2_int min2_int max_two min_two max_three min_three max_four min_four
set_option linter.unusedVariables false
set_option linter.unusedSimpArgs false
/-! ### laws_markText: function 64 -/
def laws_markText.l0 : Nat → Int → ByteArray → Option (ByteArray)
 | 0, _, _ => none
 | k + 1, x0, x3 => if x0 > 0 then ((some (([(wrap64 (48 + (Int.tmod x0 10))) % 256] : List Int) : List Int)).bind fun y101 => (if (strOfNums y101).size + x3.size ≤ 9223372036854775807 then (laws_markText.l0 k (wrap64 (Int.tdiv x0 10)) ((strOfNums y101) ++ x3)) else (none))) else (if 1 + x3.size ≤ 9223372036854775807 then (some ((⟨#[109]⟩ : ByteArray) ++ x3)) else (none))
def laws_markText.f (k : Nat) (a0 : Int) : Option (ByteArray) := if a0 ≤ 0 then (some (⟨#[109, 48]⟩ : ByteArray)) else (laws_markText.l0 k a0 (⟨#[]⟩ : ByteArray))
theorem laws_markText.calls (k : Nat) (a0 : Int) (r : ByteArray) (w : World) (h : laws_markText.f k a0 = some r) :
  Calls Tryz.prog 64 #[.int .i64 a0] w fun e w' => e = .returned (.string r) ∧ Below w.heap.size w w' := by
 have HB := q_ (Below.refl w.heap.size w)
 have H : (if a0 ≤ 0 then (some (⟨#[109, 48]⟩ : ByteArray)) else (laws_markText.l0 k a0 (⟨#[]⟩ : ByteArray))) = some r := h
 clear h
 by_cases c2 : a0 ≤ 0
 ·rw [if_pos c2] at H; have c2b0 := dt_ c2; clear c2; obtain rfl := Option.some.inj H
  go_enter Tryz.func64, Tryz.ntmps64
  go_wp2
  go_ret
  exact ⟨rt_, be_ HB.o⟩
 ·rw [if_neg c2] at H; have c2b0 := df_ c2; clear c2
  have H' := q_ H
  clear H
  go_enter Tryz.func64, Tryz.ntmps64
  go_wp2
  go_loopg [0, 3] k (fun kq v0 v3 w' => ∃ (x0_1 : Int) (x3_1 : ByteArray), v0 = .int .i64 x0_1 ∧ v3 = .string x3_1 ∧ J0 (laws_markText.l0 kq x0_1 x3_1 = some r) ∧ J0 (kq ≤ k) ∧ J0 (Below w.heap.size w w'))
  case atStart => exact ⟨(a0), ((⟨#[]⟩ : ByteArray)), rs_, rs_, H', ⟨Nat.le_refl _⟩, ⟨be_ HB.o⟩⟩
  case round =>
   clear H'; (try clear c2); (try clear c2b0); obtain ⟨x0_1, x3_1, rfl, rfl, HA, HK1, HB⟩ := hrel
   cases gk with
   | zero => exact absurd HA.o (by simp [laws_markText.l0])
   | succ k1 =>
    have H := HA.o; clear HA
    simp only [laws_markText.l0] at H
    by_cases c3 : x0_1 > 0
    ·rw [if_pos c3] at H
     have c3b0 : decide (0 < x0_1) = true := dt_ c3
     clear c3
     obtain ⟨y101, hy101⟩ : ∃ y_ : List Int, y_ = (([(wrap64 (48 + (Int.tmod x0_1 10))) % 256] : List Int)) := ⟨_, rfl⟩
     replace H : (if (strOfNums y101).size + x3_1.size ≤ 9223372036854775807 then (laws_markText.l0 k1 (wrap64 (Int.tdiv x0_1 10)) ((strOfNums y101) ++ x3_1)) else (none)) = some r := by first | (rw [hy101]; with_reducible exact H) | (have H2_ := (Option.bind_some _ _).symm.trans H; rw [hy101]; with_reducible exact H2_) | (have H2_ := (Option.bind_some _ _).symm.trans H; with_reducible exact H2_) | with_reducible exact H | (rw [hy101]; exact H) | exact H
     have Ny101 := q_ hy101; clear hy101
     by_cases c4 : (strOfNums y101).size + x3_1.size ≤ 9223372036854775807
     ·rw [if_pos c4] at H; have c4b0 := eq_true c4; have c4b1 := dt_ c4
      try have c4b2 : (9223372036854775807 < (strOfNums y101).size + x3_1.size) = False := eq_false (Nat.not_lt.2 c4)
      have H' := q_ H
      clear H
      go_wp2_with (first | ((with_reducible refine gate_dst (N := 12) rfl ?_); refine Kd.R_lit (Kd.int .u8) _ 5 ?hg (N := 12) ?hd (xs := ([(wrap64 (48 + (Int.tmod x0_1 10))) % 256] : List Int)) (inner := [.int .u8 ((wrap64 (48 + (Int.tmod x0_1 10))) % 256)]) (ok := fun _ => True) (okp := fun _ => True) ?hr ?hp (fun _ hk => hk) trivial (Below.refl _ _) (Nat.le_refl _) (by simp) ?_; (case hd => rfl); (case hg => rfl); (case hr => first | (go_simp; done) | (go_simp; rfl)); (case hp => exact (Reps.one (show Kd.M (Kd.int .u8) _ _ _ ((wrap64 (48 + (Int.tmod x0_1 10))) % 256) [.int .u8 ((wrap64 (48 + (Int.tmod x0_1 10))) % 256)] from rfl) (Reps.none _ _))); intro v102 w5 ho6 hb hg_ hnew_; clear hg_ hnew_; (first | rw [← Ny101.o] at ho6 | (simp only [Int.reduceToNat] at ho6; rw [← Ny101.o] at ho6)); have HO103 := q_ (Kd.R_lower ho6 (below_size (be_ HB.o))); replace HB := sb_ HB hb; clear hb ho6; have hcv7 := own_string (P := Tryz.prog) Tryz.underlying131 Tryz.underlying5 Tryz.underlying9 (Kd.own_of_R HO103.o)))
      go_roundg k1
      case measure => have := HK1.o; omega
      case rel => exact ⟨(wrap64 (Int.tdiv x0_1 10)), ((strOfNums y101) ++ x3_1), rs_, rs_, H', ⟨by have := HK1.o; omega⟩, ⟨be_ HB.o⟩⟩
     ·rw [if_neg c4] at H
      exact absurd H (by simp)
    ·rw [if_neg c3] at H
     have c3b0 : decide (0 < x0_1) = false := df_ c3
     clear c3
     by_cases c8 : 1 + x3_1.size ≤ 9223372036854775807
     ·rw [if_pos c8] at H; have c8b0 := eq_true c8; have c8b1 := dt_ c8
      try have c8b2 : (9223372036854775807 < 1 + x3_1.size) = False := eq_false (Nat.not_lt.2 c8)
      obtain rfl := Option.some.inj H
      go_wp2
      go_ret
      exact ⟨rt_, be_ HB.o⟩
     ·rw [if_neg c8] at H
      exact absurd H (by simp)
end Go.Proofs.YtijmhelacmjggaaGreat.P
namespace Go.Proofs.YtijmhelacmjggaaGreat.P
open Go.RowKit Go.Proofs.YtijmhelacmjggaaGreatW.PrintWords Go.Proofs.YtijmhelacmjggaaGreatW.PrintLast Go.Proofs.YtijmhelacmjggaaGreatEv
set_option linter.unusedVariables false
set_option linter.unusedSimpArgs false
theorem strOfNums_one (x : Int) : (strOfNums [x]).size = 1 := rfl
theorem markText_l0 : ∀ (n : Nat) (a : Int) (s : ByteArray), 0 ≤ a → a < 10 ^ n → a ≤ 9223372036854775807 → s.size + n ≤ 1000 → ∃ r, Ev (fun k => laws_markText.l0 k a s) r := by
  intro n
  induction n with
  | zero =>
    intro a s h0 h1 _ hs
    have ha : a = 0 := by simp at h1; omega
    subst ha
    refine ⟨(⟨#[109]⟩ : ByteArray) ++ s, ?_⟩
    rw [ev_succ]
    simp only [laws_markText.l0, ev_ite]
    rw [if_neg (by omega), if_pos (by omega)]
    exact ev_some.2 rfl
  | succ n ih =>
    intro a s h0 h1 h2 hs
    by_cases ha : a > 0
    · have hd : Int.tdiv a 10 = a / 10 := Int.tdiv_eq_ediv_of_nonneg h0
      obtain ⟨r, hr⟩ := ih (a / 10) (strOfNums [(wrap64 (48 + (Int.tmod a 10))) % 256] ++ s) (by omega) (by rw [Int.pow_succ] at h1; omega) (by omega) (by rw [ByteArray.size_append, strOfNums_one]; omega)
      refine ⟨r, ?_⟩
      rw [ev_succ]
      simp only [laws_markText.l0, ev_ite, Option.bind_some]
      rw [if_pos ha, strOfNums_one, if_pos (by omega), hd, wrap_id (by omega) (by omega)]
      exact hr
    · refine ⟨(⟨#[109]⟩ : ByteArray) ++ s, ?_⟩
      rw [ev_succ]
      simp only [laws_markText.l0, ev_ite]
      rw [if_neg ha, if_pos (by omega)]
      exact ev_some.2 rfl
theorem markText_ev (a : Int) (h0 : 0 ≤ a) (h1 : a ≤ 9000000000000000000) : ∃ r, Ev (fun k => laws_markText.f k a) r := by
  unfold laws_markText.f
  by_cases ha : a ≤ 0
  · exact ⟨_, by rw [ev_ite, if_pos ha]; exact ev_some.2 rfl⟩
  · obtain ⟨r, hr⟩ := markText_l0 19 a ⟨#[]⟩ h0 (by omega) (by omega) (by decide)
    exact ⟨r, by rw [ev_ite, if_neg ha]; exact hr⟩
theorem markText_ok (a : Int) (h0 : 0 ≤ a) (h1 : a ≤ 9000000000000000000) : ∃ k s, laws_markText.f k a = some s := by
  obtain ⟨r, hr⟩ := markText_ev a h0 h1
  obtain ⟨k, hk⟩ := ev_get hr
  exact ⟨k, r, hk⟩
end Go.Proofs.YtijmhelacmjggaaGreat.P
namespace Go.Proofs.YtijmhelacmjggaaGreat.P
set_option linter.unusedVariables false
set_option linter.unusedSimpArgs false
open Go.RowKit Go.Proofs.YtijmhelacmjggaaGreatW.PrintWords Go.Proofs.YtijmhelacmjggaaGreatW.PrintLast Go.Proofs.YtijmhelacmjggaaGreatW.PrintMore Go.Proofs.YtijmhelacmjggaaGreatEv
def nm_Rule (x : S64) : Nat := 1 + (sumN nm_RNode x.f1.f0 + (1 + (1 + 1)))
theorem one_Rule (x : S64) : 1 ≤ nm_Rule x := by
  unfold nm_Rule
  omega
theorem keeps_Rule : Keeps k64 nm_Rule := keeps_iso (keeps_pair keeps_string (keeps_pair (keeps_iso (keeps_slice keeps_RNode _) (fun x : S58 => x.f0) (fun y => ⟨y⟩) (fun _ => rfl)) (keeps_pair keeps_bool (keeps_pair (keeps_int _) keeps_string)))) _ (fun y => ⟨y.1, y.2.1, y.2.2.1, y.2.2.2.1, y.2.2.2.2⟩) (fun _ => rfl)
theorem markRuleS_walk (P_ : Nat → Prop) (u : Value) (l0 : List S64) (a1 : Int) (n : Nat) (hn : sumN nm_Rule l0 = n) (h0 : 0 ≤ a1) (h1 : a1 + n ≤ 9000000000000000000) (w0 w : World) (hB : Below w0.heap.size w0 w) (ho0 : Kd.R k64 64 w w0.heap.size P_ u l0) :
    Calls Tryz.prog 65 #[u, .int .i64 a1] w fun e w' => e = .returned (.int .i64 (a1 + n)) ∧ Like w w' ∧ Below w0.heap.size w0 w' ∧ Kept w w' P_ := by
  have hlen := sumN_len nm_Rule one_Rule l0
  obtain ⟨A, c, rfl⟩ := Kd.R_slice ho0
  have HO := q_ ho0
  have HB := q_ hB
  clear ho0 hB
  go_enter Tryz.func65, Tryz.ntmps65
  go_wp2
  go_loopg [1, 5] l0.length (fun gg v1 v5 w' => ∃ kk : Nat, kk ≤ l0.length ∧ l0.length - kk ≤ gg ∧ v1 = .int .i64 (a1 + (sumN nm_Rule (l0.take kk) : Nat)) ∧ v5 = .int .i64 kk ∧ J0 (Like w w') ∧ J0 (Below w0.heap.size w0 w') ∧ J0 (Kept w w' P_))
  case atStart => exact ⟨0, Nat.zero_le _, by omega, by simp [sumN], rfl, ⟨Like.refl _⟩, HB, ⟨Kept.refl _ _⟩⟩
  case round =>
    obtain ⟨kk, hkk, hg, rfl, rfl, HW, HB2, HK⟩ := hrel
    clear HB
    by_cases hlt : kk < l0.length
    · have hltz : (kk : Int) < (l0.length : Int) := by omega
      obtain ⟨ls, hR, hm⟩ := R_like keeps_Rule HO.o HW.o
      have hlen2 : ls.length = l0.length := by simpa using congrArg List.length hm
      obtain ⟨g, cap, hv, hgw, _, _⟩ := Kd.R_form hR (by omega)
      have hA : A = some ⟨g, 0, none⟩ := by injection hv
      subst hA
      obtain ⟨cs, cur, hM, hcc, hG, hP, _⟩ := R_at hR kk (by omega)
      have hmk : nm_Rule ls[kk] = nm_Rule l0[kk] := by
        have := congrArg (fun q => q[kk]?) hm
        simp only [List.getElem?_map] at this
        rw [List.getElem?_eq_getElem (by omega), List.getElem?_eq_getElem hlt] at this
        simpa using this
      have hcnt := sumN_take nm_Rule l0 kk hlt
      have hcle := sumN_le nm_Rule l0 (kk + 1)
      rw [← hmk] at hcnt
      obtain ⟨x, hxe⟩ : ∃ x, x = ls[kk] := ⟨_, rfl⟩
      rw [← hxe] at hM hcnt
      clear hxe hmk
      obtain ⟨v1, rfl, hR1⟩ := k64_openM hM
      obtain ⟨A1, c1, rfl⟩ := Kd.R_slice hR1
      have hx0 : wr.cell? ⟨g, kk * 5, none⟩ = some (.string x.f0) := hcc 0 _ rfl
      have hx1 : wr.cell? ⟨g, kk * 5 + 1, none⟩ = some (.slice A1 x.f1.f0.length c1) := hcc 1 _ rfl
      have hx2 : wr.cell? ⟨g, kk * 5 + 2, none⟩ = some (.bool x.f2) := hcc 2 _ rfl
      have hx3 : wr.cell? ⟨g, kk * 5 + 3, none⟩ = some (.int .i64 x.f3) := hcc 3 _ rfl
      have hx4 : wr.cell? ⟨g, kk * 5 + 4, none⟩ = some (.string x.f4) := hcc 4 _ rfl
      have X0 := q_ hx0
      have X1 := q_ hx1
      have X2 := q_ hx2
      have X3 := q_ hx3
      have X4 := q_ hx4
      have HR1 := q_ hR1
      obtain ⟨n1, hn1⟩ : ∃ n_ : Nat, sumN nm_RNode x.f1.f0 = n_ := ⟨_, rfl⟩
      have HG := q_ hG
      have HP := q_ hP
      have HL := q_ (Like.refl wr)
      obtain ⟨K, hK⟩ : ∃ K : Int, a1 + (sumN nm_Rule (l0.take kk) : Nat) = K := ⟨_, rfl⟩
      have hmx : nm_Rule x = 1 + (sumN nm_RNode x.f1.f0 + (1 + (1 + 1))) := rfl
      rw [hmx] at hcnt
      clear hmx
      rw [hn1] at hcnt
      have hK0 : 0 ≤ K := by omega
      have hK1 : K + 1 + (n1 : Int) + 1 + 1 + 1 = a1 + (sumN nm_Rule (l0.take (kk + 1)) : Nat) := by omega
      have hK2 : K + 1 + (n1 : Int) + 1 + 1 + 1 ≤ 9000000000000000000 := by omega
      rw [hK]
      clear hcc hM hG hP hv hm hR hcnt hcle hx0 hx1 hx2 hx3 hx4 hR1
      have qw0 : IntKind.i64.wrap (K + 1) = K + 1 := by rw [i64_w]; exact wrap_id (by omega) (by omega)
      have qw2 : IntKind.i64.wrap (K + 1 + (n1 : Int) + 1) = K + 1 + (n1 : Int) + 1 := by rw [i64_w]; exact wrap_id (by omega) (by omega)
      have qw3 : IntKind.i64.wrap (K + 1 + (n1 : Int) + 1 + 1) = K + 1 + (n1 : Int) + 1 + 1 := by rw [i64_w]; exact wrap_id (by omega) (by omega)
      have qw4 : IntKind.i64.wrap (K + 1 + (n1 : Int) + 1 + 1 + 1) = K + 1 + (n1 : Int) + 1 + 1 + 1 := by rw [i64_w]; exact wrap_id (by omega) (by omega)
      obtain ⟨kt0, st0, ht0⟩ := markText_ok (K) (by omega) (by omega)
      have HT0 := q_ ht0
      clear ht0
      obtain ⟨kt4, st4, ht4⟩ := markText_ok (K + 1 + (n1 : Int) + 1 + 1) (by omega) (by omega)
      have HT4 := q_ ht4
      clear ht4
      have T1 : J0 True := ⟨trivial⟩
      have T2 : J0 True := ⟨trivial⟩
      have T3 : J0 True := ⟨trivial⟩
      have T4 : J0 True := ⟨trivial⟩
      have T5 : J0 True := ⟨trivial⟩
      have T6 : J0 True := ⟨trivial⟩
      have T7 : J0 True := ⟨trivial⟩
      go_wp2_with (first | (go_at_call 64; clear T1; refine (laws_markText.calls kt0 (K) st0 _ HT0.o).mono ?_; rintro e w10 ⟨rfl, hb⟩; replace HL := q_ (HL.o.below hb); replace HB2 := q_ (below_step HB2.o hb); replace HK := q_ (HK.o.below hb); clear hb; obtain ⟨y0, hc0, hf0⟩ := like_string HL.o HG.o X0.o) | ((with_reducible refine gate_store (t := 9) (p := 17) rfl ?_); clear T2; refine store_event (t := 9) (p := 17) (v := ?vo_w11) (w1 := (w10.setCell ⟨g, kk * 5, none⟩ (.string st0))) ?hg ?ho ?hn ?hr ?_; (case ho => rfl); (case hg => rfl); (case hn => rfl); (case hr => first | (go_simp; done) | (go_simp; rfl)); intro w11 hw; replace HL := q_ (show Like wr w11 from (by rw [hw]; exact Like.put_string HL.o HG.o X0.o)); replace HB2 := q_ (show Below w0.heap.size w0 w11 from (by rw [hw]; exact below_set HB2.o hgw)); replace HK := q_ (show Kept w w11 P_ from (by rw [hw]; exact Kept.setCell HK.o (.inl HP.out) _)); clear hw hc0 hf0; have hc1 := like_slice HL.o HG.o X1.o) | (go_at_call 89; clear T3; obtain ⟨ys, hRy, hmy⟩ := R_like keeps_RNode HR1.o HL.o; refine (markRNodeS_walk P_ _ ys (K + 1) n1 ((sumN_map _ _ _ hmy).trans hn1) (by omega) (by omega) w0 _ HB2.o hRy).mono ?_; rintro e w12 ⟨rfl, hL_, hB3, hK3⟩; replace HL := q_ (HL.o.trans hL_); replace HB2 := q_ hB3; replace HK := q_ (HK.o.then_ hK3 (fun k hk => .inl hk)); clear hRy hmy hL_ hB3 hK3 hc1; obtain ⟨y2, hc2, hf2⟩ := like_bool HL.o HG.o X2.o) | ((with_reducible refine gate_store (t := 4) (p := 34) rfl ?_); clear T4; refine store_event (t := 4) (p := 34) (v := ?vo_w13) (w1 := ?w1q) ?hg ?ho ?hn ?hr ?_; (case ho => rfl); (case hg => rfl); (case hn => rfl); (case hr => first | (go_simp; done) | (go_simp; rfl)); intro w13 hw; replace HL := q_ (show Like wr w13 from (by rw [hw]; exact Like.put_bool HL.o HG.o X2.o)); replace HB2 := q_ (show Below w0.heap.size w0 w13 from (by rw [hw]; exact below_set HB2.o hgw)); replace HK := q_ (show Kept w w13 P_ from (by rw [hw]; exact Kept.setCell HK.o (.inl HP.out) _)); clear hw hc2 hf2; obtain ⟨y3, hc3, hf3⟩ := like_int HL.o HG.o X3.o) | ((with_reducible refine gate_store (t := 2) (p := 41) rfl ?_); clear T5; refine store_event (t := 2) (p := 41) (v := ?vo_w14) (w1 := (w13.setCell ⟨g, kk * 5 + 3, none⟩ (.int .i64 (K + 1 + (n1 : Int) + 1)))) ?hg ?ho ?hn ?hr ?_; (case ho => rfl); (case hg => rfl); (case hn => rfl); (case hr => first | (go_simp; done) | (go_simp; rfl)); intro w14 hw; replace HL := q_ (show Like wr w14 from (by rw [hw]; exact Like.put_int HL.o HG.o X3.o)); replace HB2 := q_ (show Below w0.heap.size w0 w14 from (by rw [hw]; exact below_set HB2.o hgw)); replace HK := q_ (show Kept w w14 P_ from (by rw [hw]; exact Kept.setCell HK.o (.inl HP.out) _)); clear hw hc3 hf3) | (go_at_call 64; clear T6; refine (laws_markText.calls kt4 (K + 1 + (n1 : Int) + 1 + 1) st4 _ HT4.o).mono ?_; rintro e w15 ⟨rfl, hb⟩; replace HL := q_ (HL.o.below hb); replace HB2 := q_ (below_step HB2.o hb); replace HK := q_ (HK.o.below hb); clear hb; obtain ⟨y4, hc4, hf4⟩ := like_string HL.o HG.o X4.o) | ((with_reducible refine gate_store (t := 9) (p := 49) rfl ?_); clear T7; refine store_event (t := 9) (p := 49) (v := ?vo_w16) (w1 := (w15.setCell ⟨g, kk * 5 + 4, none⟩ (.string st4))) ?hg ?ho ?hn ?hr ?_; (case ho => rfl); (case hg => rfl); (case hn => rfl); (case hr => first | (go_simp; done) | (go_simp; rfl)); intro w16 hw; replace HL := q_ (show Like wr w16 from (by rw [hw]; exact Like.put_string HL.o HG.o X4.o)); replace HB2 := q_ (show Below w0.heap.size w0 w16 from (by rw [hw]; exact below_set HB2.o hgw)); replace HK := q_ (show Kept w w16 P_ from (by rw [hw]; exact Kept.setCell HK.o (.inl HP.out) _)); clear hw hc4 hf4))
      go_roundg (l0.length - (kk + 1))
      case measure => omega
      case rel => exact ⟨kk + 1, by omega, by omega, by (first | (congr 1; omega) | (congr 1; done) | (congr 2; omega)), by go_num, ⟨HW.o.trans HL.o⟩, ⟨HB2.o⟩, ⟨HK.o⟩⟩
    · have hltz : ¬ (kk : Int) < (l0.length : Int) := by omega
      have hk : kk = l0.length := by omega
      subst hk
      rw [List.take_length, hn]
      go_wp2
      go_ret
      exact ⟨rfl, HW.o, HB2.o, HK.o⟩
def nm_Mode (x : S62) : Nat := 1 + sumN nm_Rule x.f1
theorem one_Mode (x : S62) : 1 ≤ nm_Mode x := by
  unfold nm_Mode
  omega
theorem keeps_Mode : Keeps k62 nm_Mode := keeps_iso (keeps_pair keeps_string (keeps_slice keeps_Rule _)) _ (fun y => ⟨y.1, y.2⟩) (fun _ => rfl)
theorem markModeS_walk (P_ : Nat → Prop) (u : Value) (l0 : List S62) (a1 : Int) (n : Nat) (hn : sumN nm_Mode l0 = n) (h0 : 0 ≤ a1) (h1 : a1 + n ≤ 9000000000000000000) (w0 w : World) (hB : Below w0.heap.size w0 w) (ho0 : Kd.R k62 62 w w0.heap.size P_ u l0) :
    Calls Tryz.prog 35 #[u, .int .i64 a1] w fun e w' => e = .returned (.int .i64 (a1 + n)) ∧ Like w w' ∧ Below w0.heap.size w0 w' ∧ Kept w w' P_ := by
  have hlen := sumN_len nm_Mode one_Mode l0
  obtain ⟨A, c, rfl⟩ := Kd.R_slice ho0
  have HO := q_ ho0
  have HB := q_ hB
  clear ho0 hB
  go_enter Tryz.func35, Tryz.ntmps35
  go_wp2
  go_loopg [1, 5] l0.length (fun gg v1 v5 w' => ∃ kk : Nat, kk ≤ l0.length ∧ l0.length - kk ≤ gg ∧ v1 = .int .i64 (a1 + (sumN nm_Mode (l0.take kk) : Nat)) ∧ v5 = .int .i64 kk ∧ J0 (Like w w') ∧ J0 (Below w0.heap.size w0 w') ∧ J0 (Kept w w' P_))
  case atStart => exact ⟨0, Nat.zero_le _, by omega, by simp [sumN], rfl, ⟨Like.refl _⟩, HB, ⟨Kept.refl _ _⟩⟩
  case round =>
    obtain ⟨kk, hkk, hg, rfl, rfl, HW, HB2, HK⟩ := hrel
    clear HB
    by_cases hlt : kk < l0.length
    · have hltz : (kk : Int) < (l0.length : Int) := by omega
      obtain ⟨ls, hR, hm⟩ := R_like keeps_Mode HO.o HW.o
      have hlen2 : ls.length = l0.length := by simpa using congrArg List.length hm
      obtain ⟨g, cap, hv, hgw, _, _⟩ := Kd.R_form hR (by omega)
      have hA : A = some ⟨g, 0, none⟩ := by injection hv
      subst hA
      obtain ⟨cs, cur, hM, hcc, hG, hP, _⟩ := R_at hR kk (by omega)
      have hmk : nm_Mode ls[kk] = nm_Mode l0[kk] := by
        have := congrArg (fun q => q[kk]?) hm
        simp only [List.getElem?_map] at this
        rw [List.getElem?_eq_getElem (by omega), List.getElem?_eq_getElem hlt] at this
        simpa using this
      have hcnt := sumN_take nm_Mode l0 kk hlt
      have hcle := sumN_le nm_Mode l0 (kk + 1)
      rw [← hmk] at hcnt
      obtain ⟨x, hxe⟩ : ∃ x, x = ls[kk] := ⟨_, rfl⟩
      rw [← hxe] at hM hcnt
      clear hxe hmk
      obtain ⟨v1, rfl, hR1⟩ := k62_openM hM
      obtain ⟨A1, c1, rfl⟩ := Kd.R_slice hR1
      have hx0 : wr.cell? ⟨g, kk * 2, none⟩ = some (.string x.f0) := hcc 0 _ rfl
      have hx1 : wr.cell? ⟨g, kk * 2 + 1, none⟩ = some (.slice A1 x.f1.length c1) := hcc 1 _ rfl
      have X0 := q_ hx0
      have X1 := q_ hx1
      have HR1 := q_ hR1
      obtain ⟨n1, hn1⟩ : ∃ n_ : Nat, sumN nm_Rule x.f1 = n_ := ⟨_, rfl⟩
      have HG := q_ hG
      have HP := q_ hP
      have HL := q_ (Like.refl wr)
      obtain ⟨K, hK⟩ : ∃ K : Int, a1 + (sumN nm_Mode (l0.take kk) : Nat) = K := ⟨_, rfl⟩
      have hmx : nm_Mode x = 1 + sumN nm_Rule x.f1 := rfl
      rw [hmx] at hcnt
      clear hmx
      rw [hn1] at hcnt
      have hK0 : 0 ≤ K := by omega
      have hK1 : K + 1 + (n1 : Int) = a1 + (sumN nm_Mode (l0.take (kk + 1)) : Nat) := by omega
      have hK2 : K + 1 + (n1 : Int) ≤ 9000000000000000000 := by omega
      rw [hK]
      clear hcc hM hG hP hv hm hR hcnt hcle hx0 hx1 hR1
      have qw0 : IntKind.i64.wrap (K + 1) = K + 1 := by rw [i64_w]; exact wrap_id (by omega) (by omega)
      obtain ⟨kt0, st0, ht0⟩ := markText_ok (K) (by omega) (by omega)
      have HT0 := q_ ht0
      clear ht0
      have T1 : J0 True := ⟨trivial⟩
      have T2 : J0 True := ⟨trivial⟩
      have T3 : J0 True := ⟨trivial⟩
      go_wp2_with (first | (go_at_call 64; clear T1; refine (laws_markText.calls kt0 (K) st0 _ HT0.o).mono ?_; rintro e w10 ⟨rfl, hb⟩; replace HL := q_ (HL.o.below hb); replace HB2 := q_ (below_step HB2.o hb); replace HK := q_ (HK.o.below hb); clear hb; obtain ⟨y0, hc0, hf0⟩ := like_string HL.o HG.o X0.o) | ((with_reducible refine gate_store (t := 9) (p := 17) rfl ?_); clear T2; refine store_event (t := 9) (p := 17) (v := ?vo_w11) (w1 := (w10.setCell ⟨g, kk * 2, none⟩ (.string st0))) ?hg ?ho ?hn ?hr ?_; (case ho => rfl); (case hg => rfl); (case hn => rfl); (case hr => first | (go_simp; done) | (go_simp; rfl)); intro w11 hw; replace HL := q_ (show Like wr w11 from (by rw [hw]; exact Like.put_string HL.o HG.o X0.o)); replace HB2 := q_ (show Below w0.heap.size w0 w11 from (by rw [hw]; exact below_set HB2.o hgw)); replace HK := q_ (show Kept w w11 P_ from (by rw [hw]; exact Kept.setCell HK.o (.inl HP.out) _)); clear hw hc0 hf0; have hc1 := like_slice HL.o HG.o X1.o) | (go_at_call 65; clear T3; obtain ⟨ys, hRy, hmy⟩ := R_like keeps_Rule HR1.o HL.o; refine (markRuleS_walk P_ _ ys (K + 1) n1 ((sumN_map _ _ _ hmy).trans hn1) (by omega) (by omega) w0 _ HB2.o hRy).mono ?_; rintro e w12 ⟨rfl, hL_, hB3, hK3⟩; replace HL := q_ (HL.o.trans hL_); replace HB2 := q_ hB3; replace HK := q_ (HK.o.then_ hK3 (fun k hk => .inl hk)); clear hRy hmy hL_ hB3 hK3 hc1))
      go_roundg (l0.length - (kk + 1))
      case measure => omega
      case rel => exact ⟨kk + 1, by omega, by omega, by (first | (congr 1; omega) | (congr 1; done) | (congr 2; omega)), by go_num, ⟨HW.o.trans HL.o⟩, ⟨HB2.o⟩, ⟨HK.o⟩⟩
    · have hltz : ¬ (kk : Int) < (l0.length : Int) := by omega
      have hk : kk = l0.length := by omega
      subst hk
      rw [List.take_length, hn]
      go_wp2
      go_ret
      exact ⟨rfl, HW.o, HB2.o, HK.o⟩
end Go.Proofs.YtijmhelacmjggaaGreat.P
namespace Go.Proofs.YtijmhelacmjggaaGreat.P
set_option linter.unusedVariables false
open Go.RowKit Go.Proofs.YtijmhelacmjggaaGreatW.PrintWords Go.Proofs.YtijmhelacmjggaaGreatW.PrintLast Go.Proofs.YtijmhelacmjggaaGreatW.PrintMore Go.Proofs.YtijmhelacmjggaaGreatEv
theorem markGrammar_walk (P_ : Nat → Prop) (A : Option Addr) (q c : Nat) (l0 : List S62) (a1 : Int) (n : Nat) (hn : sumN nm_Mode l0 = n) (h0 : 0 ≤ a1) (h1 : a1 + n ≤ 9000000000000000000) (w0 w : World) (hB : Below w0.heap.size w0 w) (ho0 : Kd.R k62 62 w w0.heap.size P_ (.slice A q c) l0) :
    Calls Tryz.prog 11 #[.agg #[.slice A q c], .int .i64 a1] w fun e w' => e = .returned (.int .i64 (a1 + n)) ∧ Below w0.heap.size w0 w' ∧ Kept w w' P_ := by
  have HO := q_ ho0
  have HB := q_ hB
  clear ho0 hB
  go_enter Tryz.func11, Tryz.ntmps11
  go_wp2_with fail
  refine (markModeS_walk P_ _ l0 a1 n hn h0 h1 w0 _ ?hb ?ho).mono ?_
  case hb => repeat (first | exact HB.o | apply below_alloc | apply pw_below_drewN | apply below_drew1)
  case ho => (with_reducible repeat (first | apply Kd.R_alloc | apply Kd.R_drewN | apply Kd.R_drew)); exact HO.o
  rintro e w1 ⟨rfl, _, hB2, hK⟩
  have HB2 := q_ hB2
  have HK : J0 (Kept w w1 P_) := ⟨Kept.then_ (by repeat (first | exact Kept.refl _ _ | apply Kept.alloc | apply Kept.drewN | apply Kept.drew)) hK (fun k hk => .inl hk)⟩
  clear hB2 hK
  go_wp2_with fail
  go_ret
  exact ⟨rfl, HB2.o, HK.o⟩
end Go.Proofs.YtijmhelacmjggaaGreat.P
namespace Go.Proofs.YtijmhelacmjggaaGreat.P
set_option linter.unusedVariables false
set_option linter.unusedSimpArgs false
open Go.RowKit Go.Proofs.YtijmhelacmjggaaGreatW.PrintWords Go.Proofs.YtijmhelacmjggaaGreatW.PrintLast Go.Proofs.YtijmhelacmjggaaGreatW.PrintMore Go.Proofs.YtijmhelacmjggaaGreatEv
def nm_Token (x : S76) : Nat := 1 + (1 + (1 + (1 + (1 + 1))))
theorem one_Token (x : S76) : 1 ≤ nm_Token x := by
  unfold nm_Token
  omega
theorem keeps_Token : Keeps k76 nm_Token := keeps_iso (keeps_pair (keeps_int _) (keeps_pair (keeps_int _) (keeps_pair (keeps_int _) (keeps_pair (keeps_int _) (keeps_pair (keeps_int _) (keeps_int _)))))) _ (fun y => ⟨y.1, y.2.1, y.2.2.1, y.2.2.2.1, y.2.2.2.2.1, y.2.2.2.2.2⟩) (fun _ => rfl)
theorem sumN_token : ∀ l : List S76, sumN nm_Token l = 6 * l.length
  | [] => rfl
  | x :: xs => by simp only [sumN, sumN_token xs, List.length_cons, nm_Token]; omega
theorem markTokenS_walk (P_ : Nat → Prop) (u : Value) (l0 : List S76) (a1 : Int) (n : Nat) (hn : sumN nm_Token l0 = n) (h0 : 0 ≤ a1) (h1 : a1 + n ≤ 9000000000000000000) (w0 w : World) (hB : Below w0.heap.size w0 w) (ho0 : Kd.R k76 76 w w0.heap.size P_ u l0) :
    Calls Tryz.prog 20 #[u, .int .i64 a1] w fun e w' => e = .returned (.int .i64 (a1 + n)) ∧ Like w w' ∧ Below w0.heap.size w0 w' ∧ Kept w w' P_ := by
  have hlen := sumN_len nm_Token one_Token l0
  obtain ⟨A, c, rfl⟩ := Kd.R_slice ho0
  have HO := q_ ho0
  have HB := q_ hB
  clear ho0 hB
  go_enter Tryz.func20, Tryz.ntmps20
  go_wp2
  go_loopg [1, 5] l0.length (fun gg v1 v5 w' => ∃ kk : Nat, kk ≤ l0.length ∧ l0.length - kk ≤ gg ∧ v1 = .int .i64 (a1 + (sumN nm_Token (l0.take kk) : Nat)) ∧ v5 = .int .i64 kk ∧ J0 (Like w w') ∧ J0 (Below w0.heap.size w0 w') ∧ J0 (Kept w w' P_))
  case atStart => exact ⟨0, Nat.zero_le _, by omega, by simp [sumN], rfl, ⟨Like.refl _⟩, HB, ⟨Kept.refl _ _⟩⟩
  case round =>
    obtain ⟨kk, hkk, hg, rfl, rfl, HW, HB2, HK⟩ := hrel
    clear HB
    by_cases hlt : kk < l0.length
    · have hltz : (kk : Int) < (l0.length : Int) := by omega
      obtain ⟨ls, hR, hm⟩ := R_like keeps_Token HO.o HW.o
      have hlen2 : ls.length = l0.length := by simpa using congrArg List.length hm
      obtain ⟨g, cap, hv, hgw, _, _⟩ := Kd.R_form hR (by omega)
      have hA : A = some ⟨g, 0, none⟩ := by injection hv
      subst hA
      obtain ⟨cs, cur, hM, hcc, hG, hP, _⟩ := R_at hR kk (by omega)
      have hmk : nm_Token ls[kk] = nm_Token l0[kk] := by
        have := congrArg (fun q => q[kk]?) hm
        simp only [List.getElem?_map] at this
        rw [List.getElem?_eq_getElem (by omega), List.getElem?_eq_getElem hlt] at this
        simpa using this
      have hcnt := sumN_take nm_Token l0 kk hlt
      have hcle := sumN_le nm_Token l0 (kk + 1)
      rw [← hmk] at hcnt
      obtain ⟨x, hxe⟩ : ∃ x, x = ls[kk] := ⟨_, rfl⟩
      rw [← hxe] at hM hcnt
      clear hxe hmk
      obtain rfl := k76_openM hM
      have hx0 : wr.cell? ⟨g, kk * 6, none⟩ = some (.int .i64 x.f0) := hcc 0 _ rfl
      have hx1 : wr.cell? ⟨g, kk * 6 + 1, none⟩ = some (.int .i64 x.f1) := hcc 1 _ rfl
      have hx2 : wr.cell? ⟨g, kk * 6 + 2, none⟩ = some (.int .i64 x.f2) := hcc 2 _ rfl
      have hx3 : wr.cell? ⟨g, kk * 6 + 3, none⟩ = some (.int .i64 x.f3) := hcc 3 _ rfl
      have hx4 : wr.cell? ⟨g, kk * 6 + 4, none⟩ = some (.int .i64 x.f4) := hcc 4 _ rfl
      have hx5 : wr.cell? ⟨g, kk * 6 + 5, none⟩ = some (.int .i64 x.f5) := hcc 5 _ rfl
      have X0 := q_ hx0
      have X1 := q_ hx1
      have X2 := q_ hx2
      have X3 := q_ hx3
      have X4 := q_ hx4
      have X5 := q_ hx5
      have HG := q_ hG
      have HP := q_ hP
      have HL := q_ (Like.refl wr)
      obtain ⟨K, hK⟩ : ∃ K : Int, a1 + (sumN nm_Token (l0.take kk) : Nat) = K := ⟨_, rfl⟩
      have hmx : nm_Token x = 1 + (1 + (1 + (1 + (1 + 1)))) := rfl
      rw [hmx] at hcnt
      clear hmx
      have hK0 : 0 ≤ K := by omega
      have hK1 : K + 1 + 1 + 1 + 1 + 1 + 1 = a1 + (sumN nm_Token (l0.take (kk + 1)) : Nat) := by omega
      have hK2 : K + 1 + 1 + 1 + 1 + 1 + 1 ≤ 9000000000000000000 := by omega
      rw [hK]
      clear hcc hM hG hP hv hm hR hcnt hcle hx0 hx1 hx2 hx3 hx4 hx5
      have qw0 : IntKind.i64.wrap (K + 1) = K + 1 := by rw [i64_w]; exact wrap_id (by omega) (by omega)
      have qw1 : IntKind.i64.wrap (K + 1 + 1) = K + 1 + 1 := by rw [i64_w]; exact wrap_id (by omega) (by omega)
      have qw2 : IntKind.i64.wrap (K + 1 + 1 + 1) = K + 1 + 1 + 1 := by rw [i64_w]; exact wrap_id (by omega) (by omega)
      have qw3 : IntKind.i64.wrap (K + 1 + 1 + 1 + 1) = K + 1 + 1 + 1 + 1 := by rw [i64_w]; exact wrap_id (by omega) (by omega)
      have qw4 : IntKind.i64.wrap (K + 1 + 1 + 1 + 1 + 1) = K + 1 + 1 + 1 + 1 + 1 := by rw [i64_w]; exact wrap_id (by omega) (by omega)
      have qw5 : IntKind.i64.wrap (K + 1 + 1 + 1 + 1 + 1 + 1) = K + 1 + 1 + 1 + 1 + 1 + 1 := by rw [i64_w]; exact wrap_id (by omega) (by omega)
      have T1 : J0 True := ⟨trivial⟩
      have T2 : J0 True := ⟨trivial⟩
      have T3 : J0 True := ⟨trivial⟩
      have T4 : J0 True := ⟨trivial⟩
      have T5 : J0 True := ⟨trivial⟩
      have T6 : J0 True := ⟨trivial⟩
      obtain ⟨y0, hc0, hf0⟩ := like_int HL.o HG.o X0.o
      go_wp2_with (first | ((with_reducible refine gate_store (t := 2) (p := 16) rfl ?_); clear T1; refine store_event (t := 2) (p := 16) (v := ?vo_w10) (w1 := (wr.setCell ⟨g, kk * 6, none⟩ (.int .i64 (K)))) ?hg ?ho ?hn ?hr ?_; (case ho => rfl); (case hg => rfl); (case hn => rfl); (case hr => first | (go_simp; done) | (go_simp; rfl)); intro w10 hw; replace HL := q_ (show Like wr w10 from (by rw [hw]; exact Like.put_int HL.o HG.o X0.o)); replace HB2 := q_ (show Below w0.heap.size w0 w10 from (by rw [hw]; exact below_set HB2.o hgw)); replace HK := q_ (show Kept w w10 P_ from (by rw [hw]; exact Kept.setCell HK.o (.inl HP.out) _)); clear hw hc0 hf0; obtain ⟨y1, hc1, hf1⟩ := like_int HL.o HG.o X1.o) | ((with_reducible refine gate_store (t := 2) (p := 23) rfl ?_); clear T2; refine store_event (t := 2) (p := 23) (v := ?vo_w11) (w1 := (w10.setCell ⟨g, kk * 6 + 1, none⟩ (.int .i64 (K + 1)))) ?hg ?ho ?hn ?hr ?_; (case ho => rfl); (case hg => rfl); (case hn => rfl); (case hr => first | (go_simp; done) | (go_simp; rfl)); intro w11 hw; replace HL := q_ (show Like wr w11 from (by rw [hw]; exact Like.put_int HL.o HG.o X1.o)); replace HB2 := q_ (show Below w0.heap.size w0 w11 from (by rw [hw]; exact below_set HB2.o hgw)); replace HK := q_ (show Kept w w11 P_ from (by rw [hw]; exact Kept.setCell HK.o (.inl HP.out) _)); clear hw hc1 hf1; obtain ⟨y2, hc2, hf2⟩ := like_int HL.o HG.o X2.o) | ((with_reducible refine gate_store (t := 2) (p := 30) rfl ?_); clear T3; refine store_event (t := 2) (p := 30) (v := ?vo_w12) (w1 := (w11.setCell ⟨g, kk * 6 + 2, none⟩ (.int .i64 (K + 1 + 1)))) ?hg ?ho ?hn ?hr ?_; (case ho => rfl); (case hg => rfl); (case hn => rfl); (case hr => first | (go_simp; done) | (go_simp; rfl)); intro w12 hw; replace HL := q_ (show Like wr w12 from (by rw [hw]; exact Like.put_int HL.o HG.o X2.o)); replace HB2 := q_ (show Below w0.heap.size w0 w12 from (by rw [hw]; exact below_set HB2.o hgw)); replace HK := q_ (show Kept w w12 P_ from (by rw [hw]; exact Kept.setCell HK.o (.inl HP.out) _)); clear hw hc2 hf2; obtain ⟨y3, hc3, hf3⟩ := like_int HL.o HG.o X3.o) | ((with_reducible refine gate_store (t := 2) (p := 37) rfl ?_); clear T4; refine store_event (t := 2) (p := 37) (v := ?vo_w13) (w1 := (w12.setCell ⟨g, kk * 6 + 3, none⟩ (.int .i64 (K + 1 + 1 + 1)))) ?hg ?ho ?hn ?hr ?_; (case ho => rfl); (case hg => rfl); (case hn => rfl); (case hr => first | (go_simp; done) | (go_simp; rfl)); intro w13 hw; replace HL := q_ (show Like wr w13 from (by rw [hw]; exact Like.put_int HL.o HG.o X3.o)); replace HB2 := q_ (show Below w0.heap.size w0 w13 from (by rw [hw]; exact below_set HB2.o hgw)); replace HK := q_ (show Kept w w13 P_ from (by rw [hw]; exact Kept.setCell HK.o (.inl HP.out) _)); clear hw hc3 hf3; obtain ⟨y4, hc4, hf4⟩ := like_int HL.o HG.o X4.o) | ((with_reducible refine gate_store (t := 2) (p := 44) rfl ?_); clear T5; refine store_event (t := 2) (p := 44) (v := ?vo_w14) (w1 := (w13.setCell ⟨g, kk * 6 + 4, none⟩ (.int .i64 (K + 1 + 1 + 1 + 1)))) ?hg ?ho ?hn ?hr ?_; (case ho => rfl); (case hg => rfl); (case hn => rfl); (case hr => first | (go_simp; done) | (go_simp; rfl)); intro w14 hw; replace HL := q_ (show Like wr w14 from (by rw [hw]; exact Like.put_int HL.o HG.o X4.o)); replace HB2 := q_ (show Below w0.heap.size w0 w14 from (by rw [hw]; exact below_set HB2.o hgw)); replace HK := q_ (show Kept w w14 P_ from (by rw [hw]; exact Kept.setCell HK.o (.inl HP.out) _)); clear hw hc4 hf4; obtain ⟨y5, hc5, hf5⟩ := like_int HL.o HG.o X5.o) | ((with_reducible refine gate_store (t := 2) (p := 51) rfl ?_); clear T6; refine store_event (t := 2) (p := 51) (v := ?vo_w15) (w1 := (w14.setCell ⟨g, kk * 6 + 5, none⟩ (.int .i64 (K + 1 + 1 + 1 + 1 + 1)))) ?hg ?ho ?hn ?hr ?_; (case ho => rfl); (case hg => rfl); (case hn => rfl); (case hr => first | (go_simp; done) | (go_simp; rfl)); intro w15 hw; replace HL := q_ (show Like wr w15 from (by rw [hw]; exact Like.put_int HL.o HG.o X5.o)); replace HB2 := q_ (show Below w0.heap.size w0 w15 from (by rw [hw]; exact below_set HB2.o hgw)); replace HK := q_ (show Kept w w15 P_ from (by rw [hw]; exact Kept.setCell HK.o (.inl HP.out) _)); clear hw hc5 hf5))
      go_roundg (l0.length - (kk + 1))
      case measure => omega
      case rel => exact ⟨kk + 1, by omega, by omega, by (first | (congr 1; omega) | (congr 1; done) | (congr 2; omega)), by go_num, ⟨HW.o.trans HL.o⟩, ⟨HB2.o⟩, ⟨HK.o⟩⟩
    · have hltz : ¬ (kk : Int) < (l0.length : Int) := by omega
      have hk : kk = l0.length := by omega
      subst hk
      rw [List.take_length, hn]
      go_wp2
      go_ret
      exact ⟨rfl, HW.o, HB2.o, HK.o⟩
end Go.Proofs.YtijmhelacmjggaaGreat.P
namespace Go.Proofs.YtijmhelacmjggaaGreat.P
open Go.RowKit Go.Proofs.YtijmhelacmjggaaGreatW.PrintWords Go.Proofs.YtijmhelacmjggaaGreatW.PrintLast Go.Proofs.YtijmhelacmjggaaGreatEv
set_option linter.unusedVariables false
set_option linter.unusedSimpArgs false
theorem sumN_few {α β : Type} (m : β → Nat) (f : α → β) (v : α → Nat) (c : Nat) (h : ∀ x, m (f x) ≤ c + c * v x) : ∀ l : List α, sumN m (l.map f) ≤ c * (l.length + ws v l)
  | [] => by simp [sumN]
  | x :: xs => by
    have h1 := sumN_few m f v c h xs
    have h2 := h x
    simp only [List.map_cons, sumN, List.length_cons, ws]
    have e : c * (xs.length + 1 + (v x + ws v xs)) = c * (xs.length + ws v xs) + (c + c * v x) := by
      simp only [Nat.mul_add, Nat.mul_one]
      omega
    omega
theorem sumN_one {α : Type} : ∀ l : List α, sumN (fun _ => 1) l = l.length
  | [] => rfl
  | x :: xs => by simp only [sumN, sumN_one xs, List.length_cons]; omega
theorem sumN_span : ∀ l : List S67, sumN nm_Span l = 2 * l.length
  | [] => rfl
  | x :: xs => by simp only [sumN, sumN_span xs, List.length_cons, nm_Span]; omega
theorem nm_RNode_few (x : S168) : nm_RNode (cRNode x) ≤ 3 + 3 * wRNode x := by
  have e : nm_RNode (cRNode x) = 1 + (sumN nm_Span (x.f1.map cSpan) + (sumN (fun _ => 1) x.f2 + (1 + 1))) := rfl
  have e2 : wRNode x = x.f1.length + x.f2.length := rfl
  rw [e, e2, sumN_one, sumN_span, List.length_map]
  omega
theorem nm_Rule_few (x : S144) : nm_Rule (cRule x) ≤ 4 + 4 * wRule x := by
  have e : nm_Rule (cRule x) = 1 + (sumN nm_RNode (x.f1.f0.map cRNode) + (1 + (1 + 1))) := rfl
  have e2 : wRule x = x.f0.size + (x.f1.f0.length + ws wRNode x.f1.f0) + x.f4.size := rfl
  have h := sumN_few nm_RNode cRNode wRNode 3 nm_RNode_few x.f1.f0
  omega
theorem nm_Mode_few (x : S91) : nm_Mode (cMode x) ≤ 4 + 4 * wMode x := by
  have e : nm_Mode (cMode x) = 1 + sumN nm_Rule (x.f1.map cRule) := rfl
  have e2 : wMode x = x.f0.size + (x.f1.length + ws wRule x.f1) := rfl
  have h := sumN_few nm_Rule cRule wRule 4 nm_Rule_few x.f1
  omega
theorem nm_few (l : List S91) (h : l.length + ws wMode l ≤ 1048576) : sumN nm_Mode (l.map cMode) ≤ 4194304 := by
  have := sumN_few nm_Mode cMode wMode 4 nm_Mode_few l
  omega
end Go.Proofs.YtijmhelacmjggaaGreat.P
