/- The law FnExactGrammarOk holds for every call: part 6 of 6 of the proof (the row). Conditions: none beyond what the given row says. -/
import Derived.Test.YtijmhelacmjggaaMFnExactGrammarOk0
import Derived.Test.YtijmhelacmjggaaMFnExactGrammarOk2
import Derived.Test.YtijmhelacmjggaaMFnExactGrammarOk3
import Derived.Test.YtijmhelacmjggaaMFnExactGrammarOk4
import Derived.Test.YtijmhelacmjggaaMFnExactGrammarOk1
import Derived.ChangeSlices
import Derived.ChangeArms
import Derived.SizedLaws
import Derived.Test.YtijmhelacmjggaaRows
import Derived.WalkKit
import Derived.ProofKit
import Derived.OpenShut
import Derived.ShutString
import Derived.ChangeOld
import Derived.Below
-- Made by wip/gen/pp.py of this session over the kit's print of the loaded program: a function, and the contract of its walk. Lean checks it.
namespace Go.Proofs.Ytijmhelacmjggaa.P
open Go.RowKit Go.Proofs.YtijmhelacmjggaaW.PrintWords Go.Proofs.YtijmhelacmjggaaW.PrintLast Go.Proofs.YtijmhelacmjggaaW.PrintMore
attribute [local go_sem] max2_int min2_int max_two min_two max_three min_three max_four min_four   -- for this text's walks alone
set_option linter.unusedVariables false
set_option linter.unusedSimpArgs false

/-! ### impl_ruleOk: function 86 -/
def impl_ruleOk.j0 : Nat → Bool → List (S108) → ByteArray → List (S156) → Bool → Int → ByteArray → Option (Bool)
 | 0, _, _, _, _, _, _, _ => none
 | k + 1, x25, x102000, x103000, x103001, x103002, x103003, x103004 => if x25 = true then (some false) else ((impl_Rule_hasTarget.f x103000 x103001 x103002 x103003 x103004).bind fun t107 => (if t107 = true then ((impl_ModeAt.f x102000 x103004).bind fun t108 => (some (decide (t108 ≥ 0)))) else (some (x103004.toList == ([] : List UInt8)))))
def impl_ruleOk.f (k : Nat) (l0_0 : List (S108)) (a1_0 : ByteArray) (l1_1 : List (S156)) (a1_2 : Bool) (a1_3 : Int) (a1_4 : ByteArray) : Option (Bool) := (impl_isName.f k a1_0).bind fun t103 => (if t103 = true then ((impl_RxOk.f k l1_1).bind fun t104 => (if t104 = true then ((impl_Nullable.f k l1_1).bind fun t105 => (if t105 = true then (impl_ruleOk.j0 k true l0_0 a1_0 l1_1 a1_2 a1_3 a1_4) else ((impl_within.f a1_3 0 3).bind fun t106 => (impl_ruleOk.j0 k (!t106) l0_0 a1_0 l1_1 a1_2 a1_3 a1_4)))) else (impl_ruleOk.j0 k true l0_0 a1_0 l1_1 a1_2 a1_3 a1_4))) else (impl_ruleOk.j0 k true l0_0 a1_0 l1_1 a1_2 a1_3 a1_4))
theorem impl_ruleOk.mono_l : ∀ k, (∀ y0 y1 y2 y3 y4 y5 y6, LeO (impl_ruleOk.j0 k y0 y1 y2 y3 y4 y5 y6) (impl_ruleOk.j0 (k + 1) y0 y1 y2 y3 y4 y5 y6))
 | 0 => fun _ _ _ _ _ _ _ r h => by simp [impl_ruleOk.j0] at h
 | k + 1 => by
  have ih0 := impl_ruleOk.mono_l k
  ·intro y0 y1 y2 y3 y4 y5 y6
   unfold impl_ruleOk.j0
   repeat' first
   | (with_reducible exact ih0 _ _ _ _ _ _ _)
   | (with_reducible exact impl_Nullable.mono _ _)
   | (with_reducible exact impl_RxOk.mono _ _)
   | (with_reducible exact impl_isName.mono _ _)
   | (with_reducible exact LeO.refl _)
   | (with_reducible exact LeO.none _)
   | (with_reducible refine LeO.ite ?_ ?_)
   | (with_reducible refine LeO.bind ?_ (fun _ => ?_))
   | exact ih0 _ _ _ _ _ _ _
   | exact impl_Nullable.mono _ _
   | exact impl_RxOk.mono _ _
   | exact impl_isName.mono _ _
   | exact LeO.none _
   | refine LeO.ite ?_ ?_
   | refine LeO.bind ?_ (fun _ => ?_)
theorem impl_ruleOk.mono : ∀ a0 a1 a2 a3 a4 a5 k, LeO (impl_ruleOk.f k a0 a1 a2 a3 a4 a5) (impl_ruleOk.f (k + 1) a0 a1 a2 a3 a4 a5) := by
 intro a0 a1 a2 a3 a4 a5 k
 have ih0 := impl_ruleOk.mono_l k
 unfold impl_ruleOk.f
 repeat' first
   | (with_reducible exact ih0 _ _ _ _ _ _ _)
   | (with_reducible exact impl_Nullable.mono _ _)
   | (with_reducible exact impl_RxOk.mono _ _)
   | (with_reducible exact impl_isName.mono _ _)
   | (with_reducible exact LeO.refl _)
   | (with_reducible exact LeO.none _)
   | (with_reducible refine LeO.ite ?_ ?_)
   | (with_reducible refine LeO.bind ?_ (fun _ => ?_))
   | exact ih0 _ _ _ _ _ _ _
   | exact impl_Nullable.mono _ _
   | exact impl_RxOk.mono _ _
   | exact impl_isName.mono _ _
   | exact LeO.none _
   | refine LeO.ite ?_ ?_
   | refine LeO.bind ?_ (fun _ => ?_)
set_option maxHeartbeats 8000000 in
set_option maxRecDepth 100000 in
theorem impl_ruleOk.calls (k : Nat) (A0_0 : Option Addr) (c0_0 : Nat) (l0_0 : List (S108)) (a1_0 : ByteArray) (A1_1 : Option Addr) (c1_1 : Nat) (l1_1 : List (S156)) (a1_2 : Bool) (a1_3 : Int) (a1_4 : ByteArray) (r : Bool) (w : World) (hr0_0 : Kd.C k108 w A0_0 l0_0.length l0_0) (hc0_0 : l0_0.length ≤ c0_0) (hr1_1 : Kd.C k156 w A1_1 l1_1.length l1_1) (hc1_1 : l1_1.length ≤ c1_1) (h : impl_ruleOk.f k l0_0 a1_0 l1_1 a1_2 a1_3 a1_4 = some r) :
  Calls Try.prog 86 #[.agg #[.slice A0_0 l0_0.length c0_0], .agg #[.string a1_0, .slice A1_1 l1_1.length c1_1, .bool a1_2, .int .i64 a1_3, .string a1_4]] w fun e w' => e = .returned (.bool r) ∧ Below w.heap.size w w' := by
 have hu46 := Try.underlying46
 have hu113 := Try.underlying113
 have hu29 := Try.underlying29
 have HR0_0 := Aside0.mk hr0_0
 have HC0_0 := Aside0.mk hc0_0
 clear hr0_0 hc0_0
 have HR1_1 := Aside0.mk hr1_1
 have HC1_1 := Aside0.mk hc1_1
 clear hr1_1 hc1_1
 have HB := Aside0.mk (Below.refl w.heap.size w)
 have H : ((impl_isName.f k a1_0).bind fun t103 => (if t103 = true then ((impl_RxOk.f k l1_1).bind fun t104 => (if t104 = true then ((impl_Nullable.f k l1_1).bind fun t105 => (if t105 = true then (impl_ruleOk.j0 k true l0_0 a1_0 l1_1 a1_2 a1_3 a1_4) else ((impl_within.f a1_3 0 3).bind fun t106 => (impl_ruleOk.j0 k (!t106) l0_0 a1_0 l1_1 a1_2 a1_3 a1_4)))) else (impl_ruleOk.j0 k true l0_0 a1_0 l1_1 a1_2 a1_3 a1_4))) else (impl_ruleOk.j0 k true l0_0 a1_0 l1_1 a1_2 a1_3 a1_4))) = some r := h
 clear h
 have HC3 := Aside0.mk H
 clear H
 go_enter Try.func86, Try.ntmps86
 go_upto_region 1 with (first | ((with_reducible refine gate_dst (N := 2) rfl ?_); refine box_event ?hg (N := 2) ?hd (cs := #[.slice A0_0 l0_0.length c0_0]) (t := 46) ?hr ?_; (case hd => rfl); (case hg => rfl); (case hr => first | (go_simp; done) | (go_simp; rfl)); intro gb101 hg w4 hbox hb; have n0_ := Aside0.mk (below_step (be_ HB.out) hb); have n1_ := Aside0.mk (hbox); have n2_ := Aside0.mk ((by rw [hg]; exact (below_size (be_ HB.out)) : w.heap.size ≤ gb101)); have n3_ := Aside0.mk ((by rw [hg]; exact (below_size (be_ HB.out)) : w.heap.size ≤ gb101)); clear HB; have HB := n0_; have BK101 := n1_; have GW101 := n2_; have GE101 := n3_; clear n0_ n1_ n2_ n3_; clear hb hbox hg) | ((with_reducible refine gate_dst (N := 3) rfl ?_); refine box_event ?hg (N := 3) ?hd (cs := #[.string a1_0, .slice A1_1 l1_1.length c1_1, .bool a1_2, .int .i64 a1_3, .string a1_4]) (t := 113) ?hr ?_; (case hd => rfl); (case hg => rfl); (case hr => first | (go_simp; done) | (go_simp; rfl)); intro gb102 hg w5 hbox hb; have n0_ := Aside0.mk (blk_below (g := gb101) (o := .cells #[.slice A0_0 l0_0.length c0_0] 46 (0, 0)) (bk_ BK101.out) hb); have n1_ := Aside0.mk (below_step (be1_ HB.out GE101.out) hb); have n2_ := Aside0.mk (hbox); have n3_ := Aside0.mk ((by rw [hg]; exact (below_size (be1_ HB.out GE101.out)) : w.heap.size ≤ gb102)); have n4_ := Aside0.mk ((by rw [hg]; exact (below_size (be1_ HB.out GE101.out)) : w.heap.size ≤ gb102)); have n5_ := Aside0.mk ((by rw [hg]; exact Nat.ne_of_lt (blk_lt (g := gb101) (o := .cells #[.slice A0_0 l0_0.length c0_0] 46 (0, 0)) (bk_ BK101.out)) : gb101 ≠ gb102)); have n6_ := Aside0.mk ((by rw [hg]; exact Nat.ne_of_gt (blk_lt (g := gb101) (o := .cells #[.slice A0_0 l0_0.length c0_0] 46 (0, 0)) (bk_ BK101.out)) : gb102 ≠ gb101)); clear BK101; clear HB; have BK101 := n0_; have HB := n1_; have BK102 := n2_; have GW102 := n3_; have GE102 := n4_; have NB101_102 := n5_; have NB102_101 := n6_; clear n0_ n1_ n2_ n3_ n4_ n5_ n6_; clear hb hbox hg))
 (try simp only [Act.put, List.setIfInBounds_toArray, List.set_cons_zero, List.set_cons_succ])
 go_cut [25] (fun v25 wc => ∃ (kq : Nat) (x25_2 : Bool), v25 = .bool x25_2 ∧ Aside0 (impl_ruleOk.j0 kq x25_2 l0_0 a1_0 l1_1 a1_2 a1_3 a1_4 = some r) ∧ Aside0 (kq ≤ k) ∧ Aside0 (wc.heap[gb101]? = some (.cells #[(.slice A0_0 l0_0.length c0_0)] 46 (0, 0))) ∧ Aside0 (wc.heap[gb102]? = some (.cells #[.string a1_0, (.slice A1_1 l1_1.length c1_1), .bool a1_2, .int .i64 a1_3, .string a1_4] 113 (0, 0))) ∧ Aside0 (Below w.heap.size w wc))
 case first =>
  have H := HC3.out
  clear HC3
  replace H := Option.bind_eq_some_iff.mp H
  obtain ⟨t103, A60, H⟩ := H
  replace H : (if t103 = true then ((impl_RxOk.f k l1_1).bind fun t104 => (if t104 = true then ((impl_Nullable.f k l1_1).bind fun t105 => (if t105 = true then (impl_ruleOk.j0 k true l0_0 a1_0 l1_1 a1_2 a1_3 a1_4) else ((impl_within.f a1_3 0 3).bind fun t106 => (impl_ruleOk.j0 k (!t106) l0_0 a1_0 l1_1 a1_2 a1_3 a1_4)))) else (impl_ruleOk.j0 k true l0_0 a1_0 l1_1 a1_2 a1_3 a1_4))) else (impl_ruleOk.j0 k true l0_0 a1_0 l1_1 a1_2 a1_3 a1_4)) = some r := H
  have A6 := Aside0.mk A60
  clear A60
  by_cases c7 : t103 = true
  ·subst c7
   have H1 : ((impl_RxOk.f k l1_1).bind fun t104 => (if t104 = true then ((impl_Nullable.f k l1_1).bind fun t105 => (if t105 = true then (impl_ruleOk.j0 k true l0_0 a1_0 l1_1 a1_2 a1_3 a1_4) else ((impl_within.f a1_3 0 3).bind fun t106 => (impl_ruleOk.j0 k (!t106) l0_0 a1_0 l1_1 a1_2 a1_3 a1_4)))) else (impl_ruleOk.j0 k true l0_0 a1_0 l1_1 a1_2 a1_3 a1_4))) = some r := by rw [if_pos rfl] at H; exact H
   clear H
   have H := H1
   clear H1
   replace H := Option.bind_eq_some_iff.mp H
   obtain ⟨t104, A80, H⟩ := H
   replace H : (if t104 = true then ((impl_Nullable.f k l1_1).bind fun t105 => (if t105 = true then (impl_ruleOk.j0 k true l0_0 a1_0 l1_1 a1_2 a1_3 a1_4) else ((impl_within.f a1_3 0 3).bind fun t106 => (impl_ruleOk.j0 k (!t106) l0_0 a1_0 l1_1 a1_2 a1_3 a1_4)))) else (impl_ruleOk.j0 k true l0_0 a1_0 l1_1 a1_2 a1_3 a1_4)) = some r := H
   have A8 := Aside0.mk A80
   clear A80
   by_cases c9 : t104 = true
   ·subst c9
    have H1 : ((impl_Nullable.f k l1_1).bind fun t105 => (if t105 = true then (impl_ruleOk.j0 k true l0_0 a1_0 l1_1 a1_2 a1_3 a1_4) else ((impl_within.f a1_3 0 3).bind fun t106 => (impl_ruleOk.j0 k (!t106) l0_0 a1_0 l1_1 a1_2 a1_3 a1_4)))) = some r := by rw [if_pos rfl] at H; exact H
    clear H
    have H := H1
    clear H1
    replace H := Option.bind_eq_some_iff.mp H
    obtain ⟨t105, A100, H⟩ := H
    replace H : (if t105 = true then (impl_ruleOk.j0 k true l0_0 a1_0 l1_1 a1_2 a1_3 a1_4) else ((impl_within.f a1_3 0 3).bind fun t106 => (impl_ruleOk.j0 k (!t106) l0_0 a1_0 l1_1 a1_2 a1_3 a1_4))) = some r := H
    have A10 := Aside0.mk A100
    clear A100
    by_cases c11 : t105 = true
    ·subst c11
     have H1 : (impl_ruleOk.j0 k true l0_0 a1_0 l1_1 a1_2 a1_3 a1_4) = some r := by rw [if_pos rfl] at H; exact H
     clear H
     have H := H1
     clear H1
     have H' := Aside0.mk H
     clear H
     have hnb12 := NB102_101.out
     have hnc12 := NB101_102.out
     have hcz13_0 : w5.cell? ⟨gb102, 0, none⟩ = some (.string a1_0) := (blk_cell BK102.out 0).trans rfl
     have hcz13_1 : w5.cell? ⟨gb102, 1, none⟩ = some (.slice A1_1 l1_1.length c1_1) := (blk_cell BK102.out 1).trans rfl
     have hcz13_2 : w5.cell? ⟨gb102, 2, none⟩ = some (.bool a1_2) := (blk_cell BK102.out 2).trans rfl
     have hcz13_3 : w5.cell? ⟨gb102, 3, none⟩ = some (.int .i64 a1_3) := (blk_cell BK102.out 3).trans rfl
     have hcz13_4 : w5.cell? ⟨gb102, 4, none⟩ = some (.string a1_4) := (blk_cell BK102.out 4).trans rfl
     have hfz13_0 := blk_frozen BK102.out 0
     have hfz13_1 := blk_frozen BK102.out 1
     have hfz13_2 := blk_frozen BK102.out 2
     have hfz13_3 := blk_frozen BK102.out 3
     have hfz13_4 := blk_frozen BK102.out 4
     go_wp2_with (first | ((with_reducible refine gate_callee (f := 81) rfl ?_); refine gl_ (some 7) rfl rfl Try.func81 #[.string a1_0] ?_; (with_reducible refine (impl_isName.calls k a1_0 true _ A6.out).mono ?_); rintro e w' ⟨rfl, ⟨nd, rfl⟩⟩; refine ⟨_, rfl, ?_⟩) | (go_at_call 62; (with_reducible refine (impl_RxOk.calls k _ _ l1_1 true _ ?side1 ?side2 A8.out).mono ?_); (case side1 => repeat (first | exact (Kd.C_below HR1_1.out (be2_ HB.out GE101.out GE102.out)) | (with_reducible refine Kd.C_alloc ?_ _) | (with_reducible refine Kd.C_drewN ?_ _) | (with_reducible refine Kd.C_drew ?_))); (case side2 => exact HC1_1.out); rintro e w14 ⟨rfl, hb⟩; have n0_ := Aside0.mk (blk_below (g := gb101) (o := .cells #[.slice A0_0 l0_0.length c0_0] 46 (0, 0)) (bk_ BK101.out) hb); have n1_ := Aside0.mk (blk_below (g := gb102) (o := .cells #[.string a1_0, .slice A1_1 l1_1.length c1_1, .bool a1_2, .int .i64 a1_3, .string a1_4] 113 (0, 0)) (bk_ BK102.out) hb); have n2_ := Aside0.mk (below_step (be2_ HB.out GE101.out GE102.out) hb); clear BK101; clear BK102; clear HB; have BK101 := n0_; have BK102 := n1_; have HB := n2_; clear n0_ n1_ n2_; (try clear hb); (try clear hb2); (try clear hk); (try clear hi); have hcz15_0 : w14.cell? ⟨gb102, 0, none⟩ = some (.string a1_0) := (blk_cell BK102.out 0).trans rfl; have hcz15_1 : w14.cell? ⟨gb102, 1, none⟩ = some (.slice A1_1 l1_1.length c1_1) := (blk_cell BK102.out 1).trans rfl; have hcz15_2 : w14.cell? ⟨gb102, 2, none⟩ = some (.bool a1_2) := (blk_cell BK102.out 2).trans rfl; have hcz15_3 : w14.cell? ⟨gb102, 3, none⟩ = some (.int .i64 a1_3) := (blk_cell BK102.out 3).trans rfl; have hcz15_4 : w14.cell? ⟨gb102, 4, none⟩ = some (.string a1_4) := (blk_cell BK102.out 4).trans rfl; have hfz15_0 := blk_frozen BK102.out 0; have hfz15_1 := blk_frozen BK102.out 1; have hfz15_2 := blk_frozen BK102.out 2; have hfz15_3 := blk_frozen BK102.out 3; have hfz15_4 := blk_frozen BK102.out 4) | (go_at_call 18; (with_reducible refine (impl_Nullable.calls k _ _ l1_1 true _ ?side1 ?side2 A10.out).mono ?_); (case side1 => repeat (first | exact (Kd.C_below HR1_1.out HB.out) | (with_reducible refine Kd.C_alloc ?_ _) | (with_reducible refine Kd.C_drewN ?_ _) | (with_reducible refine Kd.C_drew ?_))); (case side2 => exact HC1_1.out); rintro e w16 ⟨rfl, hb⟩; have n0_ := Aside0.mk (blk_below (g := gb101) (o := .cells #[.slice A0_0 l0_0.length c0_0] 46 (0, 0)) (bk_ BK101.out) hb); have n1_ := Aside0.mk (blk_below (g := gb102) (o := .cells #[.string a1_0, .slice A1_1 l1_1.length c1_1, .bool a1_2, .int .i64 a1_3, .string a1_4] 113 (0, 0)) (bk_ BK102.out) hb); have n2_ := Aside0.mk (below_step (be2_ HB.out GE101.out GE102.out) hb); clear BK101; clear BK102; clear HB; have BK101 := n0_; have BK102 := n1_; have HB := n2_; clear n0_ n1_ n2_; (try clear hb); (try clear hb2); (try clear hk); (try clear hi)))
     go_meet
     case rel => exact ⟨_, (true), rs_, H', ⟨by first | omega | exact Nat.le_refl _⟩, ⟨bk_ BK101.out⟩, ⟨bk_ BK102.out⟩, ⟨be2_ HB.out GE101.out GE102.out⟩⟩
    ·replace c11 := Bool.eq_false_iff.mpr c11
     subst c11
     have H1 : ((impl_within.f a1_3 0 3).bind fun t106 => (impl_ruleOk.j0 k (!t106) l0_0 a1_0 l1_1 a1_2 a1_3 a1_4)) = some r := by rw [if_neg (show ¬ (false = true) by decide)] at H; exact H
     clear H
     have H := H1
     clear H1
     replace H := Option.bind_eq_some_iff.mp H
     obtain ⟨t106, A170, H⟩ := H
     replace H : (impl_ruleOk.j0 k (!t106) l0_0 a1_0 l1_1 a1_2 a1_3 a1_4) = some r := H
     have A17 := Aside0.mk A170
     clear A170
     have H' := Aside0.mk H
     clear H
     have hnb18 := NB102_101.out
     have hnc18 := NB101_102.out
     have hcz19_0 : w5.cell? ⟨gb102, 0, none⟩ = some (.string a1_0) := (blk_cell BK102.out 0).trans rfl
     have hcz19_1 : w5.cell? ⟨gb102, 1, none⟩ = some (.slice A1_1 l1_1.length c1_1) := (blk_cell BK102.out 1).trans rfl
     have hcz19_2 : w5.cell? ⟨gb102, 2, none⟩ = some (.bool a1_2) := (blk_cell BK102.out 2).trans rfl
     have hcz19_3 : w5.cell? ⟨gb102, 3, none⟩ = some (.int .i64 a1_3) := (blk_cell BK102.out 3).trans rfl
     have hcz19_4 : w5.cell? ⟨gb102, 4, none⟩ = some (.string a1_4) := (blk_cell BK102.out 4).trans rfl
     have hfz19_0 := blk_frozen BK102.out 0
     have hfz19_1 := blk_frozen BK102.out 1
     have hfz19_2 := blk_frozen BK102.out 2
     have hfz19_3 := blk_frozen BK102.out 3
     have hfz19_4 := blk_frozen BK102.out 4
     go_wp2_with (first | ((with_reducible refine gate_callee (f := 81) rfl ?_); refine gl_ (some 7) rfl rfl Try.func81 #[.string a1_0] ?_; (with_reducible refine (impl_isName.calls k a1_0 true _ A6.out).mono ?_); rintro e w' ⟨rfl, ⟨nd, rfl⟩⟩; refine ⟨_, rfl, ?_⟩) | (go_at_call 62; (with_reducible refine (impl_RxOk.calls k _ _ l1_1 true _ ?side1 ?side2 A8.out).mono ?_); (case side1 => repeat (first | exact (Kd.C_below HR1_1.out (be2_ HB.out GE101.out GE102.out)) | (with_reducible refine Kd.C_alloc ?_ _) | (with_reducible refine Kd.C_drewN ?_ _) | (with_reducible refine Kd.C_drew ?_))); (case side2 => exact HC1_1.out); rintro e w20 ⟨rfl, hb⟩; have n0_ := Aside0.mk (blk_below (g := gb101) (o := .cells #[.slice A0_0 l0_0.length c0_0] 46 (0, 0)) (bk_ BK101.out) hb); have n1_ := Aside0.mk (blk_below (g := gb102) (o := .cells #[.string a1_0, .slice A1_1 l1_1.length c1_1, .bool a1_2, .int .i64 a1_3, .string a1_4] 113 (0, 0)) (bk_ BK102.out) hb); have n2_ := Aside0.mk (below_step (be2_ HB.out GE101.out GE102.out) hb); clear BK101; clear BK102; clear HB; have BK101 := n0_; have BK102 := n1_; have HB := n2_; clear n0_ n1_ n2_; (try clear hb); (try clear hb2); (try clear hk); (try clear hi); have hcz21_0 : w20.cell? ⟨gb102, 0, none⟩ = some (.string a1_0) := (blk_cell BK102.out 0).trans rfl; have hcz21_1 : w20.cell? ⟨gb102, 1, none⟩ = some (.slice A1_1 l1_1.length c1_1) := (blk_cell BK102.out 1).trans rfl; have hcz21_2 : w20.cell? ⟨gb102, 2, none⟩ = some (.bool a1_2) := (blk_cell BK102.out 2).trans rfl; have hcz21_3 : w20.cell? ⟨gb102, 3, none⟩ = some (.int .i64 a1_3) := (blk_cell BK102.out 3).trans rfl; have hcz21_4 : w20.cell? ⟨gb102, 4, none⟩ = some (.string a1_4) := (blk_cell BK102.out 4).trans rfl; have hfz21_0 := blk_frozen BK102.out 0; have hfz21_1 := blk_frozen BK102.out 1; have hfz21_2 := blk_frozen BK102.out 2; have hfz21_3 := blk_frozen BK102.out 3; have hfz21_4 := blk_frozen BK102.out 4) | (go_at_call 18; (with_reducible refine (impl_Nullable.calls k _ _ l1_1 false _ ?side1 ?side2 A10.out).mono ?_); (case side1 => repeat (first | exact (Kd.C_below HR1_1.out HB.out) | (with_reducible refine Kd.C_alloc ?_ _) | (with_reducible refine Kd.C_drewN ?_ _) | (with_reducible refine Kd.C_drew ?_))); (case side2 => exact HC1_1.out); rintro e w22 ⟨rfl, hb⟩; have n0_ := Aside0.mk (blk_below (g := gb101) (o := .cells #[.slice A0_0 l0_0.length c0_0] 46 (0, 0)) (bk_ BK101.out) hb); have n1_ := Aside0.mk (blk_below (g := gb102) (o := .cells #[.string a1_0, .slice A1_1 l1_1.length c1_1, .bool a1_2, .int .i64 a1_3, .string a1_4] 113 (0, 0)) (bk_ BK102.out) hb); have n2_ := Aside0.mk (below_step (be2_ HB.out GE101.out GE102.out) hb); clear BK101; clear BK102; clear HB; have BK101 := n0_; have BK102 := n1_; have HB := n2_; clear n0_ n1_ n2_; (try clear hb); (try clear hb2); (try clear hk); (try clear hi); have hcz23_0 : w22.cell? ⟨gb102, 0, none⟩ = some (.string a1_0) := (blk_cell BK102.out 0).trans rfl; have hcz23_1 : w22.cell? ⟨gb102, 1, none⟩ = some (.slice A1_1 l1_1.length c1_1) := (blk_cell BK102.out 1).trans rfl; have hcz23_2 : w22.cell? ⟨gb102, 2, none⟩ = some (.bool a1_2) := (blk_cell BK102.out 2).trans rfl; have hcz23_3 : w22.cell? ⟨gb102, 3, none⟩ = some (.int .i64 a1_3) := (blk_cell BK102.out 3).trans rfl; have hcz23_4 : w22.cell? ⟨gb102, 4, none⟩ = some (.string a1_4) := (blk_cell BK102.out 4).trans rfl; have hfz23_0 := blk_frozen BK102.out 0; have hfz23_1 := blk_frozen BK102.out 1; have hfz23_2 := blk_frozen BK102.out 2; have hfz23_3 := blk_frozen BK102.out 3; have hfz23_4 := blk_frozen BK102.out 4) | (go_at_call 79; (with_reducible refine (impl_within.calls a1_3 0 3 t106 _ A17.out).mono ?_); rintro e w' ⟨rfl, ⟨nd, rfl⟩⟩))
     go_meet
     case rel => exact ⟨_, (!t106), rs_, H', ⟨by first | omega | exact Nat.le_refl _⟩, ⟨bk_ BK101.out⟩, ⟨bk_ BK102.out⟩, ⟨be2_ HB.out GE101.out GE102.out⟩⟩
   ·replace c9 := Bool.eq_false_iff.mpr c9
    subst c9
    have H1 : (impl_ruleOk.j0 k true l0_0 a1_0 l1_1 a1_2 a1_3 a1_4) = some r := by rw [if_neg (show ¬ (false = true) by decide)] at H; exact H
    clear H
    have H := H1
    clear H1
    have H' := Aside0.mk H
    clear H
    have hnb24 := NB102_101.out
    have hnc24 := NB101_102.out
    have hcz25_0 : w5.cell? ⟨gb102, 0, none⟩ = some (.string a1_0) := (blk_cell BK102.out 0).trans rfl
    have hcz25_1 : w5.cell? ⟨gb102, 1, none⟩ = some (.slice A1_1 l1_1.length c1_1) := (blk_cell BK102.out 1).trans rfl
    have hcz25_2 : w5.cell? ⟨gb102, 2, none⟩ = some (.bool a1_2) := (blk_cell BK102.out 2).trans rfl
    have hcz25_3 : w5.cell? ⟨gb102, 3, none⟩ = some (.int .i64 a1_3) := (blk_cell BK102.out 3).trans rfl
    have hcz25_4 : w5.cell? ⟨gb102, 4, none⟩ = some (.string a1_4) := (blk_cell BK102.out 4).trans rfl
    have hfz25_0 := blk_frozen BK102.out 0
    have hfz25_1 := blk_frozen BK102.out 1
    have hfz25_2 := blk_frozen BK102.out 2
    have hfz25_3 := blk_frozen BK102.out 3
    have hfz25_4 := blk_frozen BK102.out 4
    go_wp2_with (first | ((with_reducible refine gate_callee (f := 81) rfl ?_); refine gl_ (some 7) rfl rfl Try.func81 #[.string a1_0] ?_; (with_reducible refine (impl_isName.calls k a1_0 true _ A6.out).mono ?_); rintro e w' ⟨rfl, ⟨nd, rfl⟩⟩; refine ⟨_, rfl, ?_⟩) | (go_at_call 62; (with_reducible refine (impl_RxOk.calls k _ _ l1_1 false _ ?side1 ?side2 A8.out).mono ?_); (case side1 => repeat (first | exact (Kd.C_below HR1_1.out (be2_ HB.out GE101.out GE102.out)) | (with_reducible refine Kd.C_alloc ?_ _) | (with_reducible refine Kd.C_drewN ?_ _) | (with_reducible refine Kd.C_drew ?_))); (case side2 => exact HC1_1.out); rintro e w26 ⟨rfl, hb⟩; have n0_ := Aside0.mk (blk_below (g := gb101) (o := .cells #[.slice A0_0 l0_0.length c0_0] 46 (0, 0)) (bk_ BK101.out) hb); have n1_ := Aside0.mk (blk_below (g := gb102) (o := .cells #[.string a1_0, .slice A1_1 l1_1.length c1_1, .bool a1_2, .int .i64 a1_3, .string a1_4] 113 (0, 0)) (bk_ BK102.out) hb); have n2_ := Aside0.mk (below_step (be2_ HB.out GE101.out GE102.out) hb); clear BK101; clear BK102; clear HB; have BK101 := n0_; have BK102 := n1_; have HB := n2_; clear n0_ n1_ n2_; (try clear hb); (try clear hb2); (try clear hk); (try clear hi)))
    go_meet
    case rel => exact ⟨_, (true), rs_, H', ⟨by first | omega | exact Nat.le_refl _⟩, ⟨bk_ BK101.out⟩, ⟨bk_ BK102.out⟩, ⟨be2_ HB.out GE101.out GE102.out⟩⟩
  ·replace c7 := Bool.eq_false_iff.mpr c7
   subst c7
   have H1 : (impl_ruleOk.j0 k true l0_0 a1_0 l1_1 a1_2 a1_3 a1_4) = some r := by rw [if_neg (show ¬ (false = true) by decide)] at H; exact H
   clear H
   have H := H1
   clear H1
   have H' := Aside0.mk H
   clear H
   have hnb27 := NB102_101.out
   have hnc27 := NB101_102.out
   have hcz28_0 : w5.cell? ⟨gb102, 0, none⟩ = some (.string a1_0) := (blk_cell BK102.out 0).trans rfl
   have hcz28_1 : w5.cell? ⟨gb102, 1, none⟩ = some (.slice A1_1 l1_1.length c1_1) := (blk_cell BK102.out 1).trans rfl
   have hcz28_2 : w5.cell? ⟨gb102, 2, none⟩ = some (.bool a1_2) := (blk_cell BK102.out 2).trans rfl
   have hcz28_3 : w5.cell? ⟨gb102, 3, none⟩ = some (.int .i64 a1_3) := (blk_cell BK102.out 3).trans rfl
   have hcz28_4 : w5.cell? ⟨gb102, 4, none⟩ = some (.string a1_4) := (blk_cell BK102.out 4).trans rfl
   have hfz28_0 := blk_frozen BK102.out 0
   have hfz28_1 := blk_frozen BK102.out 1
   have hfz28_2 := blk_frozen BK102.out 2
   have hfz28_3 := blk_frozen BK102.out 3
   have hfz28_4 := blk_frozen BK102.out 4
   go_wp2_with (first | ((with_reducible refine gate_callee (f := 81) rfl ?_); refine gl_ (some 7) rfl rfl Try.func81 #[.string a1_0] ?_; (with_reducible refine (impl_isName.calls k a1_0 false _ A6.out).mono ?_); rintro e w' ⟨rfl, ⟨nd, rfl⟩⟩; refine ⟨_, rfl, ?_⟩))
   go_meet
   case rel => exact ⟨_, (true), rs_, H', ⟨by first | omega | exact Nat.le_refl _⟩, ⟨bk_ BK101.out⟩, ⟨bk_ BK102.out⟩, ⟨be2_ HB.out GE101.out GE102.out⟩⟩
 case rest =>
  clear HC3
  try clear c1
  try clear c2
  try clear p2
  try clear c7
  try clear c8
  try clear c9
  try clear c11
  try clear c12
  try clear c18
  try clear c24
  try clear c27
  try clear hcz13_0
  try clear hcz13_1
  try clear hcz13_2
  try clear hcz13_3
  try clear hcz13_4
  try clear hcz15_0
  try clear hcz15_1
  try clear hcz15_2
  try clear hcz15_3
  try clear hcz15_4
  try clear hcz19_0
  try clear hcz19_1
  try clear hcz19_2
  try clear hcz19_3
  try clear hcz19_4
  try clear hcz21_0
  try clear hcz21_1
  try clear hcz21_2
  try clear hcz21_3
  try clear hcz21_4
  try clear hcz23_0
  try clear hcz23_1
  try clear hcz23_2
  try clear hcz23_3
  try clear hcz23_4
  try clear hcz25_0
  try clear hcz25_1
  try clear hcz25_2
  try clear hcz25_3
  try clear hcz25_4
  try clear hcz28_0
  try clear hcz28_1
  try clear hcz28_2
  try clear hcz28_3
  try clear hcz28_4
  try clear hfz13_0
  try clear hfz13_1
  try clear hfz13_2
  try clear hfz13_3
  try clear hfz13_4
  try clear hfz15_0
  try clear hfz15_1
  try clear hfz15_2
  try clear hfz15_3
  try clear hfz15_4
  try clear hfz19_0
  try clear hfz19_1
  try clear hfz19_2
  try clear hfz19_3
  try clear hfz19_4
  try clear hfz21_0
  try clear hfz21_1
  try clear hfz21_2
  try clear hfz21_3
  try clear hfz21_4
  try clear hfz23_0
  try clear hfz23_1
  try clear hfz23_2
  try clear hfz23_3
  try clear hfz23_4
  try clear hfz25_0
  try clear hfz25_1
  try clear hfz25_2
  try clear hfz25_3
  try clear hfz25_4
  try clear hfz28_0
  try clear hfz28_1
  try clear hfz28_2
  try clear hfz28_3
  try clear hfz28_4
  obtain ⟨kq, x25_2, rfl, HA, HJ2, BK101, BK102, HB⟩ := hcut
  cases kq with
  | zero => exact absurd HA.out (by simp [impl_ruleOk.j0])
  | succ kj2 =>
   have H := HA.out
   clear HA
   simp only [impl_ruleOk.j0] at H
   by_cases c29 : x25_2 = true
   ·subst c29
    have H1 : (some false) = some r := by rw [if_pos rfl] at H; exact H
    clear H
    have H := H1
    clear H1
    obtain rfl := Option.some.inj H
    go_wp2
    go_ret
    exact ⟨rt_, be2_ HB.out GE101.out GE102.out⟩
   ·replace c29 := Bool.eq_false_iff.mpr c29
    subst c29
    have H1 : ((impl_Rule_hasTarget.f a1_0 l1_1 a1_2 a1_3 a1_4).bind fun t107 => (if t107 = true then ((impl_ModeAt.f l0_0 a1_4).bind fun t108 => (some (decide (t108 ≥ 0)))) else (some (a1_4.toList == ([] : List UInt8))))) = some r := by rw [if_neg (show ¬ (false = true) by decide)] at H; exact H
    clear H
    have H := H1
    clear H1
    replace H := Option.bind_eq_some_iff.mp H
    obtain ⟨t107, A300, H⟩ := H
    replace H : (if t107 = true then ((impl_ModeAt.f l0_0 a1_4).bind fun t108 => (some (decide (t108 ≥ 0)))) else (some (a1_4.toList == ([] : List UInt8)))) = some r := H
    have A30 := Aside0.mk A300
    clear A300
    by_cases c31 : t107 = true
    ·subst c31
     have H1 : ((impl_ModeAt.f l0_0 a1_4).bind fun t108 => (some (decide (t108 ≥ 0)))) = some r := by rw [if_pos rfl] at H; exact H
     clear H
     have H := H1
     clear H1
     replace H := Option.bind_eq_some_iff.mp H
     obtain ⟨t108, A320, H⟩ := H
     replace H : (some (decide (t108 ≥ 0))) = some r := H
     have A32 := Aside0.mk A320
     clear A320
     obtain rfl := Option.some.inj H
     have hnb33 := NB102_101.out
     have hnc33 := NB101_102.out
     have hcz34_0 : wc.cell? ⟨gb102, 0, none⟩ = some (.string a1_0) := (blk_cell BK102.out 0).trans rfl
     have hcz34_1 : wc.cell? ⟨gb102, 1, none⟩ = some (.slice A1_1 l1_1.length c1_1) := (blk_cell BK102.out 1).trans rfl
     have hcz34_2 : wc.cell? ⟨gb102, 2, none⟩ = some (.bool a1_2) := (blk_cell BK102.out 2).trans rfl
     have hcz34_3 : wc.cell? ⟨gb102, 3, none⟩ = some (.int .i64 a1_3) := (blk_cell BK102.out 3).trans rfl
     have hcz34_4 : wc.cell? ⟨gb102, 4, none⟩ = some (.string a1_4) := (blk_cell BK102.out 4).trans rfl
     have hfz34_0 := blk_frozen BK102.out 0
     have hfz34_1 := blk_frozen BK102.out 1
     have hfz34_2 := blk_frozen BK102.out 2
     have hfz34_3 := blk_frozen BK102.out 3
     have hfz34_4 := blk_frozen BK102.out 4
     go_wp2_with (first | ((with_reducible refine gate_callee (f := 95) rfl ?_); refine gl_ (some 27) rfl rfl Try.func95 #[.agg #[.string a1_0, .slice A1_1 l1_1.length c1_1, .bool a1_2, .int .i64 a1_3, .string a1_4]] ?_; (with_reducible refine (impl_Rule_hasTarget.calls a1_0 _ _ l1_1 a1_2 a1_3 a1_4 true _ ?side1 ?side2 A30.out).mono ?_); (case side1 => repeat (first | exact (Kd.C_below HR1_1.out HB.out) | (with_reducible refine Kd.C_alloc ?_ _) | (with_reducible refine Kd.C_drewN ?_ _) | (with_reducible refine Kd.C_drew ?_))); (case side2 => exact HC1_1.out); rintro e w35 ⟨rfl, hb⟩; refine ⟨_, rfl, ?_⟩; have n0_ := Aside0.mk (blk_below (g := gb101) (o := .cells #[.slice A0_0 l0_0.length c0_0] 46 (0, 0)) (bk_ BK101.out) hb); have n1_ := Aside0.mk (blk_below (g := gb102) (o := .cells #[.string a1_0, .slice A1_1 l1_1.length c1_1, .bool a1_2, .int .i64 a1_3, .string a1_4] 113 (0, 0)) (bk_ BK102.out) hb); have n2_ := Aside0.mk (below_step (be2_ HB.out GE101.out GE102.out) hb); clear BK101; clear BK102; clear HB; have BK101 := n0_; have BK102 := n1_; have HB := n2_; clear n0_ n1_ n2_; (try clear hb); (try clear hb2); (try clear hk); (try clear hi); have hcz36_0 : w35.cell? ⟨gb101, 0, none⟩ = some (.slice A0_0 l0_0.length c0_0) := (blk_cell BK101.out 0).trans rfl; have hfz36_0 := blk_frozen BK101.out 0; have hcz37_0 : w35.cell? ⟨gb102, 0, none⟩ = some (.string a1_0) := (blk_cell BK102.out 0).trans rfl; have hcz37_1 : w35.cell? ⟨gb102, 1, none⟩ = some (.slice A1_1 l1_1.length c1_1) := (blk_cell BK102.out 1).trans rfl; have hcz37_2 : w35.cell? ⟨gb102, 2, none⟩ = some (.bool a1_2) := (blk_cell BK102.out 2).trans rfl; have hcz37_3 : w35.cell? ⟨gb102, 3, none⟩ = some (.int .i64 a1_3) := (blk_cell BK102.out 3).trans rfl; have hcz37_4 : w35.cell? ⟨gb102, 4, none⟩ = some (.string a1_4) := (blk_cell BK102.out 4).trans rfl; have hfz37_0 := blk_frozen BK102.out 0; have hfz37_1 := blk_frozen BK102.out 1; have hfz37_2 := blk_frozen BK102.out 2; have hfz37_3 := blk_frozen BK102.out 3; have hfz37_4 := blk_frozen BK102.out 4) | ((with_reducible refine gate_callee (f := 82) rfl ?_); refine gl_ (some 31) rfl rfl Try.func82 #[.agg #[.slice A0_0 l0_0.length c0_0], .string a1_4] ?_; (with_reducible refine (impl_ModeAt.calls _ _ l0_0 a1_4 t108 _ ?side1 ?side2 A32.out).mono ?_); (case side1 => repeat (first | exact (Kd.C_below HR0_0.out HB.out) | (with_reducible refine Kd.C_alloc ?_ _) | (with_reducible refine Kd.C_drewN ?_ _) | (with_reducible refine Kd.C_drew ?_))); (case side2 => exact HC0_0.out); rintro e w38 ⟨rfl, hb⟩; refine ⟨_, rfl, ?_⟩; have n0_ := Aside0.mk (blk_below (g := gb101) (o := .cells #[.slice A0_0 l0_0.length c0_0] 46 (0, 0)) (bk_ BK101.out) hb); have n1_ := Aside0.mk (blk_below (g := gb102) (o := .cells #[.string a1_0, .slice A1_1 l1_1.length c1_1, .bool a1_2, .int .i64 a1_3, .string a1_4] 113 (0, 0)) (bk_ BK102.out) hb); have n2_ := Aside0.mk (below_step (be2_ HB.out GE101.out GE102.out) hb); clear BK101; clear BK102; clear HB; have BK101 := n0_; have BK102 := n1_; have HB := n2_; clear n0_ n1_ n2_; (try clear hb); (try clear hb2); (try clear hk); (try clear hi)))
     go_ret
     exact ⟨rt_, be2_ HB.out GE101.out GE102.out⟩
    ·replace c31 := Bool.eq_false_iff.mpr c31
     subst c31
     have H1 : (some (a1_4.toList == ([] : List UInt8))) = some r := by rw [if_neg (show ¬ (false = true) by decide)] at H; exact H
     clear H
     have H := H1
     clear H1
     obtain rfl := Option.some.inj H
     have hnb39 := NB102_101.out
     have hnc39 := NB101_102.out
     have hcz40_0 : wc.cell? ⟨gb102, 0, none⟩ = some (.string a1_0) := (blk_cell BK102.out 0).trans rfl
     have hcz40_1 : wc.cell? ⟨gb102, 1, none⟩ = some (.slice A1_1 l1_1.length c1_1) := (blk_cell BK102.out 1).trans rfl
     have hcz40_2 : wc.cell? ⟨gb102, 2, none⟩ = some (.bool a1_2) := (blk_cell BK102.out 2).trans rfl
     have hcz40_3 : wc.cell? ⟨gb102, 3, none⟩ = some (.int .i64 a1_3) := (blk_cell BK102.out 3).trans rfl
     have hcz40_4 : wc.cell? ⟨gb102, 4, none⟩ = some (.string a1_4) := (blk_cell BK102.out 4).trans rfl
     have hfz40_0 := blk_frozen BK102.out 0
     have hfz40_1 := blk_frozen BK102.out 1
     have hfz40_2 := blk_frozen BK102.out 2
     have hfz40_3 := blk_frozen BK102.out 3
     have hfz40_4 := blk_frozen BK102.out 4
     go_wp2_with (first | ((with_reducible refine gate_callee (f := 95) rfl ?_); refine gl_ (some 27) rfl rfl Try.func95 #[.agg #[.string a1_0, .slice A1_1 l1_1.length c1_1, .bool a1_2, .int .i64 a1_3, .string a1_4]] ?_; (with_reducible refine (impl_Rule_hasTarget.calls a1_0 _ _ l1_1 a1_2 a1_3 a1_4 false _ ?side1 ?side2 A30.out).mono ?_); (case side1 => repeat (first | exact (Kd.C_below HR1_1.out HB.out) | (with_reducible refine Kd.C_alloc ?_ _) | (with_reducible refine Kd.C_drewN ?_ _) | (with_reducible refine Kd.C_drew ?_))); (case side2 => exact HC1_1.out); rintro e w41 ⟨rfl, hb⟩; refine ⟨_, rfl, ?_⟩; have n0_ := Aside0.mk (blk_below (g := gb101) (o := .cells #[.slice A0_0 l0_0.length c0_0] 46 (0, 0)) (bk_ BK101.out) hb); have n1_ := Aside0.mk (blk_below (g := gb102) (o := .cells #[.string a1_0, .slice A1_1 l1_1.length c1_1, .bool a1_2, .int .i64 a1_3, .string a1_4] 113 (0, 0)) (bk_ BK102.out) hb); have n2_ := Aside0.mk (below_step (be2_ HB.out GE101.out GE102.out) hb); clear BK101; clear BK102; clear HB; have BK101 := n0_; have BK102 := n1_; have HB := n2_; clear n0_ n1_ n2_; (try clear hb); (try clear hb2); (try clear hk); (try clear hi); have hcz42_0 : w41.cell? ⟨gb102, 0, none⟩ = some (.string a1_0) := (blk_cell BK102.out 0).trans rfl; have hcz42_1 : w41.cell? ⟨gb102, 1, none⟩ = some (.slice A1_1 l1_1.length c1_1) := (blk_cell BK102.out 1).trans rfl; have hcz42_2 : w41.cell? ⟨gb102, 2, none⟩ = some (.bool a1_2) := (blk_cell BK102.out 2).trans rfl; have hcz42_3 : w41.cell? ⟨gb102, 3, none⟩ = some (.int .i64 a1_3) := (blk_cell BK102.out 3).trans rfl; have hcz42_4 : w41.cell? ⟨gb102, 4, none⟩ = some (.string a1_4) := (blk_cell BK102.out 4).trans rfl; have hfz42_0 := blk_frozen BK102.out 0; have hfz42_1 := blk_frozen BK102.out 1; have hfz42_2 := blk_frozen BK102.out 2; have hfz42_3 := blk_frozen BK102.out 3; have hfz42_4 := blk_frozen BK102.out 4))
     go_ret
     exact ⟨rt_, be2_ HB.out GE101.out GE102.out⟩

end Go.Proofs.Ytijmhelacmjggaa.P
-- The kit's printed words LGrammar, cut down by wip/gen/pack.py to what this proof reaches.
namespace Go.Proofs.Ytijmhelacmjggaa.P
open Go.RowKit Go.Proofs.YtijmhelacmjggaaW.PrintWords Go.Proofs.YtijmhelacmjggaaW.PrintLast Go.Proofs.YtijmhelacmjggaaEv
set_option linter.unusedVariables false
set_option linter.unusedSimpArgs false
/-- A byte of a name at a place. -/
def okB (i : Nat) (b : Int) : Bool := decide (97 ≤ b ∧ b ≤ 122) || (decide (i ≠ 0) && decide (48 ≤ b ∧ b ≤ 57))
def okS (b : Int) : Bool := decide (97 ≤ b ∧ b ≤ 122) || decide (48 ≤ b ∧ b ≤ 57)
def nameB (s : ByteArray) : Bool := (List.range s.size).all (fun i => okB i (bt s (i : Int))) && decide (1 ≤ s.size ∧ s.size ≤ 12)
theorem all_range (n : Nat) (p : Nat → Bool) (i : Nat) (h : i < n) : ((List.range n).drop i).all p = (p i && ((List.range n).drop (i + 1)).all p) := by
  rw [all_drop (List.range n) 0 p i (by simpa using h)]
  have : (List.range n).getD i 0 = i := by
    rw [List.getD_eq_getElem?_getD, List.getElem?_eq_getElem (by simpa using h)]
    simp
  rw [this]
theorem impl_isName_ev (s : ByteArray) (hs : s.size ≤ 1048576) : Ev (fun k => impl_isName.f k s) (nameB s) := by
  unfold impl_isName.f nameB
  refine ev_congr (ev_loop s.size (fun k i => impl_isName.l0 k s (s.size : Int) (i : Nat)) (fun i => ((List.range s.size).drop i).all (fun j => okB j (bt s (j : Int))) && decide (1 ≤ s.size ∧ s.size ≤ 12)) ?_ ?_ 0 (by omega)) (by simp)
  · rw [ev_succ]
    simp only [impl_isName.l0, impl_length.f, impl_within_eq, Option.bind_some, ev_ite]
    rw [if_neg (by omega)]
    refine ev_some.2 ?_
    rw [List.drop_eq_nil_of_le (by simp)]
    simp only [List.all_nil, Bool.true_and]
    exact decide_eq_decide.2 (by omega)
  · intro i hi ih
    rw [ev_succ, all_range _ _ _ hi]
    simp only [impl_isName.l0, ev_ite]
    rw [if_pos (by omega), if_pos (by omega), if_pos (by omega), wrap_succ hi (by omega)]
    generalize bt s (i : Int) = b at *
    by_cases c : 97 ≤ b ∧ b ≤ 122
    · rw [if_pos (by omega), if_pos (by omega)]
      have : okB i b = true := by simp [okB, c]
      rw [this, Bool.true_and]
      exact ih
    · have e1 : okB i b = (decide (i ≠ 0) && decide (48 ≤ b ∧ b ≤ 57)) := by simp [okB, decide_eq_false c]
      rw [e1]
      by_cases c0 : i = 0
      · have e2 : (decide (i ≠ 0) && decide (48 ≤ b ∧ b ≤ 57)) = false := by simp [c0]
        rw [e2]
        split
        · rw [if_neg (by omega)]
          rw [if_pos (by omega)]
          exact ev_some.2 (by simp)
        · rw [if_pos (by omega)]
          exact ev_some.2 (by simp)
      · by_cases c1 : 48 ≤ b ∧ b ≤ 57
        · have e2 : (decide (i ≠ 0) && decide (48 ≤ b ∧ b ≤ 57)) = true := by simp [c0, c1]
          rw [e2, Bool.true_and]
          split
          · rw [if_neg (by omega), if_neg (by omega), if_neg (by omega), if_neg (by omega)]
            exact ih
          · rw [if_neg (by omega), if_neg (by omega), if_neg (by omega)]
            exact ih
        · have e2 : (decide (i ≠ 0) && decide (48 ≤ b ∧ b ≤ 57)) = false := by simp [decide_eq_false c1]
          rw [e2]
          repeat' split
          all_goals first | exact ev_some.2 (by simp) | (exfalso; omega)
theorem spec_l1Digit_eq (b : Int) : spec_l1Digit.f b = some (decide (48 ≤ b ∧ b ≤ 57)) := by
  unfold spec_l1Digit.f
  by_cases h : b ≥ 48 <;> simp [h]
theorem nameB_split (s : ByteArray) (h : 0 < s.size) (hd : ¬ (48 ≤ bt s 0 ∧ bt s 0 ≤ 57)) : (List.range s.size).all (fun i => okB i (bt s (i : Int))) = (List.range s.size).all (fun i => okS (bt s (i : Int))) := by
  rw [Bool.eq_iff_iff, List.all_eq_true, List.all_eq_true]
  have hb : ∀ i, okB i (bt s (i : Int)) = okS (bt s (i : Int)) := by
    intro i
    unfold okB okS
    by_cases h0 : i = 0
    · subst h0
      have e : decide (48 ≤ bt s ((0 : Nat) : Int) ∧ bt s ((0 : Nat) : Int) ≤ 57) = false := decide_eq_false hd
      rw [e]
      simp
    · simp [h0]
  constructor
  · intro h i hi
    rw [← hb]
    exact h i hi
  · intro h i hi
    rw [hb]
    exact h i hi
theorem spec_l1Name_ev (s : ByteArray) : Ev (fun k => spec_l1Name.f k s) (nameB s) := by
  unfold spec_l1Name.f
  simp only [ev_ite]
  by_cases c1 : (s.size : Int) < 1
  · rw [if_pos c1, ev_succ]
    simp only [spec_l1Name.j0, if_true]
    exact ev_some.2 (by simp [nameB]; omega)
  by_cases c2 : (s.size : Int) > 12
  · rw [if_neg c1, if_pos c2, ev_succ]
    simp only [spec_l1Name.j0, if_true]
    exact ev_some.2 (by simp [nameB]; omega)
  rw [if_neg c1, if_neg c2, if_pos (by omega)]
  simp only [spec_l1Digit_eq, Option.bind_some]
  by_cases c3 : 48 ≤ bt s 0 ∧ bt s 0 ≤ 57
  · rw [decide_eq_true c3, ev_succ]
    simp only [spec_l1Name.j0, if_true]
    refine ev_some.2 ?_
    symm
    rw [nameB, Bool.and_eq_false_iff]
    left
    rw [← List.drop_zero (l := List.range s.size), all_range _ _ 0 (by omega)]
    have : okB 0 (bt s ((0 : Nat) : Int)) = false := by
      simp only [okB]
      rw [decide_eq_false (by show ¬ (97 ≤ bt s 0 ∧ bt s 0 ≤ 122); omega)]
      simp
    rw [this, Bool.false_and]
  · rw [decide_eq_false c3, ev_succ]
    simp only [spec_l1Name.j0, Bool.false_eq_true, if_false]
    rw [nameB, nameB_split s (by omega) c3, decide_eq_true (by omega), Bool.and_true]
    refine ev_congr (ev_loop s.size (fun k i => spec_l1Name.l0 k s (i : Nat)) (fun i => ((List.range s.size).drop i).all (fun j => okS (bt s (j : Int)))) ?_ ?_ 0 (by omega)) (by simp)
    · rw [ev_succ]
      simp only [spec_l1Name.l0, ev_ite]
      rw [if_neg (by omega)]
      refine ev_some.2 ?_
      rw [List.drop_eq_nil_of_le (by simp)]
      simp
    · intro i hi ih
      rw [ev_succ, all_range _ _ _ hi]
      simp only [spec_l1Name.l0, spec_l1Digit_eq, Option.bind_some, ev_ite]
      rw [if_pos (by omega), if_pos (by omega), wrap_succ hi (by omega)]
      generalize bt s (i : Int) = b at *
      by_cases c : 48 ≤ b ∧ b ≤ 57
      · rw [if_pos (decide_eq_true c), show okS b = true by simp [okS, c], Bool.true_and]
        exact ih
      · rw [if_neg (by simpa using c)]
        by_cases c4 : b < 97
        · rw [if_pos c4, show okS b = false by simp only [okS]; rw [decide_eq_false c, decide_eq_false (by omega)]; rfl]
          exact ev_some.2 (by simp)
        · rw [if_neg c4]
          by_cases c5 : b > 122
          · rw [if_pos c5, show okS b = false by simp only [okS]; rw [decide_eq_false c, decide_eq_false (by omega)]; rfl]
            exact ev_some.2 (by simp)
          · rw [if_neg c5, show okS b = true by simp only [okS]; rw [decide_eq_true (show 97 ≤ b ∧ b ≤ 122 by omega)]; rfl, Bool.true_and]
            exact ih
theorem spec_ModeAt_ev (l : List S108) (nm : ByteArray) (hl : l.length ≤ 9223372036854775807) : Ev (fun k => spec_ModeAt.f k l nm) (modeAtP l nm) := by
  unfold spec_ModeAt.f modeAtP
  refine ev_congr (ev_loop l.length (fun k i => spec_ModeAt.l0 k nm (i : Nat) l) (fun i => idxP (named nm) (l.drop i) (i : Nat)) ?_ ?_ 0 (by omega)) (by simp)
  · rw [ev_succ]
    simp only [spec_ModeAt.l0, ev_ite]
    rw [if_neg (by omega)]
    exact ev_some.2 (by simp [idxP])
  · intro i hi ih
    rw [ev_succ]
    simp only [spec_ModeAt.l0, ev_ite]
    rw [if_pos (by omega), if_pos (by omega), wrap_succ hi (by omega), drop_cons l z108 i hi]
    have hr : l.getD i z108 = rd_T108 l i := by simp [rd_T108]
    rw [hr]
    unfold idxP named
    by_cases c : (rd_T108 l i).f0.toList = nm.toList
    · rw [if_pos c, if_pos (by simpa using c)]
      exact ev_some.2 rfl
    · rw [if_neg c, if_neg (by simpa using c)]
      exact ih
/-- Has a rule the target that its action asks for? -/
def targetB (g : List S108) (x : S113) : Bool := if x.f3 = 1 then decide (modeAtP g x.f4 ≥ 0) else if x.f3 = 2 then decide (modeAtP g x.f4 ≥ 0) else x.f4.toList == ([] : List UInt8)
def ruleB (g : List S108) (x : S113) : Bool := nameB x.f0 && (rxB x.f1.f0 && (!(rxB x.f1.f0 && nullE x.f1.f0 (x.f1.f0.length - 1)) && (decide (0 ≤ x.f3 ∧ x.f3 ≤ 3) && targetB g x)))
/-- What a rule has no more of than a law draws. -/
def smallR (x : S113) : Prop := x.f0.size ≤ 1048576 ∧ x.f1.f0.length ≤ 1048576 ∧ ∀ y ∈ x.f1.f0, y.f2.length ≤ 9223372036854775807
def smallM (m : S108) : Prop := m.f0.size ≤ 1048576 ∧ m.f1.length ≤ 1048576 ∧ ∀ x ∈ m.f1, smallR x
def smallG (g : List S108) : Prop := g.length ≤ 1048576 ∧ ∀ m ∈ g, smallM m
theorem impl_ruleOk_ev (g : List S108) (x : S113) (hx : smallR x) : Ev (fun k => impl_ruleOk.f k g x.f0 x.f1.f0 x.f2 x.f3 x.f4) (ruleB g x) := by
  have hj : ∀ b : Bool, Ev (fun k => impl_ruleOk.j0 k b g x.f0 x.f1.f0 x.f2 x.f3 x.f4) (!b && targetB g x) := by
    intro b
    rw [ev_succ]
    cases b
    · simp only [impl_ruleOk.j0, impl_Rule_hasTarget.f, impl_ModeAt.f, Bool.false_eq_true, if_false]
      unfold targetB
      by_cases c1 : x.f3 = 1
      · simp only [if_pos c1, Option.bind_some, if_true]
        exact ev_some.2 (by simp)
      · simp only [if_neg c1, Option.bind_some]
        by_cases c2 : x.f3 = 2
        · simp only [c2, beq_self_eq_true, if_true, Option.bind_some]
          exact ev_some.2 (by simp)
        · rw [if_neg (by simpa using c2), if_neg c2]
          exact ev_some.2 (by simp)
    · simp only [impl_ruleOk.j0, if_true]
      exact ev_some.2 (by simp)
  unfold impl_ruleOk.f ruleB
  rw [ev_bind (impl_isName_ev x.f0 hx.1)]
  cases nameB x.f0
  · simp only [Bool.false_eq_true, if_false]
    exact hj true
  simp only [if_true]
  rw [ev_bind (impl_RxOk_ev x.f1.f0 hx.2.1)]
  cases hr : rxB x.f1.f0
  · simp only [Bool.false_eq_true, if_false]
    exact hj true
  simp only [if_true]
  rw [ev_bind (impl_Nullable_ev x.f1.f0 hx.2.1), hr]
  cases nullE x.f1.f0 (x.f1.f0.length - 1)
  · simp only [Bool.and_false, Bool.false_eq_true, if_false, impl_within_eq, Option.bind_some]
    refine ev_congr (hj _) ?_
    simp
  · simp only [Bool.and_true, if_true]
    exact hj true
theorem spec_l5Rule_ev (g : List S108) (hg : g.length ≤ 9223372036854775807) (x : S113) (hx : smallR x) : Ev (fun k => spec_l5Rule.f k g x.f0 x.f1.f0 x.f2 x.f3 x.f4) (ruleB g x) := by
  have hj : ∀ b : Bool, Ev (fun k => spec_l5Rule.j0 k b g x.f0 x.f1.f0 x.f2 x.f3 x.f4) (!b && targetB g x) := by
    intro b
    rw [ev_succ]
    cases b
    · simp only [spec_l5Rule.j0, Bool.false_eq_true, if_false]
      unfold targetB
      by_cases c1 : x.f3 = 1
      · simp only [if_pos c1]
        rw [ev_bind (spec_ModeAt_ev g x.f4 hg)]
        exact ev_some.2 (by simp)
      · simp only [if_neg c1]
        by_cases c2 : x.f3 = 2
        · simp only [if_pos c2]
          rw [ev_bind (spec_ModeAt_ev g x.f4 hg)]
          exact ev_some.2 (by simp)
        · simp only [if_neg c2]
          exact ev_some.2 (by simp)
    · simp only [spec_l5Rule.j0, if_true]
      exact ev_some.2 (by simp)
  have hn : spec_Nullable.f x.f1.f0 = some (rxB x.f1.f0 && nullE x.f1.f0 (x.f1.f0.length - 1)) := if_pos hx.2.1
  unfold spec_l5Rule.f ruleB
  rw [ev_bind (spec_l1Name_ev x.f0)]
  cases nameB x.f0
  · simp only [Bool.false_eq_true, if_false]
    exact hj true
  simp only [if_true]
  rw [ev_bind (spec_RxOk_ev x.f1.f0 hx.2.1 hx.2.2)]
  simp only [hn]
  cases rxB x.f1.f0
  · simp only [Bool.false_eq_true, if_false]
    exact hj true
  simp only [if_true, Option.bind_some]
  cases nullE x.f1.f0 (x.f1.f0.length - 1)
  · simp only [Bool.and_false, Bool.false_eq_true, if_false, spec_l1In_eq, Option.bind_some]
    refine ev_congr (hj _) ?_
    simp
  · simp only [Bool.and_true, if_true]
    exact hj true
/-- Is a mode right at its place? -/
def modeB (g : List S108) (i : Nat) (m : S108) : Bool := nameB m.f0 && (decide (modeAtP g m.f0 = (i : Int)) && (decide (1 ≤ m.f1.length ∧ m.f1.length ≤ 40) && m.f1.all (ruleB g)))
/-- Are the modes right from a place on? -/
def modesB (g : List S108) (i : Nat) : Bool := ((List.range g.length).drop i).all fun j => modeB g j (rd_T108 g (j : Int))
def grammarB (g : List S108) : Bool := decide (1 ≤ g.length ∧ g.length ≤ 12) && modesB g 0
theorem modesB_step (g : List S108) (i : Nat) (h : i < g.length) : modesB g i = (modeB g i (rd_T108 g (i : Int)) && modesB g (i + 1)) := all_range _ _ _ h
theorem modesB_end (g : List S108) : modesB g g.length = true := by
  unfold modesB
  rw [List.drop_eq_nil_of_le (by simp)]
  rfl
theorem rd_mode_mem (g : List S108) (i : Nat) (h : i < g.length) : rd_T108 g (i : Int) ∈ g := by
  unfold rd_T108
  rw [List.getD_eq_getElem?_getD, List.getElem?_eq_getElem (by simpa using h)]
  exact List.getElem_mem _
theorem rd_rule_mem (l : List S113) (i : Nat) (h : i < l.length) : rd_T113 l (i : Int) ∈ l := by
  unfold rd_T113
  rw [List.getD_eq_getElem?_getD, List.getElem?_eq_getElem (by simpa using h)]
  exact List.getElem_mem _
theorem spec_GrammarOk_l1 (g : List S108) (hg : smallG g) (i : Nat) (nm : ByteArray) (rs : List S113) (hrs : ∀ x ∈ rs, smallR x) (hl : rs.length ≤ 1048576) (R : Bool) (hi : i < g.length) (ih : Ev (fun k => spec_GrammarOk.l0 k ((i + 1 : Nat) : Int) g) R) : Ev (fun k => spec_GrammarOk.l1 k (i : Int) 0 g nm rs) (rs.all (ruleB g) && R) := by
  have hgl := hg.1
  refine ev_congr (ev_loop rs.length (fun k j => spec_GrammarOk.l1 k (i : Int) (j : Nat) g nm rs) (fun j => (rs.drop j).all (ruleB g) && R) ?_ ?_ 0 (by omega)) (by simp)
  · rw [ev_succ]
    simp only [spec_GrammarOk.l1, ev_ite]
    rw [if_neg (by omega), wrap_succ hi (by omega), List.drop_length]
    simpa using ih
  · intro j hj ihj
    rw [ev_succ, all_drop rs z113 (ruleB g) j hj]
    have hr : rs.getD j z113 = rd_T113 rs j := by simp [rd_T113]
    rw [hr]
    simp only [spec_GrammarOk.l1, ev_ite]
    rw [if_pos (by omega), if_pos (by omega), wrap_succ hj (by omega), ev_bind (spec_l5Rule_ev g (by omega) (rd_T113 rs j) (hrs _ (rd_rule_mem rs j hj)))]
    cases ruleB g (rd_T113 rs j)
    · exact ev_some.2 (by simp)
    · simp only [if_true, Bool.true_and]
      exact ihj
theorem spec_GrammarOk_ev (g : List S108) (hg : smallG g) : Ev (fun k => spec_GrammarOk.f k g) (grammarB g) := by
  have hgl := hg.1
  have h0 : Ev (fun k => spec_GrammarOk.l0 k 0 g) (modesB g 0) := by
    refine ev_loop g.length (fun k i => spec_GrammarOk.l0 k (i : Nat) g) (fun i => modesB g i) ?_ ?_ 0 (by omega)
    · rw [ev_succ, modesB_end]
      simp only [spec_GrammarOk.l0, ev_ite]
      rw [if_neg (by omega)]
      exact ev_some.2 rfl
    · intro i hi ih
      rw [ev_succ, modesB_step g i hi]
      simp only [spec_GrammarOk.l0, ev_ite]
      rw [if_pos (by omega), if_pos (by omega)]
      have hm := hg.2 _ (rd_mode_mem g i hi)
      have hj : ∀ b : Bool, Ev (fun k => spec_GrammarOk.j2 k (i : Int) b g (rd_T108 g i).f0 (rd_T108 g i).f1) (!b && ((rd_T108 g i).f1.all (ruleB g) && modesB g (i + 1))) := by
        intro b
        rw [ev_succ]
        cases b
        · simp only [spec_GrammarOk.j2, Bool.false_eq_true, if_false]
          simpa using spec_GrammarOk_l1 g hg i _ _ hm.2.2 hm.2.1 _ hi ih
        · simp only [spec_GrammarOk.j2, if_true]
          exact ev_some.2 (by simp)
      unfold modeB
      generalize rd_T108 g (i : Int) = m at *
      rw [ev_bind (spec_l1Name_ev m.f0)]
      cases nameB m.f0
      · simp only [Bool.false_eq_true, if_false, Bool.false_and]
        exact hj true
      simp only [if_true, Bool.true_and]
      rw [ev_bind (spec_ModeAt_ev g m.f0 (by omega))]
      simp only [ev_ite]
      by_cases c1 : modeAtP g m.f0 = (i : Int)
      · rw [if_pos c1, decide_eq_true c1, Bool.true_and]
        by_cases c2 : (m.f1.length : Int) < 1
        · rw [if_pos c2, decide_eq_false (by omega)]
          exact hj true
        · rw [if_neg c2]
          refine ev_congr (hj _) ?_
          by_cases c3 : (m.f1.length : Int) > 40
          · rw [decide_eq_true c3, decide_eq_false (by omega)]
            rfl
          · rw [decide_eq_false c3, decide_eq_true (by omega)]
            rfl
      · rw [if_neg c1, decide_eq_false c1]
        exact hj true
  have hj : ∀ b : Bool, Ev (fun k => spec_GrammarOk.j0 k b g) (!b && modesB g 0) := by
    intro b
    rw [ev_succ]
    cases b
    · simp only [spec_GrammarOk.j0, Bool.false_eq_true, if_false]
      simpa using h0
    · simp only [spec_GrammarOk.j0, if_true]
      exact ev_some.2 (by simp)
  unfold spec_GrammarOk.f grammarB
  simp only [ev_ite]
  by_cases c1 : (g.length : Int) < 1
  · rw [if_pos c1, decide_eq_false (by omega)]
    exact hj true
  · rw [if_neg c1]
    refine ev_congr (hj _) ?_
    by_cases c2 : (g.length : Int) > 12
    · rw [decide_eq_true c2, decide_eq_false (by omega)]
      rfl
    · rw [decide_eq_false c2, decide_eq_true (by omega)]
      rfl
end Go.Proofs.Ytijmhelacmjggaa.P
-- Made by wip/gen/pp.py of this session over the kit's print of the loaded program: a function, and the contract of its walk. Lean checks it.
namespace Go.Proofs.Ytijmhelacmjggaa.P
open Go.RowKit Go.Proofs.YtijmhelacmjggaaW.PrintWords Go.Proofs.YtijmhelacmjggaaW.PrintLast Go.Proofs.YtijmhelacmjggaaW.PrintMore
attribute [local go_sem] max2_int min2_int max_two min_two max_three min_three max_four min_four   -- for this text's walks alone
set_option linter.unusedVariables false
set_option linter.unusedSimpArgs false

/-! ### impl_Mode_80: function 80 -/
def impl_Mode_80.f (l0 : List (S108)) : Option (Int) := some (l0.length : Int)
set_option maxHeartbeats 8000000 in
set_option maxRecDepth 100000 in
theorem impl_Mode_80.calls (A0 : Option Addr) (c0 : Nat) (l0 : List (S108)) (r : Int) (w : World) (hr0 : Kd.C k108 w A0 l0.length l0) (hc0 : l0.length ≤ c0) (h : impl_Mode_80.f l0 = some r) :
  Calls Try.prog 80 #[.slice A0 l0.length c0] w fun e w' => e = .returned (.int .i64 r) ∧ Drawn0 w w' := by
 have HR0 := Aside0.mk hr0
 have HC0 := Aside0.mk hc0
 clear hr0 hc0
 have H : (some (l0.length : Int)) = some r := h
 clear h
 obtain rfl := Option.some.inj H
 go_enter Try.func80, Try.ntmps80
 go_wp2
 go_ret
 exact ⟨by first | rfl | (simp; done) | (simp [*]; done), by repeat (first | exact Drawn0.refl _ | apply Drawn0.step)⟩

end Go.Proofs.Ytijmhelacmjggaa.P
-- Made by wip/gen/pp.py of this session over the kit's print of the loaded program: a function, and the contract of its walk. Lean checks it.
namespace Go.Proofs.Ytijmhelacmjggaa.P
open Go.RowKit Go.Proofs.YtijmhelacmjggaaW.PrintWords Go.Proofs.YtijmhelacmjggaaW.PrintLast Go.Proofs.YtijmhelacmjggaaW.PrintMore
attribute [local go_sem] max2_int min2_int max_two min_two max_three min_three max_four min_four   -- for this text's walks alone
set_option linter.unusedVariables false
set_option linter.unusedSimpArgs false

/-! ### impl_Rule_83: function 83 -/
def impl_Rule_83.f (l0 : List (S113)) : Option (Int) := some (l0.length : Int)
set_option maxHeartbeats 8000000 in
set_option maxRecDepth 100000 in
theorem impl_Rule_83.calls (A0 : Option Addr) (c0 : Nat) (l0 : List (S113)) (r : Int) (w : World) (hr0 : Kd.C k113 w A0 l0.length l0) (hc0 : l0.length ≤ c0) (h : impl_Rule_83.f l0 = some r) :
  Calls Try.prog 83 #[.slice A0 l0.length c0] w fun e w' => e = .returned (.int .i64 r) ∧ Drawn0 w w' := by
 have HR0 := Aside0.mk hr0
 have HC0 := Aside0.mk hc0
 clear hr0 hc0
 have H : (some (l0.length : Int)) = some r := h
 clear h
 obtain rfl := Option.some.inj H
 go_enter Try.func83, Try.ntmps83
 go_wp2
 go_ret
 exact ⟨by first | rfl | (simp; done) | (simp [*]; done), by repeat (first | exact Drawn0.refl _ | apply Drawn0.step)⟩

end Go.Proofs.Ytijmhelacmjggaa.P
/- impl.GrammarOk, walked by hand: each mode has a name of its own and rules that are right. -/
namespace Go.Proofs.Ytijmhelacmjggaa.P
open Go.RowKit Go.Shelf Go.Proofs.YtijmhelacmjggaaW.PrintWords Go.Proofs.YtijmhelacmjggaaW.PrintLast Go.Proofs.YtijmhelacmjggaaW.PrintMore Go.Proofs.YtijmhelacmjggaaEv
set_option linter.unusedVariables false
set_option linter.unusedSimpArgs false
set_option maxHeartbeats 4000000 in
theorem GrammarOk_1_calls (g : List S108) (x : S113) (A0 A1 : Option Addr) (c0 c1 B : Nat) (W : World) (hx : smallR x) (hB : W.heap[B]? = some (.cells #[.slice A0 g.length c0] 46)) (hr0 : Kd.C k108 W A0 g.length g) (hc0 : g.length ≤ c0) (hr1 : Kd.C k156 W A1 x.f1.f0.length x.f1.f0) (hc1 : x.f1.f0.length ≤ c1) :
    Calls Try.prog 85 (#[.agg #[.string x.f0, .slice A1 x.f1.f0.length c1, .bool x.f2, .int .i64 x.f3, .string x.f4]] ++ #[.pointer (some ⟨B, 0, none⟩)]) W fun e w' => e = .returned (.bool (!ruleB g x)) ∧ Below W.heap.size W w' := by
  obtain ⟨k, hk⟩ := ev_get (impl_ruleOk_ev g x hx)
  generalize ruleB g x = b at *
  have HK := Aside0.mk hk
  have hcell : W.cell? ⟨B, 0, none⟩ = some (.slice A0 g.length c0) := (blk_cell hB 0).trans rfl
  have hlt := blk_lt hB
  have hc2 : ∀ o, (W.alloc o).cell? ⟨B, 0, none⟩ = some (.slice A0 g.length c0) := fun o => ((below_alloc (Below.refl _ _) o : Below W.heap.size W _).cell hlt).trans hcell
  have hne : (B == W.heap.size) = false := beq_eq_false_iff_ne.mpr (by omega)
  have HB := Aside0.mk (below_alloc (Below.refl W.heap.size W) (.cells #[.string x.f0, .slice A1 x.f1.f0.length c1, .bool x.f2, .int .i64 x.f3, .string x.f4] 113))
  have HR0 := Aside0.mk (Kd.C_below hr0 HB.out)
  have HR1 := Aside0.mk (Kd.C_below hr1 HB.out)
  have HC0 := Aside0.mk hc0
  have HC1 := Aside0.mk hc1
  clear hk hr0 hr1 hc0 hc1 hx hB
  show Calls Try.prog _ #[.agg #[.string x.f0, .slice A1 x.f1.f0.length c1, .bool x.f2, .int .i64 x.f3, .string x.f4], .pointer (some ⟨B, 0, none⟩)] W _
  go_enter Try.func85, Try.ntmps85
  go_wp2_with (go_at_call 86; refine (impl_ruleOk.calls k A0 c0 g x.f0 A1 c1 x.f1.f0 x.f2 x.f3 x.f4 b _ HR0.out HC0.out HR1.out HC1.out HK.out).mono ?_; rintro e w' ⟨rfl, hb⟩)
  go_ret
  exact ⟨rfl, below_then HB.out HB.out.size hb⟩
theorem any_not_all {α : Type} (l : List α) (p : α → Bool) : (l.any fun x => !p x) = !l.all p := by
  induction l with
  | nil => rfl
  | cons a r ih => simp [ih, Bool.not_and]
/-- What ContainsFunc answers of a mode's rules, with the grammar held in memory. -/
theorem rules_calls (l0 : List S108) (rs : List S113) (A0 A1 : Option Addr) (c0 c1 g : Nat) (w W : World) (hrs : ∀ x ∈ rs, smallR x) (hr0 : Kd.C k108 w A0 l0.length l0) (hc0 : l0.length ≤ c0) (hr1 : Kd.C k113 w A1 rs.length rs) (hB : W.heap[g]? = some (.cells #[.slice A0 l0.length c0] 46)) (hb : Below w.heap.size w W) :
    Calls Try.prog 84 #[.slice A1 rs.length c1, .func (.func 85) #[] #[.pointer (some ⟨g, 0, none⟩)]] W fun e w' => e = .returned (.bool (!rs.all (ruleB l0))) ∧ Below W.heap.size W w' := by
  have eg : ∀ args w, (callFunc 85 args).run Try.prog w = .ok (.enter 85 args) w := enters_of Try.func85 (by kernel_rfl) rfl
  rw [← any_not_all]
  refine ContainsFunc_Rule _ _ eg (fun x => !ruleB l0 x) A1 c1 rs W (Kd.C_below hr1 hb) ?_
  intro W2 x A2 c2 hx hb2 hr2 hc2
  exact GrammarOk_1_calls l0 x A0 A2 c0 c2 g W2 (hrs x hx) (blk_below hB hb2) (Kd.C_below (Kd.C_below hr0 hb) hb2) hc0 hr2 hc2
set_option maxHeartbeats 16000000 in
set_option maxRecDepth 100000 in
theorem GrammarOk_hand (A0 : Option Addr) (c0 : Nat) (l0 : List S108) (w : World) (hg : smallG l0) (hr0 : Kd.C k108 w A0 l0.length l0) (hc0 : l0.length ≤ c0) :
    Calls Try.prog 28 #[.agg #[.slice A0 l0.length c0]] w fun e w' => e = .returned (.bool (grammarB l0)) ∧ Below w.heap.size w w' := by
  have HR := Aside0.mk hr0
  have HC := Aside0.mk hc0
  have HG := Aside0.mk hg
  have hn := hr0.2.1
  have hg1 := hg.1
  clear hr0 hc0 hg
  have HB := Aside0.mk (below_alloc (Below.refl w.heap.size w) (.cells #[.slice A0 l0.length c0] 46))
  have BK := Aside0.mk (blk_new w (.cells #[.slice A0 l0.length c0] 46))
  have HI := Aside0.mk (impl_within_eq (l0.length : Int) 1 12)
  have hgd : grammarB l0 = (decide (1 ≤ (l0.length : Int) ∧ (l0.length : Int) ≤ 12) && modesB l0 0) := by
    unfold grammarB
    congr 1
    exact decide_eq_decide.2 (by omega)
  cases hb1 : decide (1 ≤ (l0.length : Int) ∧ (l0.length : Int) ≤ 12)
  · rw [hb1] at HI hgd
    rw [hgd, Bool.false_and]
    clear hgd hb1
    go_enter Try.func28, Try.ntmps28
    go_wp2_with (first | (go_at_call 80; refine (impl_Mode_80.calls A0 c0 l0 _ _ (Kd.C_below HR.out HB.out) HC.out rfl).mono ?_; rintro e w' ⟨rfl, ⟨nd, rfl⟩⟩) | (go_at_call 79; refine (impl_within.calls _ _ _ false _ HI.out).mono ?_; rintro e w' ⟨rfl, ⟨nd2, rfl⟩⟩))
    go_ret
    exact ⟨rfl, by repeat (first | (with_reducible exact HB.out) | apply pw_below_drewN | apply below_drew1)⟩
  rw [hb1] at HI hgd
  rw [Bool.true_and] at hgd
  have HA0 := Aside0.mk hgd
  clear hgd hb1
  generalize hgB : grammarB l0 = gb at *
  clear hgB
  go_enter Try.func28, Try.ntmps28
  go_wp2_with (first | (go_at_call 80; refine (impl_Mode_80.calls A0 c0 l0 _ _ (Kd.C_below HR.out HB.out) HC.out rfl).mono ?_; rintro e w' ⟨rfl, ⟨nd, rfl⟩⟩) | (go_at_call 79; refine (impl_within.calls _ _ _ true _ HI.out).mono ?_; rintro e w' ⟨rfl, ⟨nd2, rfl⟩⟩))
  go_loopg [13] l0.length (fun gg s13 wr => ∃ kk : Nat, kk ≤ l0.length ∧ l0.length - kk ≤ gg ∧ s13 = .int .i64 kk ∧ Aside0 (gb = modesB l0 kk) ∧ Aside0 (wr.heap[w.heap.size]? = some (.cells #[.slice A0 l0.length c0] 46)) ∧ Aside0 (Below w.heap.size w wr))
  case atStart => exact ⟨0, Nat.zero_le _, by omega, rfl, HA0, ⟨BK.out⟩, ⟨by repeat (first | (with_reducible exact HB.out) | apply pw_below_drewN | apply below_drew1)⟩⟩
  case round =>
    clear HA0 HB BK
    obtain ⟨kk, hkk, hgg, rfl, HA, BK, HB⟩ := hrel
    by_cases hlt : kk < l0.length
    · have hltz : (kk : Int) < (l0.length : Int) := by omega
      have hk0 : (0 : Int) ≤ (kk : Int) := by omega
      obtain ⟨ad, A1, c1, e1, hx0, hx1, hl, hi⟩ := at_T108 HR.out (kk : Int) (by omega) hltz
      cases e1
      rw [Int.toNat_natCast] at hx0 hx1
      replace hx0 := mv_ HB.out hx0
      replace hx1 := mv_ HB.out hx1
      have hm := HG.out.2 _ (rd_mode_mem l0 kk hlt)
      have hs := HA.out.trans (modesB_step l0 kk hlt)
      unfold modeB at hs
      clear HA
      generalize rd_T108 l0 (kk : Int) = y at *
      have HI1 := Aside0.mk hi
      have HC1 := Aside0.mk hl
      obtain ⟨kn, hkn⟩ := ev_get (impl_isName_ev y.f0 hm.1)
      have HN := Aside0.mk hkn
      have HM := Aside0.mk hm
      have HS := Aside0.mk hs
      clear hi hl hkn hm hs
      have hcg : wr.cell? ⟨w.heap.size, 0, none⟩ = some (.slice (some ad) l0.length c0) := (blk_cell BK.out 0).trans rfl
      go_upto_region 6 with ((with_reducible refine gate_dst (N := 4) rfl ?_); refine box_event ?hg (N := 4) ?hd (cs := #[.string ⟨#[]⟩, .slice none 0 0]) (t := 108) ?hr ?_; (case hd => rfl); (case hg => rfl); (case hr => first | (go_simp; done) | (go_simp; rfl)); intro gm hgm w20 hbox hb; have n0_ := Aside0.mk (blk_below BK.out hb); have n1_ := Aside0.mk (below_step HB.out hb); have n2_ := Aside0.mk (show w.heap.size ≤ gm by rw [hgm]; exact below_size HB.out); have n3_ := Aside0.mk (show w.heap.size ≠ gm by rw [hgm]; exact Nat.ne_of_lt (blk_lt BK.out)); clear BK HB; have BK := n0_; have HB := n1_; have GE := n2_; have NE := n3_; have BKm := Aside0.mk hbox; clear n0_ n1_ n2_ n3_ hb hbox hgm; have hcz0 : w20.cell? ⟨gm, 0, none⟩ = some (.string ⟨#[]⟩) := (blk_cell BKm.out 0).trans rfl; have hcz1 : w20.cell? ⟨gm, 1, none⟩ = some (.slice none 0 0) := (blk_cell BKm.out 1).trans rfl; have hfz0 := blk_frozen BKm.out 0; have hfz1 := blk_frozen BKm.out 1)
      (try simp only [Act.put, List.setIfInBounds_toArray, List.set_cons_zero, List.set_cons_succ])
      have BM2 : Aside0 (((w20.setCell ⟨gm, 0, none⟩ (.string y.f0)).setCell ⟨gm, 1, none⟩ (.slice A1 y.f1.length c1)).heap[gm]? = some (.cells #[.string y.f0, .slice A1 y.f1.length c1] 108)) := ⟨blk_put (blk_put BKm.out 0 _ rfl) 1 _ rfl⟩
      have BK2 : Aside0 (((w20.setCell ⟨gm, 0, none⟩ (.string y.f0)).setCell ⟨gm, 1, none⟩ (.slice A1 y.f1.length c1)).heap[w.heap.size]? = some (.cells #[.slice (some ad) l0.length c0] 46)) := ⟨blk_far (blk_far BK.out NE.out _) NE.out _⟩
      have HB2 : Aside0 (Below w.heap.size w ((w20.setCell ⟨gm, 0, none⟩ (.string y.f0)).setCell ⟨gm, 1, none⟩ (.slice A1 y.f1.length c1))) := ⟨below_set (below_set HB.out GE.out) GE.out⟩
      clear BKm BK HB hcz0 hcz1 hfz0 hfz1 hx0 hx1 hcg
      generalize (w20.setCell ⟨gm, 0, none⟩ (.string y.f0)).setCell ⟨gm, 1, none⟩ (.slice A1 y.f1.length c1) = w3 at *
      have hc0m : w3.cell? ⟨gm, 0, none⟩ = some (.string y.f0) := (blk_cell BM2.out 0).trans rfl
      have hc1m : w3.cell? ⟨gm, 1, none⟩ = some (.slice A1 y.f1.length c1) := (blk_cell BM2.out 1).trans rfl
      have hcg : w3.cell? ⟨w.heap.size, 0, none⟩ = some (.slice (some ad) l0.length c0) := (blk_cell BK2.out 0).trans rfl
      cases hq1 : nameB y.f0
      · rw [hq1] at HN HS
        have hs2 : Aside0 (gb = false) := ⟨by rw [HS.out]; rfl⟩
        clear HS hq1
        go_wp2_with (go_at_call 81; refine (impl_isName.calls kn y.f0 false _ HN.out).mono ?_; rintro e w' ⟨rfl, ⟨nd3, rfl⟩⟩)
        go_ret
        exact ⟨by (rw [hs2.out]; try rfl), by repeat (first | (with_reducible exact HB2.out) | apply pw_below_drewN | apply below_drew1)⟩
      rw [hq1] at HN HS
      simp only [Bool.true_and] at HS
      clear hq1
      have hma : ∀ nd : Nat, Calls Try.prog 82 #[.agg #[.slice (some ad) l0.length c0], .string y.f0] (w3.drewN nd) fun e w' => e = .returned (.int .i64 (modeAtP l0 y.f0)) ∧ Below (w3.drewN nd).heap.size (w3.drewN nd) w' := fun nd => impl_ModeAt.calls (some ad) c0 l0 y.f0 _ _ (Kd.C_below HR.out (pw_below_drewN HB2.out nd)) HC.out rfl
      have HMA := Lib.hid hma
      clear hma
      generalize modeAtP l0 y.f0 = mm at *
      by_cases hq2 : mm = (kk : Int)
      · subst hq2
        have hne0 : ((kk : Int) != (kk : Int)) = false := by simp
        have HW := Aside0.mk (impl_within_eq (y.f1.length : Int) 1 40)
        have hd : decide (1 ≤ y.f1.length ∧ y.f1.length ≤ 40) = decide (1 ≤ (y.f1.length : Int) ∧ (y.f1.length : Int) ≤ 40) := decide_eq_decide.2 (by omega)
        rw [hd] at HS
        clear hd
        cases hq3 : decide (1 ≤ (y.f1.length : Int) ∧ (y.f1.length : Int) ≤ 40)
        · rw [hq3] at HS HW
          have hs2 : Aside0 (gb = false) := ⟨by rw [HS.out]; simp⟩
          clear HS hq3
          go_wp2_with (first | (go_at_call 81; refine (impl_isName.calls kn y.f0 true _ HN.out).mono ?_; rintro e w' ⟨rfl, ⟨nd3, rfl⟩⟩) | (go_at_call 82; refine (HMA.out nd3).mono ?_; rintro e w4 ⟨rfl, hb⟩; have HB4 := Aside0.mk (below_step (pw_below_drewN HB2.out nd3) hb); have hc4 : w4.cell? ⟨gm, 1, none⟩ = some (.slice A1 y.f1.length c1) := (blk_cell (blk_below (blk_drewN BM2.out nd3) hb) 1).trans rfl; clear hb) | (go_at_call 83; refine (impl_Rule_83.calls A1 c1 y.f1 _ _ (Kd.C_below HI1.out HB4.out) HC1.out rfl).mono ?_; rintro e w' ⟨rfl, ⟨nd4, rfl⟩⟩) | (go_at_call 79; refine (impl_within.calls _ _ _ false _ HW.out).mono ?_; rintro e w' ⟨rfl, ⟨nd5, rfl⟩⟩))
          go_ret
          exact ⟨by (rw [hs2.out]; try rfl), by repeat (first | (with_reducible exact HB4.out) | apply pw_below_drewN | apply below_drew1)⟩
        rw [hq3] at HS HW
        clear hq3
        have hs0 : Aside0 (gb = (y.f1.all (ruleB l0) && modesB l0 (kk + 1))) := ⟨by rw [HS.out]; simp⟩
        clear HS
        have hca : ∀ W : World, W.heap[w.heap.size]? = some (.cells #[.slice (some ad) l0.length c0] 46) → Below w.heap.size w W → Calls Try.prog 84 #[.slice A1 y.f1.length c1, .func (.func 85) #[] #[.pointer (some ⟨w.heap.size, 0, none⟩)]] W fun e w' => e = .returned (.bool (!y.f1.all (ruleB l0))) ∧ Below W.heap.size W w' := fun W h1 h2 => rules_calls l0 y.f1 (some ad) A1 c0 c1 _ w W HM.out.2.2 HR.out HC.out HI1.out h1 h2
        have HCA := Lib.hid hca
        clear hca
        cases hq4 : y.f1.all (ruleB l0)
        · rw [hq4] at hs0 HCA
          have hs2 : Aside0 (gb = false) := ⟨by rw [hs0.out]; rfl⟩
          clear hs0 hq4
          go_wp2_with (first | (go_at_call 81; refine (impl_isName.calls kn y.f0 true _ HN.out).mono ?_; rintro e w' ⟨rfl, ⟨nd3, rfl⟩⟩) | (go_at_call 82; refine (HMA.out nd3).mono ?_; rintro e w4 ⟨rfl, hb⟩; have HB4 := Aside0.mk (below_step (pw_below_drewN HB2.out nd3) hb); have BK4 := Aside0.mk (blk_below (blk_drewN BK2.out nd3) hb); have hc4 : w4.cell? ⟨gm, 1, none⟩ = some (.slice A1 y.f1.length c1) := (blk_cell (blk_below (blk_drewN BM2.out nd3) hb) 1).trans rfl; clear hb) | (go_at_call 83; refine (impl_Rule_83.calls A1 c1 y.f1 _ _ (Kd.C_below HI1.out HB4.out) HC1.out rfl).mono ?_; rintro e w' ⟨rfl, ⟨nd4, rfl⟩⟩) | (go_at_call 79; refine (impl_within.calls _ _ _ true _ HW.out).mono ?_; rintro e w' ⟨rfl, ⟨nd5, rfl⟩⟩) | (go_at_call 84; refine (HCA.out _ (blk_drewN BK4.out _) (pw_below_drewN HB4.out _)).mono ?_; rintro e w5 ⟨rfl, hb⟩; have HB5 := Aside0.mk (below_step (pw_below_drewN HB4.out _) hb); clear hb))
          go_ret
          exact ⟨by (rw [hs2.out]; try rfl), by repeat (first | (with_reducible exact HB5.out) | apply pw_below_drewN | apply below_drew1)⟩
        · rw [hq4] at hs0 HCA
          have hs2 : Aside0 (gb = modesB l0 (kk + 1)) := ⟨by rw [hs0.out]; rfl⟩
          clear hs0 hq4
          go_wp2_with (first | (go_at_call 81; refine (impl_isName.calls kn y.f0 true _ HN.out).mono ?_; rintro e w' ⟨rfl, ⟨nd3, rfl⟩⟩) | (go_at_call 82; refine (HMA.out nd3).mono ?_; rintro e w4 ⟨rfl, hb⟩; have HB4 := Aside0.mk (below_step (pw_below_drewN HB2.out nd3) hb); have BK4 := Aside0.mk (blk_below (blk_drewN BK2.out nd3) hb); have hc4 : w4.cell? ⟨gm, 1, none⟩ = some (.slice A1 y.f1.length c1) := (blk_cell (blk_below (blk_drewN BM2.out nd3) hb) 1).trans rfl; clear hb) | (go_at_call 83; refine (impl_Rule_83.calls A1 c1 y.f1 _ _ (Kd.C_below HI1.out HB4.out) HC1.out rfl).mono ?_; rintro e w' ⟨rfl, ⟨nd4, rfl⟩⟩) | (go_at_call 79; refine (impl_within.calls _ _ _ true _ HW.out).mono ?_; rintro e w' ⟨rfl, ⟨nd5, rfl⟩⟩) | (go_at_call 84; refine (HCA.out _ (blk_drewN BK4.out _) (pw_below_drewN HB4.out _)).mono ?_; rintro e w5 ⟨rfl, hb⟩; have BK5 := Aside0.mk (blk_below (blk_drewN BK4.out _) hb); have HB5 := Aside0.mk (below_step (pw_below_drewN HB4.out _) hb); clear hb))
          go_roundg (l0.length - (kk + 1))
          case measure => omega
          case rel => exact ⟨kk + 1, by omega, by omega, by go_num, hs2, ⟨BK5.out⟩, ⟨HB5.out⟩⟩
      · have hne1 : (mm != (kk : Int)) = true := by simpa using hq2
        have hs2 : Aside0 (gb = false) := ⟨by rw [HS.out, decide_eq_false hq2]; rfl⟩
        clear HS hq2
        go_wp2_with (first | (go_at_call 81; refine (impl_isName.calls kn y.f0 true _ HN.out).mono ?_; rintro e w' ⟨rfl, ⟨nd3, rfl⟩⟩) | (go_at_call 82; refine (HMA.out nd3).mono ?_; rintro e w4 ⟨rfl, hb⟩; have HB4 := Aside0.mk (below_step (pw_below_drewN HB2.out nd3) hb); clear hb))
        go_ret
        exact ⟨by (rw [hs2.out]; try rfl), by repeat (first | (with_reducible exact HB4.out) | apply pw_below_drewN | apply below_drew1)⟩
    · have hltz : ¬ (kk : Int) < (l0.length : Int) := by omega
      have hk : kk = l0.length := by omega
      have hs2 : Aside0 (gb = true) := ⟨by rw [HA.out, hk, modesB_end]⟩
      clear hk HA
      go_wp2
      go_ret
      exact ⟨by (rw [hs2.out]; try rfl), HB.out⟩
end Go.Proofs.Ytijmhelacmjggaa.P
-- Made by wip/gen/pp.py of this session over the kit's print of the loaded program: a function, and the contract of its walk. Lean checks it.
namespace Go.Proofs.Ytijmhelacmjggaa.P
open Go.RowKit Go.Proofs.YtijmhelacmjggaaW.PrintWords Go.Proofs.YtijmhelacmjggaaW.PrintLast Go.Proofs.YtijmhelacmjggaaW.PrintMore
attribute [local go_sem] max2_int min2_int max_two min_two max_three min_three max_four min_four   -- for this text's walks alone
set_option linter.unusedVariables false
set_option linter.unusedSimpArgs false

/-! ### impl_GrammarOk: function 28 -/
def smallRB (x : S113) : Bool := decide (x.f0.size ≤ 1048576) && (decide (x.f1.f0.length ≤ 1048576) && x.f1.f0.all fun y => decide (y.f2.length ≤ 9223372036854775807))
def smallMB (m : S108) : Bool := decide (m.f0.size ≤ 1048576) && (decide (m.f1.length ≤ 1048576) && m.f1.all smallRB)
def smallGB (g : List (S108)) : Bool := decide (g.length ≤ 1048576) && g.all smallMB
theorem smallG_iff (g : List (S108)) : smallGB g = true ↔ smallG g := by
  simp only [smallGB, smallMB, smallRB, smallG, smallM, smallR, Bool.and_eq_true, decide_eq_true_eq, List.all_eq_true]
def impl_GrammarOk.f (l0_0 : List (S108)) : Option (Bool) := if smallGB l0_0 = true then some (grammarB l0_0) else none
theorem impl_GrammarOk.calls (A0_0 : Option Addr) (c0_0 : Nat) (l0_0 : List (S108)) (r : Bool) (w : World) (hr0_0 : Kd.C k108 w A0_0 l0_0.length l0_0) (hc0_0 : l0_0.length ≤ c0_0) (h : impl_GrammarOk.f l0_0 = some r) :
    Calls Try.prog 28 #[.agg #[.slice A0_0 l0_0.length c0_0]] w fun e w' => e = .returned (.bool r) ∧ Below w.heap.size w w' := by
  unfold impl_GrammarOk.f at h
  by_cases hp : smallGB l0_0 = true
  · rw [if_pos hp] at h
    obtain rfl := Option.some.inj h
    exact GrammarOk_hand A0_0 c0_0 l0_0 w ((smallG_iff l0_0).1 hp) hr0_0 hc0_0
  · rw [if_neg hp] at h
    exact absurd h (by simp)

end Go.Proofs.Ytijmhelacmjggaa.P
-- Made by wip/gen/pp.py of this session over the kit's print of the loaded program: a function, and the contract of its walk. Lean checks it.
namespace Go.Proofs.Ytijmhelacmjggaa.P
open Go.RowKit Go.Proofs.YtijmhelacmjggaaW.PrintWords Go.Proofs.YtijmhelacmjggaaW.PrintLast Go.Proofs.YtijmhelacmjggaaW.PrintMore
attribute [local go_sem] max2_int min2_int max_two min_two max_three min_three max_four min_four   -- for this text's walks alone
set_option linter.unusedVariables false
set_option linter.unusedSimpArgs false

/-! ### laws_eqSpan: function 72 -/
def laws_eqSpan.f (a0_0 : Int) (a0_1 : Int) (a1_0 : Int) (a1_1 : Int) : Option (Bool) := if a0_0 = a1_0 then (if a0_1 = a1_1 then (some true) else (none)) else (none)
set_option maxHeartbeats 8000000 in
set_option maxRecDepth 100000 in
theorem laws_eqSpan.calls (a0_0 : Int) (a0_1 : Int) (a1_0 : Int) (a1_1 : Int) (r : Bool) (w : World) (h : laws_eqSpan.f a0_0 a0_1 a1_0 a1_1 = some r) :
  Calls Try.prog 72 #[.agg #[.int .i64 a0_0, .int .i64 a0_1], .agg #[.int .i64 a1_0, .int .i64 a1_1]] w fun e w' => e = .returned (.bool r) ∧ Below w.heap.size w w' := by
 have hu103 := Try.underlying103
 have HB := Aside0.mk (Below.refl w.heap.size w)
 have H : (if a0_0 = a1_0 then (if a0_1 = a1_1 then (some true) else (none)) else (none)) = some r := h
 clear h
 by_cases c3 : a0_0 = a1_0
 ·rw [if_pos c3] at H
  have c3b0 : (a0_0 == a1_0) = true := beq_iff_eq.mpr c3
  have c3b1 : (a0_0 != a1_0) = false := bne_eq_false_iff_eq.mpr c3
  clear c3
  by_cases c4 : a0_1 = a1_1
  ·rw [if_pos c4] at H
   have c4b0 : (a0_1 == a1_1) = true := beq_iff_eq.mpr c4
   have c4b1 : (a0_1 != a1_1) = false := bne_eq_false_iff_eq.mpr c4
   clear c4
   obtain rfl := Option.some.inj H
   go_enter Try.func72, Try.ntmps72
   go_wp2_with (first | ((with_reducible refine gate_dst (N := 2) rfl ?_); refine box_event ?hg (N := 2) ?hd (cs := #[.int .i64 a0_0, .int .i64 a0_1]) (t := 103) ?hr ?_; (case hd => rfl); (case hg => rfl); (case hr => first | (go_simp; done) | (go_simp; rfl)); intro gb101 hg w5 hbox hb; have n0_ := Aside0.mk (below_step (be_ HB.out) hb); have n1_ := Aside0.mk (hbox); have n2_ := Aside0.mk ((by rw [hg]; exact (below_size (be_ HB.out)) : w.heap.size ≤ gb101)); have n3_ := Aside0.mk ((by rw [hg]; exact (below_size (be_ HB.out)) : w.heap.size ≤ gb101)); clear HB; have HB := n0_; have BK101 := n1_; have GW101 := n2_; have GE101 := n3_; clear n0_ n1_ n2_ n3_; clear hb hbox hg) | ((with_reducible refine gate_dst (N := 3) rfl ?_); refine box_event ?hg (N := 3) ?hd (cs := #[.int .i64 a1_0, .int .i64 a1_1]) (t := 103) ?hr ?_; (case hd => rfl); (case hg => rfl); (case hr => first | (go_simp; done) | (go_simp; rfl)); intro gb102 hg w6 hbox hb; have n0_ := Aside0.mk (blk_below (g := gb101) (o := .cells #[.int .i64 a0_0, .int .i64 a0_1] 103 (0, 0)) (bk_ BK101.out) hb); have n1_ := Aside0.mk (below_step (be1_ HB.out GE101.out) hb); have n2_ := Aside0.mk (hbox); have n3_ := Aside0.mk ((by rw [hg]; exact (below_size (be1_ HB.out GE101.out)) : w.heap.size ≤ gb102)); have n4_ := Aside0.mk ((by rw [hg]; exact (below_size (be1_ HB.out GE101.out)) : w.heap.size ≤ gb102)); have n5_ := Aside0.mk ((by rw [hg]; exact Nat.ne_of_lt (blk_lt (g := gb101) (o := .cells #[.int .i64 a0_0, .int .i64 a0_1] 103 (0, 0)) (bk_ BK101.out)) : gb101 ≠ gb102)); have n6_ := Aside0.mk ((by rw [hg]; exact Nat.ne_of_gt (blk_lt (g := gb101) (o := .cells #[.int .i64 a0_0, .int .i64 a0_1] 103 (0, 0)) (bk_ BK101.out)) : gb102 ≠ gb101)); clear BK101; clear HB; have BK101 := n0_; have HB := n1_; have BK102 := n2_; have GW102 := n3_; have GE102 := n4_; have NB101_102 := n5_; have NB102_101 := n6_; clear n0_ n1_ n2_ n3_ n4_ n5_ n6_; clear hb hbox hg; have hnb7 := NB101_102.out; have hnc7 := NB102_101.out; have hcz8_0 : w6.cell? ⟨gb101, 0, none⟩ = some (.int .i64 a0_0) := (blk_cell BK101.out 0).trans rfl; have hcz8_1 : w6.cell? ⟨gb101, 1, none⟩ = some (.int .i64 a0_1) := (blk_cell BK101.out 1).trans rfl; have hfz8_0 := blk_frozen BK101.out 0; have hfz8_1 := blk_frozen BK101.out 1; have hcz9_0 : w6.cell? ⟨gb102, 0, none⟩ = some (.int .i64 a1_0) := (blk_cell BK102.out 0).trans rfl; have hcz9_1 : w6.cell? ⟨gb102, 1, none⟩ = some (.int .i64 a1_1) := (blk_cell BK102.out 1).trans rfl; have hfz9_0 := blk_frozen BK102.out 0; have hfz9_1 := blk_frozen BK102.out 1))
   go_ret
   exact ⟨rt_, be2_ HB.out GE101.out GE102.out⟩
  ·rw [if_neg c4] at H
   have c4b0 : (a0_1 == a1_1) = false := beq_eq_false_iff_ne.mpr c4
   have c4b1 : (a0_1 != a1_1) = true := bne_iff_ne.mpr c4
   exact absurd H (by simp)
 ·rw [if_neg c3] at H
  have c3b0 : (a0_0 == a1_0) = false := beq_eq_false_iff_ne.mpr c3
  have c3b1 : (a0_0 != a1_0) = true := bne_iff_ne.mpr c3
  exact absurd H (by simp)
end Go.Proofs.Ytijmhelacmjggaa.P
-- Made by wip/gen/pp.py of this session over the kit's print of the loaded program: a function, and the contract of its walk. Lean checks it.
namespace Go.Proofs.Ytijmhelacmjggaa.P
open Go.RowKit Go.Proofs.YtijmhelacmjggaaW.PrintWords Go.Proofs.YtijmhelacmjggaaW.PrintLast Go.Proofs.YtijmhelacmjggaaW.PrintMore
attribute [local go_sem] max2_int min2_int max_two min_two max_three min_three max_four min_four   -- for this text's walks alone
set_option linter.unusedVariables false
set_option linter.unusedSimpArgs false

/-! ### laws_eqSpanS: function 21 -/
def laws_eqSpanS.l0 : Nat → List (S103) → List (S103) → Int → Option (Bool)
 | 0, _, _, _ => none
 | k + 1, x0, x1, x5 => if x5 < (x0.length : Int) then (if 0 ≤ x5 then (if x5 < (x1.length : Int) then ((laws_eqSpan.f ((rd_T103 x0 x5).f0) ((rd_T103 x0 x5).f1) ((rd_T103 x1 x5).f0) ((rd_T103 x1 x5).f1)).bind fun t103 => (if t103 = true then (laws_eqSpanS.l0 k x0 x1 (wrap64 (x5 + 1))) else (none))) else (none)) else (none)) else (some true)
def laws_eqSpanS.f (k : Nat) (l0 : List (S103)) (l1 : List (S103)) : Option (Bool) := if (l0.length : Int) = (l1.length : Int) then (laws_eqSpanS.l0 k l0 l1 0) else (none)
theorem laws_eqSpanS.mono_l : ∀ k, (∀ y0 y1 y2, LeO (laws_eqSpanS.l0 k y0 y1 y2) (laws_eqSpanS.l0 (k + 1) y0 y1 y2))
 | 0 => fun _ _ _ r h => by simp [laws_eqSpanS.l0] at h
 | k + 1 => by
  have ih0 := laws_eqSpanS.mono_l k
  ·intro y0 y1 y2
   unfold laws_eqSpanS.l0
   repeat' first
   | (with_reducible exact ih0 _ _ _)
   | (with_reducible exact LeO.refl _)
   | (with_reducible exact LeO.none _)
   | (with_reducible refine LeO.ite ?_ ?_)
   | (with_reducible refine LeO.bind ?_ (fun _ => ?_))
   | exact ih0 _ _ _
   | exact LeO.none _
   | refine LeO.ite ?_ ?_
   | refine LeO.bind ?_ (fun _ => ?_)
theorem laws_eqSpanS.mono : ∀ a0 a1 k, LeO (laws_eqSpanS.f k a0 a1) (laws_eqSpanS.f (k + 1) a0 a1) := by
 intro a0 a1 k
 have ih0 := laws_eqSpanS.mono_l k
 unfold laws_eqSpanS.f
 repeat' first
   | (with_reducible exact ih0 _ _ _)
   | (with_reducible exact LeO.refl _)
   | (with_reducible exact LeO.none _)
   | (with_reducible refine LeO.ite ?_ ?_)
   | (with_reducible refine LeO.bind ?_ (fun _ => ?_))
   | exact ih0 _ _ _
   | exact LeO.none _
   | refine LeO.ite ?_ ?_
   | refine LeO.bind ?_ (fun _ => ?_)
def laws_eqSpanS.T6 : Bool × List (List Nat × List Nat) := (true, [([], []), ([], []), ([0, 1], [0, 1]), ([2], [2]), ([], []), ([], []), ([4, 5], [4, 5]), ([6], [6]), ([3, 7], [3, 7]), ([8], [8])])
def laws_eqSpanS.B6 : List Nat := [0, 0, 3, 7, 0, 0, 48, 112, 255, 511]
theorem laws_eqSpanS.tab6 : rtab .any (opsOf Try.f21 6) = laws_eqSpanS.T6 := by kernel_rfl
theorem laws_eqSpanS.bits6 : waitsOk laws_eqSpanS.T6.2 laws_eqSpanS.B6 = true := by kernel_rfl
set_option maxHeartbeats 8000000 in
set_option maxRecDepth 100000 in
theorem laws_eqSpanS.calls (k : Nat) (A0 : Option Addr) (c0 : Nat) (l0 : List (S103)) (A1 : Option Addr) (c1 : Nat) (l1 : List (S103)) (r : Bool) (w : World) (hr0 : Kd.C k103 w A0 l0.length l0) (hc0 : l0.length ≤ c0) (hr1 : Kd.C k103 w A1 l1.length l1) (hc1 : l1.length ≤ c1) (h : laws_eqSpanS.f k l0 l1 = some r) :
  Calls Try.prog 21 #[.slice A0 l0.length c0, .slice A1 l1.length c1] w fun e w' => e = .returned (.bool r) ∧ Below w.heap.size w w' := by
 have hu103 := Try.underlying103
 have HR0 := Aside0.mk hr0
 have HC0 := Aside0.mk hc0
 clear hr0 hc0
 have HR1 := Aside0.mk hr1
 have HC1 := Aside0.mk hc1
 clear hr1 hc1
 have HB := Aside0.mk (Below.refl w.heap.size w)
 have H : (if (l0.length : Int) = (l1.length : Int) then (laws_eqSpanS.l0 k l0 l1 0) else (none)) = some r := h
 clear h
 by_cases c3 : (l0.length : Int) = (l1.length : Int)
 ·rw [if_pos c3] at H
  have c3b0 : ((l0.length : Int) == (l1.length : Int)) = true := beq_iff_eq.mpr c3
  have c3b1 : ((l0.length : Int) != (l1.length : Int)) = false := bne_eq_false_iff_eq.mpr c3
  have c3b2 : (l0.length == l1.length) = true := by first | simpa using c3 | (simp at c3 ⊢; omega)
  clear c3
  have H' := Aside0.mk H
  clear H
  go_enter Try.func21, Try.ntmps21
  go_wp2
  go_loopg [5] k (fun kq v5 w' => ∃ (x5_1 : Int), v5 = .int .i64 x5_1 ∧ Aside0 (laws_eqSpanS.l0 kq l0 l1 x5_1 = some r) ∧ Aside0 (kq ≤ k) ∧ Aside0 (Below w.heap.size w w'))
  case atStart => exact ⟨(0), rs_, H', ⟨Nat.le_refl _⟩, ⟨be_ HB.out⟩⟩
  case round =>
   clear H'
   try clear c1
   try clear c2
   try clear p2
   try clear c3
   try clear c3b0
   try clear c3b1
   try clear c3b2
   obtain ⟨x5_1, rfl, HA, HK1, HB⟩ := hrel
   cases gk with
   | zero => exact absurd HA.out (by simp [laws_eqSpanS.l0])
   | succ k1 =>
    have H := HA.out
    clear HA
    simp only [laws_eqSpanS.l0] at H
    by_cases c4 : x5_1 < (l0.length : Int)
    ·rw [if_pos c4] at H
     have c4b0 : decide (x5_1 < (l0.length : Int)) = true := decide_eq_true c4
     clear c4
     by_cases c5 : 0 ≤ x5_1
     ·rw [if_pos c5] at H
      have c5b0 : decide (0 ≤ x5_1) = true := decide_eq_true c5
      clear c5
      by_cases c6 : x5_1 < (l1.length : Int)
      ·rw [if_pos c6] at H
       have c6b0 : decide (x5_1 < (l1.length : Int)) = true := decide_eq_true c6
       clear c6
       replace H := Option.bind_eq_some_iff.mp H
       obtain ⟨t103, A70, H⟩ := H
       replace H : (if t103 = true then (laws_eqSpanS.l0 k1 l0 l1 (wrap64 (x5_1 + 1))) else (none)) = some r := H
       have A7 := Aside0.mk A70
       clear A70
       by_cases c8 : t103 = true
       ·subst c8
        have H1 : (laws_eqSpanS.l0 k1 l0 l1 (wrap64 (x5_1 + 1))) = some r := by rw [if_pos rfl] at H; exact H
        clear H
        have H := H1
        clear H1
        have H' := Aside0.mk H
        clear H
        try go_wp2
        have n0_ := Aside0.mk (below_drew1 HB.out)
        clear HB
        have HB := n0_
        clear n0_
        have p101 : 0 ≤ (x5_1 : Int) := of_decide_eq_true as_
        have q101 : x5_1 < (l0.length : Int) := of_decide_eq_true as_
        obtain ⟨ad101, e101, hx101_0, hx101_1⟩ := at_T103 HR0.out x5_1 p101 q101
        have hw101_1 := hx101_1
        have hw101_0 := hx101_0
        cases e101
        replace hx101_0 := mv_ HB.out hx101_0
        replace hx101_1 := mv_ HB.out hx101_1
        replace p101 := eq_true p101
        replace q101 := eq_true q101
        have p102 : 0 ≤ (x5_1 : Int) := of_decide_eq_true as_
        have q102 : x5_1 < (l1.length : Int) := of_decide_eq_true as_
        obtain ⟨ad102, e102, hx102_0, hx102_1⟩ := at_T103 HR1.out x5_1 p102 q102
        have hw102_1 := hx102_1
        have hw102_0 := hx102_0
        cases e102
        replace hx102_0 := mv_ HB.out hx102_0
        replace hx102_1 := mv_ HB.out hx102_1
        replace p102 := eq_true p102
        replace q102 := eq_true q102
        refine start_ (n := 10) (S := fun w' => w'.cell? (ad101.add ((x5_1).toNat * 2)) = some (.int .i64 ((rd_T103 l0 x5_1).f0)) ∧ w'.cell? ⟨(ad101.add ((x5_1).toNat * 2)).block, (ad101.add ((x5_1).toNat * 2)).off + 1, none⟩ = some (.int .i64 ((rd_T103 l0 x5_1).f1)) ∧ w'.cell? (ad102.add ((x5_1).toNat * 2)) = some (.int .i64 ((rd_T103 l1 x5_1).f0)) ∧ w'.cell? ⟨(ad102.add ((x5_1).toNat * 2)).block, (ad102.add ((x5_1).toNat * 2)).off + 1, none⟩ = some (.int .i64 ((rd_T103 l1 x5_1).f1))) (ds := []) #[false, false, false, false, false, false, false, false, false, false] (by kernel_rfl) rfl rfl ⟨(mv_ HB.out hw101_0), (mv_ HB.out hw101_1), (mv_ HB.out hw102_0), (mv_ HB.out hw102_1)⟩ (fun hHeld => ?_); refine with_tabW laws_eqSpanS.tab6 laws_eqSpanS.bits6 (fun HT_ HW_ => ?_)
        generalize wr.drew = w9 at HB hx101_0 hx101_1 hx102_0 hx102_1 hHeld ⊢
        refine pu_ 0 (some 17) (bb 10 1) HT_.out ?_
        refine pu_ 1 (some 18) (bb 10 3) HT_.out ?_
        refine pu_ 2 (some 19) (bb 10 7) HT_.out ?_
        refine pu_ 4 (some 21) (bb 10 23) HT_.out ?_
        refine pu_ 5 (some 22) (bb 10 55) HT_.out ?_
        refine pu_ 6 (some 23) (bb 10 119) HT_.out ?_
        refine ta_ 3 (some 20) (bb 10 127) HT_.out HW_.out hHeld ?_
        refine ta_ 7 (some 24) (bb 10 255) HT_.out HW_.out hHeld ?_
        refine one_ (i := 8) (N := some 25) (bb 10 511) rfl rfl (one_of HT_.out (by kernel_rfl)) (by decide) (fun K hK => ?_)
        refine gs_ Try.func72 #[.agg #[.int .i64 ((rd_T103 l0 x5_1).f0), .int .i64 ((rd_T103 l0 x5_1).f1)], .agg #[.int .i64 ((rd_T103 l1 x5_1).f0), .int .i64 ((rd_T103 l1 x5_1).f1)]] ?_
        with_reducible refine (laws_eqSpan.calls ((rd_T103 l0 x5_1).f0) ((rd_T103 l0 x5_1).f1) ((rd_T103 l1 x5_1).f0) ((rd_T103 l1 x5_1).f1) true _ A7.out).mono ?_
        rintro e w10 ⟨rfl, hb⟩
        refine ⟨_, rfl, ?_⟩
        have n0_ := Aside0.mk (below_step (be_ HB.out) hb)
        clear HB
        have HB := n0_
        clear n0_
        (try clear hb)
        (try clear hb2)
        (try clear hk)
        (try clear hi)
        refine hK.out _ _ ⟨(mv_ HB.out hw101_0), (mv_ HB.out hw101_1), (mv_ HB.out hw102_0), (mv_ HB.out hw102_1)⟩ (fun hHeld => ?_)
        clear hK K
        refine no_ (some 25) ?_
        refine pu_ 9 (some 26) (bb 10 1023) HT_.out ?_
        refine done_ (done_of HT_.out (by kernel_rfl)) ?_
        try go_wp2
        go_roundg k1
        case measure => have := HK1.out; omega
        case rel => exact ⟨(wrap64 (x5_1 + 1)), rs_, H', ⟨by have := HK1.out; omega⟩, ⟨be_ HB.out⟩⟩
       ·replace c8 := Bool.eq_false_iff.mpr c8
        subst c8
        have H1 : (none) = some r := by rw [if_neg (show ¬ (false = true) by decide)] at H; exact H
        clear H
        have H := H1
        clear H1
        exact absurd H (by simp)
      ·rw [if_neg c6] at H
       exact absurd H (by simp)
     ·rw [if_neg c5] at H
      exact absurd H (by simp)
    ·rw [if_neg c4] at H
     have c4b0 : decide (x5_1 < (l0.length : Int)) = false := decide_eq_false c4
     clear c4
     obtain rfl := Option.some.inj H
     go_wp2
     go_ret
     exact ⟨rt_, be_ HB.out⟩
 ·rw [if_neg c3] at H
  have c3b0 : ((l0.length : Int) == (l1.length : Int)) = false := beq_eq_false_iff_ne.mpr c3
  have c3b1 : ((l0.length : Int) != (l1.length : Int)) = true := bne_iff_ne.mpr c3
  have c3b2 : (l0.length == l1.length) = false := by first | simpa using c3 | (simp at c3 ⊢; omega)
  exact absurd H (by simp)
end Go.Proofs.Ytijmhelacmjggaa.P
-- Made by wip/gen/pp.py of this session over the kit's print of the loaded program: a function, and the contract of its walk. Lean checks it.
namespace Go.Proofs.Ytijmhelacmjggaa.P
open Go.RowKit Go.Proofs.YtijmhelacmjggaaW.PrintWords Go.Proofs.YtijmhelacmjggaaW.PrintLast Go.Proofs.YtijmhelacmjggaaW.PrintMore
attribute [local go_sem] max2_int min2_int max_two min_two max_three min_three max_four min_four   -- for this text's walks alone
set_option linter.unusedVariables false
set_option linter.unusedSimpArgs false

/-! ### laws_eqInt64S: function 40 -/
def laws_eqInt64S.l0 : Nat → List Int → List Int → Int → Option (Bool)
 | 0, _, _, _ => none
 | k + 1, x0, x1, x5 => if x5 < (x0.length : Int) then (if 0 ≤ x5 then (if x5 < (x1.length : Int) then (if (rd x0 x5) = (rd x1 x5) then (laws_eqInt64S.l0 k x0 x1 (wrap64 (x5 + 1))) else (none)) else (none)) else (none)) else (some true)
def laws_eqInt64S.f (k : Nat) (l0 : List Int) (l1 : List Int) : Option (Bool) := if (l0.length : Int) = (l1.length : Int) then (laws_eqInt64S.l0 k l0 l1 0) else (none)
theorem laws_eqInt64S.mono_l : ∀ k, (∀ y0 y1 y2, LeO (laws_eqInt64S.l0 k y0 y1 y2) (laws_eqInt64S.l0 (k + 1) y0 y1 y2))
 | 0 => fun _ _ _ r h => by simp [laws_eqInt64S.l0] at h
 | k + 1 => by
  have ih0 := laws_eqInt64S.mono_l k
  ·intro y0 y1 y2
   unfold laws_eqInt64S.l0
   repeat' first
   | (with_reducible exact ih0 _ _ _)
   | (with_reducible exact LeO.refl _)
   | (with_reducible exact LeO.none _)
   | (with_reducible refine LeO.ite ?_ ?_)
   | (with_reducible refine LeO.bind ?_ (fun _ => ?_))
   | exact ih0 _ _ _
   | exact LeO.none _
   | refine LeO.ite ?_ ?_
   | refine LeO.bind ?_ (fun _ => ?_)
theorem laws_eqInt64S.mono : ∀ a0 a1 k, LeO (laws_eqInt64S.f k a0 a1) (laws_eqInt64S.f (k + 1) a0 a1) := by
 intro a0 a1 k
 have ih0 := laws_eqInt64S.mono_l k
 unfold laws_eqInt64S.f
 repeat' first
   | (with_reducible exact ih0 _ _ _)
   | (with_reducible exact LeO.refl _)
   | (with_reducible exact LeO.none _)
   | (with_reducible refine LeO.ite ?_ ?_)
   | (with_reducible refine LeO.bind ?_ (fun _ => ?_))
   | exact ih0 _ _ _
   | exact LeO.none _
   | refine LeO.ite ?_ ?_
   | refine LeO.bind ?_ (fun _ => ?_)
set_option maxHeartbeats 8000000 in
set_option maxRecDepth 100000 in
theorem laws_eqInt64S.calls (k : Nat) (A0 : Option Addr) (c0 : Nat) (l0 : List Int) (A1 : Option Addr) (c1 : Nat) (l1 : List Int) (r : Bool) (w : World) (hr0 : Kd.C (Kd.int .i64) w A0 l0.length l0) (hc0 : l0.length ≤ c0) (hr1 : Kd.C (Kd.int .i64) w A1 l1.length l1) (hc1 : l1.length ≤ c1) (h : laws_eqInt64S.f k l0 l1 = some r) :
  Calls Try.prog 40 #[.slice A0 l0.length c0, .slice A1 l1.length c1] w fun e w' => e = .returned (.bool r) ∧ Drawn0 w w' := by
 have HR0 := Aside0.mk hr0
 have HC0 := Aside0.mk hc0
 clear hr0 hc0
 have HR1 := Aside0.mk hr1
 have HC1 := Aside0.mk hc1
 clear hr1 hc1
 have H : (if (l0.length : Int) = (l1.length : Int) then (laws_eqInt64S.l0 k l0 l1 0) else (none)) = some r := h
 clear h
 by_cases c3 : (l0.length : Int) = (l1.length : Int)
 ·rw [if_pos c3] at H
  have c3b0 : ((l0.length : Int) == (l1.length : Int)) = true := beq_iff_eq.mpr c3
  have c3b1 : ((l0.length : Int) != (l1.length : Int)) = false := bne_eq_false_iff_eq.mpr c3
  have c3b2 : (l0.length == l1.length) = true := by first | simpa using c3 | (simp at c3 ⊢; omega)
  clear c3
  have H' := Aside0.mk H
  clear H
  go_enter Try.func40, Try.ntmps40
  go_wp2
  repeat (go_quiet (fail); try go_wp2)
  go_loopg [5] k (fun kq v5 w' => ∃ (x5_1 : Int), v5 = .int .i64 x5_1 ∧ Aside0 (laws_eqInt64S.l0 kq l0 l1 x5_1 = some r) ∧ Aside0 (kq ≤ k) ∧ Drawn0 w w')
  case atStart => exact ⟨(0), rs_, H', ⟨Nat.le_refl _⟩, by repeat (first | exact Drawn0.refl _ | apply Drawn0.step)⟩
  case round =>
   clear H'
   try clear c1
   try clear p2
   try clear c3
   try clear c3b0
   try clear c3b1
   try clear c3b2
   obtain ⟨x5_1, rfl, HA, HK1, ⟨m1, rfl⟩⟩ := hrel
   cases gk with
   | zero => exact absurd HA.out (by simp [laws_eqInt64S.l0])
   | succ k1 =>
    have H := HA.out
    clear HA
    simp only [laws_eqInt64S.l0] at H
    by_cases c4 : x5_1 < (l0.length : Int)
    ·rw [if_pos c4] at H
     have c4b0 : decide (x5_1 < (l0.length : Int)) = true := decide_eq_true c4
     clear c4
     by_cases c5 : 0 ≤ x5_1
     ·rw [if_pos c5] at H
      have c5b0 : decide (0 ≤ x5_1) = true := decide_eq_true c5
      clear c5
      by_cases c6 : x5_1 < (l1.length : Int)
      ·rw [if_pos c6] at H
       have c6b0 : decide (x5_1 < (l1.length : Int)) = true := decide_eq_true c6
       clear c6
       by_cases c7 : (rd l0 x5_1) = (rd l1 x5_1)
       ·rw [if_pos c7] at H
        have c7b0 : ((rd l0 x5_1) == (rd l1 x5_1)) = true := beq_iff_eq.mpr c7
        have c7b1 : ((rd l0 x5_1) != (rd l1 x5_1)) = false := bne_eq_false_iff_eq.mpr c7
        clear c7
        have H' := Aside0.mk H
        clear H
        have p101 : 0 ≤ (x5_1 : Int) := of_decide_eq_true as_
        have q101 : x5_1 < (l0.length : Int) := of_decide_eq_true as_
        obtain ⟨ad101, e101, hx101_0⟩ := Kd.at_int HR0.out x5_1 p101 q101
        cases e101
        replace p101 := eq_true p101
        replace q101 := eq_true q101
        have p102 : 0 ≤ (x5_1 : Int) := of_decide_eq_true as_
        have q102 : x5_1 < (l1.length : Int) := of_decide_eq_true as_
        obtain ⟨ad102, e102, hx102_0⟩ := Kd.at_int HR1.out x5_1 p102 q102
        cases e102
        replace p102 := eq_true p102
        replace q102 := eq_true q102
        go_wp2
        repeat (go_quiet (fail); try go_wp2)
        go_roundg k1
        case measure => have := HK1.out; omega
        case rel => exact ⟨(wrap64 (x5_1 + 1)), rs_, H', ⟨by have := HK1.out; omega⟩, by repeat (first | exact Drawn0.refl _ | apply Drawn0.step)⟩
       ·rw [if_neg c7] at H
        have c7b0 : ((rd l0 x5_1) == (rd l1 x5_1)) = false := beq_eq_false_iff_ne.mpr c7
        have c7b1 : ((rd l0 x5_1) != (rd l1 x5_1)) = true := bne_iff_ne.mpr c7
        exact absurd H (by simp)
      ·rw [if_neg c6] at H
       exact absurd H (by simp)
     ·rw [if_neg c5] at H
      exact absurd H (by simp)
    ·rw [if_neg c4] at H
     have c4b0 : decide (x5_1 < (l0.length : Int)) = false := decide_eq_false c4
     clear c4
     obtain rfl := Option.some.inj H
     go_wp2
     repeat (go_quiet (fail); try go_wp2)
     go_ret
     exact ⟨by first | rfl | (simp; done) | (simp [*]; done), by repeat (first | exact Drawn0.refl _ | apply Drawn0.step)⟩
 ·rw [if_neg c3] at H
  have c3b0 : ((l0.length : Int) == (l1.length : Int)) = false := beq_eq_false_iff_ne.mpr c3
  have c3b1 : ((l0.length : Int) != (l1.length : Int)) = true := bne_iff_ne.mpr c3
  have c3b2 : (l0.length == l1.length) = false := by first | simpa using c3 | (simp at c3 ⊢; omega)
  exact absurd H (by simp)
end Go.Proofs.Ytijmhelacmjggaa.P
-- Made by wip/gen/pp.py of this session over the kit's print of the loaded program: a function, and the contract of its walk. Lean checks it.
namespace Go.Proofs.Ytijmhelacmjggaa.P
open Go.RowKit Go.Proofs.YtijmhelacmjggaaW.PrintWords Go.Proofs.YtijmhelacmjggaaW.PrintLast Go.Proofs.YtijmhelacmjggaaW.PrintMore
attribute [local go_sem] max2_int min2_int max_two min_two max_three min_three max_four min_four   -- for this text's walks alone
set_option linter.unusedVariables false
set_option linter.unusedSimpArgs false

/-! ### laws_eqRNode: function 120 -/
def laws_eqRNode.f (k : Nat) (a0_0 : Int) (l0_1 : List (S103)) (l0_2 : List Int) (a0_3 : Int) (a0_4 : Int) (a1_0 : Int) (l1_1 : List (S103)) (l1_2 : List Int) (a1_3 : Int) (a1_4 : Int) : Option (Bool) := if a0_0 = a1_0 then ((laws_eqSpanS.f k l0_1 l1_1).bind fun t103 => (if t103 = true then ((laws_eqInt64S.f k l0_2 l1_2).bind fun t104 => (if t104 = true then (if a0_3 = a1_3 then (if a0_4 = a1_4 then (some true) else (none)) else (none)) else (none))) else (none))) else (none)
theorem laws_eqRNode.mono : ∀ a0 a1 a2 a3 a4 a5 a6 a7 a8 a9 k, LeO (laws_eqRNode.f k a0 a1 a2 a3 a4 a5 a6 a7 a8 a9) (laws_eqRNode.f (k + 1) a0 a1 a2 a3 a4 a5 a6 a7 a8 a9) := by
 intro a0 a1 a2 a3 a4 a5 a6 a7 a8 a9 k
 unfold laws_eqRNode.f
 repeat' first
   | (with_reducible exact laws_eqInt64S.mono _ _ _)
   | (with_reducible exact laws_eqSpanS.mono _ _ _)
   | (with_reducible exact LeO.refl _)
   | (with_reducible exact LeO.none _)
   | (with_reducible refine LeO.ite ?_ ?_)
   | (with_reducible refine LeO.bind ?_ (fun _ => ?_))
   | exact laws_eqInt64S.mono _ _ _
   | exact laws_eqSpanS.mono _ _ _
   | exact LeO.none _
   | refine LeO.ite ?_ ?_
   | refine LeO.bind ?_ (fun _ => ?_)
set_option maxHeartbeats 8000000 in
set_option maxRecDepth 100000 in
theorem laws_eqRNode.calls (k : Nat) (a0_0 : Int) (A0_1 : Option Addr) (c0_1 : Nat) (l0_1 : List (S103)) (A0_2 : Option Addr) (c0_2 : Nat) (l0_2 : List Int) (a0_3 : Int) (a0_4 : Int) (a1_0 : Int) (A1_1 : Option Addr) (c1_1 : Nat) (l1_1 : List (S103)) (A1_2 : Option Addr) (c1_2 : Nat) (l1_2 : List Int) (a1_3 : Int) (a1_4 : Int) (r : Bool) (w : World) (hr0_1 : Kd.C k103 w A0_1 l0_1.length l0_1) (hc0_1 : l0_1.length ≤ c0_1) (hr0_2 : Kd.C (Kd.int .i64) w A0_2 l0_2.length l0_2) (hc0_2 : l0_2.length ≤ c0_2) (hr1_1 : Kd.C k103 w A1_1 l1_1.length l1_1) (hc1_1 : l1_1.length ≤ c1_1) (hr1_2 : Kd.C (Kd.int .i64) w A1_2 l1_2.length l1_2) (hc1_2 : l1_2.length ≤ c1_2) (h : laws_eqRNode.f k a0_0 l0_1 l0_2 a0_3 a0_4 a1_0 l1_1 l1_2 a1_3 a1_4 = some r) :
  Calls Try.prog 120 #[.agg #[.int .i64 a0_0, .slice A0_1 l0_1.length c0_1, .slice A0_2 l0_2.length c0_2, .int .i64 a0_3, .int .i64 a0_4], .agg #[.int .i64 a1_0, .slice A1_1 l1_1.length c1_1, .slice A1_2 l1_2.length c1_2, .int .i64 a1_3, .int .i64 a1_4]] w fun e w' => e = .returned (.bool r) ∧ Below w.heap.size w w' := by
 have hu156 := Try.underlying156
 have HR0_1 := Aside0.mk hr0_1
 have HC0_1 := Aside0.mk hc0_1
 clear hr0_1 hc0_1
 have HR0_2 := Aside0.mk hr0_2
 have HC0_2 := Aside0.mk hc0_2
 clear hr0_2 hc0_2
 have HR1_1 := Aside0.mk hr1_1
 have HC1_1 := Aside0.mk hc1_1
 clear hr1_1 hc1_1
 have HR1_2 := Aside0.mk hr1_2
 have HC1_2 := Aside0.mk hc1_2
 clear hr1_2 hc1_2
 have HB := Aside0.mk (Below.refl w.heap.size w)
 have H : (if a0_0 = a1_0 then ((laws_eqSpanS.f k l0_1 l1_1).bind fun t103 => (if t103 = true then ((laws_eqInt64S.f k l0_2 l1_2).bind fun t104 => (if t104 = true then (if a0_3 = a1_3 then (if a0_4 = a1_4 then (some true) else (none)) else (none)) else (none))) else (none))) else (none)) = some r := h
 clear h
 by_cases c3 : a0_0 = a1_0
 ·rw [if_pos c3] at H
  have c3b0 : (a0_0 == a1_0) = true := beq_iff_eq.mpr c3
  have c3b1 : (a0_0 != a1_0) = false := bne_eq_false_iff_eq.mpr c3
  clear c3
  replace H := Option.bind_eq_some_iff.mp H
  obtain ⟨t103, A40, H⟩ := H
  replace H : (if t103 = true then ((laws_eqInt64S.f k l0_2 l1_2).bind fun t104 => (if t104 = true then (if a0_3 = a1_3 then (if a0_4 = a1_4 then (some true) else (none)) else (none)) else (none))) else (none)) = some r := H
  have A4 := Aside0.mk A40
  clear A40
  by_cases c5 : t103 = true
  ·subst c5
   have H1 : ((laws_eqInt64S.f k l0_2 l1_2).bind fun t104 => (if t104 = true then (if a0_3 = a1_3 then (if a0_4 = a1_4 then (some true) else (none)) else (none)) else (none))) = some r := by rw [if_pos rfl] at H; exact H
   clear H
   have H := H1
   clear H1
   replace H := Option.bind_eq_some_iff.mp H
   obtain ⟨t104, A60, H⟩ := H
   replace H : (if t104 = true then (if a0_3 = a1_3 then (if a0_4 = a1_4 then (some true) else (none)) else (none)) else (none)) = some r := H
   have A6 := Aside0.mk A60
   clear A60
   by_cases c7 : t104 = true
   ·subst c7
    have H1 : (if a0_3 = a1_3 then (if a0_4 = a1_4 then (some true) else (none)) else (none)) = some r := by rw [if_pos rfl] at H; exact H
    clear H
    have H := H1
    clear H1
    by_cases c8 : a0_3 = a1_3
    ·rw [if_pos c8] at H
     have c8b0 : (a0_3 == a1_3) = true := beq_iff_eq.mpr c8
     have c8b1 : (a0_3 != a1_3) = false := bne_eq_false_iff_eq.mpr c8
     clear c8
     by_cases c9 : a0_4 = a1_4
     ·rw [if_pos c9] at H
      have c9b0 : (a0_4 == a1_4) = true := beq_iff_eq.mpr c9
      have c9b1 : (a0_4 != a1_4) = false := bne_eq_false_iff_eq.mpr c9
      clear c9
      obtain rfl := Option.some.inj H
      go_enter Try.func120, Try.ntmps120
      go_wp2_with (first | ((with_reducible refine gate_dst (N := 2) rfl ?_); refine box_event ?hg (N := 2) ?hd (cs := #[.int .i64 a0_0, .slice A0_1 l0_1.length c0_1, .slice A0_2 l0_2.length c0_2, .int .i64 a0_3, .int .i64 a0_4]) (t := 156) ?hr ?_; (case hd => rfl); (case hg => rfl); (case hr => first | (go_simp; done) | (go_simp; rfl)); intro gb101 hg w10 hbox hb; have n0_ := Aside0.mk (below_step (be_ HB.out) hb); have n1_ := Aside0.mk (hbox); have n2_ := Aside0.mk ((by rw [hg]; exact (below_size (be_ HB.out)) : w.heap.size ≤ gb101)); have n3_ := Aside0.mk ((by rw [hg]; exact (below_size (be_ HB.out)) : w.heap.size ≤ gb101)); clear HB; have HB := n0_; have BK101 := n1_; have GW101 := n2_; have GE101 := n3_; clear n0_ n1_ n2_ n3_; clear hb hbox hg) | ((with_reducible refine gate_dst (N := 3) rfl ?_); refine box_event ?hg (N := 3) ?hd (cs := #[.int .i64 a1_0, .slice A1_1 l1_1.length c1_1, .slice A1_2 l1_2.length c1_2, .int .i64 a1_3, .int .i64 a1_4]) (t := 156) ?hr ?_; (case hd => rfl); (case hg => rfl); (case hr => first | (go_simp; done) | (go_simp; rfl)); intro gb102 hg w11 hbox hb; have n0_ := Aside0.mk (blk_below (g := gb101) (o := .cells #[.int .i64 a0_0, .slice A0_1 l0_1.length c0_1, .slice A0_2 l0_2.length c0_2, .int .i64 a0_3, .int .i64 a0_4] 156 (0, 0)) (bk_ BK101.out) hb); have n1_ := Aside0.mk (below_step (be1_ HB.out GE101.out) hb); have n2_ := Aside0.mk (hbox); have n3_ := Aside0.mk ((by rw [hg]; exact (below_size (be1_ HB.out GE101.out)) : w.heap.size ≤ gb102)); have n4_ := Aside0.mk ((by rw [hg]; exact (below_size (be1_ HB.out GE101.out)) : w.heap.size ≤ gb102)); have n5_ := Aside0.mk ((by rw [hg]; exact Nat.ne_of_lt (blk_lt (g := gb101) (o := .cells #[.int .i64 a0_0, .slice A0_1 l0_1.length c0_1, .slice A0_2 l0_2.length c0_2, .int .i64 a0_3, .int .i64 a0_4] 156 (0, 0)) (bk_ BK101.out)) : gb101 ≠ gb102)); have n6_ := Aside0.mk ((by rw [hg]; exact Nat.ne_of_gt (blk_lt (g := gb101) (o := .cells #[.int .i64 a0_0, .slice A0_1 l0_1.length c0_1, .slice A0_2 l0_2.length c0_2, .int .i64 a0_3, .int .i64 a0_4] 156 (0, 0)) (bk_ BK101.out)) : gb102 ≠ gb101)); clear BK101; clear HB; have BK101 := n0_; have HB := n1_; have BK102 := n2_; have GW102 := n3_; have GE102 := n4_; have NB101_102 := n5_; have NB102_101 := n6_; clear n0_ n1_ n2_ n3_ n4_ n5_ n6_; clear hb hbox hg; have hnb12 := NB101_102.out; have hnc12 := NB102_101.out; have hcz13_0 : w11.cell? ⟨gb101, 0, none⟩ = some (.int .i64 a0_0) := (blk_cell BK101.out 0).trans rfl; have hcz13_1 : w11.cell? ⟨gb101, 1, none⟩ = some (.slice A0_1 l0_1.length c0_1) := (blk_cell BK101.out 1).trans rfl; have hcz13_2 : w11.cell? ⟨gb101, 2, none⟩ = some (.slice A0_2 l0_2.length c0_2) := (blk_cell BK101.out 2).trans rfl; have hcz13_3 : w11.cell? ⟨gb101, 3, none⟩ = some (.int .i64 a0_3) := (blk_cell BK101.out 3).trans rfl; have hcz13_4 : w11.cell? ⟨gb101, 4, none⟩ = some (.int .i64 a0_4) := (blk_cell BK101.out 4).trans rfl; have hfz13_0 := blk_frozen BK101.out 0; have hfz13_1 := blk_frozen BK101.out 1; have hfz13_2 := blk_frozen BK101.out 2; have hfz13_3 := blk_frozen BK101.out 3; have hfz13_4 := blk_frozen BK101.out 4; have hcz14_0 : w11.cell? ⟨gb102, 0, none⟩ = some (.int .i64 a1_0) := (blk_cell BK102.out 0).trans rfl; have hcz14_1 : w11.cell? ⟨gb102, 1, none⟩ = some (.slice A1_1 l1_1.length c1_1) := (blk_cell BK102.out 1).trans rfl; have hcz14_2 : w11.cell? ⟨gb102, 2, none⟩ = some (.slice A1_2 l1_2.length c1_2) := (blk_cell BK102.out 2).trans rfl; have hcz14_3 : w11.cell? ⟨gb102, 3, none⟩ = some (.int .i64 a1_3) := (blk_cell BK102.out 3).trans rfl; have hcz14_4 : w11.cell? ⟨gb102, 4, none⟩ = some (.int .i64 a1_4) := (blk_cell BK102.out 4).trans rfl; have hfz14_0 := blk_frozen BK102.out 0; have hfz14_1 := blk_frozen BK102.out 1; have hfz14_2 := blk_frozen BK102.out 2; have hfz14_3 := blk_frozen BK102.out 3; have hfz14_4 := blk_frozen BK102.out 4) | ((with_reducible refine gate_callee (f := 21) rfl ?_); refine gl_ (some 14) rfl rfl Try.func21 #[.slice A0_1 l0_1.length c0_1, .slice A1_1 l1_1.length c1_1] ?_; (with_reducible refine (laws_eqSpanS.calls k _ _ l0_1 _ _ l1_1 true _ ?side1 ?side2 ?side3 ?side4 A4.out).mono ?_); (case side1 => repeat (first | exact (Kd.C_below HR0_1.out HB.out) | (with_reducible refine Kd.C_alloc ?_ _) | (with_reducible refine Kd.C_drewN ?_ _) | (with_reducible refine Kd.C_drew ?_))); (case side2 => exact HC0_1.out); (case side3 => repeat (first | exact (Kd.C_below HR1_1.out HB.out) | (with_reducible refine Kd.C_alloc ?_ _) | (with_reducible refine Kd.C_drewN ?_ _) | (with_reducible refine Kd.C_drew ?_))); (case side4 => exact HC1_1.out); rintro e w15 ⟨rfl, hb⟩; refine ⟨_, rfl, ?_⟩; have n0_ := Aside0.mk (blk_below (g := gb101) (o := .cells #[.int .i64 a0_0, .slice A0_1 l0_1.length c0_1, .slice A0_2 l0_2.length c0_2, .int .i64 a0_3, .int .i64 a0_4] 156 (0, 0)) (bk_ BK101.out) hb); have n1_ := Aside0.mk (blk_below (g := gb102) (o := .cells #[.int .i64 a1_0, .slice A1_1 l1_1.length c1_1, .slice A1_2 l1_2.length c1_2, .int .i64 a1_3, .int .i64 a1_4] 156 (0, 0)) (bk_ BK102.out) hb); have n2_ := Aside0.mk (below_step (be2_ HB.out GE101.out GE102.out) hb); clear BK101; clear BK102; clear HB; have BK101 := n0_; have BK102 := n1_; have HB := n2_; clear n0_ n1_ n2_; (try clear hb); (try clear hb2); (try clear hk); (try clear hi); have hcz16_0 : w15.cell? ⟨gb101, 0, none⟩ = some (.int .i64 a0_0) := (blk_cell BK101.out 0).trans rfl; have hcz16_1 : w15.cell? ⟨gb101, 1, none⟩ = some (.slice A0_1 l0_1.length c0_1) := (blk_cell BK101.out 1).trans rfl; have hcz16_2 : w15.cell? ⟨gb101, 2, none⟩ = some (.slice A0_2 l0_2.length c0_2) := (blk_cell BK101.out 2).trans rfl; have hcz16_3 : w15.cell? ⟨gb101, 3, none⟩ = some (.int .i64 a0_3) := (blk_cell BK101.out 3).trans rfl; have hcz16_4 : w15.cell? ⟨gb101, 4, none⟩ = some (.int .i64 a0_4) := (blk_cell BK101.out 4).trans rfl; have hfz16_0 := blk_frozen BK101.out 0; have hfz16_1 := blk_frozen BK101.out 1; have hfz16_2 := blk_frozen BK101.out 2; have hfz16_3 := blk_frozen BK101.out 3; have hfz16_4 := blk_frozen BK101.out 4; have hcz17_0 : w15.cell? ⟨gb102, 0, none⟩ = some (.int .i64 a1_0) := (blk_cell BK102.out 0).trans rfl; have hcz17_1 : w15.cell? ⟨gb102, 1, none⟩ = some (.slice A1_1 l1_1.length c1_1) := (blk_cell BK102.out 1).trans rfl; have hcz17_2 : w15.cell? ⟨gb102, 2, none⟩ = some (.slice A1_2 l1_2.length c1_2) := (blk_cell BK102.out 2).trans rfl; have hcz17_3 : w15.cell? ⟨gb102, 3, none⟩ = some (.int .i64 a1_3) := (blk_cell BK102.out 3).trans rfl; have hcz17_4 : w15.cell? ⟨gb102, 4, none⟩ = some (.int .i64 a1_4) := (blk_cell BK102.out 4).trans rfl; have hfz17_0 := blk_frozen BK102.out 0; have hfz17_1 := blk_frozen BK102.out 1; have hfz17_2 := blk_frozen BK102.out 2; have hfz17_3 := blk_frozen BK102.out 3; have hfz17_4 := blk_frozen BK102.out 4) | ((with_reducible refine gate_callee (f := 40) rfl ?_); refine gl_ (some 20) rfl rfl Try.func40 #[.slice A0_2 l0_2.length c0_2, .slice A1_2 l1_2.length c1_2] ?_; (with_reducible refine (laws_eqInt64S.calls k _ _ l0_2 _ _ l1_2 true _ ?side1 ?side2 ?side3 ?side4 A6.out).mono ?_); (case side1 => repeat (first | exact (Kd.C_below HR0_2.out HB.out) | (with_reducible refine Kd.C_alloc ?_ _) | (with_reducible refine Kd.C_drewN ?_ _) | (with_reducible refine Kd.C_drew ?_))); (case side2 => exact HC0_2.out); (case side3 => repeat (first | exact (Kd.C_below HR1_2.out HB.out) | (with_reducible refine Kd.C_alloc ?_ _) | (with_reducible refine Kd.C_drewN ?_ _) | (with_reducible refine Kd.C_drew ?_))); (case side4 => exact HC1_2.out); rintro e w' ⟨rfl, ⟨nd, rfl⟩⟩; refine ⟨_, rfl, ?_⟩))
      go_ret
      exact ⟨rt_, be2_ HB.out GE101.out GE102.out⟩
     ·rw [if_neg c9] at H
      have c9b0 : (a0_4 == a1_4) = false := beq_eq_false_iff_ne.mpr c9
      have c9b1 : (a0_4 != a1_4) = true := bne_iff_ne.mpr c9
      exact absurd H (by simp)
    ·rw [if_neg c8] at H
     have c8b0 : (a0_3 == a1_3) = false := beq_eq_false_iff_ne.mpr c8
     have c8b1 : (a0_3 != a1_3) = true := bne_iff_ne.mpr c8
     exact absurd H (by simp)
   ·replace c7 := Bool.eq_false_iff.mpr c7
    subst c7
    have H1 : (none) = some r := by rw [if_neg (show ¬ (false = true) by decide)] at H; exact H
    clear H
    have H := H1
    clear H1
    exact absurd H (by simp)
  ·replace c5 := Bool.eq_false_iff.mpr c5
   subst c5
   have H1 : (none) = some r := by rw [if_neg (show ¬ (false = true) by decide)] at H; exact H
   clear H
   have H := H1
   clear H1
   exact absurd H (by simp)
 ·rw [if_neg c3] at H
  have c3b0 : (a0_0 == a1_0) = false := beq_eq_false_iff_ne.mpr c3
  have c3b1 : (a0_0 != a1_0) = true := bne_iff_ne.mpr c3
  exact absurd H (by simp)
end Go.Proofs.Ytijmhelacmjggaa.P
-- Made by wip/gen/pp.py of this session over the kit's print of the loaded program: a function, and the contract of its walk. Lean checks it.
namespace Go.Proofs.Ytijmhelacmjggaa.P
open Go.RowKit Go.Proofs.YtijmhelacmjggaaW.PrintWords Go.Proofs.YtijmhelacmjggaaW.PrintLast Go.Proofs.YtijmhelacmjggaaW.PrintMore
attribute [local go_sem] max2_int min2_int max_two min_two max_three min_three max_four min_four   -- for this text's walks alone
set_option linter.unusedVariables false
set_option linter.unusedSimpArgs false

/-! ### laws_eqRNodeS: function 65 -/
def laws_eqRNodeS.l0 : Nat → List (S156) → List (S156) → Int → Option (Bool)
 | 0, _, _, _ => none
 | k + 1, x0, x1, x5 => if x5 < (x0.length : Int) then (if 0 ≤ x5 then (if x5 < (x1.length : Int) then ((laws_eqRNode.f k ((rd_T156 x0 x5).f0) ((rd_T156 x0 x5).f1) ((rd_T156 x0 x5).f2) ((rd_T156 x0 x5).f3) ((rd_T156 x0 x5).f4) ((rd_T156 x1 x5).f0) ((rd_T156 x1 x5).f1) ((rd_T156 x1 x5).f2) ((rd_T156 x1 x5).f3) ((rd_T156 x1 x5).f4)).bind fun t103 => (if t103 = true then (laws_eqRNodeS.l0 k x0 x1 (wrap64 (x5 + 1))) else (none))) else (none)) else (none)) else (some true)
def laws_eqRNodeS.f (k : Nat) (l0 : List (S156)) (l1 : List (S156)) : Option (Bool) := if (l0.length : Int) = (l1.length : Int) then (laws_eqRNodeS.l0 k l0 l1 0) else (none)
theorem laws_eqRNodeS.mono_l : ∀ k, (∀ y0 y1 y2, LeO (laws_eqRNodeS.l0 k y0 y1 y2) (laws_eqRNodeS.l0 (k + 1) y0 y1 y2))
 | 0 => fun _ _ _ r h => by simp [laws_eqRNodeS.l0] at h
 | k + 1 => by
  have ih0 := laws_eqRNodeS.mono_l k
  ·intro y0 y1 y2
   unfold laws_eqRNodeS.l0
   repeat' first
   | (with_reducible exact ih0 _ _ _)
   | (with_reducible exact laws_eqRNode.mono _ _ _ _ _ _ _ _ _ _ _)
   | (with_reducible exact LeO.refl _)
   | (with_reducible exact LeO.none _)
   | (with_reducible refine LeO.ite ?_ ?_)
   | (with_reducible refine LeO.bind ?_ (fun _ => ?_))
   | exact ih0 _ _ _
   | exact laws_eqRNode.mono _ _ _ _ _ _ _ _ _ _ _
   | exact LeO.none _
   | refine LeO.ite ?_ ?_
   | refine LeO.bind ?_ (fun _ => ?_)
theorem laws_eqRNodeS.mono : ∀ a0 a1 k, LeO (laws_eqRNodeS.f k a0 a1) (laws_eqRNodeS.f (k + 1) a0 a1) := by
 intro a0 a1 k
 have ih0 := laws_eqRNodeS.mono_l k
 unfold laws_eqRNodeS.f
 repeat' first
   | (with_reducible exact ih0 _ _ _)
   | (with_reducible exact laws_eqRNode.mono _ _ _ _ _ _ _ _ _ _ _)
   | (with_reducible exact LeO.refl _)
   | (with_reducible exact LeO.none _)
   | (with_reducible refine LeO.ite ?_ ?_)
   | (with_reducible refine LeO.bind ?_ (fun _ => ?_))
   | exact ih0 _ _ _
   | exact laws_eqRNode.mono _ _ _ _ _ _ _ _ _ _ _
   | exact LeO.none _
   | refine LeO.ite ?_ ?_
   | refine LeO.bind ?_ (fun _ => ?_)
def laws_eqRNodeS.T6 : Bool × List (List Nat × List Nat) := (true, [([], []), ([], []), ([0, 1], [0, 1]), ([2], [2]), ([], []), ([], []), ([4, 5], [4, 5]), ([6], [6]), ([3, 7], [3, 7]), ([8], [8])])
def laws_eqRNodeS.B6 : List Nat := [0, 0, 3, 7, 0, 0, 48, 112, 255, 511]
theorem laws_eqRNodeS.tab6 : rtab .any (opsOf Try.f65 6) = laws_eqRNodeS.T6 := by kernel_rfl
theorem laws_eqRNodeS.bits6 : waitsOk laws_eqRNodeS.T6.2 laws_eqRNodeS.B6 = true := by kernel_rfl
set_option maxHeartbeats 8000000 in
set_option maxRecDepth 100000 in
theorem laws_eqRNodeS.calls (k : Nat) (A0 : Option Addr) (c0 : Nat) (l0 : List (S156)) (A1 : Option Addr) (c1 : Nat) (l1 : List (S156)) (r : Bool) (w : World) (hr0 : Kd.C k156 w A0 l0.length l0) (hc0 : l0.length ≤ c0) (hr1 : Kd.C k156 w A1 l1.length l1) (hc1 : l1.length ≤ c1) (h : laws_eqRNodeS.f k l0 l1 = some r) :
  Calls Try.prog 65 #[.slice A0 l0.length c0, .slice A1 l1.length c1] w fun e w' => e = .returned (.bool r) ∧ Below w.heap.size w w' := by
 have hu156 := Try.underlying156
 have HR0 := Aside0.mk hr0
 have HC0 := Aside0.mk hc0
 clear hr0 hc0
 have HR1 := Aside0.mk hr1
 have HC1 := Aside0.mk hc1
 clear hr1 hc1
 have HB := Aside0.mk (Below.refl w.heap.size w)
 have H : (if (l0.length : Int) = (l1.length : Int) then (laws_eqRNodeS.l0 k l0 l1 0) else (none)) = some r := h
 clear h
 by_cases c3 : (l0.length : Int) = (l1.length : Int)
 ·rw [if_pos c3] at H
  have c3b0 : ((l0.length : Int) == (l1.length : Int)) = true := beq_iff_eq.mpr c3
  have c3b1 : ((l0.length : Int) != (l1.length : Int)) = false := bne_eq_false_iff_eq.mpr c3
  have c3b2 : (l0.length == l1.length) = true := by first | simpa using c3 | (simp at c3 ⊢; omega)
  clear c3
  have H' := Aside0.mk H
  clear H
  go_enter Try.func65, Try.ntmps65
  go_wp2
  go_loopg [5] k (fun kq v5 w' => ∃ (x5_1 : Int), v5 = .int .i64 x5_1 ∧ Aside0 (laws_eqRNodeS.l0 kq l0 l1 x5_1 = some r) ∧ Aside0 (kq ≤ k) ∧ Aside0 (Below w.heap.size w w'))
  case atStart => exact ⟨(0), rs_, H', ⟨Nat.le_refl _⟩, ⟨be_ HB.out⟩⟩
  case round =>
   clear H'
   try clear c1
   try clear p2
   try clear c3
   try clear c3b0
   try clear c3b1
   try clear c3b2
   obtain ⟨x5_1, rfl, HA, HK1, HB⟩ := hrel
   cases gk with
   | zero => exact absurd HA.out (by simp [laws_eqRNodeS.l0])
   | succ k1 =>
    have H := HA.out
    clear HA
    simp only [laws_eqRNodeS.l0] at H
    by_cases c4 : x5_1 < (l0.length : Int)
    ·rw [if_pos c4] at H
     have c4b0 : decide (x5_1 < (l0.length : Int)) = true := decide_eq_true c4
     clear c4
     by_cases c5 : 0 ≤ x5_1
     ·rw [if_pos c5] at H
      have c5b0 : decide (0 ≤ x5_1) = true := decide_eq_true c5
      clear c5
      by_cases c6 : x5_1 < (l1.length : Int)
      ·rw [if_pos c6] at H
       have c6b0 : decide (x5_1 < (l1.length : Int)) = true := decide_eq_true c6
       clear c6
       replace H := Option.bind_eq_some_iff.mp H
       obtain ⟨t103, A70, H⟩ := H
       replace H : (if t103 = true then (laws_eqRNodeS.l0 k1 l0 l1 (wrap64 (x5_1 + 1))) else (none)) = some r := H
       have A7 := Aside0.mk A70
       clear A70
       by_cases c8 : t103 = true
       ·subst c8
        have H1 : (laws_eqRNodeS.l0 k1 l0 l1 (wrap64 (x5_1 + 1))) = some r := by rw [if_pos rfl] at H; exact H
        clear H
        have H := H1
        clear H1
        have H' := Aside0.mk H
        clear H
        try go_wp2
        have n0_ := Aside0.mk (below_drew1 HB.out)
        clear HB
        have HB := n0_
        clear n0_
        have p101 : 0 ≤ (x5_1 : Int) := of_decide_eq_true as_
        have q101 : x5_1 < (l0.length : Int) := of_decide_eq_true as_
        obtain ⟨ad101, A101_1, c101_1, A101_2, c101_2, e101, hx101_0, hx101_1, hx101_2, hx101_3, hx101_4, hl101_1, hi101_1, hl101_2, hi101_2⟩ := at_T156 HR0.out x5_1 p101 q101
        have hw101_4 := hx101_4
        have hw101_3 := hx101_3
        have hw101_2 := hx101_2
        have hw101_1 := hx101_1
        have hw101_0 := hx101_0
        cases e101
        replace hx101_0 := mv_ HB.out hx101_0
        replace hx101_1 := mv_ HB.out hx101_1
        replace hx101_2 := mv_ HB.out hx101_2
        replace hx101_3 := mv_ HB.out hx101_3
        replace hx101_4 := mv_ HB.out hx101_4
        have HR101_1 := Aside0.mk hi101_1
        have HC101_1 := Aside0.mk hl101_1
        clear hi101_1 hl101_1
        have HR101_2 := Aside0.mk hi101_2
        have HC101_2 := Aside0.mk hl101_2
        clear hi101_2 hl101_2
        replace p101 := eq_true p101
        replace q101 := eq_true q101
        have p102 : 0 ≤ (x5_1 : Int) := of_decide_eq_true as_
        have q102 : x5_1 < (l1.length : Int) := of_decide_eq_true as_
        obtain ⟨ad102, A102_1, c102_1, A102_2, c102_2, e102, hx102_0, hx102_1, hx102_2, hx102_3, hx102_4, hl102_1, hi102_1, hl102_2, hi102_2⟩ := at_T156 HR1.out x5_1 p102 q102
        have hw102_4 := hx102_4
        have hw102_3 := hx102_3
        have hw102_2 := hx102_2
        have hw102_1 := hx102_1
        have hw102_0 := hx102_0
        cases e102
        replace hx102_0 := mv_ HB.out hx102_0
        replace hx102_1 := mv_ HB.out hx102_1
        replace hx102_2 := mv_ HB.out hx102_2
        replace hx102_3 := mv_ HB.out hx102_3
        replace hx102_4 := mv_ HB.out hx102_4
        have HR102_1 := Aside0.mk hi102_1
        have HC102_1 := Aside0.mk hl102_1
        clear hi102_1 hl102_1
        have HR102_2 := Aside0.mk hi102_2
        have HC102_2 := Aside0.mk hl102_2
        clear hi102_2 hl102_2
        replace p102 := eq_true p102
        replace q102 := eq_true q102
        refine start_ (n := 10) (S := fun w' => w'.cell? (ad101.add ((x5_1).toNat * 5)) = some (.int .i64 ((rd_T156 l0 x5_1).f0)) ∧ w'.cell? ⟨(ad101.add ((x5_1).toNat * 5)).block, (ad101.add ((x5_1).toNat * 5)).off + 1, none⟩ = some (.slice A101_1 ((rd_T156 l0 x5_1).f1).length c101_1) ∧ w'.cell? ⟨(ad101.add ((x5_1).toNat * 5)).block, (ad101.add ((x5_1).toNat * 5)).off + 2, none⟩ = some (.slice A101_2 ((rd_T156 l0 x5_1).f2).length c101_2) ∧ w'.cell? ⟨(ad101.add ((x5_1).toNat * 5)).block, (ad101.add ((x5_1).toNat * 5)).off + 3, none⟩ = some (.int .i64 ((rd_T156 l0 x5_1).f3)) ∧ w'.cell? ⟨(ad101.add ((x5_1).toNat * 5)).block, (ad101.add ((x5_1).toNat * 5)).off + 4, none⟩ = some (.int .i64 ((rd_T156 l0 x5_1).f4)) ∧ w'.cell? (ad102.add ((x5_1).toNat * 5)) = some (.int .i64 ((rd_T156 l1 x5_1).f0)) ∧ w'.cell? ⟨(ad102.add ((x5_1).toNat * 5)).block, (ad102.add ((x5_1).toNat * 5)).off + 1, none⟩ = some (.slice A102_1 ((rd_T156 l1 x5_1).f1).length c102_1) ∧ w'.cell? ⟨(ad102.add ((x5_1).toNat * 5)).block, (ad102.add ((x5_1).toNat * 5)).off + 2, none⟩ = some (.slice A102_2 ((rd_T156 l1 x5_1).f2).length c102_2) ∧ w'.cell? ⟨(ad102.add ((x5_1).toNat * 5)).block, (ad102.add ((x5_1).toNat * 5)).off + 3, none⟩ = some (.int .i64 ((rd_T156 l1 x5_1).f3)) ∧ w'.cell? ⟨(ad102.add ((x5_1).toNat * 5)).block, (ad102.add ((x5_1).toNat * 5)).off + 4, none⟩ = some (.int .i64 ((rd_T156 l1 x5_1).f4))) (ds := []) #[false, false, false, false, false, false, false, false, false, false] (by kernel_rfl) rfl rfl ⟨(mv_ HB.out hw101_0), (mv_ HB.out hw101_1), (mv_ HB.out hw101_2), (mv_ HB.out hw101_3), (mv_ HB.out hw101_4), (mv_ HB.out hw102_0), (mv_ HB.out hw102_1), (mv_ HB.out hw102_2), (mv_ HB.out hw102_3), (mv_ HB.out hw102_4)⟩ (fun hHeld => ?_); refine with_tabW laws_eqRNodeS.tab6 laws_eqRNodeS.bits6 (fun HT_ HW_ => ?_)
        generalize wr.drew = w9 at HB HR101_1 HR101_2 HR102_1 HR102_2 hx101_0 hx101_1 hx101_2 hx101_3 hx101_4 hx102_0 hx102_1 hx102_2 hx102_3 hx102_4 hHeld ⊢
        refine pu_ 0 (some 17) (bb 10 1) HT_.out ?_
        refine pu_ 1 (some 18) (bb 10 3) HT_.out ?_
        refine pu_ 2 (some 19) (bb 10 7) HT_.out ?_
        refine pu_ 4 (some 21) (bb 10 23) HT_.out ?_
        refine pu_ 5 (some 22) (bb 10 55) HT_.out ?_
        refine pu_ 6 (some 23) (bb 10 119) HT_.out ?_
        refine ta_ 3 (some 20) (bb 10 127) HT_.out HW_.out hHeld ?_
        refine ta_ 7 (some 24) (bb 10 255) HT_.out HW_.out hHeld ?_
        refine one_ (i := 8) (N := some 25) (bb 10 511) rfl rfl (one_of HT_.out (by kernel_rfl)) (by decide) (fun K hK => ?_)
        refine gs_ Try.func120 #[.agg #[.int .i64 ((rd_T156 l0 x5_1).f0), .slice A101_1 ((rd_T156 l0 x5_1).f1).length c101_1, .slice A101_2 ((rd_T156 l0 x5_1).f2).length c101_2, .int .i64 ((rd_T156 l0 x5_1).f3), .int .i64 ((rd_T156 l0 x5_1).f4)], .agg #[.int .i64 ((rd_T156 l1 x5_1).f0), .slice A102_1 ((rd_T156 l1 x5_1).f1).length c102_1, .slice A102_2 ((rd_T156 l1 x5_1).f2).length c102_2, .int .i64 ((rd_T156 l1 x5_1).f3), .int .i64 ((rd_T156 l1 x5_1).f4)]] ?_
        with_reducible refine (laws_eqRNode.calls k1 ((rd_T156 l0 x5_1).f0) _ _ ((rd_T156 l0 x5_1).f1) _ _ ((rd_T156 l0 x5_1).f2) ((rd_T156 l0 x5_1).f3) ((rd_T156 l0 x5_1).f4) ((rd_T156 l1 x5_1).f0) _ _ ((rd_T156 l1 x5_1).f1) _ _ ((rd_T156 l1 x5_1).f2) ((rd_T156 l1 x5_1).f3) ((rd_T156 l1 x5_1).f4) true _ ?side1 ?side2 ?side3 ?side4 ?side5 ?side6 ?side7 ?side8 A7.out).mono ?_
        (case side1 => repeat (first | exact (Kd.C_below HR101_1.out HB.out) | (with_reducible refine Kd.C_alloc ?_ _) | (with_reducible refine Kd.C_drewN ?_ _) | (with_reducible refine Kd.C_drew ?_)))
        (case side2 => exact HC101_1.out)
        (case side3 => repeat (first | exact (Kd.C_below HR101_2.out HB.out) | (with_reducible refine Kd.C_alloc ?_ _) | (with_reducible refine Kd.C_drewN ?_ _) | (with_reducible refine Kd.C_drew ?_)))
        (case side4 => exact HC101_2.out)
        (case side5 => repeat (first | exact (Kd.C_below HR102_1.out HB.out) | (with_reducible refine Kd.C_alloc ?_ _) | (with_reducible refine Kd.C_drewN ?_ _) | (with_reducible refine Kd.C_drew ?_)))
        (case side6 => exact HC102_1.out)
        (case side7 => repeat (first | exact (Kd.C_below HR102_2.out HB.out) | (with_reducible refine Kd.C_alloc ?_ _) | (with_reducible refine Kd.C_drewN ?_ _) | (with_reducible refine Kd.C_drew ?_)))
        (case side8 => exact HC102_2.out)
        rintro e w10 ⟨rfl, hb⟩
        refine ⟨_, rfl, ?_⟩
        have n0_ := Aside0.mk (below_step (be_ HB.out) hb)
        clear HB
        have HB := n0_
        clear n0_
        (try clear hb)
        (try clear hb2)
        (try clear hk)
        (try clear hi)
        refine hK.out _ _ ⟨(mv_ HB.out hw101_0), (mv_ HB.out hw101_1), (mv_ HB.out hw101_2), (mv_ HB.out hw101_3), (mv_ HB.out hw101_4), (mv_ HB.out hw102_0), (mv_ HB.out hw102_1), (mv_ HB.out hw102_2), (mv_ HB.out hw102_3), (mv_ HB.out hw102_4)⟩ (fun hHeld => ?_)
        clear hK K
        refine no_ (some 25) ?_
        refine pu_ 9 (some 26) (bb 10 1023) HT_.out ?_
        refine done_ (done_of HT_.out (by kernel_rfl)) ?_
        try go_wp2
        go_roundg k1
        case measure => have := HK1.out; omega
        case rel => exact ⟨(wrap64 (x5_1 + 1)), rs_, H', ⟨by have := HK1.out; omega⟩, ⟨be_ HB.out⟩⟩
       ·replace c8 := Bool.eq_false_iff.mpr c8
        subst c8
        have H1 : (none) = some r := by rw [if_neg (show ¬ (false = true) by decide)] at H; exact H
        clear H
        have H := H1
        clear H1
        exact absurd H (by simp)
      ·rw [if_neg c6] at H
       exact absurd H (by simp)
     ·rw [if_neg c5] at H
      exact absurd H (by simp)
    ·rw [if_neg c4] at H
     have c4b0 : decide (x5_1 < (l0.length : Int)) = false := decide_eq_false c4
     clear c4
     obtain rfl := Option.some.inj H
     go_wp2
     go_ret
     exact ⟨rt_, be_ HB.out⟩
 ·rw [if_neg c3] at H
  have c3b0 : ((l0.length : Int) == (l1.length : Int)) = false := beq_eq_false_iff_ne.mpr c3
  have c3b1 : ((l0.length : Int) != (l1.length : Int)) = true := bne_iff_ne.mpr c3
  have c3b2 : (l0.length == l1.length) = false := by first | simpa using c3 | (simp at c3 ⊢; omega)
  exact absurd H (by simp)
end Go.Proofs.Ytijmhelacmjggaa.P
-- Made by wip/gen/pp.py of this session over the kit's print of the loaded program: a function, and the contract of its walk. Lean checks it.
namespace Go.Proofs.Ytijmhelacmjggaa.P
open Go.RowKit Go.Proofs.YtijmhelacmjggaaW.PrintWords Go.Proofs.YtijmhelacmjggaaW.PrintLast Go.Proofs.YtijmhelacmjggaaW.PrintMore
attribute [local go_sem] max2_int min2_int max_two min_two max_three min_three max_four min_four   -- for this text's walks alone
set_option linter.unusedVariables false
set_option linter.unusedSimpArgs false

/-! ### laws_eqRx: function 16 -/
def laws_eqRx.f (k : Nat) (l0_0 : List (S156)) (l1_0 : List (S156)) : Option (Bool) := (laws_eqRNodeS.f k l0_0 l1_0).bind fun t103 => (if t103 = true then (some true) else (none))
theorem laws_eqRx.mono : ∀ a0 a1 k, LeO (laws_eqRx.f k a0 a1) (laws_eqRx.f (k + 1) a0 a1) := by
 intro a0 a1 k
 unfold laws_eqRx.f
 repeat' first
   | (with_reducible exact laws_eqRNodeS.mono _ _ _)
   | (with_reducible exact LeO.refl _)
   | (with_reducible exact LeO.none _)
   | (with_reducible refine LeO.ite ?_ ?_)
   | (with_reducible refine LeO.bind ?_ (fun _ => ?_))
   | exact laws_eqRNodeS.mono _ _ _
   | exact LeO.none _
   | refine LeO.ite ?_ ?_
   | refine LeO.bind ?_ (fun _ => ?_)
set_option maxHeartbeats 8000000 in
set_option maxRecDepth 100000 in
theorem laws_eqRx.calls (k : Nat) (A0_0 : Option Addr) (c0_0 : Nat) (l0_0 : List (S156)) (A1_0 : Option Addr) (c1_0 : Nat) (l1_0 : List (S156)) (r : Bool) (w : World) (hr0_0 : Kd.C k156 w A0_0 l0_0.length l0_0) (hc0_0 : l0_0.length ≤ c0_0) (hr1_0 : Kd.C k156 w A1_0 l1_0.length l1_0) (hc1_0 : l1_0.length ≤ c1_0) (h : laws_eqRx.f k l0_0 l1_0 = some r) :
  Calls Try.prog 16 #[.agg #[.slice A0_0 l0_0.length c0_0], .agg #[.slice A1_0 l1_0.length c1_0]] w fun e w' => e = .returned (.bool r) ∧ Below w.heap.size w w' := by
 have hu29 := Try.underlying29
 have HR0_0 := Aside0.mk hr0_0
 have HC0_0 := Aside0.mk hc0_0
 clear hr0_0 hc0_0
 have HR1_0 := Aside0.mk hr1_0
 have HC1_0 := Aside0.mk hc1_0
 clear hr1_0 hc1_0
 have HB := Aside0.mk (Below.refl w.heap.size w)
 have H : ((laws_eqRNodeS.f k l0_0 l1_0).bind fun t103 => (if t103 = true then (some true) else (none))) = some r := h
 clear h
 replace H := Option.bind_eq_some_iff.mp H
 obtain ⟨t103, A30, H⟩ := H
 replace H : (if t103 = true then (some true) else (none)) = some r := H
 have A3 := Aside0.mk A30
 clear A30
 by_cases c4 : t103 = true
 ·subst c4
  have H1 : (some true) = some r := by rw [if_pos rfl] at H; exact H
  clear H
  have H := H1
  clear H1
  obtain rfl := Option.some.inj H
  go_enter Try.func16, Try.ntmps16
  go_wp2_with (first | ((with_reducible refine gate_dst (N := 2) rfl ?_); refine box_event ?hg (N := 2) ?hd (cs := #[.slice A0_0 l0_0.length c0_0]) (t := 29) ?hr ?_; (case hd => rfl); (case hg => rfl); (case hr => first | (go_simp; done) | (go_simp; rfl)); intro gb101 hg w5 hbox hb; have n0_ := Aside0.mk (below_step (be_ HB.out) hb); have n1_ := Aside0.mk (hbox); have n2_ := Aside0.mk ((by rw [hg]; exact (below_size (be_ HB.out)) : w.heap.size ≤ gb101)); have n3_ := Aside0.mk ((by rw [hg]; exact (below_size (be_ HB.out)) : w.heap.size ≤ gb101)); clear HB; have HB := n0_; have BK101 := n1_; have GW101 := n2_; have GE101 := n3_; clear n0_ n1_ n2_ n3_; clear hb hbox hg) | ((with_reducible refine gate_dst (N := 3) rfl ?_); refine box_event ?hg (N := 3) ?hd (cs := #[.slice A1_0 l1_0.length c1_0]) (t := 29) ?hr ?_; (case hd => rfl); (case hg => rfl); (case hr => first | (go_simp; done) | (go_simp; rfl)); intro gb102 hg w6 hbox hb; have n0_ := Aside0.mk (blk_below (g := gb101) (o := .cells #[.slice A0_0 l0_0.length c0_0] 29 (0, 0)) (bk_ BK101.out) hb); have n1_ := Aside0.mk (below_step (be1_ HB.out GE101.out) hb); have n2_ := Aside0.mk (hbox); have n3_ := Aside0.mk ((by rw [hg]; exact (below_size (be1_ HB.out GE101.out)) : w.heap.size ≤ gb102)); have n4_ := Aside0.mk ((by rw [hg]; exact (below_size (be1_ HB.out GE101.out)) : w.heap.size ≤ gb102)); have n5_ := Aside0.mk ((by rw [hg]; exact Nat.ne_of_lt (blk_lt (g := gb101) (o := .cells #[.slice A0_0 l0_0.length c0_0] 29 (0, 0)) (bk_ BK101.out)) : gb101 ≠ gb102)); have n6_ := Aside0.mk ((by rw [hg]; exact Nat.ne_of_gt (blk_lt (g := gb101) (o := .cells #[.slice A0_0 l0_0.length c0_0] 29 (0, 0)) (bk_ BK101.out)) : gb102 ≠ gb101)); clear BK101; clear HB; have BK101 := n0_; have HB := n1_; have BK102 := n2_; have GW102 := n3_; have GE102 := n4_; have NB101_102 := n5_; have NB102_101 := n6_; clear n0_ n1_ n2_ n3_ n4_ n5_ n6_; clear hb hbox hg; have hnb7 := NB101_102.out; have hnc7 := NB102_101.out; have hcz8_0 : w6.cell? ⟨gb101, 0, none⟩ = some (.slice A0_0 l0_0.length c0_0) := (blk_cell BK101.out 0).trans rfl; have hfz8_0 := blk_frozen BK101.out 0; have hcz9_0 : w6.cell? ⟨gb102, 0, none⟩ = some (.slice A1_0 l1_0.length c1_0) := (blk_cell BK102.out 0).trans rfl; have hfz9_0 := blk_frozen BK102.out 0) | ((with_reducible refine gate_callee (f := 65) rfl ?_); refine gl_ (some 9) rfl rfl Try.func65 #[.slice A0_0 l0_0.length c0_0, .slice A1_0 l1_0.length c1_0] ?_; (with_reducible refine (laws_eqRNodeS.calls k _ _ l0_0 _ _ l1_0 true _ ?side1 ?side2 ?side3 ?side4 A3.out).mono ?_); (case side1 => repeat (first | exact (Kd.C_below HR0_0.out HB.out) | (with_reducible refine Kd.C_alloc ?_ _) | (with_reducible refine Kd.C_drewN ?_ _) | (with_reducible refine Kd.C_drew ?_))); (case side2 => exact HC0_0.out); (case side3 => repeat (first | exact (Kd.C_below HR1_0.out HB.out) | (with_reducible refine Kd.C_alloc ?_ _) | (with_reducible refine Kd.C_drewN ?_ _) | (with_reducible refine Kd.C_drew ?_))); (case side4 => exact HC1_0.out); rintro e w10 ⟨rfl, hb⟩; refine ⟨_, rfl, ?_⟩; have n0_ := Aside0.mk (blk_below (g := gb101) (o := .cells #[.slice A0_0 l0_0.length c0_0] 29 (0, 0)) (bk_ BK101.out) hb); have n1_ := Aside0.mk (blk_below (g := gb102) (o := .cells #[.slice A1_0 l1_0.length c1_0] 29 (0, 0)) (bk_ BK102.out) hb); have n2_ := Aside0.mk (below_step (be2_ HB.out GE101.out GE102.out) hb); clear BK101; clear BK102; clear HB; have BK101 := n0_; have BK102 := n1_; have HB := n2_; clear n0_ n1_ n2_; (try clear hb); (try clear hb2); (try clear hk); (try clear hi)))
  go_ret
  exact ⟨rt_, be2_ HB.out GE101.out GE102.out⟩
 ·replace c4 := Bool.eq_false_iff.mpr c4
  subst c4
  have H1 : (none) = some r := by rw [if_neg (show ¬ (false = true) by decide)] at H; exact H
  clear H
  have H := H1
  clear H1
  exact absurd H (by simp)
end Go.Proofs.Ytijmhelacmjggaa.P
-- Made by wip/gen/pp.py of this session over the kit's print of the loaded program: a function, and the contract of its walk. Lean checks it.
namespace Go.Proofs.Ytijmhelacmjggaa.P
open Go.RowKit Go.Proofs.YtijmhelacmjggaaW.PrintWords Go.Proofs.YtijmhelacmjggaaW.PrintLast Go.Proofs.YtijmhelacmjggaaW.PrintMore
attribute [local go_sem] max2_int min2_int max_two min_two max_three min_three max_four min_four   -- for this text's walks alone
set_option linter.unusedVariables false
set_option linter.unusedSimpArgs false

/-! ### laws_eqRule: function 176 -/
def laws_eqRule.f (k : Nat) (a0_0 : ByteArray) (l0_1 : List (S156)) (a0_2 : Bool) (a0_3 : Int) (a0_4 : ByteArray) (a1_0 : ByteArray) (l1_1 : List (S156)) (a1_2 : Bool) (a1_3 : Int) (a1_4 : ByteArray) : Option (Bool) := if a0_0.toList = a1_0.toList then ((laws_eqRx.f k l0_1 l1_1).bind fun t103 => (if t103 = true then (if (a0_2 != a1_2) = true then (none) else (if a0_3 = a1_3 then (if a0_4.toList = a1_4.toList then (some true) else (none)) else (none))) else (none))) else (none)
theorem laws_eqRule.mono : ∀ a0 a1 a2 a3 a4 a5 a6 a7 a8 a9 k, LeO (laws_eqRule.f k a0 a1 a2 a3 a4 a5 a6 a7 a8 a9) (laws_eqRule.f (k + 1) a0 a1 a2 a3 a4 a5 a6 a7 a8 a9) := by
 intro a0 a1 a2 a3 a4 a5 a6 a7 a8 a9 k
 unfold laws_eqRule.f
 repeat' first
   | (with_reducible exact laws_eqRx.mono _ _ _)
   | (with_reducible exact LeO.refl _)
   | (with_reducible exact LeO.none _)
   | (with_reducible refine LeO.ite ?_ ?_)
   | (with_reducible refine LeO.bind ?_ (fun _ => ?_))
   | exact laws_eqRx.mono _ _ _
   | exact LeO.none _
   | refine LeO.ite ?_ ?_
   | refine LeO.bind ?_ (fun _ => ?_)
set_option maxHeartbeats 8000000 in
set_option maxRecDepth 100000 in
theorem laws_eqRule.calls (k : Nat) (a0_0 : ByteArray) (A0_1 : Option Addr) (c0_1 : Nat) (l0_1 : List (S156)) (a0_2 : Bool) (a0_3 : Int) (a0_4 : ByteArray) (a1_0 : ByteArray) (A1_1 : Option Addr) (c1_1 : Nat) (l1_1 : List (S156)) (a1_2 : Bool) (a1_3 : Int) (a1_4 : ByteArray) (r : Bool) (w : World) (hr0_1 : Kd.C k156 w A0_1 l0_1.length l0_1) (hc0_1 : l0_1.length ≤ c0_1) (hr1_1 : Kd.C k156 w A1_1 l1_1.length l1_1) (hc1_1 : l1_1.length ≤ c1_1) (h : laws_eqRule.f k a0_0 l0_1 a0_2 a0_3 a0_4 a1_0 l1_1 a1_2 a1_3 a1_4 = some r) :
  Calls Try.prog 176 #[.agg #[.string a0_0, .slice A0_1 l0_1.length c0_1, .bool a0_2, .int .i64 a0_3, .string a0_4], .agg #[.string a1_0, .slice A1_1 l1_1.length c1_1, .bool a1_2, .int .i64 a1_3, .string a1_4]] w fun e w' => e = .returned (.bool r) ∧ Below w.heap.size w w' := by
 have hu113 := Try.underlying113
 have hu29 := Try.underlying29
 have HR0_1 := Aside0.mk hr0_1
 have HC0_1 := Aside0.mk hc0_1
 clear hr0_1 hc0_1
 have HR1_1 := Aside0.mk hr1_1
 have HC1_1 := Aside0.mk hc1_1
 clear hr1_1 hc1_1
 have HB := Aside0.mk (Below.refl w.heap.size w)
 have H : (if a0_0.toList = a1_0.toList then ((laws_eqRx.f k l0_1 l1_1).bind fun t103 => (if t103 = true then (if (a0_2 != a1_2) = true then (none) else (if a0_3 = a1_3 then (if a0_4.toList = a1_4.toList then (some true) else (none)) else (none))) else (none))) else (none)) = some r := h
 clear h
 by_cases c3 : a0_0.toList = a1_0.toList
 ·rw [if_pos c3] at H
  have c3b0 : (a0_0.toList == a1_0.toList) = true := beq_iff_eq.mpr c3
  have c3b1 : (a0_0.toList != a1_0.toList) = false := bne_eq_false_iff_eq.mpr c3
  clear c3
  replace H := Option.bind_eq_some_iff.mp H
  obtain ⟨t103, A40, H⟩ := H
  replace H : (if t103 = true then (if (a0_2 != a1_2) = true then (none) else (if a0_3 = a1_3 then (if a0_4.toList = a1_4.toList then (some true) else (none)) else (none))) else (none)) = some r := H
  have A4 := Aside0.mk A40
  clear A40
  by_cases c5 : t103 = true
  ·subst c5
   have H1 : (if (a0_2 != a1_2) = true then (none) else (if a0_3 = a1_3 then (if a0_4.toList = a1_4.toList then (some true) else (none)) else (none))) = some r := by rw [if_pos rfl] at H; exact H
   clear H
   have H := H1
   clear H1
   by_cases c6 : (a0_2 != a1_2) = true
   ·rw [if_pos c6] at H
    have c6b0 : (a0_2 != a1_2) = true := c6
    (try (have c6b1 : decide (a0_2 = a1_2) = false := by simpa using c6))
    (try (have c6b2 : (a0_2 == a1_2) = false := by simpa using c6))
    (try (have c6b3 : ¬ (a0_2 = a1_2) := by simpa using c6))
    clear c6
    exact absurd H (by simp)
   ·rw [if_neg c6] at H
    have c6b0 : (a0_2 != a1_2) = false := by simpa using c6
    (try (have c6b1 : decide (a0_2 = a1_2) = true := by simpa using c6))
    (try (have c6b2 : (a0_2 == a1_2) = true := by simpa using c6))
    clear c6
    by_cases c15 : a0_3 = a1_3
    ·rw [if_pos c15] at H
     have c15b0 : (a0_3 == a1_3) = true := beq_iff_eq.mpr c15
     have c15b1 : (a0_3 != a1_3) = false := bne_eq_false_iff_eq.mpr c15
     clear c15
     by_cases c16 : a0_4.toList = a1_4.toList
     ·rw [if_pos c16] at H
      have c16b0 : (a0_4.toList == a1_4.toList) = true := beq_iff_eq.mpr c16
      have c16b1 : (a0_4.toList != a1_4.toList) = false := bne_eq_false_iff_eq.mpr c16
      clear c16
      obtain rfl := Option.some.inj H
      go_enter Try.func176, Try.ntmps176
      go_wp2_with (first | ((with_reducible refine gate_dst (N := 2) rfl ?_); refine box_event ?hg (N := 2) ?hd (cs := #[.string a0_0, .slice A0_1 l0_1.length c0_1, .bool a0_2, .int .i64 a0_3, .string a0_4]) (t := 113) ?hr ?_; (case hd => rfl); (case hg => rfl); (case hr => first | (go_simp; done) | (go_simp; rfl)); intro gb101 hg w17 hbox hb; have n0_ := Aside0.mk (below_step (be_ HB.out) hb); have n1_ := Aside0.mk (hbox); have n2_ := Aside0.mk ((by rw [hg]; exact (below_size (be_ HB.out)) : w.heap.size ≤ gb101)); have n3_ := Aside0.mk ((by rw [hg]; exact (below_size (be_ HB.out)) : w.heap.size ≤ gb101)); clear HB; have HB := n0_; have BK101 := n1_; have GW101 := n2_; have GE101 := n3_; clear n0_ n1_ n2_ n3_; clear hb hbox hg) | ((with_reducible refine gate_dst (N := 3) rfl ?_); refine box_event ?hg (N := 3) ?hd (cs := #[.string a1_0, .slice A1_1 l1_1.length c1_1, .bool a1_2, .int .i64 a1_3, .string a1_4]) (t := 113) ?hr ?_; (case hd => rfl); (case hg => rfl); (case hr => first | (go_simp; done) | (go_simp; rfl)); intro gb102 hg w18 hbox hb; have n0_ := Aside0.mk (blk_below (g := gb101) (o := .cells #[.string a0_0, .slice A0_1 l0_1.length c0_1, .bool a0_2, .int .i64 a0_3, .string a0_4] 113 (0, 0)) (bk_ BK101.out) hb); have n1_ := Aside0.mk (below_step (be1_ HB.out GE101.out) hb); have n2_ := Aside0.mk (hbox); have n3_ := Aside0.mk ((by rw [hg]; exact (below_size (be1_ HB.out GE101.out)) : w.heap.size ≤ gb102)); have n4_ := Aside0.mk ((by rw [hg]; exact (below_size (be1_ HB.out GE101.out)) : w.heap.size ≤ gb102)); have n5_ := Aside0.mk ((by rw [hg]; exact Nat.ne_of_lt (blk_lt (g := gb101) (o := .cells #[.string a0_0, .slice A0_1 l0_1.length c0_1, .bool a0_2, .int .i64 a0_3, .string a0_4] 113 (0, 0)) (bk_ BK101.out)) : gb101 ≠ gb102)); have n6_ := Aside0.mk ((by rw [hg]; exact Nat.ne_of_gt (blk_lt (g := gb101) (o := .cells #[.string a0_0, .slice A0_1 l0_1.length c0_1, .bool a0_2, .int .i64 a0_3, .string a0_4] 113 (0, 0)) (bk_ BK101.out)) : gb102 ≠ gb101)); clear BK101; clear HB; have BK101 := n0_; have HB := n1_; have BK102 := n2_; have GW102 := n3_; have GE102 := n4_; have NB101_102 := n5_; have NB102_101 := n6_; clear n0_ n1_ n2_ n3_ n4_ n5_ n6_; clear hb hbox hg; have hnb19 := NB101_102.out; have hnc19 := NB102_101.out; have hcz20_0 : w18.cell? ⟨gb101, 0, none⟩ = some (.string a0_0) := (blk_cell BK101.out 0).trans rfl; have hcz20_1 : w18.cell? ⟨gb101, 1, none⟩ = some (.slice A0_1 l0_1.length c0_1) := (blk_cell BK101.out 1).trans rfl; have hcz20_2 : w18.cell? ⟨gb101, 2, none⟩ = some (.bool a0_2) := (blk_cell BK101.out 2).trans rfl; have hcz20_3 : w18.cell? ⟨gb101, 3, none⟩ = some (.int .i64 a0_3) := (blk_cell BK101.out 3).trans rfl; have hcz20_4 : w18.cell? ⟨gb101, 4, none⟩ = some (.string a0_4) := (blk_cell BK101.out 4).trans rfl; have hfz20_0 := blk_frozen BK101.out 0; have hfz20_1 := blk_frozen BK101.out 1; have hfz20_2 := blk_frozen BK101.out 2; have hfz20_3 := blk_frozen BK101.out 3; have hfz20_4 := blk_frozen BK101.out 4; have hcz21_0 : w18.cell? ⟨gb102, 0, none⟩ = some (.string a1_0) := (blk_cell BK102.out 0).trans rfl; have hcz21_1 : w18.cell? ⟨gb102, 1, none⟩ = some (.slice A1_1 l1_1.length c1_1) := (blk_cell BK102.out 1).trans rfl; have hcz21_2 : w18.cell? ⟨gb102, 2, none⟩ = some (.bool a1_2) := (blk_cell BK102.out 2).trans rfl; have hcz21_3 : w18.cell? ⟨gb102, 3, none⟩ = some (.int .i64 a1_3) := (blk_cell BK102.out 3).trans rfl; have hcz21_4 : w18.cell? ⟨gb102, 4, none⟩ = some (.string a1_4) := (blk_cell BK102.out 4).trans rfl; have hfz21_0 := blk_frozen BK102.out 0; have hfz21_1 := blk_frozen BK102.out 1; have hfz21_2 := blk_frozen BK102.out 2; have hfz21_3 := blk_frozen BK102.out 3; have hfz21_4 := blk_frozen BK102.out 4) | ((with_reducible refine gate_callee (f := 16) rfl ?_); refine gl_ (some 14) rfl rfl Try.func16 #[.agg #[.slice A0_1 l0_1.length c0_1], .agg #[.slice A1_1 l1_1.length c1_1]] ?_; (with_reducible refine (laws_eqRx.calls k _ _ l0_1 _ _ l1_1 true _ ?side1 ?side2 ?side3 ?side4 A4.out).mono ?_); (case side1 => repeat (first | exact (Kd.C_below HR0_1.out HB.out) | (with_reducible refine Kd.C_alloc ?_ _) | (with_reducible refine Kd.C_drewN ?_ _) | (with_reducible refine Kd.C_drew ?_))); (case side2 => exact HC0_1.out); (case side3 => repeat (first | exact (Kd.C_below HR1_1.out HB.out) | (with_reducible refine Kd.C_alloc ?_ _) | (with_reducible refine Kd.C_drewN ?_ _) | (with_reducible refine Kd.C_drew ?_))); (case side4 => exact HC1_1.out); rintro e w22 ⟨rfl, hb⟩; refine ⟨_, rfl, ?_⟩; have n0_ := Aside0.mk (blk_below (g := gb101) (o := .cells #[.string a0_0, .slice A0_1 l0_1.length c0_1, .bool a0_2, .int .i64 a0_3, .string a0_4] 113 (0, 0)) (bk_ BK101.out) hb); have n1_ := Aside0.mk (blk_below (g := gb102) (o := .cells #[.string a1_0, .slice A1_1 l1_1.length c1_1, .bool a1_2, .int .i64 a1_3, .string a1_4] 113 (0, 0)) (bk_ BK102.out) hb); have n2_ := Aside0.mk (below_step (be2_ HB.out GE101.out GE102.out) hb); clear BK101; clear BK102; clear HB; have BK101 := n0_; have BK102 := n1_; have HB := n2_; clear n0_ n1_ n2_; (try clear hb); (try clear hb2); (try clear hk); (try clear hi); have hcz23_0 : w22.cell? ⟨gb101, 0, none⟩ = some (.string a0_0) := (blk_cell BK101.out 0).trans rfl; have hcz23_1 : w22.cell? ⟨gb101, 1, none⟩ = some (.slice A0_1 l0_1.length c0_1) := (blk_cell BK101.out 1).trans rfl; have hcz23_2 : w22.cell? ⟨gb101, 2, none⟩ = some (.bool a0_2) := (blk_cell BK101.out 2).trans rfl; have hcz23_3 : w22.cell? ⟨gb101, 3, none⟩ = some (.int .i64 a0_3) := (blk_cell BK101.out 3).trans rfl; have hcz23_4 : w22.cell? ⟨gb101, 4, none⟩ = some (.string a0_4) := (blk_cell BK101.out 4).trans rfl; have hfz23_0 := blk_frozen BK101.out 0; have hfz23_1 := blk_frozen BK101.out 1; have hfz23_2 := blk_frozen BK101.out 2; have hfz23_3 := blk_frozen BK101.out 3; have hfz23_4 := blk_frozen BK101.out 4; have hcz24_0 : w22.cell? ⟨gb102, 0, none⟩ = some (.string a1_0) := (blk_cell BK102.out 0).trans rfl; have hcz24_1 : w22.cell? ⟨gb102, 1, none⟩ = some (.slice A1_1 l1_1.length c1_1) := (blk_cell BK102.out 1).trans rfl; have hcz24_2 : w22.cell? ⟨gb102, 2, none⟩ = some (.bool a1_2) := (blk_cell BK102.out 2).trans rfl; have hcz24_3 : w22.cell? ⟨gb102, 3, none⟩ = some (.int .i64 a1_3) := (blk_cell BK102.out 3).trans rfl; have hcz24_4 : w22.cell? ⟨gb102, 4, none⟩ = some (.string a1_4) := (blk_cell BK102.out 4).trans rfl; have hfz24_0 := blk_frozen BK102.out 0; have hfz24_1 := blk_frozen BK102.out 1; have hfz24_2 := blk_frozen BK102.out 2; have hfz24_3 := blk_frozen BK102.out 3; have hfz24_4 := blk_frozen BK102.out 4))
      go_ret
      exact ⟨rt_, be2_ HB.out GE101.out GE102.out⟩
     ·rw [if_neg c16] at H
      have c16b0 : (a0_4.toList == a1_4.toList) = false := beq_eq_false_iff_ne.mpr c16
      have c16b1 : (a0_4.toList != a1_4.toList) = true := bne_iff_ne.mpr c16
      exact absurd H (by simp)
    ·rw [if_neg c15] at H
     have c15b0 : (a0_3 == a1_3) = false := beq_eq_false_iff_ne.mpr c15
     have c15b1 : (a0_3 != a1_3) = true := bne_iff_ne.mpr c15
     exact absurd H (by simp)
  ·replace c5 := Bool.eq_false_iff.mpr c5
   subst c5
   have H1 : (none) = some r := by rw [if_neg (show ¬ (false = true) by decide)] at H; exact H
   clear H
   have H := H1
   clear H1
   exact absurd H (by simp)
 ·rw [if_neg c3] at H
  have c3b0 : (a0_0.toList == a1_0.toList) = false := beq_eq_false_iff_ne.mpr c3
  have c3b1 : (a0_0.toList != a1_0.toList) = true := bne_iff_ne.mpr c3
  exact absurd H (by simp)
end Go.Proofs.Ytijmhelacmjggaa.P
-- Made by wip/gen/pp.py of this session over the kit's print of the loaded program: a function, and the contract of its walk. Lean checks it.
namespace Go.Proofs.Ytijmhelacmjggaa.P
open Go.RowKit Go.Proofs.YtijmhelacmjggaaW.PrintWords Go.Proofs.YtijmhelacmjggaaW.PrintLast Go.Proofs.YtijmhelacmjggaaW.PrintMore
attribute [local go_sem] max2_int min2_int max_two min_two max_three min_three max_four min_four   -- for this text's walks alone
set_option linter.unusedVariables false
set_option linter.unusedSimpArgs false

/-! ### laws_eqRuleS: function 163 -/
def laws_eqRuleS.l0 : Nat → List (S113) → List (S113) → Int → Option (Bool)
 | 0, _, _, _ => none
 | k + 1, x0, x1, x5 => if x5 < (x0.length : Int) then (if 0 ≤ x5 then (if x5 < (x1.length : Int) then ((laws_eqRule.f k ((rd_T113 x0 x5).f0) ((rd_T113 x0 x5).f1.f0) ((rd_T113 x0 x5).f2) ((rd_T113 x0 x5).f3) ((rd_T113 x0 x5).f4) ((rd_T113 x1 x5).f0) ((rd_T113 x1 x5).f1.f0) ((rd_T113 x1 x5).f2) ((rd_T113 x1 x5).f3) ((rd_T113 x1 x5).f4)).bind fun t103 => (if t103 = true then (laws_eqRuleS.l0 k x0 x1 (wrap64 (x5 + 1))) else (none))) else (none)) else (none)) else (some true)
def laws_eqRuleS.f (k : Nat) (l0 : List (S113)) (l1 : List (S113)) : Option (Bool) := if (l0.length : Int) = (l1.length : Int) then (laws_eqRuleS.l0 k l0 l1 0) else (none)
theorem laws_eqRuleS.mono_l : ∀ k, (∀ y0 y1 y2, LeO (laws_eqRuleS.l0 k y0 y1 y2) (laws_eqRuleS.l0 (k + 1) y0 y1 y2))
 | 0 => fun _ _ _ r h => by simp [laws_eqRuleS.l0] at h
 | k + 1 => by
  have ih0 := laws_eqRuleS.mono_l k
  ·intro y0 y1 y2
   unfold laws_eqRuleS.l0
   repeat' first
   | (with_reducible exact ih0 _ _ _)
   | (with_reducible exact laws_eqRule.mono _ _ _ _ _ _ _ _ _ _ _)
   | (with_reducible exact LeO.refl _)
   | (with_reducible exact LeO.none _)
   | (with_reducible refine LeO.ite ?_ ?_)
   | (with_reducible refine LeO.bind ?_ (fun _ => ?_))
   | exact ih0 _ _ _
   | exact laws_eqRule.mono _ _ _ _ _ _ _ _ _ _ _
   | exact LeO.none _
   | refine LeO.ite ?_ ?_
   | refine LeO.bind ?_ (fun _ => ?_)
theorem laws_eqRuleS.mono : ∀ a0 a1 k, LeO (laws_eqRuleS.f k a0 a1) (laws_eqRuleS.f (k + 1) a0 a1) := by
 intro a0 a1 k
 have ih0 := laws_eqRuleS.mono_l k
 unfold laws_eqRuleS.f
 repeat' first
   | (with_reducible exact ih0 _ _ _)
   | (with_reducible exact laws_eqRule.mono _ _ _ _ _ _ _ _ _ _ _)
   | (with_reducible exact LeO.refl _)
   | (with_reducible exact LeO.none _)
   | (with_reducible refine LeO.ite ?_ ?_)
   | (with_reducible refine LeO.bind ?_ (fun _ => ?_))
   | exact ih0 _ _ _
   | exact laws_eqRule.mono _ _ _ _ _ _ _ _ _ _ _
   | exact LeO.none _
   | refine LeO.ite ?_ ?_
   | refine LeO.bind ?_ (fun _ => ?_)
def laws_eqRuleS.T6 : Bool × List (List Nat × List Nat) := (true, [([], []), ([], []), ([0, 1], [0, 1]), ([2], [2]), ([], []), ([], []), ([4, 5], [4, 5]), ([6], [6]), ([3, 7], [3, 7]), ([8], [8])])
def laws_eqRuleS.B6 : List Nat := [0, 0, 3, 7, 0, 0, 48, 112, 255, 511]
theorem laws_eqRuleS.tab6 : rtab .any (opsOf Try.f163 6) = laws_eqRuleS.T6 := by kernel_rfl
theorem laws_eqRuleS.bits6 : waitsOk laws_eqRuleS.T6.2 laws_eqRuleS.B6 = true := by kernel_rfl
set_option maxHeartbeats 8000000 in
set_option maxRecDepth 100000 in
theorem laws_eqRuleS.calls (k : Nat) (A0 : Option Addr) (c0 : Nat) (l0 : List (S113)) (A1 : Option Addr) (c1 : Nat) (l1 : List (S113)) (r : Bool) (w : World) (hr0 : Kd.C k113 w A0 l0.length l0) (hc0 : l0.length ≤ c0) (hr1 : Kd.C k113 w A1 l1.length l1) (hc1 : l1.length ≤ c1) (h : laws_eqRuleS.f k l0 l1 = some r) :
  Calls Try.prog 163 #[.slice A0 l0.length c0, .slice A1 l1.length c1] w fun e w' => e = .returned (.bool r) ∧ Below w.heap.size w w' := by
 have hu113 := Try.underlying113
 have HR0 := Aside0.mk hr0
 have HC0 := Aside0.mk hc0
 clear hr0 hc0
 have HR1 := Aside0.mk hr1
 have HC1 := Aside0.mk hc1
 clear hr1 hc1
 have HB := Aside0.mk (Below.refl w.heap.size w)
 have H : (if (l0.length : Int) = (l1.length : Int) then (laws_eqRuleS.l0 k l0 l1 0) else (none)) = some r := h
 clear h
 by_cases c3 : (l0.length : Int) = (l1.length : Int)
 ·rw [if_pos c3] at H
  have c3b0 : ((l0.length : Int) == (l1.length : Int)) = true := beq_iff_eq.mpr c3
  have c3b1 : ((l0.length : Int) != (l1.length : Int)) = false := bne_eq_false_iff_eq.mpr c3
  have c3b2 : (l0.length == l1.length) = true := by first | simpa using c3 | (simp at c3 ⊢; omega)
  clear c3
  have H' := Aside0.mk H
  clear H
  go_enter Try.func163, Try.ntmps163
  go_wp2
  go_loopg [5] k (fun kq v5 w' => ∃ (x5_1 : Int), v5 = .int .i64 x5_1 ∧ Aside0 (laws_eqRuleS.l0 kq l0 l1 x5_1 = some r) ∧ Aside0 (kq ≤ k) ∧ Aside0 (Below w.heap.size w w'))
  case atStart => exact ⟨(0), rs_, H', ⟨Nat.le_refl _⟩, ⟨be_ HB.out⟩⟩
  case round =>
   clear H'
   try clear c1
   try clear p2
   try clear c3
   try clear c3b0
   try clear c3b1
   try clear c3b2
   obtain ⟨x5_1, rfl, HA, HK1, HB⟩ := hrel
   cases gk with
   | zero => exact absurd HA.out (by simp [laws_eqRuleS.l0])
   | succ k1 =>
    have H := HA.out
    clear HA
    simp only [laws_eqRuleS.l0] at H
    by_cases c4 : x5_1 < (l0.length : Int)
    ·rw [if_pos c4] at H
     have c4b0 : decide (x5_1 < (l0.length : Int)) = true := decide_eq_true c4
     clear c4
     by_cases c5 : 0 ≤ x5_1
     ·rw [if_pos c5] at H
      have c5b0 : decide (0 ≤ x5_1) = true := decide_eq_true c5
      clear c5
      by_cases c6 : x5_1 < (l1.length : Int)
      ·rw [if_pos c6] at H
       have c6b0 : decide (x5_1 < (l1.length : Int)) = true := decide_eq_true c6
       clear c6
       replace H := Option.bind_eq_some_iff.mp H
       obtain ⟨t103, A70, H⟩ := H
       replace H : (if t103 = true then (laws_eqRuleS.l0 k1 l0 l1 (wrap64 (x5_1 + 1))) else (none)) = some r := H
       have A7 := Aside0.mk A70
       clear A70
       by_cases c8 : t103 = true
       ·subst c8
        have H1 : (laws_eqRuleS.l0 k1 l0 l1 (wrap64 (x5_1 + 1))) = some r := by rw [if_pos rfl] at H; exact H
        clear H
        have H := H1
        clear H1
        have H' := Aside0.mk H
        clear H
        try go_wp2
        have n0_ := Aside0.mk (below_drew1 HB.out)
        clear HB
        have HB := n0_
        clear n0_
        have p101 : 0 ≤ (x5_1 : Int) := of_decide_eq_true as_
        have q101 : x5_1 < (l0.length : Int) := of_decide_eq_true as_
        obtain ⟨ad101, A101_1, c101_1, e101, hx101_0, hx101_1, hx101_2, hx101_3, hx101_4, hl101_1, hi101_1⟩ := at_T113 HR0.out x5_1 p101 q101
        have hw101_4 := hx101_4
        have hw101_3 := hx101_3
        have hw101_2 := hx101_2
        have hw101_1 := hx101_1
        have hw101_0 := hx101_0
        cases e101
        replace hx101_0 := mv_ HB.out hx101_0
        replace hx101_1 := mv_ HB.out hx101_1
        replace hx101_2 := mv_ HB.out hx101_2
        replace hx101_3 := mv_ HB.out hx101_3
        replace hx101_4 := mv_ HB.out hx101_4
        have HR101_1 := Aside0.mk hi101_1
        have HC101_1 := Aside0.mk hl101_1
        clear hi101_1 hl101_1
        replace p101 := eq_true p101
        replace q101 := eq_true q101
        have p102 : 0 ≤ (x5_1 : Int) := of_decide_eq_true as_
        have q102 : x5_1 < (l1.length : Int) := of_decide_eq_true as_
        obtain ⟨ad102, A102_1, c102_1, e102, hx102_0, hx102_1, hx102_2, hx102_3, hx102_4, hl102_1, hi102_1⟩ := at_T113 HR1.out x5_1 p102 q102
        have hw102_4 := hx102_4
        have hw102_3 := hx102_3
        have hw102_2 := hx102_2
        have hw102_1 := hx102_1
        have hw102_0 := hx102_0
        cases e102
        replace hx102_0 := mv_ HB.out hx102_0
        replace hx102_1 := mv_ HB.out hx102_1
        replace hx102_2 := mv_ HB.out hx102_2
        replace hx102_3 := mv_ HB.out hx102_3
        replace hx102_4 := mv_ HB.out hx102_4
        have HR102_1 := Aside0.mk hi102_1
        have HC102_1 := Aside0.mk hl102_1
        clear hi102_1 hl102_1
        replace p102 := eq_true p102
        replace q102 := eq_true q102
        refine start_ (n := 10) (S := fun w' => w'.cell? (ad101.add ((x5_1).toNat * 5)) = some (.string ((rd_T113 l0 x5_1).f0)) ∧ w'.cell? ⟨(ad101.add ((x5_1).toNat * 5)).block, (ad101.add ((x5_1).toNat * 5)).off + 1, none⟩ = some (.slice A101_1 ((rd_T113 l0 x5_1).f1.f0).length c101_1) ∧ w'.cell? ⟨(ad101.add ((x5_1).toNat * 5)).block, (ad101.add ((x5_1).toNat * 5)).off + 2, none⟩ = some (.bool ((rd_T113 l0 x5_1).f2)) ∧ w'.cell? ⟨(ad101.add ((x5_1).toNat * 5)).block, (ad101.add ((x5_1).toNat * 5)).off + 3, none⟩ = some (.int .i64 ((rd_T113 l0 x5_1).f3)) ∧ w'.cell? ⟨(ad101.add ((x5_1).toNat * 5)).block, (ad101.add ((x5_1).toNat * 5)).off + 4, none⟩ = some (.string ((rd_T113 l0 x5_1).f4)) ∧ w'.cell? (ad102.add ((x5_1).toNat * 5)) = some (.string ((rd_T113 l1 x5_1).f0)) ∧ w'.cell? ⟨(ad102.add ((x5_1).toNat * 5)).block, (ad102.add ((x5_1).toNat * 5)).off + 1, none⟩ = some (.slice A102_1 ((rd_T113 l1 x5_1).f1.f0).length c102_1) ∧ w'.cell? ⟨(ad102.add ((x5_1).toNat * 5)).block, (ad102.add ((x5_1).toNat * 5)).off + 2, none⟩ = some (.bool ((rd_T113 l1 x5_1).f2)) ∧ w'.cell? ⟨(ad102.add ((x5_1).toNat * 5)).block, (ad102.add ((x5_1).toNat * 5)).off + 3, none⟩ = some (.int .i64 ((rd_T113 l1 x5_1).f3)) ∧ w'.cell? ⟨(ad102.add ((x5_1).toNat * 5)).block, (ad102.add ((x5_1).toNat * 5)).off + 4, none⟩ = some (.string ((rd_T113 l1 x5_1).f4))) (ds := []) #[false, false, false, false, false, false, false, false, false, false] (by kernel_rfl) rfl rfl ⟨(mv_ HB.out hw101_0), (mv_ HB.out hw101_1), (mv_ HB.out hw101_2), (mv_ HB.out hw101_3), (mv_ HB.out hw101_4), (mv_ HB.out hw102_0), (mv_ HB.out hw102_1), (mv_ HB.out hw102_2), (mv_ HB.out hw102_3), (mv_ HB.out hw102_4)⟩ (fun hHeld => ?_); refine with_tabW laws_eqRuleS.tab6 laws_eqRuleS.bits6 (fun HT_ HW_ => ?_)
        generalize wr.drew = w9 at HB HR101_1 HR102_1 hx101_0 hx101_1 hx101_2 hx101_3 hx101_4 hx102_0 hx102_1 hx102_2 hx102_3 hx102_4 hHeld ⊢
        refine pu_ 0 (some 17) (bb 10 1) HT_.out ?_
        refine pu_ 1 (some 18) (bb 10 3) HT_.out ?_
        refine pu_ 2 (some 19) (bb 10 7) HT_.out ?_
        refine pu_ 4 (some 21) (bb 10 23) HT_.out ?_
        refine pu_ 5 (some 22) (bb 10 55) HT_.out ?_
        refine pu_ 6 (some 23) (bb 10 119) HT_.out ?_
        refine ta_ 3 (some 20) (bb 10 127) HT_.out HW_.out hHeld ?_
        refine ta_ 7 (some 24) (bb 10 255) HT_.out HW_.out hHeld ?_
        refine one_ (i := 8) (N := some 25) (bb 10 511) rfl rfl (one_of HT_.out (by kernel_rfl)) (by decide) (fun K hK => ?_)
        refine gs_ Try.func176 #[.agg #[.string ((rd_T113 l0 x5_1).f0), .slice A101_1 ((rd_T113 l0 x5_1).f1.f0).length c101_1, .bool ((rd_T113 l0 x5_1).f2), .int .i64 ((rd_T113 l0 x5_1).f3), .string ((rd_T113 l0 x5_1).f4)], .agg #[.string ((rd_T113 l1 x5_1).f0), .slice A102_1 ((rd_T113 l1 x5_1).f1.f0).length c102_1, .bool ((rd_T113 l1 x5_1).f2), .int .i64 ((rd_T113 l1 x5_1).f3), .string ((rd_T113 l1 x5_1).f4)]] ?_
        with_reducible refine (laws_eqRule.calls k1 ((rd_T113 l0 x5_1).f0) _ _ ((rd_T113 l0 x5_1).f1.f0) ((rd_T113 l0 x5_1).f2) ((rd_T113 l0 x5_1).f3) ((rd_T113 l0 x5_1).f4) ((rd_T113 l1 x5_1).f0) _ _ ((rd_T113 l1 x5_1).f1.f0) ((rd_T113 l1 x5_1).f2) ((rd_T113 l1 x5_1).f3) ((rd_T113 l1 x5_1).f4) true _ ?side1 ?side2 ?side3 ?side4 A7.out).mono ?_
        (case side1 => repeat (first | exact (Kd.C_below HR101_1.out HB.out) | (with_reducible refine Kd.C_alloc ?_ _) | (with_reducible refine Kd.C_drewN ?_ _) | (with_reducible refine Kd.C_drew ?_)))
        (case side2 => exact HC101_1.out)
        (case side3 => repeat (first | exact (Kd.C_below HR102_1.out HB.out) | (with_reducible refine Kd.C_alloc ?_ _) | (with_reducible refine Kd.C_drewN ?_ _) | (with_reducible refine Kd.C_drew ?_)))
        (case side4 => exact HC102_1.out)
        rintro e w10 ⟨rfl, hb⟩
        refine ⟨_, rfl, ?_⟩
        have n0_ := Aside0.mk (below_step (be_ HB.out) hb)
        clear HB
        have HB := n0_
        clear n0_
        (try clear hb)
        (try clear hb2)
        (try clear hk)
        (try clear hi)
        refine hK.out _ _ ⟨(mv_ HB.out hw101_0), (mv_ HB.out hw101_1), (mv_ HB.out hw101_2), (mv_ HB.out hw101_3), (mv_ HB.out hw101_4), (mv_ HB.out hw102_0), (mv_ HB.out hw102_1), (mv_ HB.out hw102_2), (mv_ HB.out hw102_3), (mv_ HB.out hw102_4)⟩ (fun hHeld => ?_)
        clear hK K
        refine no_ (some 25) ?_
        refine pu_ 9 (some 26) (bb 10 1023) HT_.out ?_
        refine done_ (done_of HT_.out (by kernel_rfl)) ?_
        try go_wp2
        go_roundg k1
        case measure => have := HK1.out; omega
        case rel => exact ⟨(wrap64 (x5_1 + 1)), rs_, H', ⟨by have := HK1.out; omega⟩, ⟨be_ HB.out⟩⟩
       ·replace c8 := Bool.eq_false_iff.mpr c8
        subst c8
        have H1 : (none) = some r := by rw [if_neg (show ¬ (false = true) by decide)] at H; exact H
        clear H
        have H := H1
        clear H1
        exact absurd H (by simp)
      ·rw [if_neg c6] at H
       exact absurd H (by simp)
     ·rw [if_neg c5] at H
      exact absurd H (by simp)
    ·rw [if_neg c4] at H
     have c4b0 : decide (x5_1 < (l0.length : Int)) = false := decide_eq_false c4
     clear c4
     obtain rfl := Option.some.inj H
     go_wp2
     go_ret
     exact ⟨rt_, be_ HB.out⟩
 ·rw [if_neg c3] at H
  have c3b0 : ((l0.length : Int) == (l1.length : Int)) = false := beq_eq_false_iff_ne.mpr c3
  have c3b1 : ((l0.length : Int) != (l1.length : Int)) = true := bne_iff_ne.mpr c3
  have c3b2 : (l0.length == l1.length) = false := by first | simpa using c3 | (simp at c3 ⊢; omega)
  exact absurd H (by simp)
end Go.Proofs.Ytijmhelacmjggaa.P
-- Made by wip/gen/pp.py of this session over the kit's print of the loaded program: a function, and the contract of its walk. Lean checks it.
namespace Go.Proofs.Ytijmhelacmjggaa.P
open Go.RowKit Go.Proofs.YtijmhelacmjggaaW.PrintWords Go.Proofs.YtijmhelacmjggaaW.PrintLast Go.Proofs.YtijmhelacmjggaaW.PrintMore
attribute [local go_sem] max2_int min2_int max_two min_two max_three min_three max_four min_four   -- for this text's walks alone
set_option linter.unusedVariables false
set_option linter.unusedSimpArgs false

/-! ### laws_eqMode: function 132 -/
def laws_eqMode.f (k : Nat) (a0_0 : ByteArray) (l0_1 : List (S113)) (a1_0 : ByteArray) (l1_1 : List (S113)) : Option (Bool) := if a0_0.toList = a1_0.toList then ((laws_eqRuleS.f k l0_1 l1_1).bind fun t103 => (if t103 = true then (some true) else (none))) else (none)
theorem laws_eqMode.mono : ∀ a0 a1 a2 a3 k, LeO (laws_eqMode.f k a0 a1 a2 a3) (laws_eqMode.f (k + 1) a0 a1 a2 a3) := by
 intro a0 a1 a2 a3 k
 unfold laws_eqMode.f
 repeat' first
   | (with_reducible exact laws_eqRuleS.mono _ _ _)
   | (with_reducible exact LeO.refl _)
   | (with_reducible exact LeO.none _)
   | (with_reducible refine LeO.ite ?_ ?_)
   | (with_reducible refine LeO.bind ?_ (fun _ => ?_))
   | exact laws_eqRuleS.mono _ _ _
   | exact LeO.none _
   | refine LeO.ite ?_ ?_
   | refine LeO.bind ?_ (fun _ => ?_)
set_option maxHeartbeats 8000000 in
set_option maxRecDepth 100000 in
theorem laws_eqMode.calls (k : Nat) (a0_0 : ByteArray) (A0_1 : Option Addr) (c0_1 : Nat) (l0_1 : List (S113)) (a1_0 : ByteArray) (A1_1 : Option Addr) (c1_1 : Nat) (l1_1 : List (S113)) (r : Bool) (w : World) (hr0_1 : Kd.C k113 w A0_1 l0_1.length l0_1) (hc0_1 : l0_1.length ≤ c0_1) (hr1_1 : Kd.C k113 w A1_1 l1_1.length l1_1) (hc1_1 : l1_1.length ≤ c1_1) (h : laws_eqMode.f k a0_0 l0_1 a1_0 l1_1 = some r) :
  Calls Try.prog 132 #[.agg #[.string a0_0, .slice A0_1 l0_1.length c0_1], .agg #[.string a1_0, .slice A1_1 l1_1.length c1_1]] w fun e w' => e = .returned (.bool r) ∧ Below w.heap.size w w' := by
 have hu108 := Try.underlying108
 have HR0_1 := Aside0.mk hr0_1
 have HC0_1 := Aside0.mk hc0_1
 clear hr0_1 hc0_1
 have HR1_1 := Aside0.mk hr1_1
 have HC1_1 := Aside0.mk hc1_1
 clear hr1_1 hc1_1
 have HB := Aside0.mk (Below.refl w.heap.size w)
 have H : (if a0_0.toList = a1_0.toList then ((laws_eqRuleS.f k l0_1 l1_1).bind fun t103 => (if t103 = true then (some true) else (none))) else (none)) = some r := h
 clear h
 by_cases c3 : a0_0.toList = a1_0.toList
 ·rw [if_pos c3] at H
  have c3b0 : (a0_0.toList == a1_0.toList) = true := beq_iff_eq.mpr c3
  have c3b1 : (a0_0.toList != a1_0.toList) = false := bne_eq_false_iff_eq.mpr c3
  clear c3
  replace H := Option.bind_eq_some_iff.mp H
  obtain ⟨t103, A40, H⟩ := H
  replace H : (if t103 = true then (some true) else (none)) = some r := H
  have A4 := Aside0.mk A40
  clear A40
  by_cases c5 : t103 = true
  ·subst c5
   have H1 : (some true) = some r := by rw [if_pos rfl] at H; exact H
   clear H
   have H := H1
   clear H1
   obtain rfl := Option.some.inj H
   go_enter Try.func132, Try.ntmps132
   go_wp2_with (first | ((with_reducible refine gate_dst (N := 2) rfl ?_); refine box_event ?hg (N := 2) ?hd (cs := #[.string a0_0, .slice A0_1 l0_1.length c0_1]) (t := 108) ?hr ?_; (case hd => rfl); (case hg => rfl); (case hr => first | (go_simp; done) | (go_simp; rfl)); intro gb101 hg w6 hbox hb; have n0_ := Aside0.mk (below_step (be_ HB.out) hb); have n1_ := Aside0.mk (hbox); have n2_ := Aside0.mk ((by rw [hg]; exact (below_size (be_ HB.out)) : w.heap.size ≤ gb101)); have n3_ := Aside0.mk ((by rw [hg]; exact (below_size (be_ HB.out)) : w.heap.size ≤ gb101)); clear HB; have HB := n0_; have BK101 := n1_; have GW101 := n2_; have GE101 := n3_; clear n0_ n1_ n2_ n3_; clear hb hbox hg) | ((with_reducible refine gate_dst (N := 3) rfl ?_); refine box_event ?hg (N := 3) ?hd (cs := #[.string a1_0, .slice A1_1 l1_1.length c1_1]) (t := 108) ?hr ?_; (case hd => rfl); (case hg => rfl); (case hr => first | (go_simp; done) | (go_simp; rfl)); intro gb102 hg w7 hbox hb; have n0_ := Aside0.mk (blk_below (g := gb101) (o := .cells #[.string a0_0, .slice A0_1 l0_1.length c0_1] 108 (0, 0)) (bk_ BK101.out) hb); have n1_ := Aside0.mk (below_step (be1_ HB.out GE101.out) hb); have n2_ := Aside0.mk (hbox); have n3_ := Aside0.mk ((by rw [hg]; exact (below_size (be1_ HB.out GE101.out)) : w.heap.size ≤ gb102)); have n4_ := Aside0.mk ((by rw [hg]; exact (below_size (be1_ HB.out GE101.out)) : w.heap.size ≤ gb102)); have n5_ := Aside0.mk ((by rw [hg]; exact Nat.ne_of_lt (blk_lt (g := gb101) (o := .cells #[.string a0_0, .slice A0_1 l0_1.length c0_1] 108 (0, 0)) (bk_ BK101.out)) : gb101 ≠ gb102)); have n6_ := Aside0.mk ((by rw [hg]; exact Nat.ne_of_gt (blk_lt (g := gb101) (o := .cells #[.string a0_0, .slice A0_1 l0_1.length c0_1] 108 (0, 0)) (bk_ BK101.out)) : gb102 ≠ gb101)); clear BK101; clear HB; have BK101 := n0_; have HB := n1_; have BK102 := n2_; have GW102 := n3_; have GE102 := n4_; have NB101_102 := n5_; have NB102_101 := n6_; clear n0_ n1_ n2_ n3_ n4_ n5_ n6_; clear hb hbox hg; have hnb8 := NB101_102.out; have hnc8 := NB102_101.out; have hcz9_0 : w7.cell? ⟨gb101, 0, none⟩ = some (.string a0_0) := (blk_cell BK101.out 0).trans rfl; have hcz9_1 : w7.cell? ⟨gb101, 1, none⟩ = some (.slice A0_1 l0_1.length c0_1) := (blk_cell BK101.out 1).trans rfl; have hfz9_0 := blk_frozen BK101.out 0; have hfz9_1 := blk_frozen BK101.out 1; have hcz10_0 : w7.cell? ⟨gb102, 0, none⟩ = some (.string a1_0) := (blk_cell BK102.out 0).trans rfl; have hcz10_1 : w7.cell? ⟨gb102, 1, none⟩ = some (.slice A1_1 l1_1.length c1_1) := (blk_cell BK102.out 1).trans rfl; have hfz10_0 := blk_frozen BK102.out 0; have hfz10_1 := blk_frozen BK102.out 1) | ((with_reducible refine gate_callee (f := 163) rfl ?_); refine gl_ (some 14) rfl rfl Try.func163 #[.slice A0_1 l0_1.length c0_1, .slice A1_1 l1_1.length c1_1] ?_; (with_reducible refine (laws_eqRuleS.calls k _ _ l0_1 _ _ l1_1 true _ ?side1 ?side2 ?side3 ?side4 A4.out).mono ?_); (case side1 => repeat (first | exact (Kd.C_below HR0_1.out HB.out) | (with_reducible refine Kd.C_alloc ?_ _) | (with_reducible refine Kd.C_drewN ?_ _) | (with_reducible refine Kd.C_drew ?_))); (case side2 => exact HC0_1.out); (case side3 => repeat (first | exact (Kd.C_below HR1_1.out HB.out) | (with_reducible refine Kd.C_alloc ?_ _) | (with_reducible refine Kd.C_drewN ?_ _) | (with_reducible refine Kd.C_drew ?_))); (case side4 => exact HC1_1.out); rintro e w11 ⟨rfl, hb⟩; refine ⟨_, rfl, ?_⟩; have n0_ := Aside0.mk (blk_below (g := gb101) (o := .cells #[.string a0_0, .slice A0_1 l0_1.length c0_1] 108 (0, 0)) (bk_ BK101.out) hb); have n1_ := Aside0.mk (blk_below (g := gb102) (o := .cells #[.string a1_0, .slice A1_1 l1_1.length c1_1] 108 (0, 0)) (bk_ BK102.out) hb); have n2_ := Aside0.mk (below_step (be2_ HB.out GE101.out GE102.out) hb); clear BK101; clear BK102; clear HB; have BK101 := n0_; have BK102 := n1_; have HB := n2_; clear n0_ n1_ n2_; (try clear hb); (try clear hb2); (try clear hk); (try clear hi)))
   go_ret
   exact ⟨rt_, be2_ HB.out GE101.out GE102.out⟩
  ·replace c5 := Bool.eq_false_iff.mpr c5
   subst c5
   have H1 : (none) = some r := by rw [if_neg (show ¬ (false = true) by decide)] at H; exact H
   clear H
   have H := H1
   clear H1
   exact absurd H (by simp)
 ·rw [if_neg c3] at H
  have c3b0 : (a0_0.toList == a1_0.toList) = false := beq_eq_false_iff_ne.mpr c3
  have c3b1 : (a0_0.toList != a1_0.toList) = true := bne_iff_ne.mpr c3
  exact absurd H (by simp)
end Go.Proofs.Ytijmhelacmjggaa.P
-- Made by wip/gen/pp.py of this session over the kit's print of the loaded program: a function, and the contract of its walk. Lean checks it.
namespace Go.Proofs.Ytijmhelacmjggaa.P
open Go.RowKit Go.Proofs.YtijmhelacmjggaaW.PrintWords Go.Proofs.YtijmhelacmjggaaW.PrintLast Go.Proofs.YtijmhelacmjggaaW.PrintMore
attribute [local go_sem] max2_int min2_int max_two min_two max_three min_three max_four min_four   -- for this text's walks alone
set_option linter.unusedVariables false
set_option linter.unusedSimpArgs false

/-! ### laws_eqModeS: function 87 -/
def laws_eqModeS.l0 : Nat → List (S108) → List (S108) → Int → Option (Bool)
 | 0, _, _, _ => none
 | k + 1, x0, x1, x5 => if x5 < (x0.length : Int) then (if 0 ≤ x5 then (if x5 < (x1.length : Int) then ((laws_eqMode.f k ((rd_T108 x0 x5).f0) ((rd_T108 x0 x5).f1) ((rd_T108 x1 x5).f0) ((rd_T108 x1 x5).f1)).bind fun t103 => (if t103 = true then (laws_eqModeS.l0 k x0 x1 (wrap64 (x5 + 1))) else (none))) else (none)) else (none)) else (some true)
def laws_eqModeS.f (k : Nat) (l0 : List (S108)) (l1 : List (S108)) : Option (Bool) := if (l0.length : Int) = (l1.length : Int) then (laws_eqModeS.l0 k l0 l1 0) else (none)
theorem laws_eqModeS.mono_l : ∀ k, (∀ y0 y1 y2, LeO (laws_eqModeS.l0 k y0 y1 y2) (laws_eqModeS.l0 (k + 1) y0 y1 y2))
 | 0 => fun _ _ _ r h => by simp [laws_eqModeS.l0] at h
 | k + 1 => by
  have ih0 := laws_eqModeS.mono_l k
  ·intro y0 y1 y2
   unfold laws_eqModeS.l0
   repeat' first
   | (with_reducible exact ih0 _ _ _)
   | (with_reducible exact laws_eqMode.mono _ _ _ _ _)
   | (with_reducible exact LeO.refl _)
   | (with_reducible exact LeO.none _)
   | (with_reducible refine LeO.ite ?_ ?_)
   | (with_reducible refine LeO.bind ?_ (fun _ => ?_))
   | exact ih0 _ _ _
   | exact laws_eqMode.mono _ _ _ _ _
   | exact LeO.none _
   | refine LeO.ite ?_ ?_
   | refine LeO.bind ?_ (fun _ => ?_)
theorem laws_eqModeS.mono : ∀ a0 a1 k, LeO (laws_eqModeS.f k a0 a1) (laws_eqModeS.f (k + 1) a0 a1) := by
 intro a0 a1 k
 have ih0 := laws_eqModeS.mono_l k
 unfold laws_eqModeS.f
 repeat' first
   | (with_reducible exact ih0 _ _ _)
   | (with_reducible exact laws_eqMode.mono _ _ _ _ _)
   | (with_reducible exact LeO.refl _)
   | (with_reducible exact LeO.none _)
   | (with_reducible refine LeO.ite ?_ ?_)
   | (with_reducible refine LeO.bind ?_ (fun _ => ?_))
   | exact ih0 _ _ _
   | exact laws_eqMode.mono _ _ _ _ _
   | exact LeO.none _
   | refine LeO.ite ?_ ?_
   | refine LeO.bind ?_ (fun _ => ?_)
def laws_eqModeS.T6 : Bool × List (List Nat × List Nat) := (true, [([], []), ([], []), ([0, 1], [0, 1]), ([2], [2]), ([], []), ([], []), ([4, 5], [4, 5]), ([6], [6]), ([3, 7], [3, 7]), ([8], [8])])
def laws_eqModeS.B6 : List Nat := [0, 0, 3, 7, 0, 0, 48, 112, 255, 511]
theorem laws_eqModeS.tab6 : rtab .any (opsOf Try.f87 6) = laws_eqModeS.T6 := by kernel_rfl
theorem laws_eqModeS.bits6 : waitsOk laws_eqModeS.T6.2 laws_eqModeS.B6 = true := by kernel_rfl
set_option maxHeartbeats 8000000 in
set_option maxRecDepth 100000 in
theorem laws_eqModeS.calls (k : Nat) (A0 : Option Addr) (c0 : Nat) (l0 : List (S108)) (A1 : Option Addr) (c1 : Nat) (l1 : List (S108)) (r : Bool) (w : World) (hr0 : Kd.C k108 w A0 l0.length l0) (hc0 : l0.length ≤ c0) (hr1 : Kd.C k108 w A1 l1.length l1) (hc1 : l1.length ≤ c1) (h : laws_eqModeS.f k l0 l1 = some r) :
  Calls Try.prog 87 #[.slice A0 l0.length c0, .slice A1 l1.length c1] w fun e w' => e = .returned (.bool r) ∧ Below w.heap.size w w' := by
 have hu108 := Try.underlying108
 have HR0 := Aside0.mk hr0
 have HC0 := Aside0.mk hc0
 clear hr0 hc0
 have HR1 := Aside0.mk hr1
 have HC1 := Aside0.mk hc1
 clear hr1 hc1
 have HB := Aside0.mk (Below.refl w.heap.size w)
 have H : (if (l0.length : Int) = (l1.length : Int) then (laws_eqModeS.l0 k l0 l1 0) else (none)) = some r := h
 clear h
 by_cases c3 : (l0.length : Int) = (l1.length : Int)
 ·rw [if_pos c3] at H
  have c3b0 : ((l0.length : Int) == (l1.length : Int)) = true := beq_iff_eq.mpr c3
  have c3b1 : ((l0.length : Int) != (l1.length : Int)) = false := bne_eq_false_iff_eq.mpr c3
  have c3b2 : (l0.length == l1.length) = true := by first | simpa using c3 | (simp at c3 ⊢; omega)
  clear c3
  have H' := Aside0.mk H
  clear H
  go_enter Try.func87, Try.ntmps87
  go_wp2
  go_loopg [5] k (fun kq v5 w' => ∃ (x5_1 : Int), v5 = .int .i64 x5_1 ∧ Aside0 (laws_eqModeS.l0 kq l0 l1 x5_1 = some r) ∧ Aside0 (kq ≤ k) ∧ Aside0 (Below w.heap.size w w'))
  case atStart => exact ⟨(0), rs_, H', ⟨Nat.le_refl _⟩, ⟨be_ HB.out⟩⟩
  case round =>
   clear H'
   try clear c1
   try clear p2
   try clear c3
   try clear c3b0
   try clear c3b1
   try clear c3b2
   obtain ⟨x5_1, rfl, HA, HK1, HB⟩ := hrel
   cases gk with
   | zero => exact absurd HA.out (by simp [laws_eqModeS.l0])
   | succ k1 =>
    have H := HA.out
    clear HA
    simp only [laws_eqModeS.l0] at H
    by_cases c4 : x5_1 < (l0.length : Int)
    ·rw [if_pos c4] at H
     have c4b0 : decide (x5_1 < (l0.length : Int)) = true := decide_eq_true c4
     clear c4
     by_cases c5 : 0 ≤ x5_1
     ·rw [if_pos c5] at H
      have c5b0 : decide (0 ≤ x5_1) = true := decide_eq_true c5
      clear c5
      by_cases c6 : x5_1 < (l1.length : Int)
      ·rw [if_pos c6] at H
       have c6b0 : decide (x5_1 < (l1.length : Int)) = true := decide_eq_true c6
       clear c6
       replace H := Option.bind_eq_some_iff.mp H
       obtain ⟨t103, A70, H⟩ := H
       replace H : (if t103 = true then (laws_eqModeS.l0 k1 l0 l1 (wrap64 (x5_1 + 1))) else (none)) = some r := H
       have A7 := Aside0.mk A70
       clear A70
       by_cases c8 : t103 = true
       ·subst c8
        have H1 : (laws_eqModeS.l0 k1 l0 l1 (wrap64 (x5_1 + 1))) = some r := by rw [if_pos rfl] at H; exact H
        clear H
        have H := H1
        clear H1
        have H' := Aside0.mk H
        clear H
        try go_wp2
        have n0_ := Aside0.mk (below_drew1 HB.out)
        clear HB
        have HB := n0_
        clear n0_
        have p101 : 0 ≤ (x5_1 : Int) := of_decide_eq_true as_
        have q101 : x5_1 < (l0.length : Int) := of_decide_eq_true as_
        obtain ⟨ad101, A101_1, c101_1, e101, hx101_0, hx101_1, hl101_1, hi101_1⟩ := at_T108 HR0.out x5_1 p101 q101
        have hw101_1 := hx101_1
        have hw101_0 := hx101_0
        cases e101
        replace hx101_0 := mv_ HB.out hx101_0
        replace hx101_1 := mv_ HB.out hx101_1
        have HR101_1 := Aside0.mk hi101_1
        have HC101_1 := Aside0.mk hl101_1
        clear hi101_1 hl101_1
        replace p101 := eq_true p101
        replace q101 := eq_true q101
        have p102 : 0 ≤ (x5_1 : Int) := of_decide_eq_true as_
        have q102 : x5_1 < (l1.length : Int) := of_decide_eq_true as_
        obtain ⟨ad102, A102_1, c102_1, e102, hx102_0, hx102_1, hl102_1, hi102_1⟩ := at_T108 HR1.out x5_1 p102 q102
        have hw102_1 := hx102_1
        have hw102_0 := hx102_0
        cases e102
        replace hx102_0 := mv_ HB.out hx102_0
        replace hx102_1 := mv_ HB.out hx102_1
        have HR102_1 := Aside0.mk hi102_1
        have HC102_1 := Aside0.mk hl102_1
        clear hi102_1 hl102_1
        replace p102 := eq_true p102
        replace q102 := eq_true q102
        refine start_ (n := 10) (S := fun w' => w'.cell? (ad101.add ((x5_1).toNat * 2)) = some (.string ((rd_T108 l0 x5_1).f0)) ∧ w'.cell? ⟨(ad101.add ((x5_1).toNat * 2)).block, (ad101.add ((x5_1).toNat * 2)).off + 1, none⟩ = some (.slice A101_1 ((rd_T108 l0 x5_1).f1).length c101_1) ∧ w'.cell? (ad102.add ((x5_1).toNat * 2)) = some (.string ((rd_T108 l1 x5_1).f0)) ∧ w'.cell? ⟨(ad102.add ((x5_1).toNat * 2)).block, (ad102.add ((x5_1).toNat * 2)).off + 1, none⟩ = some (.slice A102_1 ((rd_T108 l1 x5_1).f1).length c102_1)) (ds := []) #[false, false, false, false, false, false, false, false, false, false] (by kernel_rfl) rfl rfl ⟨(mv_ HB.out hw101_0), (mv_ HB.out hw101_1), (mv_ HB.out hw102_0), (mv_ HB.out hw102_1)⟩ (fun hHeld => ?_); refine with_tabW laws_eqModeS.tab6 laws_eqModeS.bits6 (fun HT_ HW_ => ?_)
        generalize wr.drew = w9 at HB HR101_1 HR102_1 hx101_0 hx101_1 hx102_0 hx102_1 hHeld ⊢
        refine pu_ 0 (some 17) (bb 10 1) HT_.out ?_
        refine pu_ 1 (some 18) (bb 10 3) HT_.out ?_
        refine pu_ 2 (some 19) (bb 10 7) HT_.out ?_
        refine pu_ 4 (some 21) (bb 10 23) HT_.out ?_
        refine pu_ 5 (some 22) (bb 10 55) HT_.out ?_
        refine pu_ 6 (some 23) (bb 10 119) HT_.out ?_
        refine ta_ 3 (some 20) (bb 10 127) HT_.out HW_.out hHeld ?_
        refine ta_ 7 (some 24) (bb 10 255) HT_.out HW_.out hHeld ?_
        refine one_ (i := 8) (N := some 25) (bb 10 511) rfl rfl (one_of HT_.out (by kernel_rfl)) (by decide) (fun K hK => ?_)
        refine gs_ Try.func132 #[.agg #[.string ((rd_T108 l0 x5_1).f0), .slice A101_1 ((rd_T108 l0 x5_1).f1).length c101_1], .agg #[.string ((rd_T108 l1 x5_1).f0), .slice A102_1 ((rd_T108 l1 x5_1).f1).length c102_1]] ?_
        with_reducible refine (laws_eqMode.calls k1 ((rd_T108 l0 x5_1).f0) _ _ ((rd_T108 l0 x5_1).f1) ((rd_T108 l1 x5_1).f0) _ _ ((rd_T108 l1 x5_1).f1) true _ ?side1 ?side2 ?side3 ?side4 A7.out).mono ?_
        (case side1 => repeat (first | exact (Kd.C_below HR101_1.out HB.out) | (with_reducible refine Kd.C_alloc ?_ _) | (with_reducible refine Kd.C_drewN ?_ _) | (with_reducible refine Kd.C_drew ?_)))
        (case side2 => exact HC101_1.out)
        (case side3 => repeat (first | exact (Kd.C_below HR102_1.out HB.out) | (with_reducible refine Kd.C_alloc ?_ _) | (with_reducible refine Kd.C_drewN ?_ _) | (with_reducible refine Kd.C_drew ?_)))
        (case side4 => exact HC102_1.out)
        rintro e w10 ⟨rfl, hb⟩
        refine ⟨_, rfl, ?_⟩
        have n0_ := Aside0.mk (below_step (be_ HB.out) hb)
        clear HB
        have HB := n0_
        clear n0_
        (try clear hb)
        (try clear hb2)
        (try clear hk)
        (try clear hi)
        refine hK.out _ _ ⟨(mv_ HB.out hw101_0), (mv_ HB.out hw101_1), (mv_ HB.out hw102_0), (mv_ HB.out hw102_1)⟩ (fun hHeld => ?_)
        clear hK K
        refine no_ (some 25) ?_
        refine pu_ 9 (some 26) (bb 10 1023) HT_.out ?_
        refine done_ (done_of HT_.out (by kernel_rfl)) ?_
        try go_wp2
        go_roundg k1
        case measure => have := HK1.out; omega
        case rel => exact ⟨(wrap64 (x5_1 + 1)), rs_, H', ⟨by have := HK1.out; omega⟩, ⟨be_ HB.out⟩⟩
       ·replace c8 := Bool.eq_false_iff.mpr c8
        subst c8
        have H1 : (none) = some r := by rw [if_neg (show ¬ (false = true) by decide)] at H; exact H
        clear H
        have H := H1
        clear H1
        exact absurd H (by simp)
      ·rw [if_neg c6] at H
       exact absurd H (by simp)
     ·rw [if_neg c5] at H
      exact absurd H (by simp)
    ·rw [if_neg c4] at H
     have c4b0 : decide (x5_1 < (l0.length : Int)) = false := decide_eq_false c4
     clear c4
     obtain rfl := Option.some.inj H
     go_wp2
     go_ret
     exact ⟨rt_, be_ HB.out⟩
 ·rw [if_neg c3] at H
  have c3b0 : ((l0.length : Int) == (l1.length : Int)) = false := beq_eq_false_iff_ne.mpr c3
  have c3b1 : ((l0.length : Int) != (l1.length : Int)) = true := bne_iff_ne.mpr c3
  have c3b2 : (l0.length == l1.length) = false := by first | simpa using c3 | (simp at c3 ⊢; omega)
  exact absurd H (by simp)
end Go.Proofs.Ytijmhelacmjggaa.P
-- Made by wip/gen/pp.py of this session over the kit's print of the loaded program: a function, and the contract of its walk. Lean checks it.
namespace Go.Proofs.Ytijmhelacmjggaa.P
open Go.RowKit Go.Proofs.YtijmhelacmjggaaW.PrintWords Go.Proofs.YtijmhelacmjggaaW.PrintLast Go.Proofs.YtijmhelacmjggaaW.PrintMore
attribute [local go_sem] max2_int min2_int max_two min_two max_three min_three max_four min_four   -- for this text's walks alone
set_option linter.unusedVariables false
set_option linter.unusedSimpArgs false

/-! ### laws_eqGrammar: function 29 -/
def laws_eqGrammar.f (k : Nat) (l0_0 : List (S108)) (l1_0 : List (S108)) : Option (Bool) := (laws_eqModeS.f k l0_0 l1_0).bind fun t103 => (if t103 = true then (some true) else (none))
theorem laws_eqGrammar.mono : ∀ a0 a1 k, LeO (laws_eqGrammar.f k a0 a1) (laws_eqGrammar.f (k + 1) a0 a1) := by
 intro a0 a1 k
 unfold laws_eqGrammar.f
 repeat' first
   | (with_reducible exact laws_eqModeS.mono _ _ _)
   | (with_reducible exact LeO.refl _)
   | (with_reducible exact LeO.none _)
   | (with_reducible refine LeO.ite ?_ ?_)
   | (with_reducible refine LeO.bind ?_ (fun _ => ?_))
   | exact laws_eqModeS.mono _ _ _
   | exact LeO.none _
   | refine LeO.ite ?_ ?_
   | refine LeO.bind ?_ (fun _ => ?_)
set_option maxHeartbeats 8000000 in
set_option maxRecDepth 100000 in
theorem laws_eqGrammar.calls (k : Nat) (A0_0 : Option Addr) (c0_0 : Nat) (l0_0 : List (S108)) (A1_0 : Option Addr) (c1_0 : Nat) (l1_0 : List (S108)) (r : Bool) (w : World) (hr0_0 : Kd.C k108 w A0_0 l0_0.length l0_0) (hc0_0 : l0_0.length ≤ c0_0) (hr1_0 : Kd.C k108 w A1_0 l1_0.length l1_0) (hc1_0 : l1_0.length ≤ c1_0) (h : laws_eqGrammar.f k l0_0 l1_0 = some r) :
  Calls Try.prog 29 #[.agg #[.slice A0_0 l0_0.length c0_0], .agg #[.slice A1_0 l1_0.length c1_0]] w fun e w' => e = .returned (.bool r) ∧ Below w.heap.size w w' := by
 have hu46 := Try.underlying46
 have HR0_0 := Aside0.mk hr0_0
 have HC0_0 := Aside0.mk hc0_0
 clear hr0_0 hc0_0
 have HR1_0 := Aside0.mk hr1_0
 have HC1_0 := Aside0.mk hc1_0
 clear hr1_0 hc1_0
 have HB := Aside0.mk (Below.refl w.heap.size w)
 have H : ((laws_eqModeS.f k l0_0 l1_0).bind fun t103 => (if t103 = true then (some true) else (none))) = some r := h
 clear h
 replace H := Option.bind_eq_some_iff.mp H
 obtain ⟨t103, A30, H⟩ := H
 replace H : (if t103 = true then (some true) else (none)) = some r := H
 have A3 := Aside0.mk A30
 clear A30
 by_cases c4 : t103 = true
 ·subst c4
  have H1 : (some true) = some r := by rw [if_pos rfl] at H; exact H
  clear H
  have H := H1
  clear H1
  obtain rfl := Option.some.inj H
  go_enter Try.func29, Try.ntmps29
  go_wp2_with (first | ((with_reducible refine gate_dst (N := 2) rfl ?_); refine box_event ?hg (N := 2) ?hd (cs := #[.slice A0_0 l0_0.length c0_0]) (t := 46) ?hr ?_; (case hd => rfl); (case hg => rfl); (case hr => first | (go_simp; done) | (go_simp; rfl)); intro gb101 hg w5 hbox hb; have n0_ := Aside0.mk (below_step (be_ HB.out) hb); have n1_ := Aside0.mk (hbox); have n2_ := Aside0.mk ((by rw [hg]; exact (below_size (be_ HB.out)) : w.heap.size ≤ gb101)); have n3_ := Aside0.mk ((by rw [hg]; exact (below_size (be_ HB.out)) : w.heap.size ≤ gb101)); clear HB; have HB := n0_; have BK101 := n1_; have GW101 := n2_; have GE101 := n3_; clear n0_ n1_ n2_ n3_; clear hb hbox hg) | ((with_reducible refine gate_dst (N := 3) rfl ?_); refine box_event ?hg (N := 3) ?hd (cs := #[.slice A1_0 l1_0.length c1_0]) (t := 46) ?hr ?_; (case hd => rfl); (case hg => rfl); (case hr => first | (go_simp; done) | (go_simp; rfl)); intro gb102 hg w6 hbox hb; have n0_ := Aside0.mk (blk_below (g := gb101) (o := .cells #[.slice A0_0 l0_0.length c0_0] 46 (0, 0)) (bk_ BK101.out) hb); have n1_ := Aside0.mk (below_step (be1_ HB.out GE101.out) hb); have n2_ := Aside0.mk (hbox); have n3_ := Aside0.mk ((by rw [hg]; exact (below_size (be1_ HB.out GE101.out)) : w.heap.size ≤ gb102)); have n4_ := Aside0.mk ((by rw [hg]; exact (below_size (be1_ HB.out GE101.out)) : w.heap.size ≤ gb102)); have n5_ := Aside0.mk ((by rw [hg]; exact Nat.ne_of_lt (blk_lt (g := gb101) (o := .cells #[.slice A0_0 l0_0.length c0_0] 46 (0, 0)) (bk_ BK101.out)) : gb101 ≠ gb102)); have n6_ := Aside0.mk ((by rw [hg]; exact Nat.ne_of_gt (blk_lt (g := gb101) (o := .cells #[.slice A0_0 l0_0.length c0_0] 46 (0, 0)) (bk_ BK101.out)) : gb102 ≠ gb101)); clear BK101; clear HB; have BK101 := n0_; have HB := n1_; have BK102 := n2_; have GW102 := n3_; have GE102 := n4_; have NB101_102 := n5_; have NB102_101 := n6_; clear n0_ n1_ n2_ n3_ n4_ n5_ n6_; clear hb hbox hg; have hnb7 := NB101_102.out; have hnc7 := NB102_101.out; have hcz8_0 : w6.cell? ⟨gb101, 0, none⟩ = some (.slice A0_0 l0_0.length c0_0) := (blk_cell BK101.out 0).trans rfl; have hfz8_0 := blk_frozen BK101.out 0; have hcz9_0 : w6.cell? ⟨gb102, 0, none⟩ = some (.slice A1_0 l1_0.length c1_0) := (blk_cell BK102.out 0).trans rfl; have hfz9_0 := blk_frozen BK102.out 0) | ((with_reducible refine gate_callee (f := 87) rfl ?_); refine gl_ (some 9) rfl rfl Try.func87 #[.slice A0_0 l0_0.length c0_0, .slice A1_0 l1_0.length c1_0] ?_; (with_reducible refine (laws_eqModeS.calls k _ _ l0_0 _ _ l1_0 true _ ?side1 ?side2 ?side3 ?side4 A3.out).mono ?_); (case side1 => repeat (first | exact (Kd.C_below HR0_0.out HB.out) | (with_reducible refine Kd.C_alloc ?_ _) | (with_reducible refine Kd.C_drewN ?_ _) | (with_reducible refine Kd.C_drew ?_))); (case side2 => exact HC0_0.out); (case side3 => repeat (first | exact (Kd.C_below HR1_0.out HB.out) | (with_reducible refine Kd.C_alloc ?_ _) | (with_reducible refine Kd.C_drewN ?_ _) | (with_reducible refine Kd.C_drew ?_))); (case side4 => exact HC1_0.out); rintro e w10 ⟨rfl, hb⟩; refine ⟨_, rfl, ?_⟩; have n0_ := Aside0.mk (blk_below (g := gb101) (o := .cells #[.slice A0_0 l0_0.length c0_0] 46 (0, 0)) (bk_ BK101.out) hb); have n1_ := Aside0.mk (blk_below (g := gb102) (o := .cells #[.slice A1_0 l1_0.length c1_0] 46 (0, 0)) (bk_ BK102.out) hb); have n2_ := Aside0.mk (below_step (be2_ HB.out GE101.out GE102.out) hb); clear BK101; clear BK102; clear HB; have BK101 := n0_; have BK102 := n1_; have HB := n2_; clear n0_ n1_ n2_; (try clear hb); (try clear hb2); (try clear hk); (try clear hi)))
  go_ret
  exact ⟨rt_, be2_ HB.out GE101.out GE102.out⟩
 ·replace c4 := Bool.eq_false_iff.mpr c4
  subst c4
  have H1 : (none) = some r := by rw [if_neg (show ¬ (false = true) by decide)] at H; exact H
  clear H
  have H := H1
  clear H1
  exact absurd H (by simp)
end Go.Proofs.Ytijmhelacmjggaa.P
-- Made by wip/gen/pp.py of this session over the kit's print of the loaded program: a function, and the contract of its walk. Lean checks it.
namespace Go.Proofs.Ytijmhelacmjggaa.P
open Go.RowKit Go.Proofs.YtijmhelacmjggaaW.PrintWords Go.Proofs.YtijmhelacmjggaaW.PrintLast Go.Proofs.YtijmhelacmjggaaW.PrintMore
attribute [local go_sem] max2_int min2_int max_two min_two max_three min_three max_four min_four   -- for this text's walks alone
set_option linter.unusedVariables false
set_option linter.unusedSimpArgs false

/-! ### laws_FnExactGrammarOk: function 6 -/
def laws_FnExactGrammarOk.f (k : Nat) (l0_0 : List (S171)) : Option (Bool) := (laws_szGrammar.f k l0_0 1048576).bind fun t102 => (if t102 < 0 then (some true) else ((laws_toGrammar.f k l0_0).bind fun t103 => ((spec_GrammarOk.f k t103).bind fun t106 => ((laws_toGrammar.f k l0_0).bind fun t107 => ((impl_GrammarOk.f t107).bind fun t111 => (if (t111 != t106) = true then (none) else ((laws_toGrammar.f k l0_0).bind fun t112 => ((laws_eqGrammar.f k t107 t112).bind fun t115 => (if t115 = true then (some true) else (none))))))))))
theorem laws_FnExactGrammarOk.mono : ∀ a0 k, LeO (laws_FnExactGrammarOk.f k a0) (laws_FnExactGrammarOk.f (k + 1) a0) := by
 intro a0 k
 unfold laws_FnExactGrammarOk.f
 repeat' first
   | (with_reducible exact laws_eqGrammar.mono _ _ _)
   | (with_reducible exact laws_szGrammar.mono _ _ _)
   | (with_reducible exact laws_toGrammar.mono _ _)
   | (with_reducible exact spec_GrammarOk.mono _ _)
   | (with_reducible exact LeO.refl _)
   | (with_reducible exact LeO.none _)
   | (with_reducible refine LeO.ite ?_ ?_)
   | (with_reducible refine LeO.bind ?_ (fun _ => ?_))
   | exact laws_eqGrammar.mono _ _ _
   | exact laws_szGrammar.mono _ _ _
   | exact laws_toGrammar.mono _ _
   | exact spec_GrammarOk.mono _ _
   | exact LeO.none _
   | refine LeO.ite ?_ ?_
   | refine LeO.bind ?_ (fun _ => ?_)
set_option maxHeartbeats 8000000 in
set_option maxRecDepth 100000 in
theorem laws_FnExactGrammarOk.calls (k : Nat) (A0_0 : Option Addr) (c0_0 : Nat) (l0_0 : List (S171)) (r : Bool) (w : World) (hr0_0 : Kd.C k171 w A0_0 l0_0.length l0_0) (hc0_0 : l0_0.length ≤ c0_0) (h : laws_FnExactGrammarOk.f k l0_0 = some r) :
  Calls Try.prog 6 #[.agg #[.slice A0_0 l0_0.length c0_0]] w fun e w' => e = .returned (.bool r) ∧ Below w.heap.size w w' := by
 have hu41 := Try.underlying41
 have hu46 := Try.underlying46
 have HR0_0 := Aside0.mk hr0_0
 have HC0_0 := Aside0.mk hc0_0
 clear hr0_0 hc0_0
 have HB := Aside0.mk (Below.refl w.heap.size w)
 have H : ((laws_szGrammar.f k l0_0 1048576).bind fun t102 => (if t102 < 0 then (some true) else ((laws_toGrammar.f k l0_0).bind fun t103 => ((spec_GrammarOk.f k t103).bind fun t106 => ((laws_toGrammar.f k l0_0).bind fun t107 => ((impl_GrammarOk.f t107).bind fun t111 => (if (t111 != t106) = true then (none) else ((laws_toGrammar.f k l0_0).bind fun t112 => ((laws_eqGrammar.f k t107 t112).bind fun t115 => (if t115 = true then (some true) else (none))))))))))) = some r := h
 clear h
 replace H := Option.bind_eq_some_iff.mp H
 obtain ⟨t102, A20, H⟩ := H
 replace H : (if t102 < 0 then (some true) else ((laws_toGrammar.f k l0_0).bind fun t103 => ((spec_GrammarOk.f k t103).bind fun t106 => ((laws_toGrammar.f k l0_0).bind fun t107 => ((impl_GrammarOk.f t107).bind fun t111 => (if (t111 != t106) = true then (none) else ((laws_toGrammar.f k l0_0).bind fun t112 => ((laws_eqGrammar.f k t107 t112).bind fun t115 => (if t115 = true then (some true) else (none)))))))))) = some r := H
 have A2 := Aside0.mk A20
 clear A20
 by_cases c3 : t102 < 0
 ·rw [if_pos c3] at H
  have c3b0 : decide (t102 < 0) = true := decide_eq_true c3
  clear c3
  obtain rfl := Option.some.inj H
  go_enter Try.func6, Try.ntmps6
  go_wp2_with (first | ((with_reducible refine gate_dst (N := 1) rfl ?_); refine box_event ?hg (N := 1) ?hd (cs := #[.slice A0_0 l0_0.length c0_0]) (t := 41) ?hr ?_; (case hd => rfl); (case hg => rfl); (case hr => first | (go_simp; done) | (go_simp; rfl)); intro gb101 hg w4 hbox hb; have n0_ := Aside0.mk (below_step (be_ HB.out) hb); have n1_ := Aside0.mk (hbox); have n2_ := Aside0.mk ((by rw [hg]; exact (below_size (be_ HB.out)) : w.heap.size ≤ gb101)); have n3_ := Aside0.mk ((by rw [hg]; exact (below_size (be_ HB.out)) : w.heap.size ≤ gb101)); clear HB; have HB := n0_; have BK101 := n1_; have GW101 := n2_; have GE101 := n3_; clear n0_ n1_ n2_ n3_; clear hb hbox hg; have hcz5_0 : w4.cell? ⟨gb101, 0, none⟩ = some (.slice A0_0 l0_0.length c0_0) := (blk_cell BK101.out 0).trans rfl; have hfz5_0 := blk_frozen BK101.out 0) | ((with_reducible refine gate_callee (f := 25) rfl ?_); refine gl_ (some 9) rfl rfl Try.func25 #[.agg #[.slice A0_0 l0_0.length c0_0], .int .i64 1048576] ?_; (with_reducible refine (laws_szGrammar.calls k _ _ l0_0 1048576 t102 _ ?side1 ?side2 A2.out).mono ?_); (case side1 => repeat (first | exact (Kd.C_below HR0_0.out HB.out) | (with_reducible refine Kd.C_alloc ?_ _) | (with_reducible refine Kd.C_drewN ?_ _) | (with_reducible refine Kd.C_drew ?_))); (case side2 => exact HC0_0.out); rintro e w6 ⟨rfl, hb⟩; refine ⟨_, rfl, ?_⟩; have n0_ := Aside0.mk (blk_below (g := gb101) (o := .cells #[.slice A0_0 l0_0.length c0_0] 41 (0, 0)) (bk_ BK101.out) hb); have n1_ := Aside0.mk (below_step (be1_ HB.out GE101.out) hb); clear BK101; clear HB; have BK101 := n0_; have HB := n1_; clear n0_ n1_; (try clear hb); (try clear hb2); (try clear hk); (try clear hi)))
  go_ret
  exact ⟨rt_, be1_ HB.out GE101.out⟩
 ·rw [if_neg c3] at H
  have c3b0 : decide (t102 < 0) = false := decide_eq_false c3
  clear c3
  replace H := Option.bind_eq_some_iff.mp H
  obtain ⟨t103, A70, H⟩ := H
  replace H : ((spec_GrammarOk.f k t103).bind fun t106 => ((laws_toGrammar.f k l0_0).bind fun t107 => ((impl_GrammarOk.f t107).bind fun t111 => (if (t111 != t106) = true then (none) else ((laws_toGrammar.f k l0_0).bind fun t112 => ((laws_eqGrammar.f k t107 t112).bind fun t115 => (if t115 = true then (some true) else (none)))))))) = some r := H
  have A7 := Aside0.mk A70
  clear A70
  replace H := Option.bind_eq_some_iff.mp H
  obtain ⟨t106, A80, H⟩ := H
  replace H : ((laws_toGrammar.f k l0_0).bind fun t107 => ((impl_GrammarOk.f t107).bind fun t111 => (if (t111 != t106) = true then (none) else ((laws_toGrammar.f k l0_0).bind fun t112 => ((laws_eqGrammar.f k t107 t112).bind fun t115 => (if t115 = true then (some true) else (none))))))) = some r := H
  have A8 := Aside0.mk A80
  clear A80
  replace H := Option.bind_eq_some_iff.mp H
  obtain ⟨t107, A90, H⟩ := H
  replace H : ((impl_GrammarOk.f t107).bind fun t111 => (if (t111 != t106) = true then (none) else ((laws_toGrammar.f k l0_0).bind fun t112 => ((laws_eqGrammar.f k t107 t112).bind fun t115 => (if t115 = true then (some true) else (none)))))) = some r := H
  have A9 := Aside0.mk A90
  clear A90
  replace H := Option.bind_eq_some_iff.mp H
  obtain ⟨t111, A100, H⟩ := H
  replace H : (if (t111 != t106) = true then (none) else ((laws_toGrammar.f k l0_0).bind fun t112 => ((laws_eqGrammar.f k t107 t112).bind fun t115 => (if t115 = true then (some true) else (none))))) = some r := H
  have A10 := Aside0.mk A100
  clear A100
  by_cases c11 : (t111 != t106) = true
  ·rw [if_pos c11] at H
   have c11b0 : (t111 != t106) = true := c11
   (try (have c11b1 : decide (t111 = t106) = false := by simpa using c11))
   (try (have c11b2 : (t111 == t106) = false := by simpa using c11))
   (try (have c11b3 : ¬ (t111 = t106) := by simpa using c11))
   clear c11
   exact absurd H (by simp)
  ·rw [if_neg c11] at H
   have c11b0 : (t111 != t106) = false := by simpa using c11
   (try (have c11b1 : decide (t111 = t106) = true := by simpa using c11))
   (try (have c11b2 : (t111 == t106) = true := by simpa using c11))
   clear c11
   replace H := Option.bind_eq_some_iff.mp H
   obtain ⟨t112, A260, H⟩ := H
   replace H : ((laws_eqGrammar.f k t107 t112).bind fun t115 => (if t115 = true then (some true) else (none))) = some r := H
   have A26 := Aside0.mk A260
   clear A260
   replace H := Option.bind_eq_some_iff.mp H
   obtain ⟨t115, A270, H⟩ := H
   replace H : (if t115 = true then (some true) else (none)) = some r := H
   have A27 := Aside0.mk A270
   clear A270
   by_cases c28 : t115 = true
   ·subst c28
    have H1 : (some true) = some r := by rw [if_pos rfl] at H; exact H
    clear H
    have H := H1
    clear H1
    obtain rfl := Option.some.inj H
    go_enter Try.func6, Try.ntmps6
    try go_wp2_with (first | ((with_reducible refine gate_dst (N := 1) rfl ?_); refine box_event ?hg (N := 1) ?hd (cs := #[.slice A0_0 l0_0.length c0_0]) (t := 41) ?hr ?_; (case hd => rfl); (case hg => rfl); (case hr => first | (go_simp; done) | (go_simp; rfl)); intro gb101 hg w29 hbox hb; have n0_ := Aside0.mk (below_step (be_ HB.out) hb); have n1_ := Aside0.mk (hbox); have n2_ := Aside0.mk ((by rw [hg]; exact (below_size (be_ HB.out)) : w.heap.size ≤ gb101)); have n3_ := Aside0.mk ((by rw [hg]; exact (below_size (be_ HB.out)) : w.heap.size ≤ gb101)); clear HB; have HB := n0_; have BK101 := n1_; have GW101 := n2_; have GE101 := n3_; clear n0_ n1_ n2_ n3_; clear hb hbox hg; have hcz30_0 : w29.cell? ⟨gb101, 0, none⟩ = some (.slice A0_0 l0_0.length c0_0) := (blk_cell BK101.out 0).trans rfl; have hfz30_0 := blk_frozen BK101.out 0) | ((with_reducible refine gate_callee (f := 25) rfl ?_); refine gl_ (some 9) rfl rfl Try.func25 #[.agg #[.slice A0_0 l0_0.length c0_0], .int .i64 1048576] ?_; (with_reducible refine (laws_szGrammar.calls k _ _ l0_0 1048576 t102 _ ?side1 ?side2 A2.out).mono ?_); (case side1 => repeat (first | exact (Kd.C_below HR0_0.out HB.out) | (with_reducible refine Kd.C_alloc ?_ _) | (with_reducible refine Kd.C_drewN ?_ _) | (with_reducible refine Kd.C_drew ?_))); (case side2 => exact HC0_0.out); rintro e w31 ⟨rfl, hb⟩; refine ⟨_, rfl, ?_⟩; have n0_ := Aside0.mk (blk_below (g := gb101) (o := .cells #[.slice A0_0 l0_0.length c0_0] 41 (0, 0)) (bk_ BK101.out) hb); have n1_ := Aside0.mk (below_step (be1_ HB.out GE101.out) hb); clear BK101; clear HB; have BK101 := n0_; have HB := n1_; clear n0_ n1_; (try clear hb); (try clear hb2); (try clear hk); (try clear hi); have hcz32_0 : w31.cell? ⟨gb101, 0, none⟩ = some (.slice A0_0 l0_0.length c0_0) := (blk_cell BK101.out 0).trans rfl; have hfz32_0 := blk_frozen BK101.out 0) | ((with_reducible refine gate_callee (f := 27) rfl ?_); refine gl_ (some 13) rfl rfl Try.func27 #[.agg #[.slice A0_0 l0_0.length c0_0]] ?_; (with_reducible refine (laws_toGrammar.calls k _ _ l0_0 t103 _ ?side1 ?side2 A7.out).mono ?_); (case side1 => repeat (first | exact (Kd.C_below HR0_0.out HB.out) | (with_reducible refine Kd.C_alloc ?_ _) | (with_reducible refine Kd.C_drewN ?_ _) | (with_reducible refine Kd.C_drew ?_))); (case side2 => exact HC0_0.out); rintro e w33 ⟨v104, rfl, ho0, hb⟩; refine ⟨_, rfl, ?_⟩; have n0_ := Aside0.mk (Kd.R_lower ho0 (below_size (be1_ HB.out GE101.out))); have n1_ := Aside0.mk (blk_below (g := gb101) (o := .cells #[.slice A0_0 l0_0.length c0_0] 41 (0, 0)) (bk_ BK101.out) hb); have n2_ := Aside0.mk (below_step (be1_ HB.out GE101.out) hb); clear BK101; clear HB; have HO105 := n0_; have BK101 := n1_; have HB := n2_; clear n0_ n1_ n2_; (try clear hb); (try clear hb2); (try clear hk); (try clear hi); (try clear ho0); obtain ⟨Ao34, co34, eo34⟩ := Kd.R_slice HO105.out; subst eo34) | ((with_reducible refine gate_callee (f := 26) rfl ?_); refine gl_ (some 14) rfl rfl Try.func26 #[.agg #[.slice Ao34 t103.length co34]] ?_; (with_reducible refine (spec_GrammarOk.calls k _ _ t103 t106 _ ?side1 ?side2 A8.out).mono ?_); (case side1 => repeat (first | exact (Kd.R_reads' HO105.out).2.2 | (with_reducible refine Kd.C_alloc ?_ _) | (with_reducible refine Kd.C_drewN ?_ _) | (with_reducible refine Kd.C_drew ?_))); (case side2 => exact (Kd.R_reads' HO105.out).2.1); rintro e w35 ⟨rfl, hb⟩; refine ⟨_, rfl, ?_⟩; have n0_ := Aside0.mk (Kd.R_below (by (with_reducible repeat (first | apply Kd.R_alloc | apply Kd.R_drewN | apply Kd.R_drew)); exact HO105.out) hb); have n1_ := Aside0.mk (blk_below (g := gb101) (o := .cells #[.slice A0_0 l0_0.length c0_0] 41 (0, 0)) (bk_ BK101.out) hb); have n2_ := Aside0.mk (below_step (be1_ HB.out GE101.out) hb); clear HO105; clear BK101; clear HB; have HO105 := n0_; have BK101 := n1_; have HB := n2_; clear n0_ n1_ n2_; (try clear hb); (try clear hb2); (try clear hk); (try clear hi); have hcz36_0 : w35.cell? ⟨gb101, 0, none⟩ = some (.slice A0_0 l0_0.length c0_0) := (blk_cell BK101.out 0).trans rfl; have hfz36_0 := blk_frozen BK101.out 0) | ((with_reducible refine gate_callee (f := 27) rfl ?_); refine gl_ (some 16) rfl rfl Try.func27 #[.agg #[.slice A0_0 l0_0.length c0_0]] ?_; (with_reducible refine (laws_toGrammar.calls k _ _ l0_0 t107 _ ?side1 ?side2 A9.out).mono ?_); (case side1 => repeat (first | exact (Kd.C_below HR0_0.out HB.out) | (with_reducible refine Kd.C_alloc ?_ _) | (with_reducible refine Kd.C_drewN ?_ _) | (with_reducible refine Kd.C_drew ?_))); (case side2 => exact HC0_0.out); rintro e w37 ⟨v108, rfl, ho0, hb⟩; refine ⟨_, rfl, ?_⟩; have n0_ := Aside0.mk (Kd.R_elder' (by (with_reducible repeat (first | apply Kd.R_alloc | apply Kd.R_drewN | apply Kd.R_drew)); exact HO105.out) (Kd.R_base ho0) hb); have n1_ := Aside0.mk (Kd.R_lower (Kd.R_new' ho0 (Kd.R_lt (by (with_reducible repeat (first | apply Kd.R_alloc | apply Kd.R_drewN | apply Kd.R_drew)); exact HO105.out))) (below_size (be1_ HB.out GE101.out))); have n2_ := Aside0.mk (blk_below (g := gb101) (o := .cells #[.slice A0_0 l0_0.length c0_0] 41 (0, 0)) (bk_ BK101.out) hb); have n3_ := Aside0.mk (below_step (be1_ HB.out GE101.out) hb); clear HO105; clear BK101; clear HB; have HO105 := n0_; have HO109 := n1_; have BK101 := n2_; have HB := n3_; clear n0_ n1_ n2_ n3_; (try clear hb); (try clear hb2); (try clear hk); (try clear hi); (try clear ho0)) | ((with_reducible refine gate_dst (N := 5) rfl ?_); refine box_event ?hg (N := 5) ?hd (cs := #[.slice none 0 0]) (t := 46) ?hr ?_; (case hd => rfl); (case hg => rfl); (case hr => first | (go_simp; done) | (go_simp; rfl)); intro gb110 hg w38 hbox hb; have n0_ := Aside0.mk (Kd.R_below (by (with_reducible repeat (first | apply Kd.R_alloc | apply Kd.R_drewN | apply Kd.R_drew)); exact HO105.out) hb); have n1_ := Aside0.mk (Kd.R_below (by (with_reducible repeat (first | apply Kd.R_alloc | apply Kd.R_drewN | apply Kd.R_drew)); exact HO109.out) hb); have n2_ := Aside0.mk (blk_below (g := gb101) (o := .cells #[.slice A0_0 l0_0.length c0_0] 41 (0, 0)) (bk_ BK101.out) hb); have n3_ := Aside0.mk (below_step (be1_ HB.out GE101.out) hb); have n4_ := Aside0.mk (hbox); have n5_ := Aside0.mk ((by rw [hg]; exact (below_size (be1_ HB.out GE101.out)) : w.heap.size ≤ gb110)); have n6_ := Aside0.mk ((by rw [hg]; exact (below_size (be1_ HB.out GE101.out)) : w.heap.size ≤ gb110)); have n7_ := Aside0.mk ((by rw [hg]; exact Nat.ne_of_lt (blk_lt (g := gb101) (o := .cells #[.slice A0_0 l0_0.length c0_0] 41 (0, 0)) (bk_ BK101.out)) : gb101 ≠ gb110)); have n8_ := Aside0.mk ((by rw [hg]; exact Nat.ne_of_gt (blk_lt (g := gb101) (o := .cells #[.slice A0_0 l0_0.length c0_0] 41 (0, 0)) (bk_ BK101.out)) : gb110 ≠ gb101)); clear HO105; clear HO109; clear BK101; clear HB; have HO105 := n0_; have HO109 := n1_; have BK101 := n2_; have HB := n3_; have BK110 := n4_; have GW110 := n5_; have GE110 := n6_; have NB101_110 := n7_; have NB110_101 := n8_; clear n0_ n1_ n2_ n3_ n4_ n5_ n6_ n7_ n8_; clear hb hbox hg; obtain ⟨Ao39, co39, eo39⟩ := Kd.R_slice HO109.out; subst eo39; have hnb40 := NB110_101.out; have hnc40 := NB101_110.out; have hcz41_0 : w38.cell? ⟨gb110, 0, none⟩ = some (.slice none 0 0) := (blk_cell BK110.out 0).trans rfl; have hfz41_0 := blk_frozen BK110.out 0) | ((with_reducible refine gate_callee (f := 28) rfl ?_); refine gl_ (some 18) rfl rfl Try.func28 #[.agg #[.slice Ao39 t107.length co39]] ?_; (with_reducible refine (impl_GrammarOk.calls _ _ t107 t111 _ ?side1 ?side2 A10.out).mono ?_); (case side1 => refine (Kd.R_reads' (e := 108) (base := w.heap.size) (ok := fun k_ => (True ∧ some k_ ≠ (.slice Ao34 t103.length co34 : Value).ownBlock)) (n := t107.length) (c := co39) ?_).2.2; exact (by (with_reducible repeat (first | apply Kd.R_alloc | apply Kd.R_drewN | apply Kd.R_drew)); exact (Kd.R_mono (Kd.R_far (p := ⟨gb110, 0, none⟩) (Kd.R_types HO109.out BK110.out (by decide)) (fun _ hk => hk.2) (.slice Ao39 t107.length co39)) (fun _ h_ => h_.1)))); (case side2 => exact (Kd.R_reads' HO109.out).2.1); rintro e w42 ⟨rfl, hb⟩; refine ⟨_, rfl, ?_⟩; have n0_ := Aside0.mk (Kd.R_below (by (with_reducible repeat (first | apply Kd.R_alloc | apply Kd.R_drewN | apply Kd.R_drew)); exact (Kd.R_mono (Kd.R_far (p := ⟨gb110, 0, none⟩) (Kd.R_types HO105.out BK110.out (by decide)) (fun _ hk => hk.2) (.slice Ao39 t107.length co39)) (fun _ h_ => h_.1))) hb); have n1_ := Aside0.mk (Kd.R_below (by (with_reducible repeat (first | apply Kd.R_alloc | apply Kd.R_drewN | apply Kd.R_drew)); exact (Kd.R_mono (Kd.R_far (p := ⟨gb110, 0, none⟩) (Kd.R_types HO109.out BK110.out (by decide)) (fun _ hk => hk.2) (.slice Ao39 t107.length co39)) (fun _ h_ => h_.1))) hb); have n2_ := Aside0.mk (blk_below (g := gb101) (o := .cells #[.slice A0_0 l0_0.length c0_0] 41 (0, 0)) (by (with_reducible repeat (first | refine blk_drewN ?_ _ | refine blk_drew ?_ | refine blk_alloc ?_ _)); refine blk_far ?_ NB101_110.out _; (with_reducible repeat (first | refine blk_drewN ?_ _ | refine blk_drew ?_ | refine blk_alloc ?_ _)); exact BK101.out) hb); have n3_ := Aside0.mk (blk_below (g := gb110) (o := .cells #[.slice Ao39 t107.length co39] 46 (0, 0)) (by (with_reducible repeat (first | refine blk_drewN ?_ _ | refine blk_drew ?_ | refine blk_alloc ?_ _)); refine blk_put (cs := #[.slice none 0 0]) ?_ 0 _ rfl; (with_reducible repeat (first | refine blk_drewN ?_ _ | refine blk_drew ?_ | refine blk_alloc ?_ _)); exact BK110.out) hb); have n4_ := Aside0.mk (below_step (be2_ HB.out GE101.out GE110.out) hb); clear HO105; clear HO109; clear BK101; clear BK110; clear HB; have HO105 := n0_; have HO109 := n1_; have BK101 := n2_; have BK110 := n3_; have HB := n4_; clear n0_ n1_ n2_ n3_ n4_; (try clear hb); (try clear hb2); (try clear hk); (try clear hi)))
    have n0_ := Aside0.mk (Kd.R_drew HO105.out)
    have n1_ := Aside0.mk (Kd.R_drew HO109.out)
    have n2_ := Aside0.mk (blk_drew BK101.out)
    have n3_ := Aside0.mk (blk_drew BK110.out)
    have n4_ := Aside0.mk (below_drew1 HB.out)
    clear HO105
    clear HO109
    clear BK101
    clear BK110
    clear HB
    have HO105 := n0_
    have HO109 := n1_
    have BK101 := n2_
    have BK110 := n3_
    have HB := n4_
    clear n0_ n1_ n2_ n3_ n4_
    refine start_ (n := 5) (S := fun w' => w'.cell? ⟨gb110, 0, none⟩ = some (.slice Ao39 t107.length co39) ∧ w'.cell? ⟨gb101, 0, none⟩ = some (.slice A0_0 l0_0.length c0_0)) (ds := []) #[false, false, false, false, false] (by kernel_rfl) rfl rfl ⟨(blk_cell BK110.out 0).trans rfl, (blk_cell BK101.out 0).trans rfl⟩ (fun hHeld => ?_)
    generalize w42.drew = w43 at HO105 HO109 BK101 BK110 HB hHeld ⊢
    refine take_ (i := 0) (N := some 22) (v := ?_) (a' := ?_) #[true, false, false, false, false] rfl rfl (by kernel_rfl) (fun _ _ _ h => h) (Or.inl ⟨by rfl, ?_⟩) hHeld ?_ ?_
    rotate_left
    ·rintro w' ⟨s0, s1⟩
     go_simp
     with_reducible rfl
    rotate_left
    ·simp only [Act.put, List.setIfInBounds_toArray, List.set_cons_zero, List.set_cons_succ, i64_w, i32_w]
     rfl
    refine take_ (i := 1) (N := some 23) (v := ?_) (a' := ?_) #[true, true, false, false, false] rfl rfl (by kernel_rfl) (fun _ _ _ h => h) (Or.inl ⟨by rfl, ?_⟩) hHeld ?_ ?_
    rotate_left
    ·rintro w' ⟨s0, s1⟩
     go_simp
     with_reducible rfl
    rotate_left
    ·simp only [Act.put, List.setIfInBounds_toArray, List.set_cons_zero, List.set_cons_succ, i64_w, i32_w]
     rfl
    refine one_ (i := 2) (N := some 24) (bb 5 7) rfl rfl (by kernel_rfl) (by decide) (fun K hK => ?_)
    refine gs_ Try.func27 #[.agg #[.slice A0_0 l0_0.length c0_0]] ?_
    with_reducible refine (laws_toGrammar.calls k _ _ l0_0 t112 _ ?side1 ?side2 A26.out).mono ?_
    (case side1 => repeat (first | exact (Kd.C_below HR0_0.out HB.out) | (with_reducible refine Kd.C_alloc ?_ _) | (with_reducible refine Kd.C_drewN ?_ _) | (with_reducible refine Kd.C_drew ?_)))
    (case side2 => exact HC0_0.out)
    rintro e w44 ⟨v113, rfl, ho0, hb⟩
    refine ⟨_, rfl, ?_⟩
    have n0_ := Aside0.mk (Kd.R_elder' (by (with_reducible repeat (first | apply Kd.R_alloc | apply Kd.R_drewN | apply Kd.R_drew)); exact HO105.out) (Kd.R_base ho0) hb)
    have n1_ := Aside0.mk (Kd.R_elder' (by (with_reducible repeat (first | apply Kd.R_alloc | apply Kd.R_drewN | apply Kd.R_drew)); exact HO109.out) (Kd.R_base ho0) hb)
    have n2_ := Aside0.mk (Kd.R_lower (Kd.R_new' (Kd.R_new' ho0 (Kd.R_lt (by (with_reducible repeat (first | apply Kd.R_alloc | apply Kd.R_drewN | apply Kd.R_drew)); exact HO105.out))) (Kd.R_lt (by (with_reducible repeat (first | apply Kd.R_alloc | apply Kd.R_drewN | apply Kd.R_drew)); exact HO109.out))) (below_size (be2_ HB.out GE101.out GE110.out)))
    have n3_ := Aside0.mk (blk_below (g := gb101) (o := .cells #[.slice A0_0 l0_0.length c0_0] 41 (0, 0)) (bk_ BK101.out) hb)
    have n4_ := Aside0.mk (blk_below (g := gb110) (o := .cells #[.slice Ao39 t107.length co39] 46 (0, 0)) (bk_ BK110.out) hb)
    have n5_ := Aside0.mk (below_step (be2_ HB.out GE101.out GE110.out) hb)
    clear HO105
    clear HO109
    clear BK101
    clear BK110
    clear HB
    have HO105 := n0_
    have HO109 := n1_
    have HO114 := n2_
    have BK101 := n3_
    have BK110 := n4_
    have HB := n5_
    clear n0_ n1_ n2_ n3_ n4_ n5_
    (try clear hb)
    (try clear hb2)
    (try clear hk)
    (try clear hi)
    (try clear ho0)
    obtain ⟨Ao45, co45, eo45⟩ := Kd.R_slice HO114.out
    (first | subst eo45 | (injection eo45 with f1_ f2_ f3_; have f4_ := f1_.symm; have f5_ := f3_.symm; clear f1_ f2_ f3_; subst f4_; subst f5_))
    refine hK.out _ _ ⟨(blk_cell BK110.out 0).trans rfl, (blk_cell BK101.out 0).trans rfl⟩ (fun hHeld => ?_)
    clear hK K
    refine no_ (some 24) ?_
    refine one_ (i := 3) (N := some 25) (bb 5 15) rfl rfl (by kernel_rfl) (by decide) (fun K hK => ?_)
    refine gs_ Try.func29 #[.agg #[.slice Ao39 t107.length co39], .agg #[.slice Ao45 t112.length co45]] ?_
    with_reducible refine (laws_eqGrammar.calls k _ _ t107 _ _ t112 true _ ?side1 ?side2 ?side3 ?side4 A27.out).mono ?_
    (case side1 => repeat (first | exact (Kd.R_reads' HO109.out).2.2 | (with_reducible refine Kd.C_alloc ?_ _) | (with_reducible refine Kd.C_drewN ?_ _) | (with_reducible refine Kd.C_drew ?_)))
    (case side2 => exact (Kd.R_reads' HO109.out).2.1)
    (case side3 => repeat (first | exact (Kd.R_reads' HO114.out).2.2 | (with_reducible refine Kd.C_alloc ?_ _) | (with_reducible refine Kd.C_drewN ?_ _) | (with_reducible refine Kd.C_drew ?_)))
    (case side4 => exact (Kd.R_reads' HO114.out).2.1)
    rintro e w46 ⟨rfl, hb⟩
    refine ⟨_, rfl, ?_⟩
    have n0_ := Aside0.mk (Kd.R_below (by (with_reducible repeat (first | apply Kd.R_alloc | apply Kd.R_drewN | apply Kd.R_drew)); exact HO105.out) hb)
    have n1_ := Aside0.mk (Kd.R_below (by (with_reducible repeat (first | apply Kd.R_alloc | apply Kd.R_drewN | apply Kd.R_drew)); exact HO109.out) hb)
    have n2_ := Aside0.mk (Kd.R_below (by (with_reducible repeat (first | apply Kd.R_alloc | apply Kd.R_drewN | apply Kd.R_drew)); exact HO114.out) hb)
    have n3_ := Aside0.mk (blk_below (g := gb101) (o := .cells #[.slice A0_0 l0_0.length c0_0] 41 (0, 0)) (bk_ BK101.out) hb)
    have n4_ := Aside0.mk (blk_below (g := gb110) (o := .cells #[.slice Ao39 t107.length co39] 46 (0, 0)) (bk_ BK110.out) hb)
    have n5_ := Aside0.mk (below_step (be2_ HB.out GE101.out GE110.out) hb)
    clear HO105
    clear HO109
    clear HO114
    clear BK101
    clear BK110
    clear HB
    have HO105 := n0_
    have HO109 := n1_
    have HO114 := n2_
    have BK101 := n3_
    have BK110 := n4_
    have HB := n5_
    clear n0_ n1_ n2_ n3_ n4_ n5_
    (try clear hb)
    (try clear hb2)
    (try clear hk)
    (try clear hi)
    refine hK.out _ _ ⟨(blk_cell BK110.out 0).trans rfl, (blk_cell BK101.out 0).trans rfl⟩ (fun hHeld => ?_)
    clear hK K
    refine no_ (some 25) ?_
    refine pure_ (i := 4) (N := some 26) (v := ?_) (a' := ?_) #[true, true, true, true, true] rfl rfl (by kernel_rfl) (fun _ _ _ h => h) (Or.inl ⟨by rfl, ?_⟩) ?_ ?_
    rotate_left
    ·intro w'
     go_simp
     with_reducible rfl
    rotate_left
    ·simp only [Act.put, List.setIfInBounds_toArray, List.set_cons_zero, List.set_cons_succ, i64_w, i32_w]
     rfl
    refine done_ (by kernel_rfl) ?_
    try go_wp2
    go_ret
    exact ⟨rt_, be2_ HB.out GE101.out GE110.out⟩
   ·replace c28 := Bool.eq_false_iff.mpr c28
    subst c28
    have H1 : (none) = some r := by rw [if_neg (show ¬ (false = true) by decide)] at H; exact H
    clear H
    have H := H1
    clear H1
    exact absurd H (by simp)
end Go.Proofs.Ytijmhelacmjggaa.P
/- Arguments of plain data (nested slices and structs) read as the printed walks' kinds say, over any program whose types are as told. -/
namespace Go.Proofs.YtijmhelacmjggaaOpen
open Go.RowKit Go.ChangeShapes Go.WideShapes Go.Proofs.YtijmhelacmjggaaW.PrintWords
set_option linter.unusedVariables false
set_option linter.unusedSimpArgs false

structure Opens {α : Type} (P : Program) (t : TypeId) (k : Kd α) (G : α → Prop) : Prop where
  sz : P.cellsOf t = k.sz
  op : ∀ {H : Type} (enc : TypeId × Value → H) (w : World) (base : Nat) (spare : Nat → Bool) (held : Bool) (fuel : Nat) (cs : List Value) (x : DataW H × List MemPlace), DataW.trod enc P w base spare held fuel t cs = some x → ∃ v, k.K w v cs ∧ G v

variable {P : Program} {t e : TypeId}

theorem opens_int {k : IntKind} (ht : P.underlying t = some (.int k)) (hc : P.cellsOf t = 1) : Opens P t (Kd.int k) (fun n => (Lit.int k n).wf = true) where
  sz := hc
  op := fun enc w base spare held fuel cs x h => by
    obtain ⟨n, rfl, _, hw⟩ := DataW.trod_int ht h
    exact ⟨n, rfl, hw⟩
theorem opens_bool (ht : P.underlying t = some .bool) (hc : P.cellsOf t = 1) : Opens P t Kd.bool (fun _ => True) where
  sz := hc
  op := fun enc w base spare held fuel cs x h => by
    obtain ⟨b, rfl, _⟩ := DataW.trod_bool ht h
    exact ⟨b, rfl, trivial⟩
theorem opens_string (ht : P.underlying t = some .string) (hc : P.cellsOf t = 1) : Opens P t Kd.string (fun s => s.size ≤ maxLen) where
  sz := hc
  op := fun enc w base spare held fuel cs x h => by
    obtain ⟨s, rfl, _, hs⟩ := DataW.trod_string ht h
    exact ⟨s, rfl, hs⟩

theorem exists_list {α : Type} {p : Nat → α → Prop} : ∀ n, (∀ i, i < n → ∃ v, p i v) → ∃ xs : List α, xs.length = n ∧ ∀ i v, xs[i]? = some v → p i v
  | 0, _ => ⟨[], rfl, fun i v h => by simp at h⟩
  | n + 1, h => by
    obtain ⟨xs, hl, hx⟩ := exists_list n (fun i hi => h i (by omega))
    obtain ⟨v, hv⟩ := h n (by omega)
    refine ⟨xs ++ [v], by simp [hl], fun i u hu => ?_⟩
    by_cases hi : i < n
    · rw [List.getElem?_append_left (by omega)] at hu
      exact hx i u hu
    · rw [List.getElem?_append_right (by omega)] at hu
      have : i - xs.length = 0 := by
        have := (List.getElem?_eq_some_iff.1 hu).1
        simp at this
        omega
      rw [this] at hu
      have hi' : i = n := by omega
      subst hi'
      simp at hu
      subst hu
      exact hv

theorem opens_slice {α : Type} {k : Kd α} {G : α → Prop} (ht : P.underlying t = some (.slice e)) (hc : P.cellsOf t = 1) (h : Opens P e k G) : Opens P t (Kd.slice e k) (fun xs => xs.length ≤ maxLen ∧ ∀ x ∈ xs, G x) where
  sz := hc
  op := fun enc w base spare held fuel cs x hx => by
    rcases DataW.trod_slice ht hx with ⟨rfl, rfl⟩ | ⟨a, len, cap, elems, rest, n, _, rfl, _, _, hl, hm, hlen, hel, _, _⟩
    · exact ⟨[], ⟨none, 0, rfl, Nat.le_refl _, Kd.C_nil k w⟩, by simp, fun x hx => absurd hx List.not_mem_nil⟩
    · have each : ∀ i, i < len → ∃ v, G v ∧ ∃ c, c.length = k.sz ∧ k.K w v c ∧ ∀ j u, c[j]? = some u → w.cell? (a.add (i * k.sz + j)) = some u := by
        intro i hi
        have h1 := hel i hi
        rw [List.getElem?_eq_getElem (by omega), Option.bind_eq_some_iff, h.sz] at h1
        obtain ⟨c, hc1, hc2⟩ := h1
        obtain ⟨v, hv, hg⟩ := h.op enc w base spare held n c _ hc2
        obtain ⟨_, hcl, hcell⟩ := World.cells?_some hc1
        refine ⟨v, hg, c, hcl, hv, fun j u hu => ?_⟩
        have hj : j < k.sz := by
          have := (List.getElem?_eq_some_iff.1 hu).1
          omega
        rw [← Addr.add_add, hcell j hj]
        exact hu
      obtain ⟨xs, hxl, hx⟩ := exists_list len each
      have hmx : (maxLen : Nat) ≤ 9223372036854775807 := by unfold maxLen; omega
      refine ⟨xs, ⟨some a, cap, by rw [hxl], by omega, ?_⟩, by omega, fun x hx' => ?_⟩
      · refine ⟨rfl, by omega, fun _ => ⟨a, rfl, fun j p hp => ?_⟩⟩
        obtain ⟨_, c, h1, h2, h3⟩ := hx j p hp
        exact ⟨c, h1, h2, h3⟩
      · obtain ⟨i, hi⟩ := List.mem_iff_getElem?.1 hx'
        exact (hx i x hi).1

/-- A struct's fields from a cell on. -/
structure Fields {α : Type} (P : Program) (fs : List Field) (off : Nat) (k : Kd α) (G : α → Prop) : Prop where
  from_ : ∀ f ∈ fs, off ≤ f.offset
  op : ∀ {H : Type} (enc : TypeId × Value → H) (w : World) (base : Nat) (spare : Nat → Bool) (held : Bool) (n : Nat) (cs : List Value), cs.length = k.sz → (∀ f ∈ fs, ∃ y, DataW.trod enc P w base spare held n f.type ((cs.drop (f.offset - off)).take (P.cellsOf f.type)) = some y) → ∃ v, k.K w v cs ∧ G v

theorem fields_one {α : Type} {k : Kd α} {G : α → Prop} {f : Field} (h : Opens P f.type k G) : Fields P [f] f.offset k G where
  from_ := fun g hg => by rw [List.mem_singleton.1 hg]; exact Nat.le_refl _
  op := fun enc w base spare held n cs hl hf => by
    obtain ⟨y, hy⟩ := hf f (by simp)
    rw [Nat.sub_self, List.drop_zero, h.sz, ← hl, List.take_length] at hy
    exact h.op enc w base spare held n cs y hy
theorem fields_cons {α β : Type} {k : Kd α} {k' : Kd β} {G : α → Prop} {G' : β → Prop} {f : Field} {fs : List Field} (h : Opens P f.type k G) (hs : Fields P fs (f.offset + k.sz) k' G') : Fields P (f :: fs) f.offset (Kd.pair k k') (fun x => G x.1 ∧ G' x.2) where
  from_ := fun g hg => by
    rcases List.mem_cons.1 hg with rfl | hg
    · exact Nat.le_refl _
    · have := hs.from_ g hg
      omega
  op := fun enc w base spare held n cs hl hf => by
    have hl' : cs.length = k.sz + k'.sz := hl
    obtain ⟨y, hy⟩ := hf f (by simp)
    rw [Nat.sub_self, List.drop_zero, h.sz] at hy
    obtain ⟨v, hv, hg⟩ := h.op enc w base spare held n _ y hy
    obtain ⟨u, hu, hg'⟩ := hs.op enc w base spare held n (cs.drop k.sz) (by rw [List.length_drop]; omega) (fun g hg => by
      obtain ⟨y, hy⟩ := hf g (by simp [hg])
      refine ⟨y, ?_⟩
      have := hs.from_ g hg
      rw [List.drop_drop, show k.sz + (g.offset - (f.offset + k.sz)) = g.offset - f.offset by omega]
      exact hy)
    exact ⟨(v, u), ⟨cs.take k.sz, cs.drop k.sz, (List.take_append_drop _ _).symm, hv, hu⟩, hg, hg'⟩
theorem opens_struct {α : Type} {k : Kd α} {G : α → Prop} {fs : Array Field} (ht : P.underlying t = some (.struct fs)) (hc : P.cellsOf t = k.sz) (h : Fields P fs.toList 0 k G) : Opens P t k G where
  sz := hc
  op := fun enc w base spare held fuel cs x hx => by
    obtain ⟨xs, n, _, _, hl, hlen, hf⟩ := DataW.trod_struct ht hx
    refine h.op enc w base spare held n cs (hl.trans hc) (fun f hf' => ?_)
    obtain ⟨i, hi⟩ := List.mem_iff_getElem?.1 hf'
    rw [Array.getElem?_toList] at hi
    have h1 := hf i f hi
    have : i < fs.size := by
      have := (Array.getElem?_eq_some_iff.1 hi).1
      exact this
    rw [List.getElem?_eq_getElem (by omega)] at h1
    rw [Nat.sub_zero]
    exact ⟨_, h1⟩
theorem opens_iso {α β : Type} {k : Kd α} {G : α → Prop} (f : β → α) (g : α → β) (hfg : ∀ x, f (g x) = x) (h : Opens P t k G) : Opens P t (Kd.iso k f) (fun y => G (f y)) where
  sz := h.sz
  op := fun enc w base spare held fuel cs x hx => by
    obtain ⟨v, hv, hg⟩ := h.op enc w base spare held fuel cs x hx
    exact ⟨g v, by show k.K w (f (g v)) cs; rw [hfg]; exact hv, by rw [hfg]; exact hg⟩
theorem opens_imp {α : Type} {k : Kd α} {G G' : α → Prop} (h : Opens P t k G) (hg : ∀ x, G x → G' x) : Opens P t k G' where
  sz := h.sz
  op := fun enc w base spare held fuel cs x hx => by
    obtain ⟨v, hv, hh⟩ := h.op enc w base spare held fuel cs x hx
    exact ⟨v, hv, hg v hh⟩
end Go.Proofs.YtijmhelacmjggaaOpen
-- The kit's printed words CInts, cut down by wip/gen/pack.py to what this proof reaches.
namespace Go.Proofs.Ytijmhelacmjggaa.P
open Go.RowKit Go.Proofs.YtijmhelacmjggaaW.PrintWords Go.Proofs.YtijmhelacmjggaaW.PrintLast Go.Proofs.YtijmhelacmjggaaEv
set_option linter.unusedVariables false
set_option linter.unusedSimpArgs false
theorem laws_toInt64S_ev (l : List Int) (hl : l.length ≤ 1048576) : Ev (fun k => laws_toInt64S.f k l) l := by
  unfold laws_toInt64S.f
  simp only [ev_ite]
  rw [if_pos (by omega), if_pos (by omega)]
  have h := ev_loop l.length (fun k i => laws_toInt64S.l0 k l (upTo (fun x : Int => x) 0 l i) (i : Nat)) (fun _ => l.map (fun x : Int => x)) ?_ ?_ 0 (by omega)
  · rw [upTo_zero, List.map_id'] at h
    exact h
  · rw [ev_succ, upTo_all]
    simp [laws_toInt64S.l0, ev_some]
  · intro i hi ih
    rw [ev_succ]
    simp only [laws_toInt64S.l0, ev_ite]
    rw [if_pos (by omega), if_pos (by omega), if_pos (by rw [upTo_length _ _ _ _ (by omega)]; omega), wrap_succ hi (by omega)]
    have := upTo_set (fun x : Int => x) 0 l 0 i hi
    have e : l.getD i 0 = rd l i := by simp [rd]
    rw [e] at this
    simp only [Int.toNat_natCast]
    rw [this]
    exact ih
theorem laws_eqInt64S_ev (l : List Int) (hl : l.length ≤ 9223372036854775807) : Ev (fun k => laws_eqInt64S.f k l l) true := by
  unfold laws_eqInt64S.f
  simp only [ev_ite]
  rw [if_pos trivial]
  refine ev_loop l.length (fun k i => laws_eqInt64S.l0 k l l (i : Nat)) (fun _ => true) ?_ ?_ 0 (by omega)
  · rw [ev_succ]
    simp [laws_eqInt64S.l0, ev_some]
  · intro i hi ih
    rw [ev_succ]
    simp only [laws_eqInt64S.l0, if_true, ev_ite]
    rw [if_pos (by omega), if_pos (by omega), wrap_succ hi (by omega), if_pos (by omega)]
    exact ih
end Go.Proofs.Ytijmhelacmjggaa.P
-- The kit's printed words CIntsSz, cut down by wip/gen/pack.py to what this proof reaches.
namespace Go.Proofs.Ytijmhelacmjggaa.P
open Go.RowKit Go.Proofs.YtijmhelacmjggaaW.PrintWords Go.Proofs.YtijmhelacmjggaaW.PrintLast Go.Proofs.YtijmhelacmjggaaEv
set_option linter.unusedVariables false
set_option linter.unusedSimpArgs false
theorem laws_szInt64S_eq (l : List Int) (a : Int) (hl : l.length ≤ 9223372036854775807) (h0 : 0 ≤ a) (h1 : a ≤ 1048576) : laws_szInt64S.f l a = some (if a < l.length then -1 else a - l.length) := by
  unfold laws_szInt64S.f
  rw [wrap_id (by omega) (by omega)]
  split <;> split <;> first | rfl | omega
end Go.Proofs.Ytijmhelacmjggaa.P
-- The kit's printed words CSpan, cut down by wip/gen/pack.py to what this proof reaches.
namespace Go.Proofs.Ytijmhelacmjggaa.P
open Go.RowKit Go.Proofs.YtijmhelacmjggaaW.PrintWords Go.Proofs.YtijmhelacmjggaaW.PrintLast Go.Proofs.YtijmhelacmjggaaEv
set_option linter.unusedVariables false
set_option linter.unusedSimpArgs false
def g210 (x : S210) : Prop := (Lit.int .i64 x.f0).wf = true ∧ (Lit.int .i64 x.f1).wf = true
def cSpan (x : S210) : S103 := ⟨x.f0, x.f1⟩
theorem laws_szSpanS_eq (l : List S210) (a : Int) (hl : l.length ≤ 9223372036854775807) (h0 : 0 ≤ a) (h1 : a ≤ 1048576) : laws_szSpanS.f l a = some (if a < l.length then -1 else a - l.length) := by
  unfold laws_szSpanS.f
  rw [wrap_id (by omega) (by omega)]
  split <;> split <;> first | rfl | omega
theorem laws_toSpanS_ev (l : List S210) (hl : l.length ≤ 1048576) : Ev (fun k => laws_toSpanS.f k l) (l.map cSpan) := by
  unfold laws_toSpanS.f
  simp only [ev_ite]
  rw [if_pos (by omega), if_pos (by omega)]
  have h := ev_loop l.length (fun k i => laws_toSpanS.l0 k l (upTo cSpan z103 l i) (i : Nat)) (fun _ => l.map cSpan) ?_ ?_ 0 (by omega)
  · rw [upTo_zero] at h
    exact h
  · rw [ev_succ, upTo_all]
    simp [laws_toSpanS.l0, ev_some]
  · intro i hi ih
    have hr : l.getD i z210 = rd_T210 l i := by simp [rd_T210]
    skip
    rw [ev_succ]
    simp only [laws_toSpanS.l0, laws_toSpan.f, Option.bind_some, ev_ite]
    rw [if_pos (by omega), if_pos (by omega)]
    skip
    (try simp only [ev_ite])
    rw [if_pos (by rw [upTo_length _ _ _ _ (by omega)]; omega), wrap_succ hi (by omega)]
    have := upTo_set cSpan z103 l z210 i hi
    rw [hr] at this
    simp only [Int.toNat_natCast]
    simp only [cSpan] at this ih ⊢
    rw [this]
    exact ih
theorem laws_eqSpanS_ev (l : List S103) (hl : l.length ≤ 9223372036854775807) : Ev (fun k => laws_eqSpanS.f k l l) true := by
  unfold laws_eqSpanS.f
  simp only [ev_ite]
  rw [if_pos trivial]
  refine ev_loop l.length (fun k i => laws_eqSpanS.l0 k l l (i : Nat)) (fun _ => true) ?_ ?_ 0 (by omega)
  · rw [ev_succ]
    simp [laws_eqSpanS.l0, ev_some]
  · intro i hi ih
    skip
    rw [ev_succ]
    simp only [laws_eqSpanS.l0, laws_eqSpan.f, if_true, bne_self_eq_false, Bool.false_eq_true, if_false, Option.bind_some, ev_ite]
    rw [if_pos (by omega), if_pos (by omega), wrap_succ hi (by omega)]
    (try rw [if_pos (by omega)])
    skip
    (try simp only [if_true, ev_ite])
    exact ih
end Go.Proofs.Ytijmhelacmjggaa.P
-- The kit's printed words CRNode, cut down by wip/gen/pack.py to what this proof reaches.
namespace Go.Proofs.Ytijmhelacmjggaa.P
open Go.RowKit Go.Proofs.YtijmhelacmjggaaW.PrintWords Go.Proofs.YtijmhelacmjggaaW.PrintLast Go.Proofs.YtijmhelacmjggaaEv
set_option linter.unusedVariables false
set_option linter.unusedSimpArgs false
def g152 (x : S152) : Prop := (Lit.int .i64 x.f0).wf = true ∧ (x.f1.length ≤ maxLen ∧ ∀ y ∈ x.f1, g210 y) ∧ (x.f2.length ≤ maxLen ∧ ∀ y ∈ x.f2, (Lit.int .i64 y).wf = true) ∧ (Lit.int .i64 x.f3).wf = true ∧ (Lit.int .i64 x.f4).wf = true
def h156 (x : S156) : Prop := x.f1.length ≤ 9223372036854775807 ∧ x.f2.length ≤ 9223372036854775807
def cRNode (x : S152) : S156 := ⟨x.f0, (x.f1.map cSpan), x.f2, x.f3, x.f4⟩
def wRNode (x : S152) : Nat := x.f1.length + x.f2.length
theorem hRNode_of_g {x : S152} (hg : g152 x) : h156 (cRNode x) :=
  ⟨by simpa [h156, cRNode] using Nat.le_trans hg.2.1.1 maxLen_le, Nat.le_trans hg.2.2.1.1 maxLen_le⟩
theorem laws_szRNode_ev (v0 : Int) (v1 : List S210) (v2 : List Int) (v3 : Int) (v4 : Int) (a : Int) (h0 : 0 ≤ a) (h1 : a ≤ 1048576) (hb_v1 : v1.length ≤ 9223372036854775807) (hb_v2 : v2.length ≤ 9223372036854775807) : laws_szRNode.f v0 v1 v2 v3 v4 a = some (if a < ((v1.length + v2.length : Nat) : Int) then -1 else a - ((v1.length + v2.length : Nat) : Int)) := by
  unfold laws_szRNode.f
  rw [laws_szSpanS_eq v1 _ hb_v1 (by omega) (by omega)]
  simp only [Option.bind_some]
  by_cases c0_ : a < ((v1.length : Nat) : Int)
  · rw [if_pos c0_, if_pos (by omega)]
    skip
    (try first | rfl | rw [if_pos (by omega)])
  rw [if_neg c0_, if_neg (by omega)]
  rw [laws_szInt64S_eq v2 _ hb_v2 (by omega) (by omega)]
  simp only [Option.bind_some]
  by_cases c1_ : (a - ((v1.length : Nat) : Int)) < ((v2.length : Nat) : Int)
  · rw [if_pos c1_, if_pos (by omega)]
    skip
    (try first | rfl | rw [if_pos (by omega)])
  rw [if_neg c1_, if_neg (by omega)]
  skip
  (try rw [if_neg (by omega)])
  (try (first | rfl | omega | (congr 1; omega)))
theorem laws_toRNode_ev (v0 : Int) (v1 : List S210) (v2 : List Int) (v3 : Int) (v4 : Int) (hw_v1 : v1.length ≤ 1048576) (hw_v2 : v2.length ≤ 1048576) : Ev (fun k => laws_toRNode.f k v0 v1 v2 v3 v4) (v0, (v1.map cSpan), v2, v3, v4) := by
  unfold laws_toRNode.f
  rw [ev_bind (laws_toSpanS_ev v1 hw_v1)]
  rw [ev_bind (laws_toInt64S_ev v2 hw_v2)]
  exact ev_some.2 rfl
theorem laws_eqRNode_ev (v0 : Int) (v1 : List S103) (v2 : List Int) (v3 : Int) (v4 : Int) (hb_v1 : v1.length ≤ 9223372036854775807) (hb_v2 : v2.length ≤ 9223372036854775807) : Ev (fun k => laws_eqRNode.f k v0 v1 v2 v3 v4 v0 v1 v2 v3 v4) true := by
  unfold laws_eqRNode.f
  (try simp only [if_true, ev_ite, bne_self_eq_false, Bool.false_eq_true, if_false, ev_some])
  rw [ev_bind (laws_eqSpanS_ev v1 hb_v1)]
  (try simp only [if_true, ev_ite, bne_self_eq_false, Bool.false_eq_true, if_false, ev_some])
  rw [ev_bind (laws_eqInt64S_ev v2 hb_v2)]
  (try simp only [if_true, ev_ite, bne_self_eq_false, Bool.false_eq_true, if_false, ev_some])
theorem laws_szRNodeS_ev (l : List S152) (a : Int) (h0 : 0 ≤ a) (h1 : a ≤ 1048576) (hl : l.length ≤ 9223372036854775807) (hg : ∀ x ∈ l, g152 x) : Ev (fun k => laws_szRNodeS.f k l a) (if a < ((l.length + ws wRNode l : Nat) : Int) then -1 else a - ((l.length + ws wRNode l : Nat) : Int)) := by
  unfold laws_szRNodeS.f
  rw [wrap_id (by omega) (by omega)]
  simp only [ev_ite]
  by_cases c0 : a - (l.length : Int) < 0
  · rw [if_pos c0]
    exact ev_some.2 (by rw [if_pos (by omega)])
  rw [if_neg c0]
  have key := down l.length (fun i => ∀ x1 : Int, 0 ≤ x1 → x1 ≤ 1048576 → Ev (fun k => laws_szRNodeS.l0 k l x1 (i : Nat)) (if x1 < ((ws wRNode (l.drop i) : Nat) : Int) then -1 else x1 - ((ws wRNode (l.drop i) : Nat) : Int))) ?_ ?_ 0 (by omega) (a - (l.length : Int)) (by omega) (by omega)
  · refine ev_congr key ?_
    rw [List.drop_zero]
    split <;> split <;> first | rfl | omega
  · intro x1 h0 h1
    rw [ev_succ]
    simp only [laws_szRNodeS.l0, ev_ite, ev_some]
    rw [if_neg (by omega), List.drop_length]
    simp [ws]
    omega
  · intro i hi ih x1 h0 h1
    rw [ev_succ, ws_drop wRNode l z152 i hi]
    have hr : l.getD i z152 = rd_T152 l i := by simp [rd_T152]
    rw [hr]
    have hgy : g152 (rd_T152 l i) := by
      rw [← hr, List.getD_eq_getElem?_getD, List.getElem?_eq_getElem hi]
      exact hg _ (List.getElem_mem _)
    simp only [laws_szRNodeS.l0, ev_ite]
    rw [if_pos (by omega), if_pos (by omega), wrap_succ hi (by omega)]
    rw [laws_szRNode_ev _ _ _ _ _ x1 h0 h1 (Nat.le_trans (hgy).2.1.1 maxLen_le) (Nat.le_trans (hgy).2.2.1.1 maxLen_le)]
    simp only [Option.bind_some, ev_ite]
    have e : ((wRNode (rd_T152 l i) : Nat) : Int) = (((rd_T152 l i).f1.length + (rd_T152 l i).f2.length : Nat) : Int) := rfl
    by_cases c : x1 < ((wRNode (rd_T152 l i) : Nat) : Int)
    · have c' : x1 < (((rd_T152 l i).f1.length + (rd_T152 l i).f2.length : Nat) : Int) := by rw [← e]; exact c
      simp only [if_pos c']
      rw [if_pos (by omega)]
      exact ev_some.2 (by rw [if_pos (by omega)])
    · have c' : ¬ x1 < (((rd_T152 l i).f1.length + (rd_T152 l i).f2.length : Nat) : Int) := by rw [← e]; exact c
      simp only [if_neg c']
      rw [if_neg (by rw [← e]; omega)]
      refine ev_congr (ih _ (by rw [← e]; omega) (by rw [← e]; omega)) ?_
      rw [← e]
      split <;> split <;> first | rfl | omega
theorem laws_toRNodeS_ev (l : List S152) (hl : l.length + ws wRNode l ≤ 1048576) : Ev (fun k => laws_toRNodeS.f k l) (l.map cRNode) := by
  unfold laws_toRNodeS.f
  simp only [ev_ite]
  rw [if_pos (by omega), if_pos (by omega)]
  have h := ev_loop l.length (fun k i => laws_toRNodeS.l0 k l (upTo cRNode z156 l i) (i : Nat)) (fun _ => l.map cRNode) ?_ ?_ 0 (by omega)
  · rw [upTo_zero] at h
    exact h
  · rw [ev_succ, upTo_all]
    simp [laws_toRNodeS.l0, ev_some]
  · intro i hi ih
    have hr : l.getD i z152 = rd_T152 l i := by simp [rd_T152]
    have hwi : wRNode (rd_T152 l i) ≤ 1048576 := by
      rw [← hr]
      have := ws_le wRNode l z152 i hi
      omega
    rw [ev_succ]
    simp only [laws_toRNodeS.l0, ev_ite]
    rw [if_pos (by omega), if_pos (by omega)]
    rw [ev_bind (laws_toRNode_ev _ _ _ _ _ (by have e : (rd_T152 l i).f1.length ≤ wRNode (rd_T152 l i) := (by simp only [wRNode]; omega); omega) (by have e : (rd_T152 l i).f2.length ≤ wRNode (rd_T152 l i) := (by simp only [wRNode]; omega); omega))]
    (try simp only [ev_ite])
    rw [if_pos (by rw [upTo_length _ _ _ _ (by omega)]; omega), wrap_succ hi (by omega)]
    have := upTo_set cRNode z156 l z152 i hi
    rw [hr] at this
    simp only [Int.toNat_natCast]
    simp only [cRNode] at this ih ⊢
    rw [this]
    exact ih
theorem laws_eqRNodeS_ev (l : List S156) (hl : l.length ≤ 9223372036854775807) (hh : ∀ x ∈ l, h156 x) : Ev (fun k => laws_eqRNodeS.f k l l) true := by
  unfold laws_eqRNodeS.f
  simp only [ev_ite]
  rw [if_pos trivial]
  refine ev_loop l.length (fun k i => laws_eqRNodeS.l0 k l l (i : Nat)) (fun _ => true) ?_ ?_ 0 (by omega)
  · rw [ev_succ]
    simp [laws_eqRNodeS.l0, ev_some]
  · intro i hi ih
    have hhy : h156 (rd_T156 l i) := by
      have hr : l.getD i z156 = rd_T156 l i := by simp [rd_T156]
      rw [← hr, List.getD_eq_getElem?_getD, List.getElem?_eq_getElem hi]
      exact hh _ (List.getElem_mem _)
    rw [ev_succ]
    simp only [laws_eqRNodeS.l0, ev_ite]
    rw [if_pos (by omega), if_pos (by omega), wrap_succ hi (by omega)]
    (try rw [if_pos (by omega)])
    rw [ev_bind (laws_eqRNode_ev _ _ _ _ _ (hhy.1) (hhy.2))]
    (try simp only [if_true, ev_ite])
    exact ih
end Go.Proofs.Ytijmhelacmjggaa.P
-- The kit's printed words CRx, cut down by wip/gen/pack.py to what this proof reaches.
namespace Go.Proofs.Ytijmhelacmjggaa.P
open Go.RowKit Go.Proofs.YtijmhelacmjggaaW.PrintWords Go.Proofs.YtijmhelacmjggaaW.PrintLast Go.Proofs.YtijmhelacmjggaaEv
set_option linter.unusedVariables false
set_option linter.unusedSimpArgs false
def g24 (x : S24) : Prop := (x.f0.length ≤ maxLen ∧ ∀ y ∈ x.f0, g152 y)
def h29 (x : S29) : Prop := (x.f0.length ≤ 9223372036854775807 ∧ ∀ y ∈ x.f0, h156 y)
def cRx (x : S24) : S29 := ⟨(x.f0.map cRNode)⟩
theorem hRx_of_g {x : S24} (hg : g24 x) : h29 (cRx x) :=
  ⟨by simpa [cRx] using Nat.le_trans hg.1 maxLen_le, fun y hy => by
    obtain ⟨z, hz, rfl⟩ := List.mem_map.1 hy
    exact hRNode_of_g (hg.2 z hz)⟩
theorem laws_szRx_ev (v0 : List S152) (a : Int) (h0 : 0 ≤ a) (h1 : a ≤ 1048576) (hb_v0 : v0.length ≤ 9223372036854775807) (hg_v0 : ∀ x ∈ v0, g152 x) : Ev (fun k => laws_szRx.f k v0 a) (if a < (((v0.length + ws wRNode v0) : Nat) : Int) then -1 else a - (((v0.length + ws wRNode v0) : Nat) : Int)) := by
  unfold laws_szRx.f
  rw [ev_bind (laws_szRNodeS_ev v0 _ (by omega) (by omega) hb_v0 hg_v0)]
  simp only [Option.bind_some, ev_ite]
  by_cases c0_ : a < (((v0.length + ws wRNode v0) : Nat) : Int)
  · rw [if_pos c0_, if_pos (by omega)]
    refine ev_some.2 ?_
    (try first | rfl | rw [if_pos (by omega)])
  rw [if_neg c0_, if_neg (by omega)]
  refine ev_some.2 ?_
  (try rw [if_neg (by omega)])
  (try (first | rfl | omega | (congr 1; omega)))
theorem laws_toRx_ev (v0 : List S152) (hw_v0 : (v0.length + ws wRNode v0) ≤ 1048576) : Ev (fun k => laws_toRx.f k v0) (v0.map cRNode) := by
  unfold laws_toRx.f
  rw [ev_bind (laws_toRNodeS_ev v0 hw_v0)]
  exact ev_some.2 rfl
theorem laws_eqRx_ev (v0 : List S156) (hb_v0 : v0.length ≤ 9223372036854775807) (hh_v0 : ∀ x ∈ v0, h156 x) : Ev (fun k => laws_eqRx.f k v0 v0) true := by
  unfold laws_eqRx.f
  (try simp only [if_true, ev_ite, bne_self_eq_false, Bool.false_eq_true, if_false, ev_some])
  rw [ev_bind (laws_eqRNodeS_ev v0 hb_v0 hh_v0)]
  (try simp only [if_true, ev_ite, bne_self_eq_false, Bool.false_eq_true, if_false, ev_some])
end Go.Proofs.Ytijmhelacmjggaa.P
-- The kit's printed words CRule, cut down by wip/gen/pack.py to what this proof reaches.
namespace Go.Proofs.Ytijmhelacmjggaa.P
open Go.RowKit Go.Proofs.YtijmhelacmjggaaW.PrintWords Go.Proofs.YtijmhelacmjggaaW.PrintLast Go.Proofs.YtijmhelacmjggaaEv
set_option linter.unusedVariables false
set_option linter.unusedSimpArgs false
def g218 (x : S218) : Prop := x.f0.size ≤ maxLen ∧ g24 x.f1 ∧ True ∧ (Lit.int .i64 x.f3).wf = true ∧ x.f4.size ≤ maxLen
def h113 (x : S113) : Prop := h29 x.f1
def cRule (x : S218) : S113 := ⟨x.f0, cRx x.f1, x.f2, x.f3, x.f4⟩
def wRule (x : S218) : Nat := x.f0.size + (x.f1.f0.length + ws wRNode x.f1.f0) + x.f4.size
theorem hRule_of_g {x : S218} (hg : g218 x) : h113 (cRule x) :=
  hRx_of_g hg.2.1
theorem laws_szRule_ev (v0 : ByteArray) (v1 : List S152) (v2 : Bool) (v3 : Int) (v4 : ByteArray) (a : Int) (h0 : 0 ≤ a) (h1 : a ≤ 1048576) (hb_v0 : v0.size ≤ 9223372036854775807) (hb_v1 : v1.length ≤ 9223372036854775807) (hg_v1 : ∀ x ∈ v1, g152 x) (hb_v4 : v4.size ≤ 9223372036854775807) : Ev (fun k => laws_szRule.f k v0 v1 v2 v3 v4 a) (if a < ((v0.size + (v1.length + ws wRNode v1) + v4.size : Nat) : Int) then -1 else a - ((v0.size + (v1.length + ws wRNode v1) + v4.size : Nat) : Int)) := by
  unfold laws_szRule.f
  rw [wrap_id (x := a - (v0.size : Int)) (by omega) (by omega)]
  (try simp only [ev_ite])
  by_cases c_v0 : a - (v0.size : Int) < 0
  · rw [if_pos c_v0]
    refine ev_some.2 ?_
    (try first | rfl | rw [if_pos (by omega)])
  rw [if_neg c_v0]
  rw [ev_bind (laws_szRx_ev v1 _ (by omega) (by omega) hb_v1 hg_v1)]
  (try simp only [Option.bind_some, ev_ite])
  by_cases c1_ : (a - (v0.size : Int)) < (((v1.length + ws wRNode v1) : Nat) : Int)
  · rw [if_pos c1_, if_pos (by omega)]
    refine ev_some.2 ?_
    (try first | rfl | rw [if_pos (by omega)])
  rw [if_neg c1_, if_neg (by omega)]
  rw [wrap_id (x := ((a - (v0.size : Int)) - (((v1.length + ws wRNode v1) : Nat) : Int)) - (v4.size : Int)) (by omega) (by omega)]
  (try simp only [ev_ite])
  by_cases c_v4 : ((a - (v0.size : Int)) - (((v1.length + ws wRNode v1) : Nat) : Int)) - (v4.size : Int) < 0
  · rw [if_pos c_v4]
    refine ev_some.2 ?_
    (try first | rfl | rw [if_pos (by omega)])
  rw [if_neg c_v4]
  refine ev_some.2 ?_
  (try rw [if_neg (by omega)])
  (try (first | rfl | omega | (congr 1; omega)))
theorem laws_toRule_ev (v0 : ByteArray) (v1 : List S152) (v2 : Bool) (v3 : Int) (v4 : ByteArray) (hw_v1 : (v1.length + ws wRNode v1) ≤ 1048576) : Ev (fun k => laws_toRule.f k v0 v1 v2 v3 v4) (v0, (v1.map cRNode), v2, v3, v4) := by
  unfold laws_toRule.f
  rw [ev_bind (laws_toRx_ev v1 hw_v1)]
  exact ev_some.2 rfl
theorem laws_eqRule_ev (v0 : ByteArray) (v1 : List S156) (v2 : Bool) (v3 : Int) (v4 : ByteArray) (hb_v1 : v1.length ≤ 9223372036854775807) (hh_v1 : ∀ x ∈ v1, h156 x) : Ev (fun k => laws_eqRule.f k v0 v1 v2 v3 v4 v0 v1 v2 v3 v4) true := by
  unfold laws_eqRule.f
  (try simp only [if_true, ev_ite, bne_self_eq_false, Bool.false_eq_true, if_false, ev_some])
  rw [ev_bind (laws_eqRx_ev v1 hb_v1 hh_v1)]
  (try simp only [if_true, ev_ite, bne_self_eq_false, Bool.false_eq_true, if_false, ev_some])
theorem laws_szRuleS_ev (l : List S218) (a : Int) (h0 : 0 ≤ a) (h1 : a ≤ 1048576) (hl : l.length ≤ 9223372036854775807) (hg : ∀ x ∈ l, g218 x) : Ev (fun k => laws_szRuleS.f k l a) (if a < ((l.length + ws wRule l : Nat) : Int) then -1 else a - ((l.length + ws wRule l : Nat) : Int)) := by
  unfold laws_szRuleS.f
  rw [wrap_id (by omega) (by omega)]
  simp only [ev_ite]
  by_cases c0 : a - (l.length : Int) < 0
  · rw [if_pos c0]
    exact ev_some.2 (by rw [if_pos (by omega)])
  rw [if_neg c0]
  have key := down l.length (fun i => ∀ x1 : Int, 0 ≤ x1 → x1 ≤ 1048576 → Ev (fun k => laws_szRuleS.l0 k l x1 (i : Nat)) (if x1 < ((ws wRule (l.drop i) : Nat) : Int) then -1 else x1 - ((ws wRule (l.drop i) : Nat) : Int))) ?_ ?_ 0 (by omega) (a - (l.length : Int)) (by omega) (by omega)
  · refine ev_congr key ?_
    rw [List.drop_zero]
    split <;> split <;> first | rfl | omega
  · intro x1 h0 h1
    rw [ev_succ]
    simp only [laws_szRuleS.l0, ev_ite, ev_some]
    rw [if_neg (by omega), List.drop_length]
    simp [ws]
    omega
  · intro i hi ih x1 h0 h1
    rw [ev_succ, ws_drop wRule l z218 i hi]
    have hr : l.getD i z218 = rd_T218 l i := by simp [rd_T218]
    rw [hr]
    have hgy : g218 (rd_T218 l i) := by
      rw [← hr, List.getD_eq_getElem?_getD, List.getElem?_eq_getElem hi]
      exact hg _ (List.getElem_mem _)
    simp only [laws_szRuleS.l0, ev_ite]
    rw [if_pos (by omega), if_pos (by omega), wrap_succ hi (by omega)]
    rw [ev_bind (laws_szRule_ev _ _ _ _ _ x1 h0 h1 (Nat.le_trans (hgy).1 maxLen_le) (Nat.le_trans (hgy).2.1.1 maxLen_le) (hgy).2.1.2 (Nat.le_trans (hgy).2.2.2.2 maxLen_le))]
    simp only [Option.bind_some, ev_ite]
    have e : ((wRule (rd_T218 l i) : Nat) : Int) = (((rd_T218 l i).f0.size + ((rd_T218 l i).f1.f0.length + ws wRNode (rd_T218 l i).f1.f0) + (rd_T218 l i).f4.size : Nat) : Int) := rfl
    by_cases c : x1 < ((wRule (rd_T218 l i) : Nat) : Int)
    · have c' : x1 < (((rd_T218 l i).f0.size + ((rd_T218 l i).f1.f0.length + ws wRNode (rd_T218 l i).f1.f0) + (rd_T218 l i).f4.size : Nat) : Int) := by rw [← e]; exact c
      simp only [if_pos c']
      rw [if_pos (by omega)]
      exact ev_some.2 (by rw [if_pos (by omega)])
    · have c' : ¬ x1 < (((rd_T218 l i).f0.size + ((rd_T218 l i).f1.f0.length + ws wRNode (rd_T218 l i).f1.f0) + (rd_T218 l i).f4.size : Nat) : Int) := by rw [← e]; exact c
      simp only [if_neg c']
      rw [if_neg (by rw [← e]; omega)]
      refine ev_congr (ih _ (by rw [← e]; omega) (by rw [← e]; omega)) ?_
      rw [← e]
      split <;> split <;> first | rfl | omega
theorem laws_toRuleS_ev (l : List S218) (hl : l.length + ws wRule l ≤ 1048576) : Ev (fun k => laws_toRuleS.f k l) (l.map cRule) := by
  unfold laws_toRuleS.f
  simp only [ev_ite]
  rw [if_pos (by omega), if_pos (by omega)]
  have h := ev_loop l.length (fun k i => laws_toRuleS.l0 k l (upTo cRule z113 l i) (i : Nat)) (fun _ => l.map cRule) ?_ ?_ 0 (by omega)
  · rw [upTo_zero] at h
    exact h
  · rw [ev_succ, upTo_all]
    simp [laws_toRuleS.l0, ev_some]
  · intro i hi ih
    have hr : l.getD i z218 = rd_T218 l i := by simp [rd_T218]
    have hwi : wRule (rd_T218 l i) ≤ 1048576 := by
      rw [← hr]
      have := ws_le wRule l z218 i hi
      omega
    rw [ev_succ]
    simp only [laws_toRuleS.l0, ev_ite]
    rw [if_pos (by omega), if_pos (by omega)]
    rw [ev_bind (laws_toRule_ev _ _ _ _ _ (by have e : ((rd_T218 l i).f1.f0.length + ws wRNode (rd_T218 l i).f1.f0) ≤ wRule (rd_T218 l i) := (by simp only [wRule]; omega); omega))]
    (try simp only [ev_ite])
    rw [if_pos (by rw [upTo_length _ _ _ _ (by omega)]; omega), wrap_succ hi (by omega)]
    have := upTo_set cRule z113 l z218 i hi
    rw [hr] at this
    simp only [Int.toNat_natCast]
    simp only [cRule, cRx] at this ih ⊢
    rw [this]
    exact ih
theorem laws_eqRuleS_ev (l : List S113) (hl : l.length ≤ 9223372036854775807) (hh : ∀ x ∈ l, h113 x) : Ev (fun k => laws_eqRuleS.f k l l) true := by
  unfold laws_eqRuleS.f
  simp only [ev_ite]
  rw [if_pos trivial]
  refine ev_loop l.length (fun k i => laws_eqRuleS.l0 k l l (i : Nat)) (fun _ => true) ?_ ?_ 0 (by omega)
  · rw [ev_succ]
    simp [laws_eqRuleS.l0, ev_some]
  · intro i hi ih
    have hhy : h113 (rd_T113 l i) := by
      have hr : l.getD i z113 = rd_T113 l i := by simp [rd_T113]
      rw [← hr, List.getD_eq_getElem?_getD, List.getElem?_eq_getElem hi]
      exact hh _ (List.getElem_mem _)
    rw [ev_succ]
    simp only [laws_eqRuleS.l0, ev_ite]
    rw [if_pos (by omega), if_pos (by omega), wrap_succ hi (by omega)]
    (try rw [if_pos (by omega)])
    rw [ev_bind (laws_eqRule_ev _ _ _ _ _ (hhy.1) (hhy.2))]
    (try simp only [if_true, ev_ite])
    exact ih
end Go.Proofs.Ytijmhelacmjggaa.P
-- The kit's printed words CMode, cut down by wip/gen/pack.py to what this proof reaches.
namespace Go.Proofs.Ytijmhelacmjggaa.P
open Go.RowKit Go.Proofs.YtijmhelacmjggaaW.PrintWords Go.Proofs.YtijmhelacmjggaaW.PrintLast Go.Proofs.YtijmhelacmjggaaEv
set_option linter.unusedVariables false
set_option linter.unusedSimpArgs false
def g171 (x : S171) : Prop := x.f0.size ≤ maxLen ∧ (x.f1.length ≤ maxLen ∧ ∀ y ∈ x.f1, g218 y)
def h108 (x : S108) : Prop := (x.f1.length ≤ 9223372036854775807 ∧ ∀ y ∈ x.f1, h113 y)
def cMode (x : S171) : S108 := ⟨x.f0, (x.f1.map cRule)⟩
def wMode (x : S171) : Nat := x.f0.size + (x.f1.length + ws wRule x.f1)
theorem hMode_of_g {x : S171} (hg : g171 x) : h108 (cMode x) :=
  ⟨by simpa [cMode] using Nat.le_trans hg.2.1 maxLen_le, fun y hy => by
    obtain ⟨z, hz, rfl⟩ := List.mem_map.1 hy
    exact hRule_of_g (hg.2.2 z hz)⟩
theorem laws_szMode_ev (v0 : ByteArray) (v1 : List S218) (a : Int) (h0 : 0 ≤ a) (h1 : a ≤ 1048576) (hb_v0 : v0.size ≤ 9223372036854775807) (hb_v1 : v1.length ≤ 9223372036854775807) (hg_v1 : ∀ x ∈ v1, g218 x) : Ev (fun k => laws_szMode.f k v0 v1 a) (if a < ((v0.size + (v1.length + ws wRule v1) : Nat) : Int) then -1 else a - ((v0.size + (v1.length + ws wRule v1) : Nat) : Int)) := by
  unfold laws_szMode.f
  rw [wrap_id (x := a - (v0.size : Int)) (by omega) (by omega)]
  simp only [ev_ite]
  by_cases c_v0 : a - (v0.size : Int) < 0
  · rw [if_pos c_v0]
    refine ev_some.2 ?_
    (try first | rfl | rw [if_pos (by omega)])
  rw [if_neg c_v0]
  rw [ev_bind (laws_szRuleS_ev v1 _ (by omega) (by omega) hb_v1 hg_v1)]
  simp only [Option.bind_some, ev_ite]
  by_cases c1_ : (a - (v0.size : Int)) < (((v1.length + ws wRule v1) : Nat) : Int)
  · rw [if_pos c1_, if_pos (by omega)]
    refine ev_some.2 ?_
    (try first | rfl | rw [if_pos (by omega)])
  rw [if_neg c1_, if_neg (by omega)]
  refine ev_some.2 ?_
  (try rw [if_neg (by omega)])
  (try (first | rfl | omega | (congr 1; omega)))
theorem laws_toMode_ev (v0 : ByteArray) (v1 : List S218) (hw_v1 : (v1.length + ws wRule v1) ≤ 1048576) : Ev (fun k => laws_toMode.f k v0 v1) (v0, (v1.map cRule)) := by
  unfold laws_toMode.f
  rw [ev_bind (laws_toRuleS_ev v1 hw_v1)]
  exact ev_some.2 rfl
theorem laws_eqMode_ev (v0 : ByteArray) (v1 : List S113) (hb_v1 : v1.length ≤ 9223372036854775807) (hh_v1 : ∀ x ∈ v1, h113 x) : Ev (fun k => laws_eqMode.f k v0 v1 v0 v1) true := by
  unfold laws_eqMode.f
  (try simp only [if_true, ev_ite, bne_self_eq_false, Bool.false_eq_true, if_false, ev_some])
  rw [ev_bind (laws_eqRuleS_ev v1 hb_v1 hh_v1)]
  (try simp only [if_true, ev_ite, bne_self_eq_false, Bool.false_eq_true, if_false, ev_some])
theorem laws_szModeS_ev (l : List S171) (a : Int) (h0 : 0 ≤ a) (h1 : a ≤ 1048576) (hl : l.length ≤ 9223372036854775807) (hg : ∀ x ∈ l, g171 x) : Ev (fun k => laws_szModeS.f k l a) (if a < ((l.length + ws wMode l : Nat) : Int) then -1 else a - ((l.length + ws wMode l : Nat) : Int)) := by
  unfold laws_szModeS.f
  rw [wrap_id (by omega) (by omega)]
  simp only [ev_ite]
  by_cases c0 : a - (l.length : Int) < 0
  · rw [if_pos c0]
    exact ev_some.2 (by rw [if_pos (by omega)])
  rw [if_neg c0]
  have key := down l.length (fun i => ∀ x1 : Int, 0 ≤ x1 → x1 ≤ 1048576 → Ev (fun k => laws_szModeS.l0 k l x1 (i : Nat)) (if x1 < ((ws wMode (l.drop i) : Nat) : Int) then -1 else x1 - ((ws wMode (l.drop i) : Nat) : Int))) ?_ ?_ 0 (by omega) (a - (l.length : Int)) (by omega) (by omega)
  · refine ev_congr key ?_
    rw [List.drop_zero]
    split <;> split <;> first | rfl | omega
  · intro x1 h0 h1
    rw [ev_succ]
    simp only [laws_szModeS.l0, ev_ite, ev_some]
    rw [if_neg (by omega), List.drop_length]
    simp [ws]
    omega
  · intro i hi ih x1 h0 h1
    rw [ev_succ, ws_drop wMode l z171 i hi]
    have hr : l.getD i z171 = rd_T171 l i := by simp [rd_T171]
    rw [hr]
    have hgy : g171 (rd_T171 l i) := by
      rw [← hr, List.getD_eq_getElem?_getD, List.getElem?_eq_getElem hi]
      exact hg _ (List.getElem_mem _)
    simp only [laws_szModeS.l0, ev_ite]
    rw [if_pos (by omega), if_pos (by omega), wrap_succ hi (by omega)]
    rw [ev_bind (laws_szMode_ev _ _ x1 h0 h1 (Nat.le_trans (hgy).1 maxLen_le) (Nat.le_trans (hgy).2.1 maxLen_le) (hgy).2.2)]
    simp only [Option.bind_some, ev_ite]
    have e : ((wMode (rd_T171 l i) : Nat) : Int) = (((rd_T171 l i).f0.size + ((rd_T171 l i).f1.length + ws wRule (rd_T171 l i).f1) : Nat) : Int) := rfl
    by_cases c : x1 < ((wMode (rd_T171 l i) : Nat) : Int)
    · have c' : x1 < (((rd_T171 l i).f0.size + ((rd_T171 l i).f1.length + ws wRule (rd_T171 l i).f1) : Nat) : Int) := by rw [← e]; exact c
      simp only [if_pos c']
      rw [if_pos (by omega)]
      exact ev_some.2 (by rw [if_pos (by omega)])
    · have c' : ¬ x1 < (((rd_T171 l i).f0.size + ((rd_T171 l i).f1.length + ws wRule (rd_T171 l i).f1) : Nat) : Int) := by rw [← e]; exact c
      simp only [if_neg c']
      rw [if_neg (by rw [← e]; omega)]
      refine ev_congr (ih _ (by rw [← e]; omega) (by rw [← e]; omega)) ?_
      rw [← e]
      split <;> split <;> first | rfl | omega
theorem laws_toModeS_ev (l : List S171) (hl : l.length + ws wMode l ≤ 1048576) : Ev (fun k => laws_toModeS.f k l) (l.map cMode) := by
  unfold laws_toModeS.f
  simp only [ev_ite]
  rw [if_pos (by omega), if_pos (by omega)]
  have h := ev_loop l.length (fun k i => laws_toModeS.l0 k l (upTo cMode z108 l i) (i : Nat)) (fun _ => l.map cMode) ?_ ?_ 0 (by omega)
  · rw [upTo_zero] at h
    exact h
  · rw [ev_succ, upTo_all]
    simp [laws_toModeS.l0, ev_some]
  · intro i hi ih
    have hr : l.getD i z171 = rd_T171 l i := by simp [rd_T171]
    have hwi : wMode (rd_T171 l i) ≤ 1048576 := by
      rw [← hr]
      have := ws_le wMode l z171 i hi
      omega
    rw [ev_succ]
    simp only [laws_toModeS.l0, ev_ite]
    rw [if_pos (by omega), if_pos (by omega)]
    rw [ev_bind (laws_toMode_ev _ _ (by have e : ((rd_T171 l i).f1.length + ws wRule (rd_T171 l i).f1) ≤ wMode (rd_T171 l i) := (by simp only [wMode]; omega); omega))]
    (try simp only [ev_ite])
    rw [if_pos (by rw [upTo_length _ _ _ _ (by omega)]; omega), wrap_succ hi (by omega)]
    have := upTo_set cMode z108 l z171 i hi
    rw [hr] at this
    simp only [Int.toNat_natCast]
    simp only [cMode] at this ih ⊢
    rw [this]
    exact ih
theorem laws_eqModeS_ev (l : List S108) (hl : l.length ≤ 9223372036854775807) (hh : ∀ x ∈ l, h108 x) : Ev (fun k => laws_eqModeS.f k l l) true := by
  unfold laws_eqModeS.f
  simp only [ev_ite]
  rw [if_pos trivial]
  refine ev_loop l.length (fun k i => laws_eqModeS.l0 k l l (i : Nat)) (fun _ => true) ?_ ?_ 0 (by omega)
  · rw [ev_succ]
    simp [laws_eqModeS.l0, ev_some]
  · intro i hi ih
    have hhy : h108 (rd_T108 l i) := by
      have hr : l.getD i z108 = rd_T108 l i := by simp [rd_T108]
      rw [← hr, List.getD_eq_getElem?_getD, List.getElem?_eq_getElem hi]
      exact hh _ (List.getElem_mem _)
    rw [ev_succ]
    simp only [laws_eqModeS.l0, ev_ite]
    rw [if_pos (by omega), if_pos (by omega), wrap_succ hi (by omega)]
    (try rw [if_pos (by omega)])
    rw [ev_bind (laws_eqMode_ev _ _ (hhy.1) (hhy.2))]
    (try simp only [if_true, ev_ite])
    exact ih
end Go.Proofs.Ytijmhelacmjggaa.P
-- The kit's printed words CGrammar, cut down by wip/gen/pack.py to what this proof reaches.
namespace Go.Proofs.Ytijmhelacmjggaa.P
open Go.RowKit Go.Proofs.YtijmhelacmjggaaW.PrintWords Go.Proofs.YtijmhelacmjggaaW.PrintLast Go.Proofs.YtijmhelacmjggaaEv
set_option linter.unusedVariables false
set_option linter.unusedSimpArgs false
theorem laws_szGrammar_ev (v0 : List S171) (a : Int) (h0 : 0 ≤ a) (h1 : a ≤ 1048576) (hb_v0 : v0.length ≤ 9223372036854775807) (hg_v0 : ∀ x ∈ v0, g171 x) : Ev (fun k => laws_szGrammar.f k v0 a) (if a < (((v0.length + ws wMode v0) : Nat) : Int) then -1 else a - (((v0.length + ws wMode v0) : Nat) : Int)) := by
  unfold laws_szGrammar.f
  rw [ev_bind (laws_szModeS_ev v0 _ (by omega) (by omega) hb_v0 hg_v0)]
  simp only [Option.bind_some, ev_ite]
  by_cases c0_ : a < (((v0.length + ws wMode v0) : Nat) : Int)
  · rw [if_pos c0_, if_pos (by omega)]
    refine ev_some.2 ?_
    (try first | rfl | rw [if_pos (by omega)])
  rw [if_neg c0_, if_neg (by omega)]
  refine ev_some.2 ?_
  (try rw [if_neg (by omega)])
  (try (first | rfl | omega | (congr 1; omega)))
theorem laws_toGrammar_ev (v0 : List S171) (hw_v0 : (v0.length + ws wMode v0) ≤ 1048576) : Ev (fun k => laws_toGrammar.f k v0) (v0.map cMode) := by
  unfold laws_toGrammar.f
  rw [ev_bind (laws_toModeS_ev v0 hw_v0)]
  exact ev_some.2 rfl
theorem laws_eqGrammar_ev (v0 : List S108) (hb_v0 : v0.length ≤ 9223372036854775807) (hh_v0 : ∀ x ∈ v0, h108 x) : Ev (fun k => laws_eqGrammar.f k v0 v0) true := by
  unfold laws_eqGrammar.f
  (try simp only [if_true, ev_ite, bne_self_eq_false, Bool.false_eq_true, if_false, ev_some])
  rw [ev_bind (laws_eqModeS_ev v0 hb_v0 hh_v0)]
  (try simp only [if_true, ev_ite, bne_self_eq_false, Bool.false_eq_true, if_false, ev_some])
end Go.Proofs.Ytijmhelacmjggaa.P
-- The kit's printed words LGrammarS, cut down by wip/gen/pack.py to what this proof reaches.
namespace Go.Proofs.Ytijmhelacmjggaa.P
open Go.RowKit Go.Proofs.YtijmhelacmjggaaW.PrintWords Go.Proofs.YtijmhelacmjggaaW.PrintLast Go.Proofs.YtijmhelacmjggaaEv
set_option linter.unusedVariables false
set_option linter.unusedSimpArgs false
theorem smallR_of (x : S218) (hw : wRule x ≤ 1048576) (hg : g218 x) : smallR (cRule x) := by
  have e : x.f0.size + (x.f1.f0.length + ws wRNode x.f1.f0) + x.f4.size ≤ 1048576 := hw
  refine ⟨by show x.f0.size ≤ _; omega, by show (x.f1.f0.map cRNode).length ≤ _; rw [List.length_map]; omega, fun y hy => ?_⟩
  obtain ⟨z, hz, rfl⟩ := List.mem_map.1 (show y ∈ x.f1.f0.map cRNode from hy)
  exact (hRNode_of_g (hg.2.1.2 z hz)).2
theorem smallM_of (x : S171) (hw : wMode x ≤ 1048576) (hg : g171 x) : smallM (cMode x) := by
  have e : x.f0.size + (x.f1.length + ws wRule x.f1) ≤ 1048576 := hw
  refine ⟨by show x.f0.size ≤ _; omega, by show (x.f1.map cRule).length ≤ _; rw [List.length_map]; omega, fun y hy => ?_⟩
  obtain ⟨z, hz, rfl⟩ := List.mem_map.1 (show y ∈ x.f1.map cRule from hy)
  have := ws_mem wRule _ z hz
  exact smallR_of z (by omega) (hg.2.2 z hz)
theorem smallG_of (l : List S171) (hw : l.length + ws wMode l ≤ 1048576) (hg : ∀ y ∈ l, g171 y) : smallG (l.map cMode) := by
  refine ⟨by rw [List.length_map]; omega, fun y hy => ?_⟩
  obtain ⟨z, hz, rfl⟩ := List.mem_map.1 hy
  have := ws_mem wMode _ z hz
  exact smallM_of z (by omega) (hg z hz)
theorem hMode_all (l : List S171) (hg : ∀ y ∈ l, g171 y) : ∀ x ∈ l.map cMode, h108 x := fun y hy => by
  obtain ⟨z, hz, rfl⟩ := List.mem_map.1 hy
  exact hMode_of_g (hg z hz)
theorem impl_GrammarOk_eq (g : List S108) (h : smallG g) : impl_GrammarOk.f g = some (grammarB g) := if_pos ((smallG_iff g).2 h)
end Go.Proofs.Ytijmhelacmjggaa.P
/- The pure statement of the law FnExactGrammarOk: over numbers and lists alone, the law's printed function answers true for every grammar. -/
namespace Go.Proofs.Ytijmhelacmjggaa.fnExactGrammarOk.Pure
open Go.RowKit Go.Proofs.YtijmhelacmjggaaW.PrintWords Go.Proofs.YtijmhelacmjggaaW.PrintLast Go.Proofs.Ytijmhelacmjggaa.P Go.Proofs.YtijmhelacmjggaaEv
set_option linter.unusedVariables false
set_option linter.unusedSimpArgs false
theorem pure_FnExactGrammarOk : ∀ (l0_0 : List S171), (l0_0.length ≤ maxLen ∧ ∀ y ∈ l0_0, g171 y) → ∃ k, laws_FnExactGrammarOk.f k l0_0 = some true := by
  rintro l ⟨hm, hg⟩
  have hm' := Nat.le_trans hm maxLen_le
  refine ev_get (g := fun k => laws_FnExactGrammarOk.f k l) ?_
  unfold laws_FnExactGrammarOk.f
  rw [ev_bind (laws_szGrammar_ev l _ (by omega) (by omega) hm' hg)]
  simp only [ev_ite]
  by_cases hl : l.length + ws wMode l ≤ 1048576
  · rw [if_neg (by rw [if_neg (by omega)]; omega)]
    have hs := smallG_of l hl hg
    have hl' := hs.1
    rw [ev_bind (laws_toGrammar_ev l hl), ev_bind (spec_GrammarOk_ev _ hs), ev_bind (laws_toGrammar_ev l hl)]
    simp only [impl_GrammarOk_eq _ hs, Option.bind_some]
    rw [ev_ite, if_neg (by simp), ev_bind (laws_toGrammar_ev l hl), ev_bind (laws_eqGrammar_ev _ (by omega) (hMode_all l hg))]
    exact ev_some.2 rfl
  · rw [if_pos (by rw [if_pos (by omega)]; omega)]
    exact ev_some.2 rfl
end Go.Proofs.Ytijmhelacmjggaa.fnExactGrammarOk.Pure
-- The kit's printed words WSized, cut down by wip/gen/pack.py to what this proof reaches.
/- The law FnExactGrammarOk holds: every call returns true and leaves its arguments as they were. Conditions: none beyond what the given row says. This text: the row, out of the walk's contract and the pure statement. -/
namespace Go.Proofs.Ytijmhelacmjggaa.fnExactGrammarOk
open Go.ChangeShapes Go.WideShapes Go.ChangeAt Go.RowKit Go.Proofs.YtijmhelacmjggaaW.PrintWords Go.Proofs.YtijmhelacmjggaaOpen Go.Proofs.Ytijmhelacmjggaa.P
open Go.ChangeMaps (open_string shut_string)
set_option linter.unusedVariables false
set_option linter.unusedSimpArgs false
theorem own : ownKnob Try.prog.godebug = none := by kernel_rfl
theorem laidOut : laidOutB Try.prog = true := by kernel_rfl
theorem o210 : Opens Try.prog 210 k210 g210 := opens_imp (opens_iso (fun x : S210 => (x.f0, x.f1)) (fun p => ⟨p.1, p.2⟩) (fun _ => rfl) (opens_struct Try.underlying210 (by kernel_rfl) (fields_cons (opens_int Try.underlying2 (by kernel_rfl)) (fields_one (opens_int Try.underlying2 (by kernel_rfl)))))) (fun _ h => h)
theorem o152 : Opens Try.prog 152 k152 g152 := opens_imp (opens_iso (fun x : S152 => (x.f0, x.f1, x.f2, x.f3, x.f4)) (fun p => ⟨p.1, p.2.1, p.2.2.1, p.2.2.2.1, p.2.2.2.2⟩) (fun _ => rfl) (opens_struct Try.underlying152 (by kernel_rfl) (fields_cons (opens_int Try.underlying2 (by kernel_rfl)) (fields_cons (opens_slice Try.underlying150 (by kernel_rfl) o210) (fields_cons (opens_slice Try.underlying56 (by kernel_rfl) (opens_int Try.underlying2 (by kernel_rfl))) (fields_cons (opens_int Try.underlying2 (by kernel_rfl)) (fields_one (opens_int Try.underlying2 (by kernel_rfl))))))))) (fun _ h => h)
theorem o24 : Opens Try.prog 24 k24 g24 := opens_imp (opens_iso (fun x : S24 => x.f0) (fun p => ⟨p⟩) (fun _ => rfl) (opens_struct Try.underlying24 (by kernel_rfl) (fields_one (opens_slice Try.underlying22 (by kernel_rfl) o152)))) (fun _ h => h)
theorem o218 : Opens Try.prog 218 k218 g218 := opens_imp (opens_iso (fun x : S218 => (x.f0, x.f1, x.f2, x.f3, x.f4)) (fun p => ⟨p.1, p.2.1, p.2.2.1, p.2.2.2.1, p.2.2.2.2⟩) (fun _ => rfl) (opens_struct Try.underlying218 (by kernel_rfl) (fields_cons (opens_string Try.underlying9 (by kernel_rfl)) (fields_cons o24 (fields_cons (opens_bool Try.underlying4 (by kernel_rfl)) (fields_cons (opens_int Try.underlying2 (by kernel_rfl)) (fields_one (opens_string Try.underlying9 (by kernel_rfl))))))))) (fun _ h => h)
theorem o171 : Opens Try.prog 171 k171 g171 := opens_imp (opens_iso (fun x : S171 => (x.f0, x.f1)) (fun p => ⟨p.1, p.2⟩) (fun _ => rfl) (opens_struct Try.underlying171 (by kernel_rfl) (fields_cons (opens_string Try.underlying9 (by kernel_rfl)) (fields_one (opens_slice Try.underlying169 (by kernel_rfl) o218))))) (fun _ h => h)
set_option maxRecDepth 100000 in
theorem lifted (os : Os) (started : os.Started) (H : Type) (enc : TypeId × Value → H) :
    ReturnsInHanded {} Try.checked os 6 .any (Rows.fnExactGrammarOkSpec.pre6 enc Try.prog Try.f6 Rows.fnExactGrammarOkRow.domain false) (Rows.fnExactGrammarOkSpec.post enc Try.prog Try.f6 false true false false) := by
  refine returnsInHanded_of_change_sized (C := Try.checked) own started (by kernel_rfl) Try.func6
    (ChangeSpec.witness6 (enc := enc) (C := Try.checked) false ⟨#[], #[.agg #[.slice none 0 0]], []⟩ 8 (by kernel_rfl) (by kernel_rfl) (by kernel_rfl) (by kernel_rfl)) ?_
  intro W base args ds gs before hval0 hW hcnd hsz0 _
  have hsz : (DataW.weightsEach Try.prog (Try.f6.params.toList ++ Rows.fnExactGrammarOkSpec.plain.varTypes Try.prog) (ds ++ gs)).all (· ≤ reachBytes) = true := hsz0
  have hval : ∀ (j : Nat) t v, Try.f6.params[j]? = some t → args[j]? = some v → Value.okWide Try.prog W .any base t v := hval0
  have hW' := hW
  obtain ⟨p, q, hA0, hV, rfl, hfz, hnd⟩ := hW
  have hA : DataW.TrodAll enc Try.prog W 0 (fun _ => true) true Try.f6.params.toList args.toList ds p := hA0
  rw [Try.params6] at hA hval hsz
  obtain ⟨v0, vs0, d0, ds0, p0, q0, hargs, rfl, rfl, h0, r0⟩ := trodAll_cons hA
  obtain ⟨rfl, rfl, rfl⟩ := trodAll_nil r0
  obtain rfl : args = #[v0] := by cases args; simp_all
  obtain ⟨rfl, rfl⟩ := trodVars_none hV
  have k0' := h0
  have lt0 : ∀ x ∈ p0, x.block < W.heap.size := by obtain ⟨m, hm⟩ := k0'; exact DataW.trod_lt m _ _ _ hm
  obtain ⟨cs0, rfl, hn0⟩ := okWide_struct Try.underlying41 (hval 0 41 v0 rfl rfl)
  obtain ⟨fuel0, hf0⟩ := h0
  have hf0' : DataW.trod enc Try.prog W 0 (fun _ => true) true fuel0 41 cs0.toList = some (d0, p0) := hf0
  obtain ⟨x0, hK0, hG0⟩ := (opens_struct Try.underlying41 (by kernel_rfl) (fields_one (opens_slice Try.underlying39 (by kernel_rfl) o171))).op enc W 0 (fun _ => true) true fuel0 _ _ hf0'
  have hG0' := hG0
  obtain ⟨A0_0, c0_0, hs0_0, hl0_0, hC0_0⟩ := hK0
  obtain rfl : cs0 = #[.slice A0_0 x0.length c0_0] := by
    apply Array.ext'
    simp only [hs0_0, List.cons_append, List.nil_append]
  clear hA0 hval0 hsz0 hsz
  obtain ⟨k, hk⟩ := Pure.pure_FnExactGrammarOk _ hG0'
  refine (laws_FnExactGrammarOk.calls k A0_0 c0_0 _ true W hC0_0 hl0_0 hk).mono fun e W' ⟨he, bel0⟩ => ?_
  have bel : Below W.heap.size W W' := bel0
  subst he
  exact ⟨_, rfl, _, _, _, [], _, [], hW', trodAll_mk1 (shut_bool Try.underlying4 _), (trodAll_cons_mk (Below.trod laidOut (by kernel_rfl) (of_decide_eq_true (by kernel_rfl)) k0' bel lt0) trodAll_mk0), rfl, bel.frame _, fun h => by cases h⟩
theorem over : Rows.fnExactGrammarOkRow.holds Try.pinned (OpenSpec.ofChange Rows.fnExactGrammarOkSpec) :=
  OpenClaim.holds_of_wide 6 Try.f6 rfl rfl rfl rfl rfl rfl rfl ⟨rfl, rfl, rfl, rfl, rfl⟩ rfl rfl rfl rfl rfl (by kernel_rfl) Try.func6 (by kernel_rfl)
    (of_decide_eq_true (by kernel_rfl)) (by unfold Func.isWrapper; first | (rw [if_pos (by decide +kernel)]; kernel_rfl) | (rw [if_neg (by decide +kernel)]; exact ⟨rfl, rfl⟩))
    (fun os started H enc _ => lifted os started H enc)
theorem proved : Rows.FnExactGrammarOkSaid := over
#print axioms proved
end Go.Proofs.Ytijmhelacmjggaa.fnExactGrammarOk
namespace Go.Proofs.Ytijmhelacmjggaa
/-- The row, under a short name, for the claim. -/
theorem fnExactGrammarOk_holds : Rows.FnExactGrammarOkSaid := fnExactGrammarOk.proved
end Go.Proofs.Ytijmhelacmjggaa
