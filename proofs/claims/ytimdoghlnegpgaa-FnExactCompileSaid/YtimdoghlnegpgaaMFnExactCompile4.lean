/- The law FnExactCompile holds for every call: part 5 of 6 of the proof (walks of functions, and what they answer). Conditions: none beyond what the given row says. -/
import Derived.Test.YtimdoghlnegpgaaMFnExactCompile0
import Derived.Test.YtimdoghlnegpgaaMFnExactCompile3
-- Made by wip/gen/pp.py of this session over the kit's print of the loaded program: a function, and the contract of its walk. Lean checks it.
namespace Go.Proofs.Ytimdoghlnegpgaa.P
open Go.RowKit Go.Proofs.YtimdoghlnegpgaaW.PrintWords Go.Proofs.YtimdoghlnegpgaaW.PrintLast Go.Proofs.YtimdoghlnegpgaaW.PrintMore
attribute [local go_sem] max2_int min2_int max_two min_two max_three min_three max_four min_four   -- for this text's walks alone
set_option linter.unusedVariables false
set_option linter.unusedSimpArgs false

/-! ### impl_Compile: function 57 -/
mutual
def impl_Compile.l0 : Nat → List Int → Int → List (S99) → Int → Int → List (S99) → Option ((List (S81)) × Bool)
 | 0, _, _, _, _, _, _ => none
 | k + 1, x4, x5, x19, x20, x21, x102000 => if x21 < x20 then (if 0 ≤ x21 then (if x21 < (x19.length : Int) then (if x4.length < 17592186044416 then ((impl_stepsIn.f ((rd_T99 x19 x21).f0) ((rd_T99 x19 x21).f1) ((rd_T99 x19 x21).f2)).bind fun t111 => (impl_Compile.l0 k (x4 ++ [x5]) (wrap64 (x5 + t111)) x19 x20 (wrap64 (x21 + 1)) x102000)) else (none)) else (none)) else (none)) else (if x5 > 60000 then (some (([] : List (S81)), false)) else (impl_Compile.l1 k x4 (([] : List (S81))) x102000 (x102000.length : Int) 0))
def impl_Compile.l1 : Nat → List Int → List (S81) → List (S99) → Int → Int → Option ((List (S81)) × Bool)
 | 0, _, _, _, _, _ => none
 | k + 1, x4, x8, x38, x39, x40 => if x40 < x39 then (if 0 ≤ x40 then (if x40 < (x38.length : Int) then (if ((rd_T99 x38 x40).f0) ≥ 0 then (if x8.length < 5864062014805 then (impl_Compile.j2 k x4 (x8 ++ [(⟨1, (rd_T99 x38 x40).f0, 0⟩ : S81)]) x40 x38 x39 x40 ((rd_T99 x38 x40).f0) ((rd_T99 x38 x40).f1) ((rd_T99 x38 x40).f2)) else (none)) else (impl_Compile.j2 k x4 x8 x40 x38 x39 x40 ((rd_T99 x38 x40).f0) ((rd_T99 x38 x40).f1) ((rd_T99 x38 x40).f2))) else (none)) else (none)) else (some (x8, true))
def impl_Compile.j2 : Nat → List Int → List (S81) → Int → List (S99) → Int → Int → Int → List (S117) → Int → Option ((List (S81)) × Bool)
 | 0, _, _, _, _, _, _, _, _, _ => none
 | k + 1, x4, x8, x9, x38, x39, x40, x117000, x117001, x117002 => if x8.length < 5864062014805 then (if 0 ≤ x9 then (if x9 < (x4.length : Int) then ((impl_stepsIn.f x117000 x117001 x117002).bind fun t124 => (impl_Compile.l2 k x4 (x8 ++ [(⟨2, 0, 0⟩ : S81)]) (wrap64 ((wrap64 ((rd x4 x9) + t124)) - 1)) x38 x39 x40 x117001 (x117001.length : Int) 0 x117000 x117001 x117002)) else (none)) else (none)) else (none)
def impl_Compile.l2 : Nat → List Int → List (S81) → Int → List (S99) → Int → Int → List (S117) → Int → Int → Int → List (S117) → Int → Option ((List (S81)) × Bool)
 | 0, _, _, _, _, _, _, _, _, _, _, _, _ => none
 | k + 1, x4, x8, x11, x38, x39, x40, x67, x68, x69, x117000, x117001, x117002 => if x69 < x68 then (if 0 ≤ x69 then (if x69 < (x67.length : Int) then (if x8.length < 5864062014805 then ((some (x8 ++ [(⟨3, (rd_T117 x67 x69).f0, x11⟩ : S81)] : List (S81))).bind fun y127 => ((impl_MOp.f y127).bind fun t130 => (if y127.length < 5864062014805 then ((some (y127 ++ [(⟨4, (rd_T117 x67 x69).f1, wrap64 (t130 + 2)⟩ : S81)] : List (S81))).bind fun y131 => (if 0 ≤ ((rd_T117 x67 x69).f2) then (if ((rd_T117 x67 x69).f2) < (x4.length : Int) then (if y131.length < 5864062014805 then (impl_Compile.l2 k x4 (y131 ++ [(⟨5, rd x4 ((rd_T117 x67 x69).f2), 0⟩ : S81)]) x11 x38 x39 x40 x67 x68 (wrap64 (x69 + 1)) x117000 x117001 x117002) else (none)) else (none)) else (none))) else (none)))) else (none)) else (none)) else (none)) else (if 0 ≤ x117002 then (if x117002 < (x4.length : Int) then (if x8.length < 5864062014805 then (impl_Compile.l1 k x4 (x8 ++ [(⟨5, rd x4 x117002, 0⟩ : S81)]) x38 x39 (wrap64 (x40 + 1))) else (none)) else (none)) else (none))
end
def impl_Compile.f (k : Nat) (l0_0 : List (S99)) : Option ((List (S81)) × Bool) := (impl_CodeOk.f l0_0).bind fun t102 => (if t102 = true then (impl_Compile.l0 k (([] : List Int)) 0 l0_0 (l0_0.length : Int) 0 l0_0) else (some (([] : List (S81)), false)))
theorem impl_Compile.mono_l : ∀ k, (∀ y0 y1 y2 y3 y4 y5, LeO (impl_Compile.l0 k y0 y1 y2 y3 y4 y5) (impl_Compile.l0 (k + 1) y0 y1 y2 y3 y4 y5)) ∧ (∀ y0 y1 y2 y3 y4, LeO (impl_Compile.l1 k y0 y1 y2 y3 y4) (impl_Compile.l1 (k + 1) y0 y1 y2 y3 y4)) ∧ (∀ y0 y1 y2 y3 y4 y5 y6 y7 y8, LeO (impl_Compile.j2 k y0 y1 y2 y3 y4 y5 y6 y7 y8) (impl_Compile.j2 (k + 1) y0 y1 y2 y3 y4 y5 y6 y7 y8)) ∧ (∀ y0 y1 y2 y3 y4 y5 y6 y7 y8 y9 y10 y11, LeO (impl_Compile.l2 k y0 y1 y2 y3 y4 y5 y6 y7 y8 y9 y10 y11) (impl_Compile.l2 (k + 1) y0 y1 y2 y3 y4 y5 y6 y7 y8 y9 y10 y11))
 | 0 => ⟨fun _ _ _ _ _ _ r h => by simp [impl_Compile.l0] at h, fun _ _ _ _ _ r h => by simp [impl_Compile.l1] at h, fun _ _ _ _ _ _ _ _ _ r h => by simp [impl_Compile.j2] at h, fun _ _ _ _ _ _ _ _ _ _ _ _ r h => by simp [impl_Compile.l2] at h⟩
 | k + 1 => by
  obtain ⟨ih0, ih1, ih2, ih3⟩ := impl_Compile.mono_l k
  refine ⟨?_, ?_, ?_, ?_⟩
  ·intro y0 y1 y2 y3 y4 y5
   unfold impl_Compile.l0
   repeat' first
   | (with_reducible exact ih0 _ _ _ _ _ _)
   | (with_reducible exact ih1 _ _ _ _ _)
   | (with_reducible exact ih2 _ _ _ _ _ _ _ _ _)
   | (with_reducible exact ih3 _ _ _ _ _ _ _ _ _ _ _ _)
   | (with_reducible exact LeO.refl _)
   | (with_reducible exact LeO.none _)
   | (with_reducible refine LeO.ite ?_ ?_)
   | (with_reducible refine LeO.bind ?_ (fun _ => ?_))
   | exact ih0 _ _ _ _ _ _
   | exact ih1 _ _ _ _ _
   | exact ih2 _ _ _ _ _ _ _ _ _
   | exact ih3 _ _ _ _ _ _ _ _ _ _ _ _
   | exact LeO.none _
   | refine LeO.ite ?_ ?_
   | refine LeO.bind ?_ (fun _ => ?_)
  ·intro y0 y1 y2 y3 y4
   unfold impl_Compile.l1
   repeat' first
   | (with_reducible exact ih0 _ _ _ _ _ _)
   | (with_reducible exact ih1 _ _ _ _ _)
   | (with_reducible exact ih2 _ _ _ _ _ _ _ _ _)
   | (with_reducible exact ih3 _ _ _ _ _ _ _ _ _ _ _ _)
   | (with_reducible exact LeO.refl _)
   | (with_reducible exact LeO.none _)
   | (with_reducible refine LeO.ite ?_ ?_)
   | (with_reducible refine LeO.bind ?_ (fun _ => ?_))
   | exact ih0 _ _ _ _ _ _
   | exact ih1 _ _ _ _ _
   | exact ih2 _ _ _ _ _ _ _ _ _
   | exact ih3 _ _ _ _ _ _ _ _ _ _ _ _
   | exact LeO.none _
   | refine LeO.ite ?_ ?_
   | refine LeO.bind ?_ (fun _ => ?_)
  ·intro y0 y1 y2 y3 y4 y5 y6 y7 y8
   unfold impl_Compile.j2
   repeat' first
   | (with_reducible exact ih0 _ _ _ _ _ _)
   | (with_reducible exact ih1 _ _ _ _ _)
   | (with_reducible exact ih2 _ _ _ _ _ _ _ _ _)
   | (with_reducible exact ih3 _ _ _ _ _ _ _ _ _ _ _ _)
   | (with_reducible exact LeO.refl _)
   | (with_reducible exact LeO.none _)
   | (with_reducible refine LeO.ite ?_ ?_)
   | (with_reducible refine LeO.bind ?_ (fun _ => ?_))
   | exact ih0 _ _ _ _ _ _
   | exact ih1 _ _ _ _ _
   | exact ih2 _ _ _ _ _ _ _ _ _
   | exact ih3 _ _ _ _ _ _ _ _ _ _ _ _
   | exact LeO.none _
   | refine LeO.ite ?_ ?_
   | refine LeO.bind ?_ (fun _ => ?_)
  ·intro y0 y1 y2 y3 y4 y5 y6 y7 y8 y9 y10 y11
   unfold impl_Compile.l2
   repeat' first
   | (with_reducible exact ih0 _ _ _ _ _ _)
   | (with_reducible exact ih1 _ _ _ _ _)
   | (with_reducible exact ih2 _ _ _ _ _ _ _ _ _)
   | (with_reducible exact ih3 _ _ _ _ _ _ _ _ _ _ _ _)
   | (with_reducible exact LeO.refl _)
   | (with_reducible exact LeO.none _)
   | (with_reducible refine LeO.ite ?_ ?_)
   | (with_reducible refine LeO.bind ?_ (fun _ => ?_))
   | exact ih0 _ _ _ _ _ _
   | exact ih1 _ _ _ _ _
   | exact ih2 _ _ _ _ _ _ _ _ _
   | exact ih3 _ _ _ _ _ _ _ _ _ _ _ _
   | exact LeO.none _
   | refine LeO.ite ?_ ?_
   | refine LeO.bind ?_ (fun _ => ?_)
theorem impl_Compile.mono : ∀ a0 k, LeO (impl_Compile.f k a0) (impl_Compile.f (k + 1) a0) := by
 intro a0 k
 obtain ⟨ih0, ih1, ih2, ih3⟩ := impl_Compile.mono_l k
 unfold impl_Compile.f
 repeat' first
   | (with_reducible exact ih0 _ _ _ _ _ _)
   | (with_reducible exact ih1 _ _ _ _ _)
   | (with_reducible exact ih2 _ _ _ _ _ _ _ _ _)
   | (with_reducible exact ih3 _ _ _ _ _ _ _ _ _ _ _ _)
   | (with_reducible exact LeO.refl _)
   | (with_reducible exact LeO.none _)
   | (with_reducible refine LeO.ite ?_ ?_)
   | (with_reducible refine LeO.bind ?_ (fun _ => ?_))
   | exact ih0 _ _ _ _ _ _
   | exact ih1 _ _ _ _ _
   | exact ih2 _ _ _ _ _ _ _ _ _
   | exact ih3 _ _ _ _ _ _ _ _ _ _ _ _
   | exact LeO.none _
   | refine LeO.ite ?_ ?_
   | refine LeO.bind ?_ (fun _ => ?_)
def impl_Compile.T19 : Bool × List (List Nat × List Nat) := (true, [([], []), ([], []), ([0, 1], [0, 1]), ([2], [2]), ([], []), ([4], [4]), ([3, 5], [3, 5]), ([6], [6]), ([7, 5, 0, 1, 2, 3, 4, 5, 6, 7], [7])])
def impl_Compile.B19 : List Nat := [0, 0, 3, 7, 0, 16, 63, 127, 255]
theorem impl_Compile.tab19 : rtab .any (opsOf Try.f57 19) = impl_Compile.T19 := by kernel_rfl
theorem impl_Compile.bits19 : waitsOk impl_Compile.T19.2 impl_Compile.B19 = true := by kernel_rfl
def impl_Compile.T24 : Bool × List (List Nat × List Nat) := (true, [([], []), ([], []), ([1], [1]), ([], []), ([3], [3]), ([4], [4]), ([2, 5], [2, 5]), ([6], [6]), ([0, 7, 4], [0, 7]), ([8, 8, 0, 1, 2, 3, 4, 5, 6, 7, 8], [0, 3, 8])])
def impl_Compile.B24 : List Nat := [0, 0, 2, 0, 8, 24, 62, 126, 255, 511]
theorem impl_Compile.tab24 : rtab .any (opsOf Try.f57 24) = impl_Compile.T24 := by kernel_rfl
theorem impl_Compile.bits24 : waitsOk impl_Compile.T24.2 impl_Compile.B24 = true := by kernel_rfl
set_option maxHeartbeats 8000000 in
set_option maxRecDepth 100000 in
theorem impl_Compile.calls (k : Nat) (A0_0 : Option Addr) (c0_0 : Nat) (l0_0 : List (S99)) (r1 : List (S81)) (r2 : Bool) (w : World) (hr0_0 : Kd.C k99 w A0_0 l0_0.length l0_0) (hc0_0 : l0_0.length ≤ c0_0) (h : impl_Compile.f k l0_0 = some (r1, r2)) :
  Calls Try.prog 57 #[.agg #[.slice A0_0 l0_0.length c0_0]] w fun e w' => ∃ v0_ : Value, e = .returned (.tuple #[v0_, .bool r2]) ∧ Kd.R k81 81 w' w.heap.size (fun _ => True) v0_ r1 ∧ Below w.heap.size w w' := by
 have hu58 := Try.underlying58
 have hu99 := Try.underlying99
 have hu81 := Try.underlying81
 have hu117 := Try.underlying117
 have HR0_0 := Aside0.mk hr0_0
 have HC0_0 := Aside0.mk hc0_0
 clear hr0_0 hc0_0
 have HB := Aside0.mk (Below.refl w.heap.size w)
 have H : ((impl_CodeOk.f l0_0).bind fun t102 => (if t102 = true then (impl_Compile.l0 k (([] : List Int)) 0 l0_0 (l0_0.length : Int) 0 l0_0) else (some (([] : List (S81)), false)))) = some (r1, r2) := h
 clear h
 replace H := Option.bind_eq_some_iff.mp H
 obtain ⟨t102, A20, H⟩ := H
 replace H : (if t102 = true then (impl_Compile.l0 k (([] : List Int)) 0 l0_0 (l0_0.length : Int) 0 l0_0) else (some (([] : List (S81)), false))) = some (r1, r2) := H
 have A2 := Aside0.mk A20
 clear A20
 by_cases c3 : t102 = true
 ·subst c3
  have H1 : (impl_Compile.l0 k (([] : List Int)) 0 l0_0 (l0_0.length : Int) 0 l0_0) = some (r1, r2) := by rw [if_pos rfl] at H; exact H
  clear H
  have H := H1
  clear H1
  obtain ⟨y103, hy103⟩ : ∃ y_ : List Int, y_ = (([] : List Int)) := ⟨_, rfl⟩
  replace H : (impl_Compile.l0 k y103 0 l0_0 (l0_0.length : Int) 0 l0_0) = some (r1, r2) := by first | (rw [hy103]; with_reducible exact H) | (have H2_ := (Option.bind_some _ _).symm.trans H; rw [hy103]; with_reducible exact H2_) | (have H2_ := (Option.bind_some _ _).symm.trans H; with_reducible exact H2_) | with_reducible exact H | (rw [hy103]; exact H) | exact H
  have Ny103 := Aside0.mk hy103
  clear hy103
  have H' := Aside0.mk H
  clear H
  go_enter Try.func57, Try.ntmps57
  go_wp2_with (first | ((with_reducible refine gate_dst (N := 1) rfl ?_); refine box_event ?hg (N := 1) ?hd (cs := #[.slice A0_0 l0_0.length c0_0]) (t := 58) ?hr ?_; (case hd => rfl); (case hg => rfl); (case hr => first | (go_simp; done) | (go_simp; rfl)); intro gb101 hg w4 hbox hb; have n0_ := Aside0.mk (below_step (by repeat (first | (with_reducible first | exact HB.out | apply below_alloc | apply pw_below_drewN | apply below_drew1) | exact HB.out)) hb); have n1_ := Aside0.mk (hbox); have n2_ := Aside0.mk ((by rw [hg]; exact (below_size (by repeat (first | (with_reducible first | exact HB.out | apply below_alloc | apply pw_below_drewN | apply below_drew1) | exact HB.out))) : w.heap.size ≤ gb101)); have n3_ := Aside0.mk ((by rw [hg]; exact (below_size (by repeat (first | (with_reducible first | exact HB.out | apply below_alloc | apply pw_below_drewN | apply below_drew1) | exact HB.out))) : w.heap.size ≤ gb101)); clear HB; have HB := n0_; have BK101 := n1_; have GW101 := n2_; have GE101 := n3_; clear n0_ n1_ n2_ n3_; clear hb hbox hg; have hcz5_0 : w4.cell? ⟨gb101, 0, none⟩ = some (.slice A0_0 l0_0.length c0_0) := (blk_cell BK101.out 0).trans rfl; have hfz5_0 := blk_frozen BK101.out 0) | ((with_reducible refine gate_callee (f := 44) rfl ?_); refine goesL_ (some 15) rfl rfl Try.func44 (by kernel_rfl) rfl #[.agg #[.slice A0_0 l0_0.length c0_0]] rfl (by (try simp only [List.map_toArray, List.map_cons, List.map_nil]); first | done | rfl | (simp only [List.length_drop, List.length_take]; rfl)) ?_; (with_reducible refine (impl_CodeOk.calls _ _ l0_0 true _ ?side1 ?side2 A2.out).mono ?_); (case side1 => repeat (first | exact (Kd.C_below HR0_0.out HB.out) | (with_reducible refine Kd.C_alloc ?_ _) | (with_reducible refine Kd.C_drewN ?_ _) | (with_reducible refine Kd.C_drew ?_))); (case side2 => exact HC0_0.out); rintro e w6 ⟨rfl, hb⟩; refine ⟨_, rfl, ?_⟩; have n0_ := Aside0.mk (blk_below (g := gb101) (o := .cells #[.slice A0_0 l0_0.length c0_0] 58 (0, 0)) (by (with_reducible repeat (first | refine blk_drewN ?_ _ | refine blk_drew ?_ | refine blk_alloc ?_ _)); exact BK101.out) hb); have n1_ := Aside0.mk (below_step (by repeat (first | (with_reducible first | exact HB.out | apply below_alloc | apply pw_below_drewN | apply below_drew1 | refine below_set ?_ GE101.out) | exact HB.out)) hb); clear BK101; clear HB; have BK101 := n0_; have HB := n1_; clear n0_ n1_; (try clear hb); (try clear hb2); (try clear hk); (try clear hi)) | ((with_reducible refine gate_dst (N := 17) rfl ?_); refine Kd.R_lit (Kd.int .i64) _ 2 ?hg (N := 17) ?hd (xs := ([] : List Int)) (inner := []) (ok := fun _ => True) (okp := fun _ => True) ?hr ?hp (fun _ hk => hk) trivial (Below.refl _ _) (Nat.le_refl _) (by simp) ?_; (case hd => rfl); (case hg => rfl); (case hr => first | (go_simp; done) | (go_simp; rfl)); (case hp => exact (Reps.none _ _)); intro v104 w7 ho8 hb hg_ hnew_; clear hg_ hnew_; (first | rw [← Ny103.out] at ho8 | (simp only [Int.reduceToNat] at ho8; rw [← Ny103.out] at ho8)); have n0_ := Aside0.mk (Kd.R_lower ho8 (below_size (by repeat (first | (with_reducible first | exact HB.out | apply below_alloc | apply pw_below_drewN | apply below_drew1 | refine below_set ?_ GE101.out) | exact HB.out)))); have n1_ := Aside0.mk (blk_below (g := gb101) (o := .cells #[.slice A0_0 l0_0.length c0_0] 58 (0, 0)) (by (with_reducible repeat (first | refine blk_drewN ?_ _ | refine blk_drew ?_ | refine blk_alloc ?_ _)); exact BK101.out) hb); have n2_ := Aside0.mk (below_step (by repeat (first | (with_reducible first | exact HB.out | apply below_alloc | apply pw_below_drewN | apply below_drew1 | refine below_set ?_ GE101.out) | exact HB.out)) hb); clear BK101; clear HB; have HO105 := n0_; have BK101 := n1_; have HB := n2_; clear n0_ n1_ n2_; clear hb ho8; have hcz9_0 : w7.cell? ⟨gb101, 0, none⟩ = some (.slice A0_0 l0_0.length c0_0) := (blk_cell BK101.out 0).trans rfl; have hfz9_0 := blk_frozen BK101.out 0))
  go_loopg [4, 5, 21] k (fun kq v4 v5 v21 w' => ∃ (x4_1 : List Int) (x5_1 : Int) (x21_1 : Int), v5 = .int .i64 x5_1 ∧ v21 = .int .i64 x21_1 ∧ Aside0 (impl_Compile.l0 kq x4_1 x5_1 l0_0 (l0_0.length : Int) x21_1 l0_0 = some (r1, r2)) ∧ Aside0 (kq ≤ k) ∧ Aside0 (Kd.R (Kd.int .i64) 2 w' w.heap.size (fun _ => True) v4 x4_1) ∧ Aside0 (w'.heap[gb101]? = some (.cells #[(.slice A0_0 l0_0.length c0_0)] 58 (0, 0))) ∧ Aside0 (Below w.heap.size w w'))
  case atStart => exact ⟨(y103), (0), (0), (by first | rfl | (simp; done) | (simp [*]; done)), (by first | rfl | (simp; done) | (simp [*]; done)), H', ⟨Nat.le_refl _⟩, ⟨by (with_reducible repeat (first | apply Kd.R_alloc | apply Kd.R_drewN | apply Kd.R_drew)); exact HO105.out⟩, ⟨by (with_reducible repeat (first | refine blk_drewN ?_ _ | refine blk_drew ?_ | refine blk_alloc ?_ _)); exact BK101.out⟩, ⟨by repeat (first | (with_reducible first | exact HB.out | apply below_alloc | apply pw_below_drewN | apply below_drew1 | refine below_set ?_ GE101.out) | exact HB.out)⟩⟩
  case round =>
   clear H'
   try clear p2
   try clear c3
   try clear c4
   try clear c5
   try clear hcz5_0
   try clear hcz9_0
   try clear hfz5_0
   try clear hfz9_0
   obtain ⟨x4_1, x5_1, x21_1, rfl, rfl, HA, HK1, HO_4, BK101, HB⟩ := hrel
   cases gk with
   | zero => exact absurd HA.out (by simp [impl_Compile.l0])
   | succ k1 =>
    have H := HA.out
    clear HA
    simp only [impl_Compile.l0] at H
    by_cases c10 : x21_1 < (l0_0.length : Int)
    ·rw [if_pos c10] at H
     have c10b0 : decide (x21_1 < (l0_0.length : Int)) = true := decide_eq_true c10
     clear c10
     by_cases c11 : 0 ≤ x21_1
     ·rw [if_pos c11] at H
      have c11b0 : decide (0 ≤ x21_1) = true := decide_eq_true c11
      clear c11
      by_cases c12 : x21_1 < (l0_0.length : Int)
      ·rw [if_pos c12] at H
       have c12b0 : decide (x21_1 < (l0_0.length : Int)) = true := decide_eq_true c12
       clear c12
       by_cases c13 : x4_1.length < 17592186044416
       ·rw [if_pos c13] at H
        have LMc13 := Aside0.mk c13
        clear c13
        obtain ⟨y108, hy108⟩ : ∃ y_ : List Int, y_ = (x4_1 ++ [x5_1]) := ⟨_, rfl⟩
        replace H : ((impl_stepsIn.f ((rd_T99 l0_0 x21_1).f0) ((rd_T99 l0_0 x21_1).f1) ((rd_T99 l0_0 x21_1).f2)).bind fun t111 => (impl_Compile.l0 k1 y108 (wrap64 (x5_1 + t111)) l0_0 (l0_0.length : Int) (wrap64 (x21_1 + 1)) l0_0)) = some (r1, r2) := by first | (rw [hy108]; with_reducible exact H) | (have H2_ := (Option.bind_some _ _).symm.trans H; rw [hy108]; with_reducible exact H2_) | (have H2_ := (Option.bind_some _ _).symm.trans H; with_reducible exact H2_) | with_reducible exact H | (rw [hy108]; exact H) | exact H
        have Ny108 := Aside0.mk hy108
        clear hy108
        replace H := Option.bind_eq_some_iff.mp H
        obtain ⟨t111, A140, H⟩ := H
        replace H : (impl_Compile.l0 k1 y108 (wrap64 (x5_1 + t111)) l0_0 (l0_0.length : Int) (wrap64 (x21_1 + 1)) l0_0) = some (r1, r2) := H
        have A14 := Aside0.mk A140
        clear A140
        have H' := Aside0.mk H
        clear H
        have p106 : 0 ≤ (x21_1 : Int) := of_decide_eq_true (by first | (with_reducible assumption) | assumption)
        have q106 : x21_1 < (l0_0.length : Int) := of_decide_eq_true (by first | (with_reducible assumption) | assumption)
        obtain ⟨ad106, A106_1, c106_1, e106, hx106_0, hx106_1, hx106_2, hl106_1, hi106_1⟩ := at_T99 HR0_0.out x21_1 p106 q106
        cases e106
        replace hx106_0 := (HB.out.cell (World.block_lt_of_cell? w _ hx106_0)).trans hx106_0
        replace hx106_1 := (HB.out.cell (World.block_lt_of_cell? w _ hx106_1)).trans hx106_1
        replace hx106_2 := (HB.out.cell (World.block_lt_of_cell? w _ hx106_2)).trans hx106_2
        have HR106_1 := Aside0.mk hi106_1
        have HC106_1 := Aside0.mk hl106_1
        clear hi106_1 hl106_1
        replace p106 := eq_true p106
        replace q106 := eq_true q106
        go_wp2_with (first | ((with_reducible refine gate_dst (N := 7) rfl ?_); refine box_event ?hg (N := 7) ?hd (cs := #[.int .i64 0, .slice none 0 0, .int .i64 0]) (t := 99) ?hr ?_; (case hd => rfl); (case hg => rfl); (case hr => first | (go_simp; done) | (go_simp; rfl)); intro gb107 hg w15 hbox hb; have n0_ := Aside0.mk (Kd.R_below (by (with_reducible repeat (first | apply Kd.R_alloc | apply Kd.R_drewN | apply Kd.R_drew)); exact HO_4.out) hb); have n1_ := Aside0.mk (blk_below (g := gb101) (o := .cells #[.slice (some ad106) l0_0.length c0_0] 58 (0, 0)) (by (with_reducible repeat (first | refine blk_drewN ?_ _ | refine blk_drew ?_ | refine blk_alloc ?_ _)); exact BK101.out) hb); have n2_ := Aside0.mk (below_step (by repeat (first | (with_reducible first | exact HB.out | apply below_alloc | apply pw_below_drewN | apply below_drew1 | refine below_set ?_ GE101.out) | exact HB.out)) hb); have n3_ := Aside0.mk (hbox); have n4_ := Aside0.mk ((by rw [hg]; exact (below_size (by repeat (first | (with_reducible first | exact HB.out | apply below_alloc | apply pw_below_drewN | apply below_drew1 | refine below_set ?_ GE101.out) | exact HB.out))) : w.heap.size ≤ gb107)); have n5_ := Aside0.mk ((by rw [hg]; exact (below_size (by repeat (first | (with_reducible first | exact HB.out | apply below_alloc | apply pw_below_drewN | apply below_drew1 | refine below_set ?_ GE101.out) | exact HB.out))) : w.heap.size ≤ gb107)); have n6_ := Aside0.mk ((by rw [hg]; exact Nat.ne_of_lt (blk_lt (g := gb101) (o := .cells #[.slice (some ad106) l0_0.length c0_0] 58 (0, 0)) (by (with_reducible repeat (first | refine blk_drewN ?_ _ | refine blk_drew ?_ | refine blk_alloc ?_ _)); exact BK101.out)) : gb101 ≠ gb107)); have n7_ := Aside0.mk ((by rw [hg]; exact Nat.ne_of_gt (blk_lt (g := gb101) (o := .cells #[.slice (some ad106) l0_0.length c0_0] 58 (0, 0)) (by (with_reducible repeat (first | refine blk_drewN ?_ _ | refine blk_drew ?_ | refine blk_alloc ?_ _)); exact BK101.out)) : gb107 ≠ gb101)); clear HO_4; clear BK101; clear HB; have HO_4 := n0_; have BK101 := n1_; have HB := n2_; have BK107 := n3_; have GW107 := n4_; have GE107 := n5_; have NB101_107 := n6_; have NB107_101 := n7_; clear n0_ n1_ n2_ n3_ n4_ n5_ n6_ n7_; clear hb hbox hg; have hnb16 := NB107_101.out; have hnc16 := NB101_107.out; have hcz17_0 : w15.cell? ⟨gb107, 0, none⟩ = some (.int .i64 0) := (blk_cell BK107.out 0).trans rfl; have hcz17_1 : w15.cell? ⟨gb107, 1, none⟩ = some (.slice none 0 0) := (blk_cell BK107.out 1).trans rfl; have hcz17_2 : w15.cell? ⟨gb107, 2, none⟩ = some (.int .i64 0) := (blk_cell BK107.out 2).trans rfl; have hfz17_0 := blk_frozen BK107.out 0; have hfz17_1 := blk_frozen BK107.out 1; have hfz17_2 := blk_frozen BK107.out 2) | ((with_reducible refine gate_builtin (b := .append) (xs := #[.tmp 25, .tmp 27]) rfl ?_); at_builtin; refine Kd.R_append (Kd.int .i64) (w0 := w) w.heap.size rfl (.tmp 25) (.tmp 27) 37 2 (.int .i64 0) 8 rfl Try.underlying37 info2 rfl (by decide) (by omega) u4 x4_1 x5_1 [.int .i64 x5_1] (fun _ => True) (fun _ => False) rfl (by first | (go_simp; done) | (go_simp; rfl)) ?aP (fun _ hk => hk.elim) ?aF ?aO ?aB ?aS ?aL ?_; (case aP => exact rfl); (case aB => exact (by repeat (first | (with_reducible first | exact HB.out | apply below_alloc | apply pw_below_drewN | apply below_drew1 | refine below_set ?_ GE101.out | refine below_set ?_ GE107.out) | exact HB.out))); (case aF => exact (fun _ _ => trivial)); (case aO => exact (by (with_reducible repeat (first | apply Kd.R_alloc | apply Kd.R_drewN | apply Kd.R_drew)); exact Kd.R_mono (Kd.R_far (p := ⟨gb107, 2, none⟩) (Kd.R_far (p := ⟨gb107, 1, none⟩) (Kd.R_far (p := ⟨gb107, 0, none⟩) (Kd.R_types HO_4.out BK107.out (by decide)) (fun _ hk => hk.2) (.int .i64 ((rd_T99 l0_0 x21_1).f0))) (fun _ hk => hk.2) (.slice A106_1 ((rd_T99 l0_0 x21_1).f1).length c106_1)) (fun _ hk => hk.2) (.int .i64 ((rd_T99 l0_0 x21_1).f2))) (fun _ hk => trivial))); (case aS => exact (below_size (by repeat (first | (with_reducible first | exact HB.out | apply below_alloc | apply pw_below_drewN | apply below_drew1 | refine below_set ?_ GE101.out | refine below_set ?_ GE107.out) | exact HB.out)))); (case aL => have := LMc13.out; omega); intro v109 w18 ho hb hg hat; rw [← Ny108.out] at ho; have n0_ := Aside0.mk (blk_grown (g := gb101) (o := .cells #[.slice (some ad106) l0_0.length c0_0] 58 (0, 0)) (by (with_reducible repeat (first | refine blk_drewN ?_ _ | refine blk_drew ?_ | refine blk_alloc ?_ _)); refine blk_far ?_ NB101_107.out _; (with_reducible repeat (first | refine blk_drewN ?_ _ | refine blk_drew ?_ | refine blk_alloc ?_ _)); refine blk_far ?_ NB101_107.out _; (with_reducible repeat (first | refine blk_drewN ?_ _ | refine blk_drew ?_ | refine blk_alloc ?_ _)); refine blk_far ?_ NB101_107.out _; (with_reducible repeat (first | refine blk_drewN ?_ _ | refine blk_drew ?_ | refine blk_alloc ?_ _)); exact BK101.out) hg (Kd.R_ne HO_4.out BK101.out (by decide))); have n1_ := Aside0.mk (blk_grown (g := gb107) (o := .cells #[.int .i64 ((rd_T99 l0_0 x21_1).f0), .slice A106_1 ((rd_T99 l0_0 x21_1).f1).length c106_1, .int .i64 ((rd_T99 l0_0 x21_1).f2)] 99 (0, 0)) (by (with_reducible repeat (first | refine blk_drewN ?_ _ | refine blk_drew ?_ | refine blk_alloc ?_ _)); refine blk_put (cs := #[.int .i64 ((rd_T99 l0_0 x21_1).f0), .slice A106_1 ((rd_T99 l0_0 x21_1).f1).length c106_1, .int .i64 0]) ?_ 2 _ rfl; (with_reducible repeat (first | refine blk_drewN ?_ _ | refine blk_drew ?_ | refine blk_alloc ?_ _)); refine blk_put (cs := #[.int .i64 ((rd_T99 l0_0 x21_1).f0), .slice none 0 0, .int .i64 0]) ?_ 1 _ rfl; (with_reducible repeat (first | refine blk_drewN ?_ _ | refine blk_drew ?_ | refine blk_alloc ?_ _)); refine blk_put (cs := #[.int .i64 0, .slice none 0 0, .int .i64 0]) ?_ 0 _ rfl; (with_reducible repeat (first | refine blk_drewN ?_ _ | refine blk_drew ?_ | refine blk_alloc ?_ _)); exact BK107.out) hg (Kd.R_ne HO_4.out BK107.out (by decide))); have n2_ := Aside0.mk (hb); have n3_ := Aside0.mk (ho); clear BK101; clear BK107; clear HB; clear HO_4; have BK101 := n0_; have BK107 := n1_; have HB := n2_; have HO110 := n3_; clear n0_ n1_ n2_ n3_; clear ho hb hg hat; have hcz19_0 : w18.cell? ⟨gb107, 0, none⟩ = some (.int .i64 ((rd_T99 l0_0 x21_1).f0)) := (blk_cell BK107.out 0).trans rfl; have hcz19_1 : w18.cell? ⟨gb107, 1, none⟩ = some (.slice A106_1 ((rd_T99 l0_0 x21_1).f1).length c106_1) := (blk_cell BK107.out 1).trans rfl; have hcz19_2 : w18.cell? ⟨gb107, 2, none⟩ = some (.int .i64 ((rd_T99 l0_0 x21_1).f2)) := (blk_cell BK107.out 2).trans rfl; have hfz19_0 := blk_frozen BK107.out 0; have hfz19_1 := blk_frozen BK107.out 1; have hfz19_2 := blk_frozen BK107.out 2) | ((with_reducible refine gate_callee (f := 95) rfl ?_); refine goesL_ (some 31) rfl rfl Try.func95 (by kernel_rfl) rfl #[.agg #[.int .i64 ((rd_T99 l0_0 x21_1).f0), .slice A106_1 ((rd_T99 l0_0 x21_1).f1).length c106_1, .int .i64 ((rd_T99 l0_0 x21_1).f2)]] rfl (by (try simp only [List.map_toArray, List.map_cons, List.map_nil]); first | done | rfl | (simp only [List.length_drop, List.length_take]; rfl)) ?_; (with_reducible refine (impl_stepsIn.calls ((rd_T99 l0_0 x21_1).f0) _ _ ((rd_T99 l0_0 x21_1).f1) ((rd_T99 l0_0 x21_1).f2) t111 _ ?side1 ?side2 A14.out).mono ?_); (case side1 => repeat (first | exact (Kd.C_below HR106_1.out HB.out) | (with_reducible refine Kd.C_alloc ?_ _) | (with_reducible refine Kd.C_drewN ?_ _) | (with_reducible refine Kd.C_drew ?_))); (case side2 => exact HC106_1.out); rintro e w20 ⟨rfl, hb⟩; refine ⟨_, rfl, ?_⟩; have n0_ := Aside0.mk (Kd.R_below (by (with_reducible repeat (first | apply Kd.R_alloc | apply Kd.R_drewN | apply Kd.R_drew)); exact HO110.out) hb); have n1_ := Aside0.mk (blk_below (g := gb101) (o := .cells #[.slice (some ad106) l0_0.length c0_0] 58 (0, 0)) (by (with_reducible repeat (first | refine blk_drewN ?_ _ | refine blk_drew ?_ | refine blk_alloc ?_ _)); exact BK101.out) hb); have n2_ := Aside0.mk (blk_below (g := gb107) (o := .cells #[.int .i64 ((rd_T99 l0_0 x21_1).f0), .slice A106_1 ((rd_T99 l0_0 x21_1).f1).length c106_1, .int .i64 ((rd_T99 l0_0 x21_1).f2)] 99 (0, 0)) (by (with_reducible repeat (first | refine blk_drewN ?_ _ | refine blk_drew ?_ | refine blk_alloc ?_ _)); exact BK107.out) hb); have n3_ := Aside0.mk (below_step (by repeat (first | (with_reducible first | exact HB.out | apply below_alloc | apply pw_below_drewN | apply below_drew1 | refine below_set ?_ GE101.out | refine below_set ?_ GE107.out) | exact HB.out)) hb); clear HO110; clear BK101; clear BK107; clear HB; have HO110 := n0_; have BK101 := n1_; have BK107 := n2_; have HB := n3_; clear n0_ n1_ n2_ n3_; (try clear hb); (try clear hb2); (try clear hk); (try clear hi)))
        go_roundg k1
        case measure => have := HK1.out; omega
        case rel => exact ⟨(y108), (wrap64 (x5_1 + t111)), (wrap64 (x21_1 + 1)), (by first | rfl | (simp; done) | (simp [*]; done)), (by first | rfl | (simp; done) | (simp [*]; done)), H', ⟨by have := HK1.out; omega⟩, ⟨by (with_reducible repeat (first | apply Kd.R_alloc | apply Kd.R_drewN | apply Kd.R_drew)); exact HO110.out⟩, ⟨by (with_reducible repeat (first | refine blk_drewN ?_ _ | refine blk_drew ?_ | refine blk_alloc ?_ _)); exact BK101.out⟩, ⟨by repeat (first | (with_reducible first | exact HB.out | apply below_alloc | apply pw_below_drewN | apply below_drew1 | refine below_set ?_ GE101.out | refine below_set ?_ GE107.out) | exact HB.out)⟩⟩
       ·rw [if_neg c13] at H
        exact absurd H (by simp)
      ·rw [if_neg c12] at H
       exact absurd H (by simp)
     ·rw [if_neg c11] at H
      exact absurd H (by simp)
    ·rw [if_neg c10] at H
     have c10b0 : decide (x21_1 < (l0_0.length : Int)) = false := decide_eq_false c10
     clear c10
     by_cases c21 : x5_1 > 60000
     ·rw [if_pos c21] at H
      have c21b0 : decide (60000 < x5_1) = true := decide_eq_true c21
      clear c21
      simp only [Option.some.injEq, Prod.mk.injEq] at H
      obtain ⟨rfl, rfl⟩ := H
      go_wp2
      go_ret2
      exact ⟨_, by first | rfl | (simp [errW_none, errW_some] <;> rfl) | (simp [*, errW_none, errW_some] <;> rfl), by first | exact Kd.R_nil _ _ _ _ _ | exact Kd.N_nil _ _ _ _ _ | exact Kd.V_nil _ _ _ _ _ | exact Kd.Q_nil _ _ _ _ _ | exact Kd.S_nil _ _ _ _ _, by repeat (first | (with_reducible first | exact HB.out | apply below_alloc | apply pw_below_drewN | apply below_drew1 | refine below_set ?_ GE101.out) | exact HB.out)⟩
     ·rw [if_neg c21] at H
      have c21b0 : decide (60000 < x5_1) = false := decide_eq_false c21
      clear c21
      obtain ⟨y112, hy112⟩ : ∃ y_ : List (S81), y_ = (([] : List (S81))) := ⟨_, rfl⟩
      replace H : (impl_Compile.l1 k1 x4_1 y112 l0_0 (l0_0.length : Int) 0) = some (r1, r2) := by first | (rw [hy112]; with_reducible exact H) | (have H2_ := (Option.bind_some _ _).symm.trans H; rw [hy112]; with_reducible exact H2_) | (have H2_ := (Option.bind_some _ _).symm.trans H; with_reducible exact H2_) | with_reducible exact H | (rw [hy112]; exact H) | exact H
      have Ny112 := Aside0.mk hy112
      clear hy112
      have H' := Aside0.mk H
      clear H
      go_wp2_with (first | ((with_reducible refine gate_dst (N := 36) rfl ?_); refine Kd.R_lit k81 _ 81 ?hg (N := 36) ?hd (xs := ([] : List (S81))) (inner := []) (ok := fun _ => True) (okp := fun _ => True) ?hr ?hp (fun _ hk => hk) trivial (Below.refl _ _) (Nat.le_refl _) (by simp) ?_; (case hd => rfl); (case hg => rfl); (case hr => first | (go_simp; done) | (go_simp; rfl)); (case hp => exact (Reps.none _ _)); intro v113 w22 ho23 hb hg_ hnew_; clear hg_ hnew_; (first | rw [← Ny112.out] at ho23 | (simp only [Int.reduceToNat] at ho23; rw [← Ny112.out] at ho23)); have n0_ := Aside0.mk (Kd.R_below (by (with_reducible repeat (first | apply Kd.R_alloc | apply Kd.R_drewN | apply Kd.R_drew)); exact HO_4.out) hb); have n1_ := Aside0.mk (Kd.R_lower ho23 (below_size (by repeat (first | (with_reducible first | exact HB.out | apply below_alloc | apply pw_below_drewN | apply below_drew1 | refine below_set ?_ GE101.out) | exact HB.out)))); have n2_ := Aside0.mk (blk_below (g := gb101) (o := .cells #[.slice A0_0 l0_0.length c0_0] 58 (0, 0)) (by (with_reducible repeat (first | refine blk_drewN ?_ _ | refine blk_drew ?_ | refine blk_alloc ?_ _)); exact BK101.out) hb); have n3_ := Aside0.mk (below_step (by repeat (first | (with_reducible first | exact HB.out | apply below_alloc | apply pw_below_drewN | apply below_drew1 | refine below_set ?_ GE101.out) | exact HB.out)) hb); clear HO_4; clear BK101; clear HB; have HO_4 := n0_; have HO114 := n1_; have BK101 := n2_; have HB := n3_; clear n0_ n1_ n2_ n3_; clear hb ho23; have hcz24_0 : w22.cell? ⟨gb101, 0, none⟩ = some (.slice A0_0 l0_0.length c0_0) := (blk_cell BK101.out 0).trans rfl; have hfz24_0 := blk_frozen BK101.out 0))
      go_loopg [8, 40] k1 (fun kq v8 v40 w' => ∃ (x8_2 : List (S81)) (x40_2 : Int), v40 = .int .i64 x40_2 ∧ Aside0 (impl_Compile.l1 kq x4_1 x8_2 l0_0 (l0_0.length : Int) x40_2 = some (r1, r2)) ∧ Aside0 (kq ≤ k1) ∧ Aside0 (Kd.R (Kd.int .i64) 2 w' w.heap.size (fun _ => True) u4 x4_1) ∧ Aside0 (Kd.R k81 81 w' w.heap.size (fun _ => True) v8 x8_2) ∧ Aside0 (w'.heap[gb101]? = some (.cells #[(.slice A0_0 l0_0.length c0_0)] 58 (0, 0))) ∧ Aside0 (Below w.heap.size w w'))
      case atStart => exact ⟨(y112), (0), (by first | rfl | (simp; done) | (simp [*]; done)), H', ⟨Nat.le_refl _⟩, ⟨by (with_reducible repeat (first | apply Kd.R_alloc | apply Kd.R_drewN | apply Kd.R_drew)); exact HO_4.out⟩, ⟨by (with_reducible repeat (first | apply Kd.R_alloc | apply Kd.R_drewN | apply Kd.R_drew)); exact HO114.out⟩, ⟨by (with_reducible repeat (first | refine blk_drewN ?_ _ | refine blk_drew ?_ | refine blk_alloc ?_ _)); exact BK101.out⟩, ⟨by repeat (first | (with_reducible first | exact HB.out | apply below_alloc | apply pw_below_drewN | apply below_drew1 | refine below_set ?_ GE101.out) | exact HB.out)⟩⟩
      case round =>
       clear H'
       try clear c1
       try clear p1
       try clear q1
       try clear hx1
       try clear c2
       try clear p2
       try clear c3
       try clear c4
       try clear c5
       try clear p6
       try clear c9
       try clear c10
       try clear c10b0
       try clear p10
       try clear q10
       try clear hx10
       try clear c11
       try clear c11b0
       try clear c12
       try clear c12b0
       try clear c13
       try clear c16
       try clear c21
       try clear c21b0
       try clear hcz17_0
       try clear hcz17_1
       try clear hcz17_2
       try clear hcz19_0
       try clear hcz19_1
       try clear hcz19_2
       try clear hcz24_0
       try clear hcz5_0
       try clear hcz9_0
       try clear hfz17_0
       try clear hfz17_1
       try clear hfz17_2
       try clear hfz19_0
       try clear hfz19_1
       try clear hfz19_2
       try clear hfz24_0
       try clear hfz5_0
       try clear hfz9_0
       try clear hx106_0
       try clear hx106_1
       try clear hx106_2
       try clear p106
       try clear p2
       try clear q106
       obtain ⟨x8_2, x40_2, rfl, HA, HK2, HO_4, HO_8, BK101, HB⟩ := hrel
       cases gk with
       | zero => exact absurd HA.out (by simp [impl_Compile.l1])
       | succ k2 =>
        have H := HA.out
        clear HA
        simp only [impl_Compile.l1] at H
        by_cases c25 : x40_2 < (l0_0.length : Int)
        ·rw [if_pos c25] at H
         have c25b0 : decide (x40_2 < (l0_0.length : Int)) = true := decide_eq_true c25
         clear c25
         by_cases c26 : 0 ≤ x40_2
         ·rw [if_pos c26] at H
          have c26b0 : decide (0 ≤ x40_2) = true := decide_eq_true c26
          clear c26
          by_cases c27 : x40_2 < (l0_0.length : Int)
          ·rw [if_pos c27] at H
           have c27b0 : decide (x40_2 < (l0_0.length : Int)) = true := decide_eq_true c27
           clear c27
           have HC28 := Aside0.mk H
           clear H
           have p115 : 0 ≤ (x40_2 : Int) := of_decide_eq_true (by first | (with_reducible assumption) | assumption)
           have q115 : x40_2 < (l0_0.length : Int) := of_decide_eq_true (by first | (with_reducible assumption) | assumption)
           obtain ⟨ad115, A115_1, c115_1, e115, hx115_0, hx115_1, hx115_2, hl115_1, hi115_1⟩ := at_T99 HR0_0.out x40_2 p115 q115
           cases e115
           replace hx115_0 := (HB.out.cell (World.block_lt_of_cell? w _ hx115_0)).trans hx115_0
           replace hx115_1 := (HB.out.cell (World.block_lt_of_cell? w _ hx115_1)).trans hx115_1
           replace hx115_2 := (HB.out.cell (World.block_lt_of_cell? w _ hx115_2)).trans hx115_2
           have HR115_1 := Aside0.mk hi115_1
           have HC115_1 := Aside0.mk hl115_1
           clear hi115_1 hl115_1
           replace p115 := eq_true p115
           replace q115 := eq_true q115
           go_upto_if 47 with (first | ((with_reducible refine gate_dst (N := 10) rfl ?_); refine box_event ?hg (N := 10) ?hd (cs := #[.int .i64 0, .slice none 0 0, .int .i64 0]) (t := 99) ?hr ?_; (case hd => rfl); (case hg => rfl); (case hr => first | (go_simp; done) | (go_simp; rfl)); intro gb116 hg w29 hbox hb; have n0_ := Aside0.mk (Kd.R_below (by (with_reducible repeat (first | apply Kd.R_alloc | apply Kd.R_drewN | apply Kd.R_drew)); exact HO_4.out) hb); have n1_ := Aside0.mk (Kd.R_below (by (with_reducible repeat (first | apply Kd.R_alloc | apply Kd.R_drewN | apply Kd.R_drew)); exact HO_8.out) hb); have n2_ := Aside0.mk (blk_below (g := gb101) (o := .cells #[.slice (some ad115) l0_0.length c0_0] 58 (0, 0)) (by (with_reducible repeat (first | refine blk_drewN ?_ _ | refine blk_drew ?_ | refine blk_alloc ?_ _)); exact BK101.out) hb); have n3_ := Aside0.mk (below_step (by repeat (first | (with_reducible first | exact HB.out | apply below_alloc | apply pw_below_drewN | apply below_drew1 | refine below_set ?_ GE101.out) | exact HB.out)) hb); have n4_ := Aside0.mk (hbox); have n5_ := Aside0.mk ((by rw [hg]; exact (below_size (by repeat (first | (with_reducible first | exact HB.out | apply below_alloc | apply pw_below_drewN | apply below_drew1 | refine below_set ?_ GE101.out) | exact HB.out))) : w.heap.size ≤ gb116)); have n6_ := Aside0.mk ((by rw [hg]; exact (below_size (by repeat (first | (with_reducible first | exact HB.out | apply below_alloc | apply pw_below_drewN | apply below_drew1 | refine below_set ?_ GE101.out) | exact HB.out))) : w.heap.size ≤ gb116)); have n7_ := Aside0.mk ((by rw [hg]; exact Nat.ne_of_lt (blk_lt (g := gb101) (o := .cells #[.slice (some ad115) l0_0.length c0_0] 58 (0, 0)) (by (with_reducible repeat (first | refine blk_drewN ?_ _ | refine blk_drew ?_ | refine blk_alloc ?_ _)); exact BK101.out)) : gb101 ≠ gb116)); have n8_ := Aside0.mk ((by rw [hg]; exact Nat.ne_of_gt (blk_lt (g := gb101) (o := .cells #[.slice (some ad115) l0_0.length c0_0] 58 (0, 0)) (by (with_reducible repeat (first | refine blk_drewN ?_ _ | refine blk_drew ?_ | refine blk_alloc ?_ _)); exact BK101.out)) : gb116 ≠ gb101)); clear HO_4; clear HO_8; clear BK101; clear HB; have HO_4 := n0_; have HO_8 := n1_; have BK101 := n2_; have HB := n3_; have BK116 := n4_; have GW116 := n5_; have GE116 := n6_; have NB101_116 := n7_; have NB116_101 := n8_; clear n0_ n1_ n2_ n3_ n4_ n5_ n6_ n7_ n8_; clear hb hbox hg; have hnb30 := NB116_101.out; have hnc30 := NB101_116.out; have hcz31_0 : w29.cell? ⟨gb116, 0, none⟩ = some (.int .i64 0) := (blk_cell BK116.out 0).trans rfl; have hcz31_1 : w29.cell? ⟨gb116, 1, none⟩ = some (.slice none 0 0) := (blk_cell BK116.out 1).trans rfl; have hcz31_2 : w29.cell? ⟨gb116, 2, none⟩ = some (.int .i64 0) := (blk_cell BK116.out 2).trans rfl; have hfz31_0 := blk_frozen BK116.out 0; have hfz31_1 := blk_frozen BK116.out 1; have hfz31_2 := blk_frozen BK116.out 2))
           (try simp only [Act.put, List.setIfInBounds_toArray, List.set_cons_zero, List.set_cons_succ])
           go_cut [8] (fun v8 wc => ∃ (kq : Nat) (x8_27 : List (S81)), Aside0 (impl_Compile.j2 kq x4_1 x8_27 x40_2 l0_0 (l0_0.length : Int) x40_2 ((rd_T99 l0_0 x40_2).f0) ((rd_T99 l0_0 x40_2).f1) ((rd_T99 l0_0 x40_2).f2) = some (r1, r2)) ∧ Aside0 (kq ≤ k2) ∧ Aside0 (Kd.R (Kd.int .i64) 2 wc w.heap.size (fun _ => True) u4 x4_1) ∧ Aside0 (Kd.R k81 81 wc w.heap.size (fun _ => True) v8 x8_27) ∧ Aside0 (wc.heap[gb101]? = some (.cells #[(.slice (some ad115) l0_0.length c0_0)] 58 (0, 0))) ∧ Aside0 (wc.heap[gb116]? = some (.cells #[.int .i64 ((rd_T99 l0_0 x40_2).f0), (.slice A115_1 ((rd_T99 l0_0 x40_2).f1).length c115_1), .int .i64 ((rd_T99 l0_0 x40_2).f2)] 99 (0, 0))) ∧ Aside0 (Below w.heap.size w wc))
           case first =>
            have H := HC28.out
            clear HC28
            by_cases c32 : ((rd_T99 l0_0 x40_2).f0) ≥ 0
            ·rw [if_pos c32] at H
             have c32b0 : decide (0 ≤ ((rd_T99 l0_0 x40_2).f0)) = true := decide_eq_true c32
             clear c32
             (first | rw [c32b0] | (simp only [i64_w, i32_w]; rw [c32b0]) | skip)
             by_cases c33 : x8_2.length < 5864062014805
             ·rw [if_pos c33] at H
              have LMc33 := Aside0.mk c33
              clear c33
              obtain ⟨y117, hy117⟩ : ∃ y_ : List (S81), y_ = (x8_2 ++ [(⟨1, (rd_T99 l0_0 x40_2).f0, 0⟩ : S81)]) := ⟨_, rfl⟩
              replace H : (impl_Compile.j2 k2 x4_1 y117 x40_2 l0_0 (l0_0.length : Int) x40_2 ((rd_T99 l0_0 x40_2).f0) ((rd_T99 l0_0 x40_2).f1) ((rd_T99 l0_0 x40_2).f2)) = some (r1, r2) := by first | (rw [hy117]; with_reducible exact H) | (have H2_ := (Option.bind_some _ _).symm.trans H; rw [hy117]; with_reducible exact H2_) | (have H2_ := (Option.bind_some _ _).symm.trans H; with_reducible exact H2_) | with_reducible exact H | (rw [hy117]; exact H) | exact H
              have Ny117 := Aside0.mk hy117
              clear hy117
              have H' := Aside0.mk H
              clear H
              have hnb34 := NB116_101.out
              have hnc34 := NB101_116.out
              have hcz35_0 : w29.cell? ⟨gb116, 0, none⟩ = some (.int .i64 0) := (blk_cell BK116.out 0).trans rfl
              have hcz35_1 : w29.cell? ⟨gb116, 1, none⟩ = some (.slice none 0 0) := (blk_cell BK116.out 1).trans rfl
              have hcz35_2 : w29.cell? ⟨gb116, 2, none⟩ = some (.int .i64 0) := (blk_cell BK116.out 2).trans rfl
              have hfz35_0 := blk_frozen BK116.out 0
              have hfz35_1 := blk_frozen BK116.out 1
              have hfz35_2 := blk_frozen BK116.out 2
              go_wp2_with (first | ((with_reducible refine gate_builtin (b := .append) (xs := #[.tmp 48, .tmp 52]) rfl ?_); at_builtin; refine Kd.R_append k81 (w0 := w) w.heap.size rfl (.tmp 48) (.tmp 52) 25 81 (.agg #[(.int .i64 0), (.int .i64 0), (.int .i64 0)]) 24 rfl Try.underlying25 info81 rfl (by decide) (by omega) u8 x8_2 (⟨1, (rd_T99 l0_0 x40_2).f0, 0⟩ : S81) [.int .i64 1, .int .i64 ((rd_T99 l0_0 x40_2).f0), .int .i64 0] (fun _ => True) (fun _ => False) rfl (by first | (go_simp; done) | (go_simp; rfl)) ?aP (fun _ hk => hk.elim) ?aF ?aO ?aB ?aS ?aL ?_; (case aP => exact k81_mkM _ _ _ (⟨1, (rd_T99 l0_0 x40_2).f0, 0⟩ : S81)); (case aB => exact (by repeat (first | (with_reducible first | exact HB.out | apply below_alloc | apply pw_below_drewN | apply below_drew1 | refine below_set ?_ GE101.out | refine below_set ?_ GE116.out) | exact HB.out))); (case aF => exact (fun _ _ => trivial)); (case aO => exact (by (with_reducible repeat (first | apply Kd.R_alloc | apply Kd.R_drewN | apply Kd.R_drew)); exact Kd.R_mono (Kd.R_far (p := ⟨gb116, 2, none⟩) (Kd.R_far (p := ⟨gb116, 1, none⟩) (Kd.R_far (p := ⟨gb116, 0, none⟩) (Kd.R_types HO_8.out BK116.out (by decide)) (fun _ hk => hk.2) (.int .i64 ((rd_T99 l0_0 x40_2).f0))) (fun _ hk => hk.2) (.slice A115_1 ((rd_T99 l0_0 x40_2).f1).length c115_1)) (fun _ hk => hk.2) (.int .i64 ((rd_T99 l0_0 x40_2).f2))) (fun _ hk => trivial))); (case aS => exact (below_size (by repeat (first | (with_reducible first | exact HB.out | apply below_alloc | apply pw_below_drewN | apply below_drew1 | refine below_set ?_ GE101.out | refine below_set ?_ GE116.out) | exact HB.out)))); (case aL => have := LMc33.out; omega); intro v118 w36 ho hb hg hat; rw [← Ny117.out] at ho; have n0_ := Aside0.mk (Kd.R_over' (by (with_reducible repeat (first | apply Kd.R_alloc | apply Kd.R_drewN | apply Kd.R_drew)); exact (Kd.R_mono (Kd.R_far (p := ⟨gb116, 2, none⟩) (Kd.R_far (p := ⟨gb116, 1, none⟩) (Kd.R_far (p := ⟨gb116, 0, none⟩) (Kd.R_types HO_4.out BK116.out (by decide)) (fun _ hk => hk.2) (.int .i64 ((rd_T99 l0_0 x40_2).f0))) (fun _ hk => hk.2) (.slice A115_1 ((rd_T99 l0_0 x40_2).f1).length c115_1)) (fun _ hk => hk.2) (.int .i64 ((rd_T99 l0_0 x40_2).f2))) (fun _ h_ => h_.1))) (Kd.R_typed (by (with_reducible repeat (first | apply Kd.R_alloc | apply Kd.R_drewN | apply Kd.R_drew)); exact (Kd.R_mono (Kd.R_far (p := ⟨gb116, 2, none⟩) (Kd.R_far (p := ⟨gb116, 1, none⟩) (Kd.R_far (p := ⟨gb116, 0, none⟩) (Kd.R_types HO_8.out BK116.out (by decide)) (fun _ hk => hk.2) (.int .i64 ((rd_T99 l0_0 x40_2).f0))) (fun _ hk => hk.2) (.slice A115_1 ((rd_T99 l0_0 x40_2).f1).length c115_1)) (fun _ hk => hk.2) (.int .i64 ((rd_T99 l0_0 x40_2).f2))) (fun _ h_ => h_.1)))) (by decide) hg); have n1_ := Aside0.mk (blk_grown (g := gb101) (o := .cells #[.slice (some ad115) l0_0.length c0_0] 58 (0, 0)) (by (with_reducible repeat (first | refine blk_drewN ?_ _ | refine blk_drew ?_ | refine blk_alloc ?_ _)); refine blk_far ?_ NB101_116.out _; (with_reducible repeat (first | refine blk_drewN ?_ _ | refine blk_drew ?_ | refine blk_alloc ?_ _)); refine blk_far ?_ NB101_116.out _; (with_reducible repeat (first | refine blk_drewN ?_ _ | refine blk_drew ?_ | refine blk_alloc ?_ _)); refine blk_far ?_ NB101_116.out _; (with_reducible repeat (first | refine blk_drewN ?_ _ | refine blk_drew ?_ | refine blk_alloc ?_ _)); exact BK101.out) hg (Kd.R_ne HO_8.out BK101.out (by decide))); have n2_ := Aside0.mk (blk_grown (g := gb116) (o := .cells #[.int .i64 ((rd_T99 l0_0 x40_2).f0), .slice A115_1 ((rd_T99 l0_0 x40_2).f1).length c115_1, .int .i64 ((rd_T99 l0_0 x40_2).f2)] 99 (0, 0)) (by (with_reducible repeat (first | refine blk_drewN ?_ _ | refine blk_drew ?_ | refine blk_alloc ?_ _)); refine blk_put (cs := #[.int .i64 ((rd_T99 l0_0 x40_2).f0), .slice A115_1 ((rd_T99 l0_0 x40_2).f1).length c115_1, .int .i64 0]) ?_ 2 _ rfl; (with_reducible repeat (first | refine blk_drewN ?_ _ | refine blk_drew ?_ | refine blk_alloc ?_ _)); refine blk_put (cs := #[.int .i64 ((rd_T99 l0_0 x40_2).f0), .slice none 0 0, .int .i64 0]) ?_ 1 _ rfl; (with_reducible repeat (first | refine blk_drewN ?_ _ | refine blk_drew ?_ | refine blk_alloc ?_ _)); refine blk_put (cs := #[.int .i64 0, .slice none 0 0, .int .i64 0]) ?_ 0 _ rfl; (with_reducible repeat (first | refine blk_drewN ?_ _ | refine blk_drew ?_ | refine blk_alloc ?_ _)); exact BK116.out) hg (Kd.R_ne HO_8.out BK116.out (by decide))); have n3_ := Aside0.mk (hb); have n4_ := Aside0.mk (ho); clear HO_4; clear BK101; clear BK116; clear HB; clear HO_8; have HO_4 := n0_; have BK101 := n1_; have BK116 := n2_; have HB := n3_; have HO119 := n4_; clear n0_ n1_ n2_ n3_ n4_; clear ho hb hg hat))
              go_meet
              case rel => exact ⟨_, (y117), H', ⟨by have := HK1.out; have := HK2.out; first | omega | exact Nat.le_refl _⟩, ⟨by (with_reducible repeat (first | apply Kd.R_alloc | apply Kd.R_drewN | apply Kd.R_drew)); exact HO_4.out⟩, ⟨by (with_reducible repeat (first | apply Kd.R_alloc | apply Kd.R_drewN | apply Kd.R_drew)); exact HO119.out⟩, ⟨by (with_reducible repeat (first | refine blk_drewN ?_ _ | refine blk_drew ?_ | refine blk_alloc ?_ _)); exact BK101.out⟩, ⟨by (with_reducible repeat (first | refine blk_drewN ?_ _ | refine blk_drew ?_ | refine blk_alloc ?_ _)); exact BK116.out⟩, ⟨by repeat (first | (with_reducible first | exact HB.out | apply below_alloc | apply pw_below_drewN | apply below_drew1 | refine below_set ?_ GE101.out | refine below_set ?_ GE116.out) | exact HB.out)⟩⟩
             ·rw [if_neg c33] at H
              exact absurd H (by simp)
            ·rw [if_neg c32] at H
             have c32b0 : decide (0 ≤ ((rd_T99 l0_0 x40_2).f0)) = false := decide_eq_false c32
             clear c32
             (first | rw [c32b0] | (simp only [i64_w, i32_w]; rw [c32b0]) | skip)
             have H' := Aside0.mk H
             clear H
             go_wp2
             go_meet
             case rel => exact ⟨_, (x8_2), H', ⟨by have := HK1.out; have := HK2.out; first | omega | exact Nat.le_refl _⟩, ⟨by (with_reducible repeat (first | apply Kd.R_alloc | apply Kd.R_drewN | apply Kd.R_drew)); exact Kd.R_mono (Kd.R_far (p := ⟨gb116, 2, none⟩) (Kd.R_far (p := ⟨gb116, 1, none⟩) (Kd.R_far (p := ⟨gb116, 0, none⟩) (Kd.R_types HO_4.out BK116.out (by decide)) (fun _ hk => hk.2) (.int .i64 ((rd_T99 l0_0 x40_2).f0))) (fun _ hk => hk.2) (.slice A115_1 ((rd_T99 l0_0 x40_2).f1).length c115_1)) (fun _ hk => hk.2) (.int .i64 ((rd_T99 l0_0 x40_2).f2))) (fun _ hk => trivial)⟩, ⟨by (with_reducible repeat (first | apply Kd.R_alloc | apply Kd.R_drewN | apply Kd.R_drew)); exact Kd.R_mono (Kd.R_far (p := ⟨gb116, 2, none⟩) (Kd.R_far (p := ⟨gb116, 1, none⟩) (Kd.R_far (p := ⟨gb116, 0, none⟩) (Kd.R_types HO_8.out BK116.out (by decide)) (fun _ hk => hk.2) (.int .i64 ((rd_T99 l0_0 x40_2).f0))) (fun _ hk => hk.2) (.slice A115_1 ((rd_T99 l0_0 x40_2).f1).length c115_1)) (fun _ hk => hk.2) (.int .i64 ((rd_T99 l0_0 x40_2).f2))) (fun _ hk => trivial)⟩, ⟨by (with_reducible repeat (first | refine blk_drewN ?_ _ | refine blk_drew ?_ | refine blk_alloc ?_ _)); refine blk_far ?_ NB101_116.out _; (with_reducible repeat (first | refine blk_drewN ?_ _ | refine blk_drew ?_ | refine blk_alloc ?_ _)); refine blk_far ?_ NB101_116.out _; (with_reducible repeat (first | refine blk_drewN ?_ _ | refine blk_drew ?_ | refine blk_alloc ?_ _)); refine blk_far ?_ NB101_116.out _; (with_reducible repeat (first | refine blk_drewN ?_ _ | refine blk_drew ?_ | refine blk_alloc ?_ _)); exact BK101.out⟩, ⟨by (with_reducible repeat (first | refine blk_drewN ?_ _ | refine blk_drew ?_ | refine blk_alloc ?_ _)); refine blk_put (cs := #[.int .i64 ((rd_T99 l0_0 x40_2).f0), .slice A115_1 ((rd_T99 l0_0 x40_2).f1).length c115_1, .int .i64 0]) ?_ 2 _ rfl; (with_reducible repeat (first | refine blk_drewN ?_ _ | refine blk_drew ?_ | refine blk_alloc ?_ _)); refine blk_put (cs := #[.int .i64 ((rd_T99 l0_0 x40_2).f0), .slice none 0 0, .int .i64 0]) ?_ 1 _ rfl; (with_reducible repeat (first | refine blk_drewN ?_ _ | refine blk_drew ?_ | refine blk_alloc ?_ _)); refine blk_put (cs := #[.int .i64 0, .slice none 0 0, .int .i64 0]) ?_ 0 _ rfl; (with_reducible repeat (first | refine blk_drewN ?_ _ | refine blk_drew ?_ | refine blk_alloc ?_ _)); exact BK116.out⟩, ⟨by repeat (first | (with_reducible first | exact HB.out | apply below_alloc | apply pw_below_drewN | apply below_drew1 | refine below_set ?_ GE101.out | refine below_set ?_ GE116.out) | exact HB.out)⟩⟩
           case rest =>
            clear HC28
            try clear c1
            try clear p1
            try clear q1
            try clear hx1
            try clear c2
            try clear p2
            try clear c3
            try clear c4
            try clear c5
            try clear p6
            try clear c9
            try clear c10
            try clear c10b0
            try clear p10
            try clear q10
            try clear hx10
            try clear c11
            try clear c11b0
            try clear p11
            try clear q11
            try clear hx11
            try clear c12
            try clear c12b0
            try clear c13
            try clear c16
            try clear c21
            try clear c21b0
            try clear c25
            try clear c25b0
            try clear c26
            try clear c26b0
            try clear c27
            try clear c27b0
            try clear c30
            try clear c32
            try clear c32b0
            try clear c33
            try clear c34
            try clear hcz17_0
            try clear hcz17_1
            try clear hcz17_2
            try clear hcz19_0
            try clear hcz19_1
            try clear hcz19_2
            try clear hcz24_0
            try clear hcz31_0
            try clear hcz31_1
            try clear hcz31_2
            try clear hcz35_0
            try clear hcz35_1
            try clear hcz35_2
            try clear hcz5_0
            try clear hcz9_0
            try clear hfz17_0
            try clear hfz17_1
            try clear hfz17_2
            try clear hfz19_0
            try clear hfz19_1
            try clear hfz19_2
            try clear hfz24_0
            try clear hfz31_0
            try clear hfz31_1
            try clear hfz31_2
            try clear hfz35_0
            try clear hfz35_1
            try clear hfz35_2
            try clear hfz5_0
            try clear hfz9_0
            try clear hx106_0
            try clear hx106_1
            try clear hx106_2
            try clear hx115_0
            try clear hx115_1
            try clear hx115_2
            try clear p1
            try clear p10
            try clear p106
            try clear p115
            try clear p2
            try clear p6
            try clear q1
            try clear q10
            try clear q106
            try clear q115
            obtain ⟨kq, x8_27, HA, HJ27, HO_4, HO_8, BK101, BK116, HB⟩ := hcut
            cases kq with
            | zero => exact absurd HA.out (by simp [impl_Compile.j2])
            | succ kj27 =>
             have H := HA.out
             clear HA
             simp only [impl_Compile.j2] at H
             by_cases c37 : x8_27.length < 5864062014805
             ·rw [if_pos c37] at H
              have LMc37 := Aside0.mk c37
              clear c37
              obtain ⟨y120, hy120⟩ : ∃ y_ : List (S81), y_ = (x8_27 ++ [(⟨2, 0, 0⟩ : S81)]) := ⟨_, rfl⟩
              replace H : (if 0 ≤ x40_2 then (if x40_2 < (x4_1.length : Int) then ((impl_stepsIn.f ((rd_T99 l0_0 x40_2).f0) ((rd_T99 l0_0 x40_2).f1) ((rd_T99 l0_0 x40_2).f2)).bind fun t124 => (impl_Compile.l2 kj27 x4_1 y120 (wrap64 ((wrap64 ((rd x4_1 x40_2) + t124)) - 1)) l0_0 (l0_0.length : Int) x40_2 ((rd_T99 l0_0 x40_2).f1) (((rd_T99 l0_0 x40_2).f1).length : Int) 0 ((rd_T99 l0_0 x40_2).f0) ((rd_T99 l0_0 x40_2).f1) ((rd_T99 l0_0 x40_2).f2))) else (none)) else (none)) = some (r1, r2) := by first | (rw [hy120]; with_reducible exact H) | (have H2_ := (Option.bind_some _ _).symm.trans H; rw [hy120]; with_reducible exact H2_) | (have H2_ := (Option.bind_some _ _).symm.trans H; with_reducible exact H2_) | with_reducible exact H | (rw [hy120]; exact H) | exact H
              have Ny120 := Aside0.mk hy120
              clear hy120
              by_cases c38 : 0 ≤ x40_2
              ·rw [if_pos c38] at H
               have c38b0 : decide (0 ≤ x40_2) = true := decide_eq_true c38
               clear c38
               by_cases c39 : x40_2 < (x4_1.length : Int)
               ·rw [if_pos c39] at H
                have c39b0 : decide (x40_2 < (x4_1.length : Int)) = true := decide_eq_true c39
                clear c39
                replace H := Option.bind_eq_some_iff.mp H
                obtain ⟨t124, A400, H⟩ := H
                replace H : (impl_Compile.l2 kj27 x4_1 y120 (wrap64 ((wrap64 ((rd x4_1 x40_2) + t124)) - 1)) l0_0 (l0_0.length : Int) x40_2 ((rd_T99 l0_0 x40_2).f1) (((rd_T99 l0_0 x40_2).f1).length : Int) 0 ((rd_T99 l0_0 x40_2).f0) ((rd_T99 l0_0 x40_2).f1) ((rd_T99 l0_0 x40_2).f2)) = some (r1, r2) := H
                have A40 := Aside0.mk A400
                clear A400
                have H' := Aside0.mk H
                clear H
                try go_wp2_with (first | ((with_reducible refine gate_builtin (b := .append) (xs := #[.tmp 54, .tmp 56]) rfl ?_); at_builtin; refine Kd.R_append k81 (w0 := w) w.heap.size rfl (.tmp 54) (.tmp 56) 25 81 (.agg #[(.int .i64 0), (.int .i64 0), (.int .i64 0)]) 24 rfl Try.underlying25 info81 rfl (by decide) (by omega) u8 x8_27 (⟨2, 0, 0⟩ : S81) [.int .i64 2, .int .i64 0, .int .i64 0] (fun _ => True) (fun _ => False) rfl rfl ?aP (fun _ hk => hk.elim) ?aF ?aO ?aB ?aS ?aL ?_; (case aP => exact k81_mkM _ _ _ (⟨2, 0, 0⟩ : S81)); (case aB => exact (by repeat (first | (with_reducible first | exact HB.out | apply below_alloc | apply pw_below_drewN | apply below_drew1 | refine below_set ?_ GE101.out | refine below_set ?_ GE116.out) | exact HB.out))); (case aF => exact (fun _ _ => trivial)); (case aO => exact (by (with_reducible repeat (first | apply Kd.R_alloc | apply Kd.R_drewN | apply Kd.R_drew)); exact HO_8.out)); (case aS => exact (below_size (by repeat (first | (with_reducible first | exact HB.out | apply below_alloc | apply pw_below_drewN | apply below_drew1 | refine below_set ?_ GE101.out | refine below_set ?_ GE116.out) | exact HB.out)))); (case aL => have := LMc37.out; omega); intro v121 w41 ho hb hg hat; rw [← Ny120.out] at ho; have n0_ := Aside0.mk (Kd.R_over' (by (with_reducible repeat (first | apply Kd.R_alloc | apply Kd.R_drewN | apply Kd.R_drew)); exact HO_4.out) (Kd.R_typed (by (with_reducible repeat (first | apply Kd.R_alloc | apply Kd.R_drewN | apply Kd.R_drew)); exact HO_8.out)) (by decide) hg); have n1_ := Aside0.mk (blk_grown (g := gb101) (o := .cells #[.slice (some ad115) l0_0.length c0_0] 58 (0, 0)) (by (with_reducible repeat (first | refine blk_drewN ?_ _ | refine blk_drew ?_ | refine blk_alloc ?_ _)); exact BK101.out) hg (Kd.R_ne HO_8.out BK101.out (by decide))); have n2_ := Aside0.mk (blk_grown (g := gb116) (o := .cells #[.int .i64 ((rd_T99 l0_0 x40_2).f0), .slice A115_1 ((rd_T99 l0_0 x40_2).f1).length c115_1, .int .i64 ((rd_T99 l0_0 x40_2).f2)] 99 (0, 0)) (by (with_reducible repeat (first | refine blk_drewN ?_ _ | refine blk_drew ?_ | refine blk_alloc ?_ _)); exact BK116.out) hg (Kd.R_ne HO_8.out BK116.out (by decide))); have n3_ := Aside0.mk (hb); have n4_ := Aside0.mk (ho); clear HO_4; clear BK101; clear BK116; clear HB; clear HO_8; have HO_4 := n0_; have BK101 := n1_; have BK116 := n2_; have HB := n3_; have HO122 := n4_; clear n0_ n1_ n2_ n3_ n4_; clear ho hb hg hat))
                have n0_ := Aside0.mk (Kd.R_drew HO_4.out)
                have n1_ := Aside0.mk (Kd.R_drew HO122.out)
                have n2_ := Aside0.mk (blk_drew BK101.out)
                have n3_ := Aside0.mk (blk_drew BK116.out)
                have n4_ := Aside0.mk (below_drew1 HB.out)
                clear HO_4
                clear HO122
                clear BK101
                clear BK116
                clear HB
                have HO_4 := n0_
                have HO122 := n1_
                have BK101 := n2_
                have BK116 := n3_
                have HB := n4_
                clear n0_ n1_ n2_ n3_ n4_
                obtain ⟨Ao43, co43, eo43⟩ := Kd.R_slice HO_4.out
                (first | subst eo43 | (injection eo43 with f1_ f2_ f3_; have f4_ := f1_.symm; have f5_ := f3_.symm; clear f1_ f2_ f3_; subst f4_; subst f5_))
                have p123 : 0 ≤ (x40_2 : Int) := of_decide_eq_true (by first | (with_reducible assumption) | assumption)
                have q123 : x40_2 < (x4_1.length : Int) := of_decide_eq_true (by first | (with_reducible assumption) | assumption)
                obtain ⟨ad123, e123, hx123_0⟩ := Kd.at_int (Kd.R_reads' HO_4.out).2.2 x40_2 p123 q123
                cases e123
                replace p123 := eq_true p123
                replace q123 := eq_true q123
                refine start_ (n := 9) (S := fun w' => w'.cell? ⟨gb116, 0, none⟩ = some (.int .i64 ((rd_T99 l0_0 x40_2).f0)) ∧ w'.cell? ⟨gb116, 1, none⟩ = some (.slice A115_1 ((rd_T99 l0_0 x40_2).f1).length c115_1) ∧ w'.cell? ⟨gb116, 2, none⟩ = some (.int .i64 ((rd_T99 l0_0 x40_2).f2)) ∧ w'.cell? (ad123.add (x40_2).toNat) = some (.int .i64 (rd x4_1 x40_2))) (ds := []) #[false, false, false, false, false, false, false, false, false] (by kernel_rfl) rfl rfl ⟨(blk_cell BK116.out 0).trans rfl, (blk_cell BK116.out 1).trans rfl, (blk_cell BK116.out 2).trans rfl, hx123_0⟩ (fun hHeld => ?_); refine with_tabW impl_Compile.tab19 impl_Compile.bits19 (fun HT_ HW_ => ?_)
                generalize w41.drew = w42 at HO_4 HO122 BK101 BK116 HB hx123_0 hHeld ⊢
                refine pure_ (i := 0) (N := some 58) (v := ?_) (a' := ?_) #[true, false, false, false, false, false, false, false, false] rfl rfl (any_of HT_.out (by kernel_rfl)) (fun _ _ _ h => h) (Or.inl ⟨by rfl, ?_⟩) ?_ ?_
                rotate_left
                ·intro w'
                 go_simp
                 with_reducible rfl
                rotate_left
                ·simp only [Act.put, List.setIfInBounds_toArray, List.set_cons_zero, List.set_cons_succ, i64_w, i32_w]
                 rfl
                refine pure_ (i := 1) (N := some 59) (v := ?_) (a' := ?_) #[true, true, false, false, false, false, false, false, false] rfl rfl (any_of HT_.out (by kernel_rfl)) (fun _ _ _ h => h) (Or.inl ⟨by rfl, ?_⟩) ?_ ?_
                rotate_left
                ·intro w'
                 go_simp
                 with_reducible rfl
                rotate_left
                ·simp only [Act.put, List.setIfInBounds_toArray, List.set_cons_zero, List.set_cons_succ, i64_w, i32_w]
                 rfl
                refine pure_ (i := 2) (N := some 60) (v := ?_) (a' := ?_) #[true, true, true, false, false, false, false, false, false] rfl rfl (any_of HT_.out (by kernel_rfl)) (fun _ _ _ h => h) (Or.inl ⟨by rfl, ?_⟩) ?_ ?_
                rotate_left
                ·intro w'
                 go_simp
                 with_reducible rfl
                rotate_left
                ·simp only [Act.put, List.setIfInBounds_toArray, List.set_cons_zero, List.set_cons_succ, i64_w, i32_w]
                 rfl
                refine take_ (i := 3) (N := some 61) (v := ?_) (a' := ?_) #[true, true, true, true, false, false, false, false, false] rfl rfl (take_ofW HT_.out HW_.out (by kernel_rfl)) (fun _ _ _ h => h) (Or.inl ⟨by rfl, ?_⟩) hHeld ?_ ?_
                rotate_left
                ·rintro w' ⟨s0, s1, s2, s3⟩
                 go_simp
                 with_reducible rfl
                rotate_left
                ·simp only [Act.put, List.setIfInBounds_toArray, List.set_cons_zero, List.set_cons_succ, i64_w, i32_w]
                 rfl
                refine take_ (i := 4) (N := some 62) (v := ?_) (a' := ?_) #[true, true, true, true, true, false, false, false, false] rfl rfl (take_ofW HT_.out HW_.out (by kernel_rfl)) (fun _ _ _ h => h) (Or.inl ⟨by rfl, ?_⟩) hHeld ?_ ?_
                rotate_left
                ·rintro w' ⟨s0, s1, s2, s3⟩
                 go_simp
                 with_reducible rfl
                rotate_left
                ·simp only [Act.put, List.setIfInBounds_toArray, List.set_cons_zero, List.set_cons_succ, i64_w, i32_w]
                 rfl
                refine one_ (i := 5) (N := some 63) #[true, true, true, true, true, true, false, false, false] rfl rfl (one_of HT_.out (by kernel_rfl)) (by decide) (fun K hK => ?_)
                refine goes_ Try.func95 (by kernel_rfl) rfl #[.agg #[.int .i64 ((rd_T99 l0_0 x40_2).f0), .slice A115_1 ((rd_T99 l0_0 x40_2).f1).length c115_1, .int .i64 ((rd_T99 l0_0 x40_2).f2)]] (by rfl) rfl rfl (by (try simp only [List.map_toArray, List.map_cons, List.map_nil]); first | done | rfl | (simp only [List.length_drop, List.length_take]; rfl)) ?_
                with_reducible refine (impl_stepsIn.calls ((rd_T99 l0_0 x40_2).f0) _ _ ((rd_T99 l0_0 x40_2).f1) ((rd_T99 l0_0 x40_2).f2) t124 _ ?side1 ?side2 A40.out).mono ?_
                (case side1 => repeat (first | exact (Kd.C_below HR115_1.out HB.out) | (with_reducible refine Kd.C_alloc ?_ _) | (with_reducible refine Kd.C_drewN ?_ _) | (with_reducible refine Kd.C_drew ?_)))
                (case side2 => exact HC115_1.out)
                rintro e w44 ⟨rfl, hb⟩
                have HS3_ := (hb.cell (World.block_lt_of_cell? _ _ (hHeld.2.2.2))).trans (hHeld.2.2.2)
                refine ⟨_, rfl, ?_⟩
                have n0_ := Aside0.mk (Kd.R_below (by (with_reducible repeat (first | apply Kd.R_alloc | apply Kd.R_drewN | apply Kd.R_drew)); exact HO_4.out) hb)
                have n1_ := Aside0.mk (Kd.R_below (by (with_reducible repeat (first | apply Kd.R_alloc | apply Kd.R_drewN | apply Kd.R_drew)); exact HO122.out) hb)
                have n2_ := Aside0.mk (blk_below (g := gb101) (o := .cells #[.slice (some ad115) l0_0.length c0_0] 58 (0, 0)) (by (with_reducible repeat (first | refine blk_drewN ?_ _ | refine blk_drew ?_ | refine blk_alloc ?_ _)); exact BK101.out) hb)
                have n3_ := Aside0.mk (blk_below (g := gb116) (o := .cells #[.int .i64 ((rd_T99 l0_0 x40_2).f0), .slice A115_1 ((rd_T99 l0_0 x40_2).f1).length c115_1, .int .i64 ((rd_T99 l0_0 x40_2).f2)] 99 (0, 0)) (by (with_reducible repeat (first | refine blk_drewN ?_ _ | refine blk_drew ?_ | refine blk_alloc ?_ _)); exact BK116.out) hb)
                have n4_ := Aside0.mk (below_step (by repeat (first | (with_reducible first | exact HB.out | apply below_alloc | apply pw_below_drewN | apply below_drew1 | refine below_set ?_ GE101.out | refine below_set ?_ GE116.out) | exact HB.out)) hb)
                clear HO_4
                clear HO122
                clear BK101
                clear BK116
                clear HB
                have HO_4 := n0_
                have HO122 := n1_
                have BK101 := n2_
                have BK116 := n3_
                have HB := n4_
                clear n0_ n1_ n2_ n3_ n4_
                (try clear hb)
                (try clear hb2)
                (try clear hk)
                (try clear hi)
                refine hK.out _ _ ⟨(blk_cell BK116.out 0).trans rfl, (blk_cell BK116.out 1).trans rfl, (blk_cell BK116.out 2).trans rfl, HS3_⟩ (fun hHeld => ?_)
                clear hK K
                refine norm_ (a' := ?_) ?_ ?_
                rotate_left
                ·show Act.put _ (some 63) _ = _
                 simp only [Act.put, List.setIfInBounds_toArray, List.set_cons_zero, List.set_cons_succ, i64_w, i32_w]
                 rfl
                refine pure_ (i := 6) (N := some 64) (v := ?_) (a' := ?_) #[true, true, true, true, true, true, true, false, false] rfl rfl (any_of HT_.out (by kernel_rfl)) (fun _ _ _ h => h) (Or.inl ⟨by rfl, ?_⟩) ?_ ?_
                rotate_left
                ·intro w'
                 go_simp
                 with_reducible rfl
                rotate_left
                ·simp only [Act.put, List.setIfInBounds_toArray, List.set_cons_zero, List.set_cons_succ, i64_w, i32_w]
                 rfl
                refine pure_ (i := 7) (N := some 65) (v := ?_) (a' := ?_) #[true, true, true, true, true, true, true, true, false] rfl rfl (any_of HT_.out (by kernel_rfl)) (fun _ _ _ h => h) (Or.inl ⟨by rfl, ?_⟩) ?_ ?_
                rotate_left
                ·intro w'
                 go_simp
                 with_reducible rfl
                rotate_left
                ·simp only [Act.put, List.setIfInBounds_toArray, List.set_cons_zero, List.set_cons_succ, i64_w, i32_w]
                 rfl
                refine pure_ (i := 8) (N := some 11) (v := ?_) (a' := ?_) #[true, true, true, true, true, true, true, true, true] rfl rfl (any_of HT_.out (by kernel_rfl)) (fun _ _ _ h => h) (Or.inl ⟨by rfl, ?_⟩) ?_ ?_
                rotate_left
                ·intro w'
                 go_simp
                 with_reducible rfl
                rotate_left
                ·simp only [Act.put, List.setIfInBounds_toArray, List.set_cons_zero, List.set_cons_succ, i64_w, i32_w]
                 rfl
                refine done_ (done_of HT_.out (by kernel_rfl)) ?_
                have hnb45 := NB116_101.out
                have hnc45 := NB101_116.out
                have hcz46_0 : w44.cell? ⟨gb116, 0, none⟩ = some (.int .i64 ((rd_T99 l0_0 x40_2).f0)) := (blk_cell BK116.out 0).trans rfl
                have hcz46_1 : w44.cell? ⟨gb116, 1, none⟩ = some (.slice A115_1 ((rd_T99 l0_0 x40_2).f1).length c115_1) := (blk_cell BK116.out 1).trans rfl
                have hcz46_2 : w44.cell? ⟨gb116, 2, none⟩ = some (.int .i64 ((rd_T99 l0_0 x40_2).f2)) := (blk_cell BK116.out 2).trans rfl
                have hfz46_0 := blk_frozen BK116.out 0
                have hfz46_1 := blk_frozen BK116.out 1
                have hfz46_2 := blk_frozen BK116.out 2
                try go_wp2
                go_loopg [8, 69] kj27 (fun kq v8 v69 w' => ∃ (x8_4 : List (S81)) (x69_4 : Int), v69 = .int .i64 x69_4 ∧ Aside0 (impl_Compile.l2 kq x4_1 x8_4 (wrap64 ((wrap64 ((rd x4_1 x40_2) + t124)) - 1)) l0_0 (l0_0.length : Int) x40_2 ((rd_T99 l0_0 x40_2).f1) (((rd_T99 l0_0 x40_2).f1).length : Int) x69_4 ((rd_T99 l0_0 x40_2).f0) ((rd_T99 l0_0 x40_2).f1) ((rd_T99 l0_0 x40_2).f2) = some (r1, r2)) ∧ Aside0 (kq ≤ kj27) ∧ Aside0 (Kd.R (Kd.int .i64) 2 w' w.heap.size (fun _ => True) (.slice (some ad123) x4_1.length co43) x4_1) ∧ Aside0 (Kd.R k81 81 w' w.heap.size (fun _ => True) v8 x8_4) ∧ Aside0 (w'.heap[gb101]? = some (.cells #[(.slice (some ad115) l0_0.length c0_0)] 58 (0, 0))) ∧ Aside0 (w'.heap[gb116]? = some (.cells #[.int .i64 ((rd_T99 l0_0 x40_2).f0), (.slice A115_1 ((rd_T99 l0_0 x40_2).f1).length c115_1), .int .i64 ((rd_T99 l0_0 x40_2).f2)] 99 (0, 0))) ∧ Aside0 (Below w.heap.size w w'))
                case atStart => exact ⟨(y120), (0), (by first | rfl | (simp; done) | (simp [*]; done)), H', ⟨Nat.le_refl _⟩, ⟨by (with_reducible repeat (first | apply Kd.R_alloc | apply Kd.R_drewN | apply Kd.R_drew)); exact HO_4.out⟩, ⟨by (with_reducible repeat (first | apply Kd.R_alloc | apply Kd.R_drewN | apply Kd.R_drew)); exact HO122.out⟩, ⟨by (with_reducible repeat (first | refine blk_drewN ?_ _ | refine blk_drew ?_ | refine blk_alloc ?_ _)); exact BK101.out⟩, ⟨by (with_reducible repeat (first | refine blk_drewN ?_ _ | refine blk_drew ?_ | refine blk_alloc ?_ _)); exact BK116.out⟩, ⟨by repeat (first | (with_reducible first | exact HB.out | apply below_alloc | apply pw_below_drewN | apply below_drew1 | refine below_set ?_ GE101.out | refine below_set ?_ GE116.out) | exact HB.out)⟩⟩
                case round =>
                 clear H'
                 try clear c1
                 try clear p1
                 try clear q1
                 try clear hx1
                 try clear c2
                 try clear p2
                 try clear c3
                 try clear c4
                 try clear c5
                 try clear p6
                 try clear c9
                 try clear c10
                 try clear c10b0
                 try clear p10
                 try clear q10
                 try clear hx10
                 try clear c11
                 try clear c11b0
                 try clear p11
                 try clear q11
                 try clear hx11
                 try clear c12
                 try clear c12b0
                 try clear p12
                 try clear q12
                 try clear hx12
                 try clear c13
                 try clear c16
                 try clear c21
                 try clear c21b0
                 try clear c25
                 try clear c25b0
                 try clear c26
                 try clear c26b0
                 try clear c27
                 try clear c27b0
                 try clear c30
                 try clear c32
                 try clear c32b0
                 try clear c33
                 try clear c34
                 try clear c37
                 try clear c38
                 try clear c38b0
                 try clear c39
                 try clear c39b0
                 try clear c44
                 try clear c45
                 try clear hcz17_0
                 try clear hcz17_1
                 try clear hcz17_2
                 try clear hcz19_0
                 try clear hcz19_1
                 try clear hcz19_2
                 try clear hcz24_0
                 try clear hcz31_0
                 try clear hcz31_1
                 try clear hcz31_2
                 try clear hcz35_0
                 try clear hcz35_1
                 try clear hcz35_2
                 try clear hcz46_0
                 try clear hcz46_1
                 try clear hcz46_2
                 try clear hcz5_0
                 try clear hcz9_0
                 try clear hfz17_0
                 try clear hfz17_1
                 try clear hfz17_2
                 try clear hfz19_0
                 try clear hfz19_1
                 try clear hfz19_2
                 try clear hfz24_0
                 try clear hfz31_0
                 try clear hfz31_1
                 try clear hfz31_2
                 try clear hfz35_0
                 try clear hfz35_1
                 try clear hfz35_2
                 try clear hfz46_0
                 try clear hfz46_1
                 try clear hfz46_2
                 try clear hfz5_0
                 try clear hfz9_0
                 try clear hx106_0
                 try clear hx106_1
                 try clear hx106_2
                 try clear hx115_0
                 try clear hx115_1
                 try clear hx115_2
                 try clear hx123_0
                 try clear p1
                 try clear p10
                 try clear p106
                 try clear p11
                 try clear p115
                 try clear p123
                 try clear p2
                 try clear p6
                 try clear q1
                 try clear q10
                 try clear q106
                 try clear q11
                 try clear q115
                 try clear q123
                 obtain ⟨x8_4, x69_4, rfl, HA, HK4, HO_4, HO_8, BK101, BK116, HB⟩ := hrel
                 cases gk with
                 | zero => exact absurd HA.out (by simp [impl_Compile.l2])
                 | succ k4 =>
                  have H := HA.out
                  clear HA
                  simp only [impl_Compile.l2] at H
                  by_cases c47 : x69_4 < (((rd_T99 l0_0 x40_2).f1).length : Int)
                  ·rw [if_pos c47] at H
                   have c47b0 : decide (x69_4 < (((rd_T99 l0_0 x40_2).f1).length : Int)) = true := decide_eq_true c47
                   clear c47
                   by_cases c48 : 0 ≤ x69_4
                   ·rw [if_pos c48] at H
                    have c48b0 : decide (0 ≤ x69_4) = true := decide_eq_true c48
                    clear c48
                    by_cases c49 : x69_4 < (((rd_T99 l0_0 x40_2).f1).length : Int)
                    ·rw [if_pos c49] at H
                     have c49b0 : decide (x69_4 < (((rd_T99 l0_0 x40_2).f1).length : Int)) = true := decide_eq_true c49
                     clear c49
                     by_cases c50 : x8_4.length < 5864062014805
                     ·rw [if_pos c50] at H
                      have LMc50 := Aside0.mk c50
                      clear c50
                      obtain ⟨y127, hy127⟩ : ∃ y_ : List (S81), y_ = (x8_4 ++ [(⟨3, (rd_T117 ((rd_T99 l0_0 x40_2).f1) x69_4).f0, (wrap64 ((wrap64 ((rd x4_1 x40_2) + t124)) - 1))⟩ : S81)]) := ⟨_, rfl⟩
                      replace H : ((impl_MOp.f y127).bind fun t130 => (if y127.length < 5864062014805 then ((some (y127 ++ [(⟨4, (rd_T117 ((rd_T99 l0_0 x40_2).f1) x69_4).f1, wrap64 (t130 + 2)⟩ : S81)] : List (S81))).bind fun y131 => (if 0 ≤ ((rd_T117 ((rd_T99 l0_0 x40_2).f1) x69_4).f2) then (if ((rd_T117 ((rd_T99 l0_0 x40_2).f1) x69_4).f2) < (x4_1.length : Int) then (if y131.length < 5864062014805 then (impl_Compile.l2 k4 x4_1 (y131 ++ [(⟨5, rd x4_1 ((rd_T117 ((rd_T99 l0_0 x40_2).f1) x69_4).f2), 0⟩ : S81)]) (wrap64 ((wrap64 ((rd x4_1 x40_2) + t124)) - 1)) l0_0 (l0_0.length : Int) x40_2 ((rd_T99 l0_0 x40_2).f1) (((rd_T99 l0_0 x40_2).f1).length : Int) (wrap64 (x69_4 + 1)) ((rd_T99 l0_0 x40_2).f0) ((rd_T99 l0_0 x40_2).f1) ((rd_T99 l0_0 x40_2).f2)) else (none)) else (none)) else (none))) else (none))) = some (r1, r2) := by first | (rw [hy127]; with_reducible exact H) | (have H2_ := (Option.bind_some _ _).symm.trans H; rw [hy127]; with_reducible exact H2_) | (have H2_ := (Option.bind_some _ _).symm.trans H; with_reducible exact H2_) | with_reducible exact H | (rw [hy127]; exact H) | exact H
                      have Ny127 := Aside0.mk hy127
                      clear hy127
                      replace H := Option.bind_eq_some_iff.mp H
                      obtain ⟨t130, A510, H⟩ := H
                      replace H : (if y127.length < 5864062014805 then ((some (y127 ++ [(⟨4, (rd_T117 ((rd_T99 l0_0 x40_2).f1) x69_4).f1, wrap64 (t130 + 2)⟩ : S81)] : List (S81))).bind fun y131 => (if 0 ≤ ((rd_T117 ((rd_T99 l0_0 x40_2).f1) x69_4).f2) then (if ((rd_T117 ((rd_T99 l0_0 x40_2).f1) x69_4).f2) < (x4_1.length : Int) then (if y131.length < 5864062014805 then (impl_Compile.l2 k4 x4_1 (y131 ++ [(⟨5, rd x4_1 ((rd_T117 ((rd_T99 l0_0 x40_2).f1) x69_4).f2), 0⟩ : S81)]) (wrap64 ((wrap64 ((rd x4_1 x40_2) + t124)) - 1)) l0_0 (l0_0.length : Int) x40_2 ((rd_T99 l0_0 x40_2).f1) (((rd_T99 l0_0 x40_2).f1).length : Int) (wrap64 (x69_4 + 1)) ((rd_T99 l0_0 x40_2).f0) ((rd_T99 l0_0 x40_2).f1) ((rd_T99 l0_0 x40_2).f2)) else (none)) else (none)) else (none))) else (none)) = some (r1, r2) := H
                      have A51 := Aside0.mk A510
                      clear A510
                      by_cases c52 : y127.length < 5864062014805
                      ·rw [if_pos c52] at H
                       have LMc52 := Aside0.mk c52
                       clear c52
                       obtain ⟨y131, hy131⟩ : ∃ y_ : List (S81), y_ = (y127 ++ [(⟨4, (rd_T117 ((rd_T99 l0_0 x40_2).f1) x69_4).f1, wrap64 (t130 + 2)⟩ : S81)]) := ⟨_, rfl⟩
                       replace H : (if 0 ≤ ((rd_T117 ((rd_T99 l0_0 x40_2).f1) x69_4).f2) then (if ((rd_T117 ((rd_T99 l0_0 x40_2).f1) x69_4).f2) < (x4_1.length : Int) then (if y131.length < 5864062014805 then (impl_Compile.l2 k4 x4_1 (y131 ++ [(⟨5, rd x4_1 ((rd_T117 ((rd_T99 l0_0 x40_2).f1) x69_4).f2), 0⟩ : S81)]) (wrap64 ((wrap64 ((rd x4_1 x40_2) + t124)) - 1)) l0_0 (l0_0.length : Int) x40_2 ((rd_T99 l0_0 x40_2).f1) (((rd_T99 l0_0 x40_2).f1).length : Int) (wrap64 (x69_4 + 1)) ((rd_T99 l0_0 x40_2).f0) ((rd_T99 l0_0 x40_2).f1) ((rd_T99 l0_0 x40_2).f2)) else (none)) else (none)) else (none)) = some (r1, r2) := by first | (rw [hy131]; with_reducible exact H) | (have H2_ := (Option.bind_some _ _).symm.trans H; rw [hy131]; with_reducible exact H2_) | (have H2_ := (Option.bind_some _ _).symm.trans H; with_reducible exact H2_) | with_reducible exact H | (rw [hy131]; exact H) | exact H
                       have Ny131 := Aside0.mk hy131
                       clear hy131
                       by_cases c53 : 0 ≤ ((rd_T117 ((rd_T99 l0_0 x40_2).f1) x69_4).f2)
                       ·rw [if_pos c53] at H
                        have c53b0 : decide (0 ≤ ((rd_T117 ((rd_T99 l0_0 x40_2).f1) x69_4).f2)) = true := decide_eq_true c53
                        clear c53
                        by_cases c54 : ((rd_T117 ((rd_T99 l0_0 x40_2).f1) x69_4).f2) < (x4_1.length : Int)
                        ·rw [if_pos c54] at H
                         have c54b0 : decide (((rd_T117 ((rd_T99 l0_0 x40_2).f1) x69_4).f2) < (x4_1.length : Int)) = true := decide_eq_true c54
                         clear c54
                         by_cases c55 : y131.length < 5864062014805
                         ·rw [if_pos c55] at H
                          have LMc55 := Aside0.mk c55
                          clear c55
                          obtain ⟨y135, hy135⟩ : ∃ y_ : List (S81), y_ = (y131 ++ [(⟨5, rd x4_1 ((rd_T117 ((rd_T99 l0_0 x40_2).f1) x69_4).f2), 0⟩ : S81)]) := ⟨_, rfl⟩
                          replace H : (impl_Compile.l2 k4 x4_1 y135 (wrap64 ((wrap64 ((rd x4_1 x40_2) + t124)) - 1)) l0_0 (l0_0.length : Int) x40_2 ((rd_T99 l0_0 x40_2).f1) (((rd_T99 l0_0 x40_2).f1).length : Int) (wrap64 (x69_4 + 1)) ((rd_T99 l0_0 x40_2).f0) ((rd_T99 l0_0 x40_2).f1) ((rd_T99 l0_0 x40_2).f2)) = some (r1, r2) := by first | (rw [hy135]; with_reducible exact H) | (have H2_ := (Option.bind_some _ _).symm.trans H; rw [hy135]; with_reducible exact H2_) | (have H2_ := (Option.bind_some _ _).symm.trans H; with_reducible exact H2_) | with_reducible exact H | (rw [hy135]; exact H) | exact H
                          have Ny135 := Aside0.mk hy135
                          clear hy135
                          have H' := Aside0.mk H
                          clear H
                          have p125 : 0 ≤ (x69_4 : Int) := of_decide_eq_true (by first | (with_reducible assumption) | assumption)
                          have q125 : x69_4 < (((rd_T99 l0_0 x40_2).f1).length : Int) := of_decide_eq_true (by first | (with_reducible assumption) | assumption)
                          obtain ⟨ad125, e125, hx125_0, hx125_1, hx125_2⟩ := at_T117 HR115_1.out x69_4 p125 q125
                          cases e125
                          replace hx125_0 := (HB.out.cell (World.block_lt_of_cell? w _ hx125_0)).trans hx125_0
                          replace hx125_1 := (HB.out.cell (World.block_lt_of_cell? w _ hx125_1)).trans hx125_1
                          replace hx125_2 := (HB.out.cell (World.block_lt_of_cell? w _ hx125_2)).trans hx125_2
                          replace p125 := eq_true p125
                          replace q125 := eq_true q125
                          try go_wp2_with (first | ((with_reducible refine gate_dst (N := 13) rfl ?_); refine box_event ?hg (N := 13) ?hd (cs := #[.int .i64 0, .int .i64 0, .int .i64 0]) (t := 117) ?hr ?_; (case hd => rfl); (case hg => rfl); (case hr => first | (go_simp; done) | (go_simp; rfl)); intro gb126 hg w56 hbox hb; have n0_ := Aside0.mk (Kd.R_below (by (with_reducible repeat (first | apply Kd.R_alloc | apply Kd.R_drewN | apply Kd.R_drew)); exact HO_4.out) hb); have n1_ := Aside0.mk (Kd.R_below (by (with_reducible repeat (first | apply Kd.R_alloc | apply Kd.R_drewN | apply Kd.R_drew)); exact HO_8.out) hb); have n2_ := Aside0.mk (blk_below (g := gb101) (o := .cells #[.slice (some ad115) l0_0.length c0_0] 58 (0, 0)) (by (with_reducible repeat (first | refine blk_drewN ?_ _ | refine blk_drew ?_ | refine blk_alloc ?_ _)); exact BK101.out) hb); have n3_ := Aside0.mk (blk_below (g := gb116) (o := .cells #[.int .i64 ((rd_T99 l0_0 x40_2).f0), .slice (some ad125) ((rd_T99 l0_0 x40_2).f1).length c115_1, .int .i64 ((rd_T99 l0_0 x40_2).f2)] 99 (0, 0)) (by (with_reducible repeat (first | refine blk_drewN ?_ _ | refine blk_drew ?_ | refine blk_alloc ?_ _)); exact BK116.out) hb); have n4_ := Aside0.mk (below_step (by repeat (first | (with_reducible first | exact HB.out | apply below_alloc | apply pw_below_drewN | apply below_drew1 | refine below_set ?_ GE101.out | refine below_set ?_ GE116.out) | exact HB.out)) hb); have n5_ := Aside0.mk (hbox); have n6_ := Aside0.mk ((by rw [hg]; exact (below_size (by repeat (first | (with_reducible first | exact HB.out | apply below_alloc | apply pw_below_drewN | apply below_drew1 | refine below_set ?_ GE101.out | refine below_set ?_ GE116.out) | exact HB.out))) : w.heap.size ≤ gb126)); have n7_ := Aside0.mk ((by rw [hg]; exact (below_size (by repeat (first | (with_reducible first | exact HB.out | apply below_alloc | apply pw_below_drewN | apply below_drew1 | refine below_set ?_ GE101.out | refine below_set ?_ GE116.out) | exact HB.out))) : w.heap.size ≤ gb126)); have n8_ := Aside0.mk ((by rw [hg]; exact Nat.ne_of_lt (blk_lt (g := gb101) (o := .cells #[.slice (some ad115) l0_0.length c0_0] 58 (0, 0)) (by (with_reducible repeat (first | refine blk_drewN ?_ _ | refine blk_drew ?_ | refine blk_alloc ?_ _)); exact BK101.out)) : gb101 ≠ gb126)); have n9_ := Aside0.mk ((by rw [hg]; exact Nat.ne_of_gt (blk_lt (g := gb101) (o := .cells #[.slice (some ad115) l0_0.length c0_0] 58 (0, 0)) (by (with_reducible repeat (first | refine blk_drewN ?_ _ | refine blk_drew ?_ | refine blk_alloc ?_ _)); exact BK101.out)) : gb126 ≠ gb101)); have n10_ := Aside0.mk ((by rw [hg]; exact Nat.ne_of_lt (blk_lt (g := gb116) (o := .cells #[.int .i64 ((rd_T99 l0_0 x40_2).f0), .slice (some ad125) ((rd_T99 l0_0 x40_2).f1).length c115_1, .int .i64 ((rd_T99 l0_0 x40_2).f2)] 99 (0, 0)) (by (with_reducible repeat (first | refine blk_drewN ?_ _ | refine blk_drew ?_ | refine blk_alloc ?_ _)); exact BK116.out)) : gb116 ≠ gb126)); have n11_ := Aside0.mk ((by rw [hg]; exact Nat.ne_of_gt (blk_lt (g := gb116) (o := .cells #[.int .i64 ((rd_T99 l0_0 x40_2).f0), .slice (some ad125) ((rd_T99 l0_0 x40_2).f1).length c115_1, .int .i64 ((rd_T99 l0_0 x40_2).f2)] 99 (0, 0)) (by (with_reducible repeat (first | refine blk_drewN ?_ _ | refine blk_drew ?_ | refine blk_alloc ?_ _)); exact BK116.out)) : gb126 ≠ gb116)); clear HO_4; clear HO_8; clear BK101; clear BK116; clear HB; have HO_4 := n0_; have HO_8 := n1_; have BK101 := n2_; have BK116 := n3_; have HB := n4_; have BK126 := n5_; have GW126 := n6_; have GE126 := n7_; have NB101_126 := n8_; have NB126_101 := n9_; have NB116_126 := n10_; have NB126_116 := n11_; clear n0_ n1_ n2_ n3_ n4_ n5_ n6_ n7_ n8_ n9_ n10_ n11_; clear hb hbox hg; have hnb57 := NB126_101.out; have hnc57 := NB101_126.out; have hnb58 := NB126_116.out; have hnc58 := NB116_126.out; have hcz59_0 : w56.cell? ⟨gb126, 0, none⟩ = some (.int .i64 0) := (blk_cell BK126.out 0).trans rfl; have hcz59_1 : w56.cell? ⟨gb126, 1, none⟩ = some (.int .i64 0) := (blk_cell BK126.out 1).trans rfl; have hcz59_2 : w56.cell? ⟨gb126, 2, none⟩ = some (.int .i64 0) := (blk_cell BK126.out 2).trans rfl; have hfz59_0 := blk_frozen BK126.out 0; have hfz59_1 := blk_frozen BK126.out 1; have hfz59_2 := blk_frozen BK126.out 2) | ((with_reducible refine gate_builtin (b := .append) (xs := #[.tmp 73, .tmp 78]) rfl ?_); at_builtin; refine Kd.R_append k81 (w0 := w) w.heap.size rfl (.tmp 73) (.tmp 78) 25 81 (.agg #[(.int .i64 0), (.int .i64 0), (.int .i64 0)]) 24 rfl Try.underlying25 info81 rfl (by decide) (by omega) u8 x8_4 (⟨3, (rd_T117 ((rd_T99 l0_0 x40_2).f1) x69_4).f0, (wrap64 ((wrap64 ((rd x4_1 x40_2) + t124)) - 1))⟩ : S81) [.int .i64 3, .int .i64 ((rd_T117 ((rd_T99 l0_0 x40_2).f1) x69_4).f0), .int .i64 (wrap64 ((wrap64 ((rd x4_1 x40_2) + t124)) - 1))] (fun _ => True) (fun _ => False) rfl (by first | (go_simp; done) | (go_simp; rfl)) ?aP (fun _ hk => hk.elim) ?aF ?aO ?aB ?aS ?aL ?_; (case aP => exact k81_mkM _ _ _ (⟨3, (rd_T117 ((rd_T99 l0_0 x40_2).f1) x69_4).f0, (wrap64 ((wrap64 ((rd x4_1 x40_2) + t124)) - 1))⟩ : S81)); (case aB => exact (by repeat (first | (with_reducible first | exact HB.out | apply below_alloc | apply pw_below_drewN | apply below_drew1 | refine below_set ?_ GE101.out | refine below_set ?_ GE116.out | refine below_set ?_ GE126.out) | exact HB.out))); (case aF => exact (fun _ _ => trivial)); (case aO => exact (by (with_reducible repeat (first | apply Kd.R_alloc | apply Kd.R_drewN | apply Kd.R_drew)); exact Kd.R_mono (Kd.R_far (p := ⟨gb126, 2, none⟩) (Kd.R_far (p := ⟨gb126, 1, none⟩) (Kd.R_far (p := ⟨gb126, 0, none⟩) (Kd.R_types HO_8.out BK126.out (by decide)) (fun _ hk => hk.2) (.int .i64 ((rd_T117 ((rd_T99 l0_0 x40_2).f1) x69_4).f0))) (fun _ hk => hk.2) (.int .i64 ((rd_T117 ((rd_T99 l0_0 x40_2).f1) x69_4).f1))) (fun _ hk => hk.2) (.int .i64 ((rd_T117 ((rd_T99 l0_0 x40_2).f1) x69_4).f2))) (fun _ hk => trivial))); (case aS => exact (below_size (by repeat (first | (with_reducible first | exact HB.out | apply below_alloc | apply pw_below_drewN | apply below_drew1 | refine below_set ?_ GE101.out | refine below_set ?_ GE116.out | refine below_set ?_ GE126.out) | exact HB.out)))); (case aL => have := LMc50.out; omega); intro v128 w60 ho hb hg hat; rw [← Ny127.out] at ho; have n0_ := Aside0.mk (Kd.R_over' (by (with_reducible repeat (first | apply Kd.R_alloc | apply Kd.R_drewN | apply Kd.R_drew)); exact (Kd.R_mono (Kd.R_far (p := ⟨gb126, 2, none⟩) (Kd.R_far (p := ⟨gb126, 1, none⟩) (Kd.R_far (p := ⟨gb126, 0, none⟩) (Kd.R_types HO_4.out BK126.out (by decide)) (fun _ hk => hk.2) (.int .i64 ((rd_T117 ((rd_T99 l0_0 x40_2).f1) x69_4).f0))) (fun _ hk => hk.2) (.int .i64 ((rd_T117 ((rd_T99 l0_0 x40_2).f1) x69_4).f1))) (fun _ hk => hk.2) (.int .i64 ((rd_T117 ((rd_T99 l0_0 x40_2).f1) x69_4).f2))) (fun _ h_ => h_.1))) (Kd.R_typed (by (with_reducible repeat (first | apply Kd.R_alloc | apply Kd.R_drewN | apply Kd.R_drew)); exact (Kd.R_mono (Kd.R_far (p := ⟨gb126, 2, none⟩) (Kd.R_far (p := ⟨gb126, 1, none⟩) (Kd.R_far (p := ⟨gb126, 0, none⟩) (Kd.R_types HO_8.out BK126.out (by decide)) (fun _ hk => hk.2) (.int .i64 ((rd_T117 ((rd_T99 l0_0 x40_2).f1) x69_4).f0))) (fun _ hk => hk.2) (.int .i64 ((rd_T117 ((rd_T99 l0_0 x40_2).f1) x69_4).f1))) (fun _ hk => hk.2) (.int .i64 ((rd_T117 ((rd_T99 l0_0 x40_2).f1) x69_4).f2))) (fun _ h_ => h_.1)))) (by decide) hg); have n1_ := Aside0.mk (blk_grown (g := gb101) (o := .cells #[.slice (some ad115) l0_0.length c0_0] 58 (0, 0)) (by (with_reducible repeat (first | refine blk_drewN ?_ _ | refine blk_drew ?_ | refine blk_alloc ?_ _)); refine blk_far ?_ NB101_126.out _; (with_reducible repeat (first | refine blk_drewN ?_ _ | refine blk_drew ?_ | refine blk_alloc ?_ _)); refine blk_far ?_ NB101_126.out _; (with_reducible repeat (first | refine blk_drewN ?_ _ | refine blk_drew ?_ | refine blk_alloc ?_ _)); refine blk_far ?_ NB101_126.out _; (with_reducible repeat (first | refine blk_drewN ?_ _ | refine blk_drew ?_ | refine blk_alloc ?_ _)); exact BK101.out) hg (Kd.R_ne HO_8.out BK101.out (by decide))); have n2_ := Aside0.mk (blk_grown (g := gb116) (o := .cells #[.int .i64 ((rd_T99 l0_0 x40_2).f0), .slice (some ad125) ((rd_T99 l0_0 x40_2).f1).length c115_1, .int .i64 ((rd_T99 l0_0 x40_2).f2)] 99 (0, 0)) (by (with_reducible repeat (first | refine blk_drewN ?_ _ | refine blk_drew ?_ | refine blk_alloc ?_ _)); refine blk_far ?_ NB116_126.out _; (with_reducible repeat (first | refine blk_drewN ?_ _ | refine blk_drew ?_ | refine blk_alloc ?_ _)); refine blk_far ?_ NB116_126.out _; (with_reducible repeat (first | refine blk_drewN ?_ _ | refine blk_drew ?_ | refine blk_alloc ?_ _)); refine blk_far ?_ NB116_126.out _; (with_reducible repeat (first | refine blk_drewN ?_ _ | refine blk_drew ?_ | refine blk_alloc ?_ _)); exact BK116.out) hg (Kd.R_ne HO_8.out BK116.out (by decide))); have n3_ := Aside0.mk (blk_grown (g := gb126) (o := .cells #[.int .i64 ((rd_T117 ((rd_T99 l0_0 x40_2).f1) x69_4).f0), .int .i64 ((rd_T117 ((rd_T99 l0_0 x40_2).f1) x69_4).f1), .int .i64 ((rd_T117 ((rd_T99 l0_0 x40_2).f1) x69_4).f2)] 117 (0, 0)) (by (with_reducible repeat (first | refine blk_drewN ?_ _ | refine blk_drew ?_ | refine blk_alloc ?_ _)); refine blk_put (cs := #[.int .i64 ((rd_T117 ((rd_T99 l0_0 x40_2).f1) x69_4).f0), .int .i64 ((rd_T117 ((rd_T99 l0_0 x40_2).f1) x69_4).f1), .int .i64 0]) ?_ 2 _ rfl; (with_reducible repeat (first | refine blk_drewN ?_ _ | refine blk_drew ?_ | refine blk_alloc ?_ _)); refine blk_put (cs := #[.int .i64 ((rd_T117 ((rd_T99 l0_0 x40_2).f1) x69_4).f0), .int .i64 0, .int .i64 0]) ?_ 1 _ rfl; (with_reducible repeat (first | refine blk_drewN ?_ _ | refine blk_drew ?_ | refine blk_alloc ?_ _)); refine blk_put (cs := #[.int .i64 0, .int .i64 0, .int .i64 0]) ?_ 0 _ rfl; (with_reducible repeat (first | refine blk_drewN ?_ _ | refine blk_drew ?_ | refine blk_alloc ?_ _)); exact BK126.out) hg (Kd.R_ne HO_8.out BK126.out (by decide))); have n4_ := Aside0.mk (hb); have n5_ := Aside0.mk (ho); clear HO_4; clear BK101; clear BK116; clear BK126; clear HB; clear HO_8; have HO_4 := n0_; have BK101 := n1_; have BK116 := n2_; have BK126 := n3_; have HB := n4_; have HO129 := n5_; clear n0_ n1_ n2_ n3_ n4_ n5_; clear ho hb hg hat))
                          have n0_ := Aside0.mk (Kd.R_drew HO_4.out)
                          have n1_ := Aside0.mk (Kd.R_drew HO129.out)
                          have n2_ := Aside0.mk (blk_drew BK101.out)
                          have n3_ := Aside0.mk (blk_drew BK116.out)
                          have n4_ := Aside0.mk (blk_drew BK126.out)
                          have n5_ := Aside0.mk (below_drew1 HB.out)
                          clear HO_4
                          clear HO129
                          clear BK101
                          clear BK116
                          clear BK126
                          clear HB
                          have HO_4 := n0_
                          have HO129 := n1_
                          have BK101 := n2_
                          have BK116 := n3_
                          have BK126 := n4_
                          have HB := n5_
                          clear n0_ n1_ n2_ n3_ n4_ n5_
                          obtain ⟨Ao62, co62, eo62⟩ := Kd.R_slice HO129.out
                          (first | subst eo62 | (injection eo62 with f1_ f2_ f3_; have f4_ := f1_.symm; have f5_ := f3_.symm; clear f1_ f2_ f3_; subst f4_; subst f5_))
                          refine start_ (n := 10) (S := fun w' => w'.cell? ⟨gb126, 0, none⟩ = some (.int .i64 ((rd_T117 ((rd_T99 l0_0 x40_2).f1) x69_4).f0)) ∧ w'.cell? ⟨gb126, 1, none⟩ = some (.int .i64 ((rd_T117 ((rd_T99 l0_0 x40_2).f1) x69_4).f1)) ∧ w'.cell? ⟨gb126, 2, none⟩ = some (.int .i64 ((rd_T117 ((rd_T99 l0_0 x40_2).f1) x69_4).f2))) (ds := []) #[false, false, false, false, false, false, false, false, false, false] (by kernel_rfl) rfl rfl ⟨(blk_cell BK126.out 0).trans rfl, (blk_cell BK126.out 1).trans rfl, (blk_cell BK126.out 2).trans rfl⟩ (fun hHeld => ?_); refine with_tabW impl_Compile.tab24 impl_Compile.bits24 (fun HT_ HW_ => ?_)
                          generalize w60.drew = w61 at HO_4 HO129 BK101 BK116 BK126 HB hHeld ⊢
                          refine pure_ (i := 0) (N := some 80) (v := ?_) (a' := ?_) #[true, false, false, false, false, false, false, false, false, false] rfl rfl (any_of HT_.out (by kernel_rfl)) (fun _ _ _ h => h) (Or.inl ⟨by rfl, ?_⟩) ?_ ?_
                          rotate_left
                          ·intro w'
                           go_simp
                           with_reducible rfl
                          rotate_left
                          ·simp only [Act.put, List.setIfInBounds_toArray, List.set_cons_zero, List.set_cons_succ, i64_w, i32_w]
                           rfl
                          refine pure_ (i := 1) (N := some 81) (v := ?_) (a' := ?_) #[true, true, false, false, false, false, false, false, false, false] rfl rfl (any_of HT_.out (by kernel_rfl)) (fun _ _ _ h => h) (Or.inl ⟨by rfl, ?_⟩) ?_ ?_
                          rotate_left
                          ·intro w'
                           go_simp
                           with_reducible rfl
                          rotate_left
                          ·simp only [Act.put, List.setIfInBounds_toArray, List.set_cons_zero, List.set_cons_succ, i64_w, i32_w]
                           rfl
                          refine pure_ (i := 3) (N := some 83) (v := ?_) (a' := ?_) #[true, true, false, true, false, false, false, false, false, false] rfl rfl (any_of HT_.out (by kernel_rfl)) (fun _ _ _ h => h) (Or.inl ⟨by rfl, ?_⟩) ?_ ?_
                          rotate_left
                          ·intro w'
                           go_simp
                           with_reducible rfl
                          rotate_left
                          ·simp only [Act.put, List.setIfInBounds_toArray, List.set_cons_zero, List.set_cons_succ, i64_w, i32_w]
                           rfl
                          refine take_ (i := 2) (N := some 82) (v := ?_) (a' := ?_) #[true, true, true, true, false, false, false, false, false, false] rfl rfl (take_ofW HT_.out HW_.out (by kernel_rfl)) (fun _ _ _ h => h) (Or.inl ⟨by rfl, ?_⟩) hHeld ?_ ?_
                          rotate_left
                          ·rintro w' ⟨s0, s1, s2⟩
                           go_simp
                           with_reducible rfl
                          rotate_left
                          ·simp only [Act.put, List.setIfInBounds_toArray, List.set_cons_zero, List.set_cons_succ, i64_w, i32_w]
                           rfl
                          refine one_ (i := 4) (N := some 84) #[true, true, true, true, true, false, false, false, false, false] rfl rfl (one_of HT_.out (by kernel_rfl)) (by decide) (fun K hK => ?_)
                          refine goes_ Try.func63 (by kernel_rfl) rfl #[.slice Ao62 y127.length co62] (by rfl) rfl rfl (by (try simp only [List.map_toArray, List.map_cons, List.map_nil]); first | done | rfl | (simp only [List.length_drop, List.length_take]; rfl)) ?_
                          with_reducible refine (impl_MOp.calls _ _ y127 t130 _ ?side1 ?side2 A51.out).mono ?_
                          (case side1 => repeat (first | exact (Kd.R_reads' HO129.out).2.2 | (with_reducible refine Kd.C_alloc ?_ _) | (with_reducible refine Kd.C_drewN ?_ _) | (with_reducible refine Kd.C_drew ?_)))
                          (case side2 => exact (Kd.R_reads' HO129.out).2.1)
                          rintro e w' ⟨rfl, ⟨nd, rfl⟩⟩
                          refine ⟨_, rfl, ?_⟩
                          refine hK.out _ _ ⟨(blk_cell BK126.out 0).trans rfl, (blk_cell BK126.out 1).trans rfl, (blk_cell BK126.out 2).trans rfl⟩ (fun hHeld => ?_)
                          clear hK K
                          refine norm_ (a' := ?_) ?_ ?_
                          rotate_left
                          ·show Act.put _ (some 84) _ = _
                           simp only [Act.put, List.setIfInBounds_toArray, List.set_cons_zero, List.set_cons_succ, i64_w, i32_w]
                           rfl
                          refine pure_ (i := 5) (N := some 85) (v := ?_) (a' := ?_) #[true, true, true, true, true, true, false, false, false, false] rfl rfl (any_of HT_.out (by kernel_rfl)) (fun _ _ _ h => h) (Or.inl ⟨by rfl, ?_⟩) ?_ ?_
                          rotate_left
                          ·intro w'
                           go_simp
                           with_reducible rfl
                          rotate_left
                          ·simp only [Act.put, List.setIfInBounds_toArray, List.set_cons_zero, List.set_cons_succ, i64_w, i32_w]
                           rfl
                          refine pure_ (i := 6) (N := some 86) (v := ?_) (a' := ?_) #[true, true, true, true, true, true, true, false, false, false] rfl rfl (any_of HT_.out (by kernel_rfl)) (fun _ _ _ h => h) (Or.inl ⟨by rfl, ?_⟩) ?_ ?_
                          rotate_left
                          ·intro w'
                           go_simp
                           with_reducible rfl
                          rotate_left
                          ·simp only [Act.put, List.setIfInBounds_toArray, List.set_cons_zero, List.set_cons_succ, i64_w, i32_w]
                           rfl
                          refine one_ (i := 7) (N := some 87) #[true, true, true, true, true, true, true, true, false, false] rfl rfl (one_of HT_.out (by kernel_rfl)) (by decide) (fun K hK => ?_)
                          refine value_ (w1 := ?_) (v := ?_) (by rfl) rfl ?_ ?_
                          rotate_left 2
                          ·go_simp
                           constructor
                           ·rfl
                           ·rfl
                          refine hK.out _ _ ⟨(blk_cell (blk_alloc BK126.out _) 0).trans rfl, (blk_cell (blk_alloc BK126.out _) 1).trans rfl, (blk_cell (blk_alloc BK126.out _) 2).trans rfl⟩ (fun hHeld => ?_)
                          clear hK K
                          refine norm_ (a' := ?_) ?_ ?_
                          rotate_left
                          ·show Act.put _ (some 87) _ = _
                           simp only [Act.put, List.setIfInBounds_toArray, List.set_cons_zero, List.set_cons_succ, i64_w, i32_w]
                           rfl
                          refine one_ (i := 8) (N := some 88) #[true, true, true, true, true, true, true, true, true, false] rfl rfl (one_of HT_.out (by kernel_rfl)) (by decide) (fun K hK => ?_)
                          refine Kd.R_append_step k81 (w0 := w) w.heap.size (by rfl) (.tmp 80) (.tmp 87) 25 81 (.agg #[(.int .i64 0), (.int .i64 0), (.int .i64 0)]) 24 rfl Try.underlying25 info81 rfl (by decide) (by omega) (.slice Ao62 y127.length co62) y127 (⟨4, (rd_T117 ((rd_T99 l0_0 x40_2).f1) x69_4).f1, wrap64 (t130 + 2)⟩ : S81) [.int .i64 4, .int .i64 ((rd_T117 ((rd_T99 l0_0 x40_2).f1) x69_4).f1), .int .i64 (wrap64 (t130 + 2))] (fun _ => True) (fun _ => False) rfl rfl ?aP (fun _ hk => hk.elim) ?aF ?aO ?aB ?aS ?aL ?_
                          (case aP => exact k81_mkM _ _ _ (⟨4, (rd_T117 ((rd_T99 l0_0 x40_2).f1) x69_4).f1, wrap64 (t130 + 2)⟩ : S81))
                          (case aB => exact (by repeat (first | (with_reducible first | exact HB.out | apply below_alloc | apply pw_below_drewN | apply below_drew1 | refine below_set ?_ GE101.out | refine below_set ?_ GE116.out | refine below_set ?_ GE126.out) | exact HB.out)))
                          (case aF => exact (fun _ _ => trivial))
                          (case aO => exact (by (with_reducible repeat (first | apply Kd.R_alloc | apply Kd.R_drewN | apply Kd.R_drew)); exact HO129.out))
                          (case aS => exact (below_size (by repeat (first | (with_reducible first | exact HB.out | apply below_alloc | apply pw_below_drewN | apply below_drew1 | refine below_set ?_ GE101.out | refine below_set ?_ GE116.out | refine below_set ?_ GE126.out) | exact HB.out))))
                          (case aL => have := LMc52.out; omega)
                          intro v132 w63 ho hb hg hat
                          rw [← Ny131.out] at ho
                          have n0_ := Aside0.mk (Kd.R_over' (by (with_reducible repeat (first | apply Kd.R_alloc | apply Kd.R_drewN | apply Kd.R_drew)); exact HO_4.out) (Kd.R_typed (by (with_reducible repeat (first | apply Kd.R_alloc | apply Kd.R_drewN | apply Kd.R_drew)); exact HO129.out)) (by decide) hg)
                          have n1_ := Aside0.mk (blk_grown (g := gb101) (o := .cells #[.slice (some ad115) l0_0.length c0_0] 58 (0, 0)) (by (with_reducible repeat (first | refine blk_drewN ?_ _ | refine blk_drew ?_ | refine blk_alloc ?_ _)); exact BK101.out) hg (Kd.R_ne HO129.out BK101.out (by decide)))
                          have n2_ := Aside0.mk (blk_grown (g := gb116) (o := .cells #[.int .i64 ((rd_T99 l0_0 x40_2).f0), .slice (some ad125) ((rd_T99 l0_0 x40_2).f1).length c115_1, .int .i64 ((rd_T99 l0_0 x40_2).f2)] 99 (0, 0)) (by (with_reducible repeat (first | refine blk_drewN ?_ _ | refine blk_drew ?_ | refine blk_alloc ?_ _)); exact BK116.out) hg (Kd.R_ne HO129.out BK116.out (by decide)))
                          have n3_ := Aside0.mk (blk_grown (g := gb126) (o := .cells #[.int .i64 ((rd_T117 ((rd_T99 l0_0 x40_2).f1) x69_4).f0), .int .i64 ((rd_T117 ((rd_T99 l0_0 x40_2).f1) x69_4).f1), .int .i64 ((rd_T117 ((rd_T99 l0_0 x40_2).f1) x69_4).f2)] 117 (0, 0)) (by (with_reducible repeat (first | refine blk_drewN ?_ _ | refine blk_drew ?_ | refine blk_alloc ?_ _)); exact BK126.out) hg (Kd.R_ne HO129.out BK126.out (by decide)))
                          have n4_ := Aside0.mk (hb)
                          have n5_ := Aside0.mk (ho)
                          clear HO_4
                          clear BK101
                          clear BK116
                          clear BK126
                          clear HB
                          clear HO129
                          have HO_4 := n0_
                          have BK101 := n1_
                          have BK116 := n2_
                          have BK126 := n3_
                          have HB := n4_
                          have HO133 := n5_
                          clear n0_ n1_ n2_ n3_ n4_ n5_
                          clear ho hb hg hat
                          refine hK.out _ _ ⟨(blk_cell BK126.out 0).trans rfl, (blk_cell BK126.out 1).trans rfl, (blk_cell BK126.out 2).trans rfl⟩ (fun hHeld => ?_)
                          clear hK K
                          refine norm_ (a' := ?_) ?_ ?_
                          rotate_left
                          ·show Act.put _ (some 88) _ = _
                           simp only [Act.put, List.setIfInBounds_toArray, List.set_cons_zero, List.set_cons_succ, i64_w, i32_w]
                           rfl
                          refine pure_ (i := 9) (N := some 8) (v := ?_) (a' := ?_) #[true, true, true, true, true, true, true, true, true, true] rfl rfl (any_of HT_.out (by kernel_rfl)) (fun _ _ _ h => h) (Or.inl ⟨by rfl, ?_⟩) ?_ ?_
                          rotate_left
                          ·intro w'
                           go_simp
                           with_reducible rfl
                          rotate_left
                          ·simp only [Act.put, List.setIfInBounds_toArray, List.set_cons_zero, List.set_cons_succ, i64_w, i32_w]
                           rfl
                          refine done_ (done_of HT_.out (by kernel_rfl)) ?_
                          have hcz64_0 : w63.cell? ⟨gb126, 0, none⟩ = some (.int .i64 ((rd_T117 ((rd_T99 l0_0 x40_2).f1) x69_4).f0)) := (blk_cell BK126.out 0).trans rfl
                          have hcz64_1 : w63.cell? ⟨gb126, 1, none⟩ = some (.int .i64 ((rd_T117 ((rd_T99 l0_0 x40_2).f1) x69_4).f1)) := (blk_cell BK126.out 1).trans rfl
                          have hcz64_2 : w63.cell? ⟨gb126, 2, none⟩ = some (.int .i64 ((rd_T117 ((rd_T99 l0_0 x40_2).f1) x69_4).f2)) := (blk_cell BK126.out 2).trans rfl
                          have hfz64_0 := blk_frozen BK126.out 0
                          have hfz64_1 := blk_frozen BK126.out 1
                          have hfz64_2 := blk_frozen BK126.out 2
                          have p134 : 0 ≤ (((rd_T117 ((rd_T99 l0_0 x40_2).f1) x69_4).f2) : Int) := of_decide_eq_true (by first | (with_reducible assumption) | assumption)
                          have q134 : ((rd_T117 ((rd_T99 l0_0 x40_2).f1) x69_4).f2) < (x4_1.length : Int) := of_decide_eq_true (by first | (with_reducible assumption) | assumption)
                          obtain ⟨ad134, e134, hx134_0⟩ := Kd.at_int (Kd.R_reads' HO_4.out).2.2 ((rd_T117 ((rd_T99 l0_0 x40_2).f1) x69_4).f2) p134 q134
                          obtain rfl : ad123 = ad134 := (by injection e134)
                          replace p134 := eq_true p134
                          replace q134 := eq_true q134
                          try go_wp2_with (first | ((with_reducible refine gate_builtin (b := .append) (xs := #[.tmp 89, .tmp 96]) rfl ?_); at_builtin; refine Kd.R_append k81 (w0 := w) w.heap.size rfl (.tmp 89) (.tmp 96) 25 81 (.agg #[(.int .i64 0), (.int .i64 0), (.int .i64 0)]) 24 rfl Try.underlying25 info81 rfl (by decide) (by omega) v132 y131 (⟨5, rd x4_1 ((rd_T117 ((rd_T99 l0_0 x40_2).f1) x69_4).f2), 0⟩ : S81) [.int .i64 5, .int .i64 (rd x4_1 ((rd_T117 ((rd_T99 l0_0 x40_2).f1) x69_4).f2)), .int .i64 0] (fun _ => True) (fun _ => False) rfl rfl ?aP (fun _ hk => hk.elim) ?aF ?aO ?aB ?aS ?aL ?_; (case aP => exact k81_mkM _ _ _ (⟨5, rd x4_1 ((rd_T117 ((rd_T99 l0_0 x40_2).f1) x69_4).f2), 0⟩ : S81)); (case aB => exact (by repeat (first | (with_reducible first | exact HB.out | apply below_alloc | apply pw_below_drewN | apply below_drew1 | refine below_set ?_ GE101.out | refine below_set ?_ GE116.out | refine below_set ?_ GE126.out) | exact HB.out))); (case aF => exact (fun _ _ => trivial)); (case aO => exact (by (with_reducible repeat (first | apply Kd.R_alloc | apply Kd.R_drewN | apply Kd.R_drew)); exact HO133.out)); (case aS => exact (below_size (by repeat (first | (with_reducible first | exact HB.out | apply below_alloc | apply pw_below_drewN | apply below_drew1 | refine below_set ?_ GE101.out | refine below_set ?_ GE116.out | refine below_set ?_ GE126.out) | exact HB.out)))); (case aL => have := LMc55.out; omega); intro v136 w65 ho hb hg hat; rw [← Ny135.out] at ho; have n0_ := Aside0.mk (Kd.R_over' (by (with_reducible repeat (first | apply Kd.R_alloc | apply Kd.R_drewN | apply Kd.R_drew)); exact HO_4.out) (Kd.R_typed (by (with_reducible repeat (first | apply Kd.R_alloc | apply Kd.R_drewN | apply Kd.R_drew)); exact HO133.out)) (by decide) hg); have n1_ := Aside0.mk (blk_grown (g := gb101) (o := .cells #[.slice (some ad115) l0_0.length c0_0] 58 (0, 0)) (by (with_reducible repeat (first | refine blk_drewN ?_ _ | refine blk_drew ?_ | refine blk_alloc ?_ _)); exact BK101.out) hg (Kd.R_ne HO133.out BK101.out (by decide))); have n2_ := Aside0.mk (blk_grown (g := gb116) (o := .cells #[.int .i64 ((rd_T99 l0_0 x40_2).f0), .slice (some ad125) ((rd_T99 l0_0 x40_2).f1).length c115_1, .int .i64 ((rd_T99 l0_0 x40_2).f2)] 99 (0, 0)) (by (with_reducible repeat (first | refine blk_drewN ?_ _ | refine blk_drew ?_ | refine blk_alloc ?_ _)); exact BK116.out) hg (Kd.R_ne HO133.out BK116.out (by decide))); have n3_ := Aside0.mk (blk_grown (g := gb126) (o := .cells #[.int .i64 ((rd_T117 ((rd_T99 l0_0 x40_2).f1) x69_4).f0), .int .i64 ((rd_T117 ((rd_T99 l0_0 x40_2).f1) x69_4).f1), .int .i64 ((rd_T117 ((rd_T99 l0_0 x40_2).f1) x69_4).f2)] 117 (0, 0)) (by (with_reducible repeat (first | refine blk_drewN ?_ _ | refine blk_drew ?_ | refine blk_alloc ?_ _)); exact BK126.out) hg (Kd.R_ne HO133.out BK126.out (by decide))); have n4_ := Aside0.mk (hb); have n5_ := Aside0.mk (ho); clear HO_4; clear BK101; clear BK116; clear BK126; clear HB; clear HO133; have HO_4 := n0_; have BK101 := n1_; have BK116 := n2_; have BK126 := n3_; have HB := n4_; have HO137 := n5_; clear n0_ n1_ n2_ n3_ n4_ n5_; clear ho hb hg hat))
                          go_roundg k4
                          case measure => have := HK1.out; have := HK2.out; have := HJ27.out; have := HK4.out; omega
                          case rel => exact ⟨(y135), (wrap64 (x69_4 + 1)), (by first | rfl | (simp; done) | (simp [*]; done)), H', ⟨by have := HK1.out; have := HK2.out; have := HJ27.out; have := HK4.out; omega⟩, ⟨by (with_reducible repeat (first | apply Kd.R_alloc | apply Kd.R_drewN | apply Kd.R_drew)); exact HO_4.out⟩, ⟨by (with_reducible repeat (first | apply Kd.R_alloc | apply Kd.R_drewN | apply Kd.R_drew)); exact HO137.out⟩, ⟨by (with_reducible repeat (first | refine blk_drewN ?_ _ | refine blk_drew ?_ | refine blk_alloc ?_ _)); exact BK101.out⟩, ⟨by (with_reducible repeat (first | refine blk_drewN ?_ _ | refine blk_drew ?_ | refine blk_alloc ?_ _)); exact BK116.out⟩, ⟨by repeat (first | (with_reducible first | exact HB.out | apply below_alloc | apply pw_below_drewN | apply below_drew1 | refine below_set ?_ GE101.out | refine below_set ?_ GE116.out | refine below_set ?_ GE126.out) | exact HB.out)⟩⟩
                         ·rw [if_neg c55] at H
                          exact absurd H (by simp)
                        ·rw [if_neg c54] at H
                         exact absurd H (by simp)
                       ·rw [if_neg c53] at H
                        exact absurd H (by simp)
                      ·rw [if_neg c52] at H
                       exact absurd H (by simp)
                     ·rw [if_neg c50] at H
                      exact absurd H (by simp)
                    ·rw [if_neg c49] at H
                     exact absurd H (by simp)
                   ·rw [if_neg c48] at H
                    exact absurd H (by simp)
                  ·rw [if_neg c47] at H
                   have c47b0 : decide (x69_4 < (((rd_T99 l0_0 x40_2).f1).length : Int)) = false := decide_eq_false c47
                   clear c47
                   by_cases c66 : 0 ≤ ((rd_T99 l0_0 x40_2).f2)
                   ·rw [if_pos c66] at H
                    have c66b0 : decide (0 ≤ ((rd_T99 l0_0 x40_2).f2)) = true := decide_eq_true c66
                    clear c66
                    by_cases c67 : ((rd_T99 l0_0 x40_2).f2) < (x4_1.length : Int)
                    ·rw [if_pos c67] at H
                     have c67b0 : decide (((rd_T99 l0_0 x40_2).f2) < (x4_1.length : Int)) = true := decide_eq_true c67
                     clear c67
                     by_cases c68 : x8_4.length < 5864062014805
                     ·rw [if_pos c68] at H
                      have LMc68 := Aside0.mk c68
                      clear c68
                      obtain ⟨y139, hy139⟩ : ∃ y_ : List (S81), y_ = (x8_4 ++ [(⟨5, rd x4_1 ((rd_T99 l0_0 x40_2).f2), 0⟩ : S81)]) := ⟨_, rfl⟩
                      replace H : (impl_Compile.l1 k4 x4_1 y139 l0_0 (l0_0.length : Int) (wrap64 (x40_2 + 1))) = some (r1, r2) := by first | (rw [hy139]; with_reducible exact H) | (have H2_ := (Option.bind_some _ _).symm.trans H; rw [hy139]; with_reducible exact H2_) | (have H2_ := (Option.bind_some _ _).symm.trans H; with_reducible exact H2_) | with_reducible exact H | (rw [hy139]; exact H) | exact H
                      have Ny139 := Aside0.mk hy139
                      clear hy139
                      have H' := Aside0.mk H
                      clear H
                      have hnb69 := NB116_101.out
                      have hnc69 := NB101_116.out
                      have hcz70_0 : wr.cell? ⟨gb116, 0, none⟩ = some (.int .i64 ((rd_T99 l0_0 x40_2).f0)) := (blk_cell BK116.out 0).trans rfl
                      have hcz70_1 : wr.cell? ⟨gb116, 1, none⟩ = some (.slice A115_1 ((rd_T99 l0_0 x40_2).f1).length c115_1) := (blk_cell BK116.out 1).trans rfl
                      have hcz70_2 : wr.cell? ⟨gb116, 2, none⟩ = some (.int .i64 ((rd_T99 l0_0 x40_2).f2)) := (blk_cell BK116.out 2).trans rfl
                      have hfz70_0 := blk_frozen BK116.out 0
                      have hfz70_1 := blk_frozen BK116.out 1
                      have hfz70_2 := blk_frozen BK116.out 2
                      have p138 : 0 ≤ (((rd_T99 l0_0 x40_2).f2) : Int) := of_decide_eq_true (by first | (with_reducible assumption) | assumption)
                      have q138 : ((rd_T99 l0_0 x40_2).f2) < (x4_1.length : Int) := of_decide_eq_true (by first | (with_reducible assumption) | assumption)
                      obtain ⟨ad138, e138, hx138_0⟩ := Kd.at_int (Kd.R_reads' HO_4.out).2.2 ((rd_T99 l0_0 x40_2).f2) p138 q138
                      obtain rfl : ad123 = ad138 := (by injection e138)
                      replace p138 := eq_true p138
                      replace q138 := eq_true q138
                      go_wp2_with (first | ((with_reducible refine gate_builtin (b := .append) (xs := #[.tmp 99, .tmp 106]) rfl ?_); at_builtin; refine Kd.R_append k81 (w0 := w) w.heap.size rfl (.tmp 99) (.tmp 106) 25 81 (.agg #[(.int .i64 0), (.int .i64 0), (.int .i64 0)]) 24 rfl Try.underlying25 info81 rfl (by decide) (by omega) u8 x8_4 (⟨5, rd x4_1 ((rd_T99 l0_0 x40_2).f2), 0⟩ : S81) [.int .i64 5, .int .i64 (rd x4_1 ((rd_T99 l0_0 x40_2).f2)), .int .i64 0] (fun _ => True) (fun _ => False) rfl rfl ?aP (fun _ hk => hk.elim) ?aF ?aO ?aB ?aS ?aL ?_; (case aP => exact k81_mkM _ _ _ (⟨5, rd x4_1 ((rd_T99 l0_0 x40_2).f2), 0⟩ : S81)); (case aB => exact (by repeat (first | (with_reducible first | exact HB.out | apply below_alloc | apply pw_below_drewN | apply below_drew1 | refine below_set ?_ GE101.out | refine below_set ?_ GE116.out) | exact HB.out))); (case aF => exact (fun _ _ => trivial)); (case aO => exact (by (with_reducible repeat (first | apply Kd.R_alloc | apply Kd.R_drewN | apply Kd.R_drew)); exact HO_8.out)); (case aS => exact (below_size (by repeat (first | (with_reducible first | exact HB.out | apply below_alloc | apply pw_below_drewN | apply below_drew1 | refine below_set ?_ GE101.out | refine below_set ?_ GE116.out) | exact HB.out)))); (case aL => have := LMc68.out; omega); intro v140 w71 ho hb hg hat; rw [← Ny139.out] at ho; have n0_ := Aside0.mk (Kd.R_over' (by (with_reducible repeat (first | apply Kd.R_alloc | apply Kd.R_drewN | apply Kd.R_drew)); exact HO_4.out) (Kd.R_typed (by (with_reducible repeat (first | apply Kd.R_alloc | apply Kd.R_drewN | apply Kd.R_drew)); exact HO_8.out)) (by decide) hg); have n1_ := Aside0.mk (blk_grown (g := gb101) (o := .cells #[.slice (some ad115) l0_0.length c0_0] 58 (0, 0)) (by (with_reducible repeat (first | refine blk_drewN ?_ _ | refine blk_drew ?_ | refine blk_alloc ?_ _)); exact BK101.out) hg (Kd.R_ne HO_8.out BK101.out (by decide))); have n2_ := Aside0.mk (blk_grown (g := gb116) (o := .cells #[.int .i64 ((rd_T99 l0_0 x40_2).f0), .slice A115_1 ((rd_T99 l0_0 x40_2).f1).length c115_1, .int .i64 ((rd_T99 l0_0 x40_2).f2)] 99 (0, 0)) (by (with_reducible repeat (first | refine blk_drewN ?_ _ | refine blk_drew ?_ | refine blk_alloc ?_ _)); exact BK116.out) hg (Kd.R_ne HO_8.out BK116.out (by decide))); have n3_ := Aside0.mk (hb); have n4_ := Aside0.mk (ho); clear HO_4; clear BK101; clear BK116; clear HB; clear HO_8; have HO_4 := n0_; have BK101 := n1_; have BK116 := n2_; have HB := n3_; have HO141 := n4_; clear n0_ n1_ n2_ n3_ n4_; clear ho hb hg hat))
                      go_roundg k4
                      case measure => have := HK1.out; have := HK2.out; have := HJ27.out; have := HK4.out; omega
                      case rel => exact ⟨(y139), (wrap64 (x40_2 + 1)), (by first | rfl | (simp; done) | (simp [*]; done)), H', ⟨by have := HK1.out; have := HK2.out; have := HJ27.out; have := HK4.out; omega⟩, ⟨by (with_reducible repeat (first | apply Kd.R_alloc | apply Kd.R_drewN | apply Kd.R_drew)); exact HO_4.out⟩, ⟨by (with_reducible repeat (first | apply Kd.R_alloc | apply Kd.R_drewN | apply Kd.R_drew)); exact HO141.out⟩, ⟨by (with_reducible repeat (first | refine blk_drewN ?_ _ | refine blk_drew ?_ | refine blk_alloc ?_ _)); exact BK101.out⟩, ⟨by repeat (first | (with_reducible first | exact HB.out | apply below_alloc | apply pw_below_drewN | apply below_drew1 | refine below_set ?_ GE101.out | refine below_set ?_ GE116.out) | exact HB.out)⟩⟩
                     ·rw [if_neg c68] at H
                      exact absurd H (by simp)
                    ·rw [if_neg c67] at H
                     exact absurd H (by simp)
                   ·rw [if_neg c66] at H
                    exact absurd H (by simp)
               ·rw [if_neg c39] at H
                exact absurd H (by simp)
              ·rw [if_neg c38] at H
               exact absurd H (by simp)
             ·rw [if_neg c37] at H
              exact absurd H (by simp)
          ·rw [if_neg c27] at H
           exact absurd H (by simp)
         ·rw [if_neg c26] at H
          exact absurd H (by simp)
        ·rw [if_neg c25] at H
         have c25b0 : decide (x40_2 < (l0_0.length : Int)) = false := decide_eq_false c25
         clear c25
         simp only [Option.some.injEq, Prod.mk.injEq] at H
         obtain ⟨rfl, rfl⟩ := H
         go_wp2
         go_ret2
         exact ⟨_, by first | rfl | (simp [errW_none, errW_some] <;> rfl) | (simp [*, errW_none, errW_some] <;> rfl), by (with_reducible repeat (first | apply Kd.R_alloc | apply Kd.R_drewN | apply Kd.R_drew)); exact HO_8.out, by repeat (first | (with_reducible first | exact HB.out | apply below_alloc | apply pw_below_drewN | apply below_drew1 | refine below_set ?_ GE101.out) | exact HB.out)⟩
 ·replace c3 := Bool.eq_false_iff.mpr c3
  subst c3
  have H1 : (some (([] : List (S81)), false)) = some (r1, r2) := by rw [if_neg (show ¬ (false = true) by decide)] at H; exact H
  clear H
  have H := H1
  clear H1
  simp only [Option.some.injEq, Prod.mk.injEq] at H
  obtain ⟨rfl, rfl⟩ := H
  go_enter Try.func57, Try.ntmps57
  go_wp2_with (first | ((with_reducible refine gate_dst (N := 1) rfl ?_); refine box_event ?hg (N := 1) ?hd (cs := #[.slice A0_0 l0_0.length c0_0]) (t := 58) ?hr ?_; (case hd => rfl); (case hg => rfl); (case hr => first | (go_simp; done) | (go_simp; rfl)); intro gb101 hg w72 hbox hb; have n0_ := Aside0.mk (below_step (by repeat (first | (with_reducible first | exact HB.out | apply below_alloc | apply pw_below_drewN | apply below_drew1) | exact HB.out)) hb); have n1_ := Aside0.mk (hbox); have n2_ := Aside0.mk ((by rw [hg]; exact (below_size (by repeat (first | (with_reducible first | exact HB.out | apply below_alloc | apply pw_below_drewN | apply below_drew1) | exact HB.out))) : w.heap.size ≤ gb101)); have n3_ := Aside0.mk ((by rw [hg]; exact (below_size (by repeat (first | (with_reducible first | exact HB.out | apply below_alloc | apply pw_below_drewN | apply below_drew1) | exact HB.out))) : w.heap.size ≤ gb101)); clear HB; have HB := n0_; have BK101 := n1_; have GW101 := n2_; have GE101 := n3_; clear n0_ n1_ n2_ n3_; clear hb hbox hg; have hcz73_0 : w72.cell? ⟨gb101, 0, none⟩ = some (.slice A0_0 l0_0.length c0_0) := (blk_cell BK101.out 0).trans rfl; have hfz73_0 := blk_frozen BK101.out 0) | ((with_reducible refine gate_callee (f := 44) rfl ?_); refine goesL_ (some 15) rfl rfl Try.func44 (by kernel_rfl) rfl #[.agg #[.slice A0_0 l0_0.length c0_0]] rfl (by (try simp only [List.map_toArray, List.map_cons, List.map_nil]); first | done | rfl | (simp only [List.length_drop, List.length_take]; rfl)) ?_; (with_reducible refine (impl_CodeOk.calls _ _ l0_0 false _ ?side1 ?side2 A2.out).mono ?_); (case side1 => repeat (first | exact (Kd.C_below HR0_0.out HB.out) | (with_reducible refine Kd.C_alloc ?_ _) | (with_reducible refine Kd.C_drewN ?_ _) | (with_reducible refine Kd.C_drew ?_))); (case side2 => exact HC0_0.out); rintro e w74 ⟨rfl, hb⟩; refine ⟨_, rfl, ?_⟩; have n0_ := Aside0.mk (blk_below (g := gb101) (o := .cells #[.slice A0_0 l0_0.length c0_0] 58 (0, 0)) (by (with_reducible repeat (first | refine blk_drewN ?_ _ | refine blk_drew ?_ | refine blk_alloc ?_ _)); exact BK101.out) hb); have n1_ := Aside0.mk (below_step (by repeat (first | (with_reducible first | exact HB.out | apply below_alloc | apply pw_below_drewN | apply below_drew1 | refine below_set ?_ GE101.out) | exact HB.out)) hb); clear BK101; clear HB; have BK101 := n0_; have HB := n1_; clear n0_ n1_; (try clear hb); (try clear hb2); (try clear hk); (try clear hi)))
  go_ret2
  exact ⟨_, by first | rfl | (simp [errW_none, errW_some] <;> rfl) | (simp [*, errW_none, errW_some] <;> rfl), by first | exact Kd.R_nil _ _ _ _ _ | exact Kd.N_nil _ _ _ _ _ | exact Kd.V_nil _ _ _ _ _ | exact Kd.Q_nil _ _ _ _ _ | exact Kd.S_nil _ _ _ _ _, by repeat (first | (with_reducible first | exact HB.out | apply below_alloc | apply pw_below_drewN | apply below_drew1 | refine below_set ?_ GE101.out) | exact HB.out)⟩

end Go.Proofs.Ytimdoghlnegpgaa.P
-- Made by wip/gen/pp.py of this session over the kit's print of the loaded program: a function, and the contract of its walk. Lean checks it.
namespace Go.Proofs.Ytimdoghlnegpgaa.P
open Go.RowKit Go.Proofs.YtimdoghlnegpgaaW.PrintWords Go.Proofs.YtimdoghlnegpgaaW.PrintLast Go.Proofs.YtimdoghlnegpgaaW.PrintMore
attribute [local go_sem] max2_int min2_int max_two min_two max_three min_three max_four min_four   -- for this text's walks alone
set_option linter.unusedVariables false
set_option linter.unusedSimpArgs false

/-! ### spec_Compile: function 56 -/
mutual
def spec_Compile.l0 : Nat → List (S81) → List Int → Int → Int → List (S99) → Option ((List (S81)) × Bool)
 | 0, _, _, _, _, _ => none
 | k + 1, x4, x5, x6, x7, x102000 => if x7 < (x102000.length : Int) then (if x5.length < 17592186044416 then ((some (x5 ++ [x6] : List Int)).bind fun y109 => (if 0 ≤ x7 then (if ((rd_T99 x102000 x7).f0) ≥ 0 then (spec_Compile.l0 k x4 y109 (wrap64 ((wrap64 ((wrap64 (x6 + 2)) + (wrap64 (3 * (((rd_T99 x102000 x7).f1).length : Int))))) + 1)) (wrap64 (x7 + 1)) x102000) else (spec_Compile.l0 k x4 y109 (wrap64 ((wrap64 (x6 + 2)) + (wrap64 (3 * (((rd_T99 x102000 x7).f1).length : Int))))) (wrap64 (x7 + 1)) x102000)) else (none))) else (none)) else (if x6 > 60000 then (some (x4, false)) else (spec_Compile.l1 k x5 x6 (([] : List (S81))) 0 x102000))
def spec_Compile.l1 : Nat → List Int → Int → List (S81) → Int → List (S99) → Option ((List (S81)) × Bool)
 | 0, _, _, _, _, _ => none
 | k + 1, x5, x6, x8, x9, x102000 => if x9 < (x102000.length : Int) then (if 0 ≤ x9 then (if (wrap64 (x9 + 1)) < (x5.length : Int) then (if 0 ≤ (wrap64 (x9 + 1)) then (spec_Compile.j2 k x5 x6 x8 x9 (wrap64 ((rd x5 (wrap64 (x9 + 1))) - 1)) x102000 ((rd_T99 x102000 x9).f0) ((rd_T99 x102000 x9).f1) ((rd_T99 x102000 x9).f2)) else (none)) else (spec_Compile.j2 k x5 x6 x8 x9 (wrap64 (x6 - 1)) x102000 ((rd_T99 x102000 x9).f0) ((rd_T99 x102000 x9).f1) ((rd_T99 x102000 x9).f2))) else (none)) else (some (x8, true))
def spec_Compile.j2 : Nat → List Int → Int → List (S81) → Int → Int → List (S99) → Int → List (S117) → Int → Option ((List (S81)) × Bool)
 | 0, _, _, _, _, _, _, _, _, _ => none
 | k + 1, x5, x6, x8, x9, x11, x102000, x119000, x119001, x119002 => if x119000 ≥ 0 then (if x8.length < 5864062014805 then (spec_Compile.j3 k x5 x6 (x8 ++ [(⟨1, x119000, 0⟩ : S81)]) x9 x11 x102000 x119000 x119001 x119002) else (none)) else (spec_Compile.j3 k x5 x6 x8 x9 x11 x102000 x119000 x119001 x119002)
def spec_Compile.j3 : Nat → List Int → Int → List (S81) → Int → Int → List (S99) → Int → List (S117) → Int → Option ((List (S81)) × Bool)
 | 0, _, _, _, _, _, _, _, _, _ => none
 | k + 1, x5, x6, x8, x9, x11, x102000, x119000, x119001, x119002 => if x8.length < 5864062014805 then (spec_Compile.l2 k x5 x6 (x8 ++ [(⟨2, 0, 0⟩ : S81)]) x9 x11 0 x102000 x119000 x119001 x119002) else (none)
def spec_Compile.l2 : Nat → List Int → Int → List (S81) → Int → Int → Int → List (S99) → Int → List (S117) → Int → Option ((List (S81)) × Bool)
 | 0, _, _, _, _, _, _, _, _, _, _ => none
 | k + 1, x5, x6, x8, x9, x11, x12, x102000, x119000, x119001, x119002 => if x12 < (x119001.length : Int) then (if 0 ≤ x12 then (if x8.length < 5864062014805 then ((some (x8 ++ [(⟨3, (rd_T117 x119001 x12).f0, x11⟩ : S81)] : List (S81))).bind fun y127 => (if y127.length < 5864062014805 then ((some (y127 ++ [(⟨4, (rd_T117 x119001 x12).f1, wrap64 ((x8.length : Int) + 3)⟩ : S81)] : List (S81))).bind fun y131 => (if 0 ≤ ((rd_T117 x119001 x12).f2) then (if ((rd_T117 x119001 x12).f2) < (x5.length : Int) then (if y131.length < 5864062014805 then (spec_Compile.l2 k x5 x6 (y131 ++ [(⟨5, rd x5 ((rd_T117 x119001 x12).f2), 0⟩ : S81)]) x9 x11 (wrap64 (x12 + 1)) x102000 x119000 x119001 x119002) else (none)) else (none)) else (none))) else (none))) else (none)) else (none)) else (if 0 ≤ x119002 then (if x119002 < (x5.length : Int) then (if x8.length < 5864062014805 then (spec_Compile.l1 k x5 x6 (x8 ++ [(⟨5, rd x5 x119002, 0⟩ : S81)]) (wrap64 (x9 + 1)) x102000) else (none)) else (none)) else (none))
end
def spec_Compile.f (k : Nat) (l0_0 : List (S99)) : Option ((List (S81)) × Bool) := (some (([] : List (S81)) : List (S81))).bind fun y102 => ((spec_CodeOk.f k l0_0).bind fun t105 => (if t105 = true then (spec_Compile.l0 k y102 (([] : List Int)) 0 0 l0_0) else (some (y102, false))))
theorem spec_Compile.mono_l : ∀ k, (∀ y0 y1 y2 y3 y4, LeO (spec_Compile.l0 k y0 y1 y2 y3 y4) (spec_Compile.l0 (k + 1) y0 y1 y2 y3 y4)) ∧ (∀ y0 y1 y2 y3 y4, LeO (spec_Compile.l1 k y0 y1 y2 y3 y4) (spec_Compile.l1 (k + 1) y0 y1 y2 y3 y4)) ∧ (∀ y0 y1 y2 y3 y4 y5 y6 y7 y8, LeO (spec_Compile.j2 k y0 y1 y2 y3 y4 y5 y6 y7 y8) (spec_Compile.j2 (k + 1) y0 y1 y2 y3 y4 y5 y6 y7 y8)) ∧ (∀ y0 y1 y2 y3 y4 y5 y6 y7 y8, LeO (spec_Compile.j3 k y0 y1 y2 y3 y4 y5 y6 y7 y8) (spec_Compile.j3 (k + 1) y0 y1 y2 y3 y4 y5 y6 y7 y8)) ∧ (∀ y0 y1 y2 y3 y4 y5 y6 y7 y8 y9, LeO (spec_Compile.l2 k y0 y1 y2 y3 y4 y5 y6 y7 y8 y9) (spec_Compile.l2 (k + 1) y0 y1 y2 y3 y4 y5 y6 y7 y8 y9))
 | 0 => ⟨fun _ _ _ _ _ r h => by simp [spec_Compile.l0] at h, fun _ _ _ _ _ r h => by simp [spec_Compile.l1] at h, fun _ _ _ _ _ _ _ _ _ r h => by simp [spec_Compile.j2] at h, fun _ _ _ _ _ _ _ _ _ r h => by simp [spec_Compile.j3] at h, fun _ _ _ _ _ _ _ _ _ _ r h => by simp [spec_Compile.l2] at h⟩
 | k + 1 => by
  obtain ⟨ih0, ih1, ih2, ih3, ih4⟩ := spec_Compile.mono_l k
  refine ⟨?_, ?_, ?_, ?_, ?_⟩
  ·intro y0 y1 y2 y3 y4
   unfold spec_Compile.l0
   repeat' first
   | (with_reducible exact ih0 _ _ _ _ _)
   | (with_reducible exact ih1 _ _ _ _ _)
   | (with_reducible exact ih2 _ _ _ _ _ _ _ _ _)
   | (with_reducible exact ih3 _ _ _ _ _ _ _ _ _)
   | (with_reducible exact ih4 _ _ _ _ _ _ _ _ _ _)
   | (with_reducible exact spec_CodeOk.mono _ _)
   | (with_reducible exact LeO.refl _)
   | (with_reducible exact LeO.none _)
   | (with_reducible refine LeO.ite ?_ ?_)
   | (with_reducible refine LeO.bind ?_ (fun _ => ?_))
   | exact ih0 _ _ _ _ _
   | exact ih1 _ _ _ _ _
   | exact ih2 _ _ _ _ _ _ _ _ _
   | exact ih3 _ _ _ _ _ _ _ _ _
   | exact ih4 _ _ _ _ _ _ _ _ _ _
   | exact spec_CodeOk.mono _ _
   | exact LeO.none _
   | refine LeO.ite ?_ ?_
   | refine LeO.bind ?_ (fun _ => ?_)
  ·intro y0 y1 y2 y3 y4
   unfold spec_Compile.l1
   repeat' first
   | (with_reducible exact ih0 _ _ _ _ _)
   | (with_reducible exact ih1 _ _ _ _ _)
   | (with_reducible exact ih2 _ _ _ _ _ _ _ _ _)
   | (with_reducible exact ih3 _ _ _ _ _ _ _ _ _)
   | (with_reducible exact ih4 _ _ _ _ _ _ _ _ _ _)
   | (with_reducible exact spec_CodeOk.mono _ _)
   | (with_reducible exact LeO.refl _)
   | (with_reducible exact LeO.none _)
   | (with_reducible refine LeO.ite ?_ ?_)
   | (with_reducible refine LeO.bind ?_ (fun _ => ?_))
   | exact ih0 _ _ _ _ _
   | exact ih1 _ _ _ _ _
   | exact ih2 _ _ _ _ _ _ _ _ _
   | exact ih3 _ _ _ _ _ _ _ _ _
   | exact ih4 _ _ _ _ _ _ _ _ _ _
   | exact spec_CodeOk.mono _ _
   | exact LeO.none _
   | refine LeO.ite ?_ ?_
   | refine LeO.bind ?_ (fun _ => ?_)
  ·intro y0 y1 y2 y3 y4 y5 y6 y7 y8
   unfold spec_Compile.j2
   repeat' first
   | (with_reducible exact ih0 _ _ _ _ _)
   | (with_reducible exact ih1 _ _ _ _ _)
   | (with_reducible exact ih2 _ _ _ _ _ _ _ _ _)
   | (with_reducible exact ih3 _ _ _ _ _ _ _ _ _)
   | (with_reducible exact ih4 _ _ _ _ _ _ _ _ _ _)
   | (with_reducible exact spec_CodeOk.mono _ _)
   | (with_reducible exact LeO.refl _)
   | (with_reducible exact LeO.none _)
   | (with_reducible refine LeO.ite ?_ ?_)
   | (with_reducible refine LeO.bind ?_ (fun _ => ?_))
   | exact ih0 _ _ _ _ _
   | exact ih1 _ _ _ _ _
   | exact ih2 _ _ _ _ _ _ _ _ _
   | exact ih3 _ _ _ _ _ _ _ _ _
   | exact ih4 _ _ _ _ _ _ _ _ _ _
   | exact spec_CodeOk.mono _ _
   | exact LeO.none _
   | refine LeO.ite ?_ ?_
   | refine LeO.bind ?_ (fun _ => ?_)
  ·intro y0 y1 y2 y3 y4 y5 y6 y7 y8
   unfold spec_Compile.j3
   repeat' first
   | (with_reducible exact ih0 _ _ _ _ _)
   | (with_reducible exact ih1 _ _ _ _ _)
   | (with_reducible exact ih2 _ _ _ _ _ _ _ _ _)
   | (with_reducible exact ih3 _ _ _ _ _ _ _ _ _)
   | (with_reducible exact ih4 _ _ _ _ _ _ _ _ _ _)
   | (with_reducible exact spec_CodeOk.mono _ _)
   | (with_reducible exact LeO.refl _)
   | (with_reducible exact LeO.none _)
   | (with_reducible refine LeO.ite ?_ ?_)
   | (with_reducible refine LeO.bind ?_ (fun _ => ?_))
   | exact ih0 _ _ _ _ _
   | exact ih1 _ _ _ _ _
   | exact ih2 _ _ _ _ _ _ _ _ _
   | exact ih3 _ _ _ _ _ _ _ _ _
   | exact ih4 _ _ _ _ _ _ _ _ _ _
   | exact spec_CodeOk.mono _ _
   | exact LeO.none _
   | refine LeO.ite ?_ ?_
   | refine LeO.bind ?_ (fun _ => ?_)
  ·intro y0 y1 y2 y3 y4 y5 y6 y7 y8 y9
   unfold spec_Compile.l2
   repeat' first
   | (with_reducible exact ih0 _ _ _ _ _)
   | (with_reducible exact ih1 _ _ _ _ _)
   | (with_reducible exact ih2 _ _ _ _ _ _ _ _ _)
   | (with_reducible exact ih3 _ _ _ _ _ _ _ _ _)
   | (with_reducible exact ih4 _ _ _ _ _ _ _ _ _ _)
   | (with_reducible exact spec_CodeOk.mono _ _)
   | (with_reducible exact LeO.refl _)
   | (with_reducible exact LeO.none _)
   | (with_reducible refine LeO.ite ?_ ?_)
   | (with_reducible refine LeO.bind ?_ (fun _ => ?_))
   | exact ih0 _ _ _ _ _
   | exact ih1 _ _ _ _ _
   | exact ih2 _ _ _ _ _ _ _ _ _
   | exact ih3 _ _ _ _ _ _ _ _ _
   | exact ih4 _ _ _ _ _ _ _ _ _ _
   | exact spec_CodeOk.mono _ _
   | exact LeO.none _
   | refine LeO.ite ?_ ?_
   | refine LeO.bind ?_ (fun _ => ?_)
theorem spec_Compile.mono : ∀ a0 k, LeO (spec_Compile.f k a0) (spec_Compile.f (k + 1) a0) := by
 intro a0 k
 obtain ⟨ih0, ih1, ih2, ih3, ih4⟩ := spec_Compile.mono_l k
 unfold spec_Compile.f
 repeat' first
   | (with_reducible exact ih0 _ _ _ _ _)
   | (with_reducible exact ih1 _ _ _ _ _)
   | (with_reducible exact ih2 _ _ _ _ _ _ _ _ _)
   | (with_reducible exact ih3 _ _ _ _ _ _ _ _ _)
   | (with_reducible exact ih4 _ _ _ _ _ _ _ _ _ _)
   | (with_reducible exact spec_CodeOk.mono _ _)
   | (with_reducible exact LeO.refl _)
   | (with_reducible exact LeO.none _)
   | (with_reducible refine LeO.ite ?_ ?_)
   | (with_reducible refine LeO.bind ?_ (fun _ => ?_))
   | exact ih0 _ _ _ _ _
   | exact ih1 _ _ _ _ _
   | exact ih2 _ _ _ _ _ _ _ _ _
   | exact ih3 _ _ _ _ _ _ _ _ _
   | exact ih4 _ _ _ _ _ _ _ _ _ _
   | exact spec_CodeOk.mono _ _
   | exact LeO.none _
   | refine LeO.ite ?_ ?_
   | refine LeO.bind ?_ (fun _ => ?_)
set_option maxHeartbeats 8000000 in
set_option maxRecDepth 100000 in
theorem spec_Compile.calls (k : Nat) (A0_0 : Option Addr) (c0_0 : Nat) (l0_0 : List (S99)) (r1 : List (S81)) (r2 : Bool) (w : World) (hr0_0 : Kd.C k99 w A0_0 l0_0.length l0_0) (hc0_0 : l0_0.length ≤ c0_0) (h : spec_Compile.f k l0_0 = some (r1, r2)) :
  Calls Try.prog 56 #[.agg #[.slice A0_0 l0_0.length c0_0]] w fun e w' => ∃ v0_ : Value, e = .returned (.tuple #[v0_, .bool r2]) ∧ Kd.R k81 81 w' w.heap.size (fun _ => True) v0_ r1 ∧ Below w.heap.size w w' := by
 have hu58 := Try.underlying58
 have hu99 := Try.underlying99
 have hu81 := Try.underlying81
 have HR0_0 := Aside0.mk hr0_0
 have HC0_0 := Aside0.mk hc0_0
 clear hr0_0 hc0_0
 have HB := Aside0.mk (Below.refl w.heap.size w)
 have H : ((some (([] : List (S81)) : List (S81))).bind fun y102 => ((spec_CodeOk.f k l0_0).bind fun t105 => (if t105 = true then (spec_Compile.l0 k y102 (([] : List Int)) 0 0 l0_0) else (some (y102, false))))) = some (r1, r2) := h
 clear h
 obtain ⟨y102, hy102⟩ : ∃ y_ : List (S81), y_ = (([] : List (S81))) := ⟨_, rfl⟩
 replace H : ((spec_CodeOk.f k l0_0).bind fun t105 => (if t105 = true then (spec_Compile.l0 k y102 (([] : List Int)) 0 0 l0_0) else (some (y102, false)))) = some (r1, r2) := by first | (rw [hy102]; with_reducible exact H) | (have H2_ := (Option.bind_some _ _).symm.trans H; rw [hy102]; with_reducible exact H2_) | (have H2_ := (Option.bind_some _ _).symm.trans H; with_reducible exact H2_) | with_reducible exact H | (rw [hy102]; exact H) | exact H
 have Ny102 := Aside0.mk hy102
 clear hy102
 replace H := Option.bind_eq_some_iff.mp H
 obtain ⟨t105, A20, H⟩ := H
 replace H : (if t105 = true then (spec_Compile.l0 k y102 (([] : List Int)) 0 0 l0_0) else (some (y102, false))) = some (r1, r2) := H
 have A2 := Aside0.mk A20
 clear A20
 by_cases c3 : t105 = true
 ·subst c3
  have H1 : (spec_Compile.l0 k y102 (([] : List Int)) 0 0 l0_0) = some (r1, r2) := by rw [if_pos rfl] at H; exact H
  clear H
  have H := H1
  clear H1
  obtain ⟨y106, hy106⟩ : ∃ y_ : List Int, y_ = (([] : List Int)) := ⟨_, rfl⟩
  replace H : (spec_Compile.l0 k y102 y106 0 0 l0_0) = some (r1, r2) := by first | (rw [hy106]; with_reducible exact H) | (have H2_ := (Option.bind_some _ _).symm.trans H; rw [hy106]; with_reducible exact H2_) | (have H2_ := (Option.bind_some _ _).symm.trans H; with_reducible exact H2_) | with_reducible exact H | (rw [hy106]; exact H) | exact H
  have Ny106 := Aside0.mk hy106
  clear hy106
  have H' := Aside0.mk H
  clear H
  go_enter Try.func56, Try.ntmps56
  go_wp2_with (first | ((with_reducible refine gate_dst (N := 1) rfl ?_); refine box_event ?hg (N := 1) ?hd (cs := #[.slice A0_0 l0_0.length c0_0]) (t := 58) ?hr ?_; (case hd => rfl); (case hg => rfl); (case hr => first | (go_simp; done) | (go_simp; rfl)); intro gb101 hg w4 hbox hb; have n0_ := Aside0.mk (below_step (by repeat (first | (with_reducible first | exact HB.out | apply below_alloc | apply pw_below_drewN | apply below_drew1) | exact HB.out)) hb); have n1_ := Aside0.mk (hbox); have n2_ := Aside0.mk ((by rw [hg]; exact (below_size (by repeat (first | (with_reducible first | exact HB.out | apply below_alloc | apply pw_below_drewN | apply below_drew1) | exact HB.out))) : w.heap.size ≤ gb101)); have n3_ := Aside0.mk ((by rw [hg]; exact (below_size (by repeat (first | (with_reducible first | exact HB.out | apply below_alloc | apply pw_below_drewN | apply below_drew1) | exact HB.out))) : w.heap.size ≤ gb101)); clear HB; have HB := n0_; have BK101 := n1_; have GW101 := n2_; have GE101 := n3_; clear n0_ n1_ n2_ n3_; clear hb hbox hg) | ((with_reducible refine gate_dst (N := 14) rfl ?_); refine Kd.R_lit k81 _ 81 ?hg (N := 14) ?hd (xs := ([] : List (S81))) (inner := []) (ok := fun _ => True) (okp := fun _ => True) ?hr ?hp (fun _ hk => hk) trivial (Below.refl _ _) (Nat.le_refl _) (by simp) ?_; (case hd => rfl); (case hg => rfl); (case hr => first | (go_simp; done) | (go_simp; rfl)); (case hp => exact (Reps.none _ _)); intro v103 w5 ho6 hb hg_ hnew_; clear hg_ hnew_; (first | rw [← Ny102.out] at ho6 | (simp only [Int.reduceToNat] at ho6; rw [← Ny102.out] at ho6)); have n0_ := Aside0.mk (Kd.R_lower ho6 (below_size (by repeat (first | (with_reducible first | exact HB.out | apply below_alloc | apply pw_below_drewN | apply below_drew1 | refine below_set ?_ GE101.out) | exact HB.out)))); have n1_ := Aside0.mk (blk_below (g := gb101) (o := .cells #[.slice A0_0 l0_0.length c0_0] 58 (0, 0)) (by (with_reducible repeat (first | refine blk_drewN ?_ _ | refine blk_drew ?_ | refine blk_alloc ?_ _)); exact BK101.out) hb); have n2_ := Aside0.mk (below_step (by repeat (first | (with_reducible first | exact HB.out | apply below_alloc | apply pw_below_drewN | apply below_drew1 | refine below_set ?_ GE101.out) | exact HB.out)) hb); clear BK101; clear HB; have HO104 := n0_; have BK101 := n1_; have HB := n2_; clear n0_ n1_ n2_; clear hb ho6; have hcz7_0 : w5.cell? ⟨gb101, 0, none⟩ = some (.slice A0_0 l0_0.length c0_0) := (blk_cell BK101.out 0).trans rfl; have hfz7_0 := blk_frozen BK101.out 0) | ((with_reducible refine gate_callee (f := 42) rfl ?_); refine goesL_ (some 16) rfl rfl Try.func42 (by kernel_rfl) rfl #[.agg #[.slice A0_0 l0_0.length c0_0]] rfl (by (try simp only [List.map_toArray, List.map_cons, List.map_nil]); first | done | rfl | (simp only [List.length_drop, List.length_take]; rfl)) ?_; (with_reducible refine (spec_CodeOk.calls k _ _ l0_0 true _ ?side1 ?side2 A2.out).mono ?_); (case side1 => repeat (first | exact (Kd.C_below HR0_0.out HB.out) | (with_reducible refine Kd.C_alloc ?_ _) | (with_reducible refine Kd.C_drewN ?_ _) | (with_reducible refine Kd.C_drew ?_))); (case side2 => exact HC0_0.out); rintro e w8 ⟨rfl, hb⟩; refine ⟨_, rfl, ?_⟩; have n0_ := Aside0.mk (Kd.R_below (by (with_reducible repeat (first | apply Kd.R_alloc | apply Kd.R_drewN | apply Kd.R_drew)); exact HO104.out) hb); have n1_ := Aside0.mk (blk_below (g := gb101) (o := .cells #[.slice A0_0 l0_0.length c0_0] 58 (0, 0)) (by (with_reducible repeat (first | refine blk_drewN ?_ _ | refine blk_drew ?_ | refine blk_alloc ?_ _)); exact BK101.out) hb); have n2_ := Aside0.mk (below_step (by repeat (first | (with_reducible first | exact HB.out | apply below_alloc | apply pw_below_drewN | apply below_drew1 | refine below_set ?_ GE101.out) | exact HB.out)) hb); clear HO104; clear BK101; clear HB; have HO104 := n0_; have BK101 := n1_; have HB := n2_; clear n0_ n1_ n2_; (try clear hb); (try clear hb2); (try clear hk); (try clear hi)) | ((with_reducible refine gate_dst (N := 19) rfl ?_); refine Kd.R_lit (Kd.int .i64) _ 2 ?hg (N := 19) ?hd (xs := ([] : List Int)) (inner := []) (ok := fun _ => True) (okp := fun _ => True) ?hr ?hp (fun _ hk => hk) trivial (Below.refl _ _) (Nat.le_refl _) (by simp) ?_; (case hd => rfl); (case hg => rfl); (case hr => first | (go_simp; done) | (go_simp; rfl)); (case hp => exact (Reps.none _ _)); intro v107 w9 ho10 hb hg_ hnew_; clear hg_ hnew_; (first | rw [← Ny106.out] at ho10 | (simp only [Int.reduceToNat] at ho10; rw [← Ny106.out] at ho10)); have n0_ := Aside0.mk (Kd.R_below (by (with_reducible repeat (first | apply Kd.R_alloc | apply Kd.R_drewN | apply Kd.R_drew)); exact HO104.out) hb); have n1_ := Aside0.mk (Kd.R_lower ho10 (below_size (by repeat (first | (with_reducible first | exact HB.out | apply below_alloc | apply pw_below_drewN | apply below_drew1 | refine below_set ?_ GE101.out) | exact HB.out)))); have n2_ := Aside0.mk (blk_below (g := gb101) (o := .cells #[.slice A0_0 l0_0.length c0_0] 58 (0, 0)) (by (with_reducible repeat (first | refine blk_drewN ?_ _ | refine blk_drew ?_ | refine blk_alloc ?_ _)); exact BK101.out) hb); have n3_ := Aside0.mk (below_step (by repeat (first | (with_reducible first | exact HB.out | apply below_alloc | apply pw_below_drewN | apply below_drew1 | refine below_set ?_ GE101.out) | exact HB.out)) hb); clear HO104; clear BK101; clear HB; have HO104 := n0_; have HO108 := n1_; have BK101 := n2_; have HB := n3_; clear n0_ n1_ n2_ n3_; clear hb ho10))
  go_loopg [5, 6, 7] k (fun kq v5 v6 v7 w' => ∃ (x5_1 : List Int) (x6_1 : Int) (x7_1 : Int), v6 = .int .i64 x6_1 ∧ v7 = .int .i64 x7_1 ∧ Aside0 (spec_Compile.l0 kq y102 x5_1 x6_1 x7_1 l0_0 = some (r1, r2)) ∧ Aside0 (kq ≤ k) ∧ Aside0 (Kd.R k81 81 w' w.heap.size (fun _ => True) v103 y102) ∧ Aside0 (Kd.R (Kd.int .i64) 2 w' w.heap.size (fun _ => True) v5 x5_1) ∧ Aside0 (w'.heap[gb101]? = some (.cells #[(.slice A0_0 l0_0.length c0_0)] 58 (0, 0))) ∧ Aside0 (Below w.heap.size w w'))
  case atStart => exact ⟨(y106), (0), (0), (by first | rfl | (simp; done) | (simp [*]; done)), (by first | rfl | (simp; done) | (simp [*]; done)), H', ⟨Nat.le_refl _⟩, ⟨by (with_reducible repeat (first | apply Kd.R_alloc | apply Kd.R_drewN | apply Kd.R_drew)); exact HO104.out⟩, ⟨by (with_reducible repeat (first | apply Kd.R_alloc | apply Kd.R_drewN | apply Kd.R_drew)); exact HO108.out⟩, ⟨by (with_reducible repeat (first | refine blk_drewN ?_ _ | refine blk_drew ?_ | refine blk_alloc ?_ _)); exact BK101.out⟩, ⟨by repeat (first | (with_reducible first | exact HB.out | apply below_alloc | apply pw_below_drewN | apply below_drew1 | refine below_set ?_ GE101.out) | exact HB.out)⟩⟩
  case round =>
   clear H'
   try clear p2
   try clear c3
   try clear c4
   try clear c5
   try clear hcz7_0
   try clear hfz7_0
   obtain ⟨x5_1, x6_1, x7_1, rfl, rfl, HA, HK1, HO_4, HO_5, BK101, HB⟩ := hrel
   cases gk with
   | zero => exact absurd HA.out (by simp [spec_Compile.l0])
   | succ k1 =>
    have H := HA.out
    clear HA
    simp only [spec_Compile.l0] at H
    by_cases c11 : x7_1 < (l0_0.length : Int)
    ·rw [if_pos c11] at H
     have c11b0 : decide (x7_1 < (l0_0.length : Int)) = true := decide_eq_true c11
     clear c11
     by_cases c12 : x5_1.length < 17592186044416
     ·rw [if_pos c12] at H
      have LMc12 := Aside0.mk c12
      clear c12
      obtain ⟨y109, hy109⟩ : ∃ y_ : List Int, y_ = (x5_1 ++ [x6_1]) := ⟨_, rfl⟩
      replace H : (if 0 ≤ x7_1 then (if ((rd_T99 l0_0 x7_1).f0) ≥ 0 then (spec_Compile.l0 k1 y102 y109 (wrap64 ((wrap64 ((wrap64 (x6_1 + 2)) + (wrap64 (3 * (((rd_T99 l0_0 x7_1).f1).length : Int))))) + 1)) (wrap64 (x7_1 + 1)) l0_0) else (spec_Compile.l0 k1 y102 y109 (wrap64 ((wrap64 (x6_1 + 2)) + (wrap64 (3 * (((rd_T99 l0_0 x7_1).f1).length : Int))))) (wrap64 (x7_1 + 1)) l0_0)) else (none)) = some (r1, r2) := by first | (rw [hy109]; with_reducible exact H) | (have H2_ := (Option.bind_some _ _).symm.trans H; rw [hy109]; with_reducible exact H2_) | (have H2_ := (Option.bind_some _ _).symm.trans H; with_reducible exact H2_) | with_reducible exact H | (rw [hy109]; exact H) | exact H
      have Ny109 := Aside0.mk hy109
      clear hy109
      by_cases c13 : 0 ≤ x7_1
      ·rw [if_pos c13] at H
       have c13b0 : decide (0 ≤ x7_1) = true := decide_eq_true c13
       clear c13
       by_cases c14 : ((rd_T99 l0_0 x7_1).f0) ≥ 0
       ·rw [if_pos c14] at H
        have c14b0 : decide (0 ≤ ((rd_T99 l0_0 x7_1).f0)) = true := decide_eq_true c14
        clear c14
        have H' := Aside0.mk H
        clear H
        have hcz15_0 : wr.cell? ⟨gb101, 0, none⟩ = some (.slice A0_0 l0_0.length c0_0) := (blk_cell BK101.out 0).trans rfl
        have hfz15_0 := blk_frozen BK101.out 0
        go_wp2_with (first | ((with_reducible refine gate_builtin (b := .append) (xs := #[.tmp 27, .tmp 29]) rfl ?_); at_builtin; refine Kd.R_append (Kd.int .i64) (w0 := w) w.heap.size rfl (.tmp 27) (.tmp 29) 37 2 (.int .i64 0) 8 rfl Try.underlying37 info2 rfl (by decide) (by omega) u5 x5_1 x6_1 [.int .i64 x6_1] (fun _ => True) (fun _ => False) rfl rfl ?aP (fun _ hk => hk.elim) ?aF ?aO ?aB ?aS ?aL ?_; (case aP => exact rfl); (case aB => exact (by repeat (first | (with_reducible first | exact HB.out | apply below_alloc | apply pw_below_drewN | apply below_drew1 | refine below_set ?_ GE101.out) | exact HB.out))); (case aF => exact (fun _ _ => trivial)); (case aO => exact (by (with_reducible repeat (first | apply Kd.R_alloc | apply Kd.R_drewN | apply Kd.R_drew)); exact HO_5.out)); (case aS => exact (below_size (by repeat (first | (with_reducible first | exact HB.out | apply below_alloc | apply pw_below_drewN | apply below_drew1 | refine below_set ?_ GE101.out) | exact HB.out)))); (case aL => have := LMc12.out; omega); intro v110 w16 ho hb hg hat; rw [← Ny109.out] at ho; have n0_ := Aside0.mk (Kd.R_over' (by (with_reducible repeat (first | apply Kd.R_alloc | apply Kd.R_drewN | apply Kd.R_drew)); exact HO_4.out) (Kd.R_typed (by (with_reducible repeat (first | apply Kd.R_alloc | apply Kd.R_drewN | apply Kd.R_drew)); exact HO_5.out)) (by decide) hg); have n1_ := Aside0.mk (blk_grown (g := gb101) (o := .cells #[.slice A0_0 l0_0.length c0_0] 58 (0, 0)) (by (with_reducible repeat (first | refine blk_drewN ?_ _ | refine blk_drew ?_ | refine blk_alloc ?_ _)); exact BK101.out) hg (Kd.R_ne HO_5.out BK101.out (by decide))); have n2_ := Aside0.mk (hb); have n3_ := Aside0.mk (ho); clear HO_4; clear BK101; clear HB; clear HO_5; have HO_4 := n0_; have BK101 := n1_; have HB := n2_; have HO111 := n3_; clear n0_ n1_ n2_ n3_; clear ho hb hg hat; have hcz17_0 : w16.cell? ⟨gb101, 0, none⟩ = some (.slice A0_0 l0_0.length c0_0) := (blk_cell BK101.out 0).trans rfl; have hfz17_0 := blk_frozen BK101.out 0; have p112 : 0 ≤ (x7_1 : Int) := of_decide_eq_true (by first | (with_reducible assumption) | assumption); have q112 : x7_1 < (l0_0.length : Int) := of_decide_eq_true (by first | (with_reducible assumption) | assumption); obtain ⟨ad112, A112_1, c112_1, e112, hx112_0, hx112_1, hx112_2, hl112_1, hi112_1⟩ := at_T99 HR0_0.out x7_1 p112 q112; cases e112; replace hx112_0 := (HB.out.cell (World.block_lt_of_cell? w _ hx112_0)).trans hx112_0; replace hx112_1 := (HB.out.cell (World.block_lt_of_cell? w _ hx112_1)).trans hx112_1; replace hx112_2 := (HB.out.cell (World.block_lt_of_cell? w _ hx112_2)).trans hx112_2; have HR112_1 := Aside0.mk hi112_1; have HC112_1 := Aside0.mk hl112_1; clear hi112_1 hl112_1; replace p112 := eq_true p112; replace q112 := eq_true q112; have p113 : 0 ≤ (x7_1 : Int) := of_decide_eq_true (by first | (with_reducible assumption) | assumption); have q113 : x7_1 < (l0_0.length : Int) := of_decide_eq_true (by first | (with_reducible assumption) | assumption); obtain ⟨ad113, A113_1, c113_1, e113, hx113_0, hx113_1, hx113_2, hl113_1, hi113_1⟩ := at_T99 HR0_0.out x7_1 p113 q113; obtain rfl : ad112 = ad113 := (by injection e113); replace hx113_0 := (HB.out.cell (World.block_lt_of_cell? w _ hx113_0)).trans hx113_0; replace hx113_1 := (HB.out.cell (World.block_lt_of_cell? w _ hx113_1)).trans hx113_1; replace hx113_2 := (HB.out.cell (World.block_lt_of_cell? w _ hx113_2)).trans hx113_2; have HR113_1 := Aside0.mk hi113_1; have HC113_1 := Aside0.mk hl113_1; clear hi113_1 hl113_1; replace p113 := eq_true p113; replace q113 := eq_true q113; have ea_ := Option.some.inj (hx112_1.symm.trans hx113_1); injection ea_ with ea_ en_ ec_; subst ea_; subst ec_; clear en_))
        go_roundg k1
        case measure => have := HK1.out; omega
        case rel => exact ⟨(y109), (wrap64 ((wrap64 ((wrap64 (x6_1 + 2)) + (wrap64 (3 * (((rd_T99 l0_0 x7_1).f1).length : Int))))) + 1)), (wrap64 (x7_1 + 1)), (by first | rfl | (simp; done) | (simp [*]; done)), (by first | rfl | (simp; done) | (simp [*]; done)), H', ⟨by have := HK1.out; omega⟩, ⟨by (with_reducible repeat (first | apply Kd.R_alloc | apply Kd.R_drewN | apply Kd.R_drew)); exact HO_4.out⟩, ⟨by (with_reducible repeat (first | apply Kd.R_alloc | apply Kd.R_drewN | apply Kd.R_drew)); exact HO111.out⟩, ⟨by (with_reducible repeat (first | refine blk_drewN ?_ _ | refine blk_drew ?_ | refine blk_alloc ?_ _)); exact BK101.out⟩, ⟨by repeat (first | (with_reducible first | exact HB.out | apply below_alloc | apply pw_below_drewN | apply below_drew1 | refine below_set ?_ GE101.out) | exact HB.out)⟩⟩
       ·rw [if_neg c14] at H
        have c14b0 : decide (0 ≤ ((rd_T99 l0_0 x7_1).f0)) = false := decide_eq_false c14
        clear c14
        have H' := Aside0.mk H
        clear H
        have hcz18_0 : wr.cell? ⟨gb101, 0, none⟩ = some (.slice A0_0 l0_0.length c0_0) := (blk_cell BK101.out 0).trans rfl
        have hfz18_0 := blk_frozen BK101.out 0
        go_wp2_with (first | ((with_reducible refine gate_builtin (b := .append) (xs := #[.tmp 27, .tmp 29]) rfl ?_); at_builtin; refine Kd.R_append (Kd.int .i64) (w0 := w) w.heap.size rfl (.tmp 27) (.tmp 29) 37 2 (.int .i64 0) 8 rfl Try.underlying37 info2 rfl (by decide) (by omega) u5 x5_1 x6_1 [.int .i64 x6_1] (fun _ => True) (fun _ => False) rfl rfl ?aP (fun _ hk => hk.elim) ?aF ?aO ?aB ?aS ?aL ?_; (case aP => exact rfl); (case aB => exact (by repeat (first | (with_reducible first | exact HB.out | apply below_alloc | apply pw_below_drewN | apply below_drew1 | refine below_set ?_ GE101.out) | exact HB.out))); (case aF => exact (fun _ _ => trivial)); (case aO => exact (by (with_reducible repeat (first | apply Kd.R_alloc | apply Kd.R_drewN | apply Kd.R_drew)); exact HO_5.out)); (case aS => exact (below_size (by repeat (first | (with_reducible first | exact HB.out | apply below_alloc | apply pw_below_drewN | apply below_drew1 | refine below_set ?_ GE101.out) | exact HB.out)))); (case aL => have := LMc12.out; omega); intro v110 w19 ho hb hg hat; rw [← Ny109.out] at ho; have n0_ := Aside0.mk (Kd.R_over' (by (with_reducible repeat (first | apply Kd.R_alloc | apply Kd.R_drewN | apply Kd.R_drew)); exact HO_4.out) (Kd.R_typed (by (with_reducible repeat (first | apply Kd.R_alloc | apply Kd.R_drewN | apply Kd.R_drew)); exact HO_5.out)) (by decide) hg); have n1_ := Aside0.mk (blk_grown (g := gb101) (o := .cells #[.slice A0_0 l0_0.length c0_0] 58 (0, 0)) (by (with_reducible repeat (first | refine blk_drewN ?_ _ | refine blk_drew ?_ | refine blk_alloc ?_ _)); exact BK101.out) hg (Kd.R_ne HO_5.out BK101.out (by decide))); have n2_ := Aside0.mk (hb); have n3_ := Aside0.mk (ho); clear HO_4; clear BK101; clear HB; clear HO_5; have HO_4 := n0_; have BK101 := n1_; have HB := n2_; have HO111 := n3_; clear n0_ n1_ n2_ n3_; clear ho hb hg hat; have hcz20_0 : w19.cell? ⟨gb101, 0, none⟩ = some (.slice A0_0 l0_0.length c0_0) := (blk_cell BK101.out 0).trans rfl; have hfz20_0 := blk_frozen BK101.out 0; have p112 : 0 ≤ (x7_1 : Int) := of_decide_eq_true (by first | (with_reducible assumption) | assumption); have q112 : x7_1 < (l0_0.length : Int) := of_decide_eq_true (by first | (with_reducible assumption) | assumption); obtain ⟨ad112, A112_1, c112_1, e112, hx112_0, hx112_1, hx112_2, hl112_1, hi112_1⟩ := at_T99 HR0_0.out x7_1 p112 q112; cases e112; replace hx112_0 := (HB.out.cell (World.block_lt_of_cell? w _ hx112_0)).trans hx112_0; replace hx112_1 := (HB.out.cell (World.block_lt_of_cell? w _ hx112_1)).trans hx112_1; replace hx112_2 := (HB.out.cell (World.block_lt_of_cell? w _ hx112_2)).trans hx112_2; have HR112_1 := Aside0.mk hi112_1; have HC112_1 := Aside0.mk hl112_1; clear hi112_1 hl112_1; replace p112 := eq_true p112; replace q112 := eq_true q112; have p113 : 0 ≤ (x7_1 : Int) := of_decide_eq_true (by first | (with_reducible assumption) | assumption); have q113 : x7_1 < (l0_0.length : Int) := of_decide_eq_true (by first | (with_reducible assumption) | assumption); obtain ⟨ad113, A113_1, c113_1, e113, hx113_0, hx113_1, hx113_2, hl113_1, hi113_1⟩ := at_T99 HR0_0.out x7_1 p113 q113; obtain rfl : ad112 = ad113 := (by injection e113); replace hx113_0 := (HB.out.cell (World.block_lt_of_cell? w _ hx113_0)).trans hx113_0; replace hx113_1 := (HB.out.cell (World.block_lt_of_cell? w _ hx113_1)).trans hx113_1; replace hx113_2 := (HB.out.cell (World.block_lt_of_cell? w _ hx113_2)).trans hx113_2; have HR113_1 := Aside0.mk hi113_1; have HC113_1 := Aside0.mk hl113_1; clear hi113_1 hl113_1; replace p113 := eq_true p113; replace q113 := eq_true q113; have ea_ := Option.some.inj (hx112_1.symm.trans hx113_1); injection ea_ with ea_ en_ ec_; subst ea_; subst ec_; clear en_))
        go_roundg k1
        case measure => have := HK1.out; omega
        case rel => exact ⟨(y109), (wrap64 ((wrap64 (x6_1 + 2)) + (wrap64 (3 * (((rd_T99 l0_0 x7_1).f1).length : Int))))), (wrap64 (x7_1 + 1)), (by first | rfl | (simp; done) | (simp [*]; done)), (by first | rfl | (simp; done) | (simp [*]; done)), H', ⟨by have := HK1.out; omega⟩, ⟨by (with_reducible repeat (first | apply Kd.R_alloc | apply Kd.R_drewN | apply Kd.R_drew)); exact HO_4.out⟩, ⟨by (with_reducible repeat (first | apply Kd.R_alloc | apply Kd.R_drewN | apply Kd.R_drew)); exact HO111.out⟩, ⟨by (with_reducible repeat (first | refine blk_drewN ?_ _ | refine blk_drew ?_ | refine blk_alloc ?_ _)); exact BK101.out⟩, ⟨by repeat (first | (with_reducible first | exact HB.out | apply below_alloc | apply pw_below_drewN | apply below_drew1 | refine below_set ?_ GE101.out) | exact HB.out)⟩⟩
      ·rw [if_neg c13] at H
       exact absurd H (by simp)
     ·rw [if_neg c12] at H
      exact absurd H (by simp)
    ·rw [if_neg c11] at H
     have c11b0 : decide (x7_1 < (l0_0.length : Int)) = false := decide_eq_false c11
     clear c11
     by_cases c21 : x6_1 > 60000
     ·rw [if_pos c21] at H
      have c21b0 : decide (60000 < x6_1) = true := decide_eq_true c21
      clear c21
      simp only [Option.some.injEq, Prod.mk.injEq] at H
      obtain ⟨rfl, rfl⟩ := H
      have hcz22_0 : wr.cell? ⟨gb101, 0, none⟩ = some (.slice A0_0 l0_0.length c0_0) := (blk_cell BK101.out 0).trans rfl
      have hfz22_0 := blk_frozen BK101.out 0
      go_wp2
      go_ret2
      exact ⟨_, by first | rfl | (simp [errW_none, errW_some] <;> rfl) | (simp [*, errW_none, errW_some] <;> rfl), by (with_reducible repeat (first | apply Kd.R_alloc | apply Kd.R_drewN | apply Kd.R_drew)); exact HO_4.out, by repeat (first | (with_reducible first | exact HB.out | apply below_alloc | apply pw_below_drewN | apply below_drew1 | refine below_set ?_ GE101.out) | exact HB.out)⟩
     ·rw [if_neg c21] at H
      have c21b0 : decide (60000 < x6_1) = false := decide_eq_false c21
      clear c21
      obtain ⟨y114, hy114⟩ : ∃ y_ : List (S81), y_ = (([] : List (S81))) := ⟨_, rfl⟩
      replace H : (spec_Compile.l1 k1 x5_1 x6_1 y114 0 l0_0) = some (r1, r2) := by first | (rw [hy114]; with_reducible exact H) | (have H2_ := (Option.bind_some _ _).symm.trans H; rw [hy114]; with_reducible exact H2_) | (have H2_ := (Option.bind_some _ _).symm.trans H; with_reducible exact H2_) | with_reducible exact H | (rw [hy114]; exact H) | exact H
      have Ny114 := Aside0.mk hy114
      clear hy114
      have H' := Aside0.mk H
      clear H
      have hcz23_0 : wr.cell? ⟨gb101, 0, none⟩ = some (.slice A0_0 l0_0.length c0_0) := (blk_cell BK101.out 0).trans rfl
      have hfz23_0 := blk_frozen BK101.out 0
      go_wp2_with (first | ((with_reducible refine gate_dst (N := 54) rfl ?_); refine Kd.R_lit k81 _ 81 ?hg (N := 54) ?hd (xs := ([] : List (S81))) (inner := []) (ok := fun _ => True) (okp := fun _ => True) ?hr ?hp (fun _ hk => hk) trivial (Below.refl _ _) (Nat.le_refl _) (by simp) ?_; (case hd => rfl); (case hg => rfl); (case hr => first | (go_simp; done) | (go_simp; rfl)); (case hp => exact (Reps.none _ _)); intro v115 w24 ho25 hb hg_ hnew_; clear hg_ hnew_; (first | rw [← Ny114.out] at ho25 | (simp only [Int.reduceToNat] at ho25; rw [← Ny114.out] at ho25)); have n0_ := Aside0.mk (Kd.R_elder' (by (with_reducible repeat (first | apply Kd.R_alloc | apply Kd.R_drewN | apply Kd.R_drew)); exact HO_4.out) (Kd.R_base ho25) hb); have n1_ := Aside0.mk (Kd.R_below (by (with_reducible repeat (first | apply Kd.R_alloc | apply Kd.R_drewN | apply Kd.R_drew)); exact HO_5.out) hb); have n2_ := Aside0.mk (Kd.R_lower (Kd.R_new' ho25 (Kd.R_lt (by (with_reducible repeat (first | apply Kd.R_alloc | apply Kd.R_drewN | apply Kd.R_drew)); exact HO_4.out))) (below_size (by repeat (first | (with_reducible first | exact HB.out | apply below_alloc | apply pw_below_drewN | apply below_drew1 | refine below_set ?_ GE101.out) | exact HB.out)))); have n3_ := Aside0.mk (blk_below (g := gb101) (o := .cells #[.slice A0_0 l0_0.length c0_0] 58 (0, 0)) (by (with_reducible repeat (first | refine blk_drewN ?_ _ | refine blk_drew ?_ | refine blk_alloc ?_ _)); exact BK101.out) hb); have n4_ := Aside0.mk (below_step (by repeat (first | (with_reducible first | exact HB.out | apply below_alloc | apply pw_below_drewN | apply below_drew1 | refine below_set ?_ GE101.out) | exact HB.out)) hb); clear HO_4; clear HO_5; clear BK101; clear HB; have HO_4 := n0_; have HO_5 := n1_; have HO116 := n2_; have BK101 := n3_; have HB := n4_; clear n0_ n1_ n2_ n3_ n4_; clear hb ho25))
      go_loopg [8, 9] k1 (fun kq v8 v9 w' => ∃ (x8_2 : List (S81)) (x9_2 : Int), v9 = .int .i64 x9_2 ∧ Aside0 (spec_Compile.l1 kq x5_1 x6_1 x8_2 x9_2 l0_0 = some (r1, r2)) ∧ Aside0 (kq ≤ k1) ∧ Aside0 (Kd.R (Kd.int .i64) 2 w' w.heap.size (fun _ => True) u5 x5_1) ∧ Aside0 (Kd.R k81 81 w' w.heap.size (fun _ => True) v8 x8_2) ∧ Aside0 (w'.heap[gb101]? = some (.cells #[(.slice A0_0 l0_0.length c0_0)] 58 (0, 0))) ∧ Aside0 (Below w.heap.size w w'))
      case atStart => exact ⟨(y114), (0), (by first | rfl | (simp; done) | (simp [*]; done)), H', ⟨Nat.le_refl _⟩, ⟨by (with_reducible repeat (first | apply Kd.R_alloc | apply Kd.R_drewN | apply Kd.R_drew)); exact HO_5.out⟩, ⟨by (with_reducible repeat (first | apply Kd.R_alloc | apply Kd.R_drewN | apply Kd.R_drew)); exact Kd.R_mono HO116.out (fun _ hk => trivial)⟩, ⟨by (with_reducible repeat (first | refine blk_drewN ?_ _ | refine blk_drew ?_ | refine blk_alloc ?_ _)); exact BK101.out⟩, ⟨by repeat (first | (with_reducible first | exact HB.out | apply below_alloc | apply pw_below_drewN | apply below_drew1 | refine below_set ?_ GE101.out) | exact HB.out)⟩⟩
      case round =>
       clear H'
       try clear c1
       try clear p1
       try clear q1
       try clear hx1
       try clear c2
       try clear p2
       try clear c3
       try clear c4
       try clear c5
       try clear p6
       try clear c11
       try clear c11b0
       try clear p11
       try clear q11
       try clear hx11
       try clear c12
       try clear c13
       try clear c13b0
       try clear c14
       try clear c14b0
       try clear c21
       try clear c21b0
       try clear hcz15_0
       try clear hcz17_0
       try clear hcz18_0
       try clear hcz20_0
       try clear hcz22_0
       try clear hcz23_0
       try clear hcz7_0
       try clear hfz15_0
       try clear hfz17_0
       try clear hfz18_0
       try clear hfz20_0
       try clear hfz22_0
       try clear hfz23_0
       try clear hfz7_0
       try clear hx112_0
       try clear hx112_1
       try clear hx112_2
       try clear hx113_0
       try clear hx113_1
       try clear hx113_2
       try clear p112
       try clear p113
       try clear p2
       try clear q112
       try clear q113
       obtain ⟨x8_2, x9_2, rfl, HA, HK2, HO_5, HO_8, BK101, HB⟩ := hrel
       cases gk with
       | zero => exact absurd HA.out (by simp [spec_Compile.l1])
       | succ k2 =>
        have H := HA.out
        clear HA
        simp only [spec_Compile.l1] at H
        by_cases c26 : x9_2 < (l0_0.length : Int)
        ·rw [if_pos c26] at H
         have c26b0 : decide (x9_2 < (l0_0.length : Int)) = true := decide_eq_true c26
         clear c26
         by_cases c27 : 0 ≤ x9_2
         ·rw [if_pos c27] at H
          have c27b0 : decide (0 ≤ x9_2) = true := decide_eq_true c27
          clear c27
          have HC28 := Aside0.mk H
          clear H
          have hcz29_0 : wr.cell? ⟨gb101, 0, none⟩ = some (.slice A0_0 l0_0.length c0_0) := (blk_cell BK101.out 0).trans rfl
          have hfz29_0 := blk_frozen BK101.out 0
          have p117 : 0 ≤ (x9_2 : Int) := of_decide_eq_true (by first | (with_reducible assumption) | assumption)
          have q117 : x9_2 < (l0_0.length : Int) := of_decide_eq_true (by first | (with_reducible assumption) | assumption)
          obtain ⟨ad117, A117_1, c117_1, e117, hx117_0, hx117_1, hx117_2, hl117_1, hi117_1⟩ := at_T99 HR0_0.out x9_2 p117 q117
          cases e117
          replace hx117_0 := (HB.out.cell (World.block_lt_of_cell? w _ hx117_0)).trans hx117_0
          replace hx117_1 := (HB.out.cell (World.block_lt_of_cell? w _ hx117_1)).trans hx117_1
          replace hx117_2 := (HB.out.cell (World.block_lt_of_cell? w _ hx117_2)).trans hx117_2
          have HR117_1 := Aside0.mk hi117_1
          have HC117_1 := Aside0.mk hl117_1
          clear hi117_1 hl117_1
          replace p117 := eq_true p117
          replace q117 := eq_true q117
          go_upto_if 73 with (first | ((with_reducible refine gate_dst (N := 10) rfl ?_); refine box_event ?hg (N := 10) ?hd (cs := #[.int .i64 0, .slice none 0 0, .int .i64 0]) (t := 99) ?hr ?_; (case hd => rfl); (case hg => rfl); (case hr => first | (go_simp; done) | (go_simp; rfl)); intro gb118 hg w30 hbox hb; have n0_ := Aside0.mk (Kd.R_below (by (with_reducible repeat (first | apply Kd.R_alloc | apply Kd.R_drewN | apply Kd.R_drew)); exact HO_5.out) hb); have n1_ := Aside0.mk (Kd.R_below (by (with_reducible repeat (first | apply Kd.R_alloc | apply Kd.R_drewN | apply Kd.R_drew)); exact HO_8.out) hb); have n2_ := Aside0.mk (blk_below (g := gb101) (o := .cells #[.slice (some ad117) l0_0.length c0_0] 58 (0, 0)) (by (with_reducible repeat (first | refine blk_drewN ?_ _ | refine blk_drew ?_ | refine blk_alloc ?_ _)); exact BK101.out) hb); have n3_ := Aside0.mk (below_step (by repeat (first | (with_reducible first | exact HB.out | apply below_alloc | apply pw_below_drewN | apply below_drew1 | refine below_set ?_ GE101.out) | exact HB.out)) hb); have n4_ := Aside0.mk (hbox); have n5_ := Aside0.mk ((by rw [hg]; exact (below_size (by repeat (first | (with_reducible first | exact HB.out | apply below_alloc | apply pw_below_drewN | apply below_drew1 | refine below_set ?_ GE101.out) | exact HB.out))) : w.heap.size ≤ gb118)); have n6_ := Aside0.mk ((by rw [hg]; exact (below_size (by repeat (first | (with_reducible first | exact HB.out | apply below_alloc | apply pw_below_drewN | apply below_drew1 | refine below_set ?_ GE101.out) | exact HB.out))) : w.heap.size ≤ gb118)); have n7_ := Aside0.mk ((by rw [hg]; exact Nat.ne_of_lt (blk_lt (g := gb101) (o := .cells #[.slice (some ad117) l0_0.length c0_0] 58 (0, 0)) (by (with_reducible repeat (first | refine blk_drewN ?_ _ | refine blk_drew ?_ | refine blk_alloc ?_ _)); exact BK101.out)) : gb101 ≠ gb118)); have n8_ := Aside0.mk ((by rw [hg]; exact Nat.ne_of_gt (blk_lt (g := gb101) (o := .cells #[.slice (some ad117) l0_0.length c0_0] 58 (0, 0)) (by (with_reducible repeat (first | refine blk_drewN ?_ _ | refine blk_drew ?_ | refine blk_alloc ?_ _)); exact BK101.out)) : gb118 ≠ gb101)); clear HO_5; clear HO_8; clear BK101; clear HB; have HO_5 := n0_; have HO_8 := n1_; have BK101 := n2_; have HB := n3_; have BK118 := n4_; have GW118 := n5_; have GE118 := n6_; have NB101_118 := n7_; have NB118_101 := n8_; clear n0_ n1_ n2_ n3_ n4_ n5_ n6_ n7_ n8_; clear hb hbox hg; have hnb31 := NB118_101.out; have hnc31 := NB101_118.out; have hcz32_0 : w30.cell? ⟨gb118, 0, none⟩ = some (.int .i64 0) := (blk_cell BK118.out 0).trans rfl; have hcz32_1 : w30.cell? ⟨gb118, 1, none⟩ = some (.slice none 0 0) := (blk_cell BK118.out 1).trans rfl; have hcz32_2 : w30.cell? ⟨gb118, 2, none⟩ = some (.int .i64 0) := (blk_cell BK118.out 2).trans rfl; have hfz32_0 := blk_frozen BK118.out 0; have hfz32_1 := blk_frozen BK118.out 1; have hfz32_2 := blk_frozen BK118.out 2; obtain ⟨Ao33, co33, eo33⟩ := Kd.R_slice HO_5.out; subst eo33))
          (try simp only [Act.put, List.setIfInBounds_toArray, List.set_cons_zero, List.set_cons_succ])
          go_cut [11] (fun v11 wc => ∃ (kq : Nat) (x11_27 : Int), v11 = .int .i64 x11_27 ∧ Aside0 (spec_Compile.j2 kq x5_1 x6_1 x8_2 x9_2 x11_27 l0_0 ((rd_T99 l0_0 x9_2).f0) ((rd_T99 l0_0 x9_2).f1) ((rd_T99 l0_0 x9_2).f2) = some (r1, r2)) ∧ Aside0 (kq ≤ k2) ∧ Aside0 (Kd.R (Kd.int .i64) 2 wc w.heap.size (fun _ => True) (.slice Ao33 x5_1.length co33) x5_1) ∧ Aside0 (Kd.R k81 81 wc w.heap.size (fun _ => True) u8 x8_2) ∧ Aside0 (wc.heap[gb101]? = some (.cells #[(.slice (some ad117) l0_0.length c0_0)] 58 (0, 0))) ∧ Aside0 (wc.heap[gb118]? = some (.cells #[.int .i64 ((rd_T99 l0_0 x9_2).f0), (.slice A117_1 ((rd_T99 l0_0 x9_2).f1).length c117_1), .int .i64 ((rd_T99 l0_0 x9_2).f2)] 99 (0, 0))) ∧ Aside0 (Below w.heap.size w wc))
          case first =>
           have H := HC28.out
           clear HC28
           by_cases c34 : (wrap64 (x9_2 + 1)) < (x5_1.length : Int)
           ·rw [if_pos c34] at H
            have c34b0 : decide ((wrap64 (x9_2 + 1)) < (x5_1.length : Int)) = true := decide_eq_true c34
            clear c34
            (first | rw [c34b0] | (simp only [i64_w, i32_w]; rw [c34b0]) | skip)
            obtain ⟨ji35, hji35⟩ : ∃ j_ : Int, (wrap64 (x9_2 + 1)) = j_ := ⟨_, rfl⟩
            replace H : (if 0 ≤ (ji35) then (spec_Compile.j2 k2 x5_1 x6_1 x8_2 x9_2 (wrap64 ((rd x5_1 (ji35)) - 1)) l0_0 ((rd_T99 l0_0 x9_2).f0) ((rd_T99 l0_0 x9_2).f1) ((rd_T99 l0_0 x9_2).f2)) else (none)) = some (r1, r2) := by first | (rw [hji35] at H; exact H) | (simp only [hji35] at H ⊢; exact H)
            (try rw [hji35] at c34b0)
            have hji35w : (IntKind.i64.wrap (x9_2 + 1)) = ji35 := (i64_w _).trans hji35
            by_cases c36 : 0 ≤ (ji35)
            ·rw [if_pos c36] at H
             have c36b0 : decide (0 ≤ (ji35)) = true := decide_eq_true c36
             clear c36
             have H' := Aside0.mk H
             clear H
             have p119 : 0 ≤ ((ji35) : Int) := of_decide_eq_true (by first | (with_reducible assumption) | assumption)
             have q119 : (ji35) < (x5_1.length : Int) := of_decide_eq_true (by first | (with_reducible assumption) | assumption)
             obtain ⟨ad119, e119, hx119_0⟩ := Kd.at_int (Kd.R_reads' HO_5.out).2.2 (ji35) p119 q119
             cases e119
             have hn119_0 : ad119.block ≠ gb118 := Kd.own_blk (Kd.R_ne HO_5.out BK118.out (by decide))
             have hn119_1 : ad119.block ≠ gb118 := Kd.own_blk (Kd.R_ne HO_5.out BK118.out (by decide))
             have hn119_2 : ad119.block ≠ gb118 := Kd.own_blk (Kd.R_ne HO_5.out BK118.out (by decide))
             replace hx119_0 := (cell_far (p := ⟨gb118, 0, none⟩) (by first | (rw [add_block]; exact hn119_0) | (show (Addr.add _ _).block ≠ _; rw [add_block]; exact hn119_0) | exact hn119_0) (.int .i64 ((rd_T99 l0_0 x9_2).f0))).trans hx119_0
             replace hx119_0 := (cell_far (p := ⟨gb118, 1, none⟩) (by first | (rw [add_block]; exact hn119_1) | (show (Addr.add _ _).block ≠ _; rw [add_block]; exact hn119_1) | exact hn119_1) (.slice A117_1 ((rd_T99 l0_0 x9_2).f1).length c117_1)).trans hx119_0
             replace hx119_0 := (cell_far (p := ⟨gb118, 2, none⟩) (by first | (rw [add_block]; exact hn119_2) | (show (Addr.add _ _).block ≠ _; rw [add_block]; exact hn119_2) | exact hn119_2) (.int .i64 ((rd_T99 l0_0 x9_2).f2))).trans hx119_0
             clear hn119_0
             clear hn119_1
             clear hn119_2
             replace p119 := eq_true p119
             replace q119 := eq_true q119
             go_wp2
             go_meet
             case rel => exact ⟨_, (wrap64 ((rd x5_1 (ji35)) - 1)), (by first | rfl | (simp; done) | (simp only [← hji35] <;> (first | rfl | simp)) | (simp [*]; done)), H', ⟨by have := HK1.out; have := HK2.out; first | omega | exact Nat.le_refl _⟩, ⟨by (with_reducible repeat (first | apply Kd.R_alloc | apply Kd.R_drewN | apply Kd.R_drew)); exact Kd.R_mono (Kd.R_far (p := ⟨gb118, 2, none⟩) (Kd.R_far (p := ⟨gb118, 1, none⟩) (Kd.R_far (p := ⟨gb118, 0, none⟩) (Kd.R_types HO_5.out BK118.out (by decide)) (fun _ hk => hk.2) (.int .i64 ((rd_T99 l0_0 x9_2).f0))) (fun _ hk => hk.2) (.slice A117_1 ((rd_T99 l0_0 x9_2).f1).length c117_1)) (fun _ hk => hk.2) (.int .i64 ((rd_T99 l0_0 x9_2).f2))) (fun _ hk => trivial)⟩, ⟨by (with_reducible repeat (first | apply Kd.R_alloc | apply Kd.R_drewN | apply Kd.R_drew)); exact Kd.R_mono (Kd.R_far (p := ⟨gb118, 2, none⟩) (Kd.R_far (p := ⟨gb118, 1, none⟩) (Kd.R_far (p := ⟨gb118, 0, none⟩) (Kd.R_types HO_8.out BK118.out (by decide)) (fun _ hk => hk.2) (.int .i64 ((rd_T99 l0_0 x9_2).f0))) (fun _ hk => hk.2) (.slice A117_1 ((rd_T99 l0_0 x9_2).f1).length c117_1)) (fun _ hk => hk.2) (.int .i64 ((rd_T99 l0_0 x9_2).f2))) (fun _ hk => trivial)⟩, ⟨by (with_reducible repeat (first | refine blk_drewN ?_ _ | refine blk_drew ?_ | refine blk_alloc ?_ _)); refine blk_far ?_ NB101_118.out _; (with_reducible repeat (first | refine blk_drewN ?_ _ | refine blk_drew ?_ | refine blk_alloc ?_ _)); refine blk_far ?_ NB101_118.out _; (with_reducible repeat (first | refine blk_drewN ?_ _ | refine blk_drew ?_ | refine blk_alloc ?_ _)); refine blk_far ?_ NB101_118.out _; (with_reducible repeat (first | refine blk_drewN ?_ _ | refine blk_drew ?_ | refine blk_alloc ?_ _)); exact BK101.out⟩, ⟨by (with_reducible repeat (first | refine blk_drewN ?_ _ | refine blk_drew ?_ | refine blk_alloc ?_ _)); refine blk_put (cs := #[.int .i64 ((rd_T99 l0_0 x9_2).f0), .slice A117_1 ((rd_T99 l0_0 x9_2).f1).length c117_1, .int .i64 0]) ?_ 2 _ rfl; (with_reducible repeat (first | refine blk_drewN ?_ _ | refine blk_drew ?_ | refine blk_alloc ?_ _)); refine blk_put (cs := #[.int .i64 ((rd_T99 l0_0 x9_2).f0), .slice none 0 0, .int .i64 0]) ?_ 1 _ rfl; (with_reducible repeat (first | refine blk_drewN ?_ _ | refine blk_drew ?_ | refine blk_alloc ?_ _)); refine blk_put (cs := #[.int .i64 0, .slice none 0 0, .int .i64 0]) ?_ 0 _ rfl; (with_reducible repeat (first | refine blk_drewN ?_ _ | refine blk_drew ?_ | refine blk_alloc ?_ _)); exact BK118.out⟩, ⟨by repeat (first | (with_reducible first | exact HB.out | apply below_alloc | apply pw_below_drewN | apply below_drew1 | refine below_set ?_ GE101.out | refine below_set ?_ GE118.out) | exact HB.out)⟩⟩
            ·rw [if_neg c36] at H
             exact absurd H (by simp)
           ·rw [if_neg c34] at H
            have c34b0 : decide ((wrap64 (x9_2 + 1)) < (x5_1.length : Int)) = false := decide_eq_false c34
            clear c34
            (first | rw [c34b0] | (simp only [i64_w, i32_w]; rw [c34b0]) | skip)
            have H' := Aside0.mk H
            clear H
            go_wp2
            go_meet
            case rel => exact ⟨_, (wrap64 (x6_1 - 1)), (by first | rfl | (simp; done) | (simp [*]; done)), H', ⟨by have := HK1.out; have := HK2.out; first | omega | exact Nat.le_refl _⟩, ⟨by (with_reducible repeat (first | apply Kd.R_alloc | apply Kd.R_drewN | apply Kd.R_drew)); exact Kd.R_mono (Kd.R_far (p := ⟨gb118, 2, none⟩) (Kd.R_far (p := ⟨gb118, 1, none⟩) (Kd.R_far (p := ⟨gb118, 0, none⟩) (Kd.R_types HO_5.out BK118.out (by decide)) (fun _ hk => hk.2) (.int .i64 ((rd_T99 l0_0 x9_2).f0))) (fun _ hk => hk.2) (.slice A117_1 ((rd_T99 l0_0 x9_2).f1).length c117_1)) (fun _ hk => hk.2) (.int .i64 ((rd_T99 l0_0 x9_2).f2))) (fun _ hk => trivial)⟩, ⟨by (with_reducible repeat (first | apply Kd.R_alloc | apply Kd.R_drewN | apply Kd.R_drew)); exact Kd.R_mono (Kd.R_far (p := ⟨gb118, 2, none⟩) (Kd.R_far (p := ⟨gb118, 1, none⟩) (Kd.R_far (p := ⟨gb118, 0, none⟩) (Kd.R_types HO_8.out BK118.out (by decide)) (fun _ hk => hk.2) (.int .i64 ((rd_T99 l0_0 x9_2).f0))) (fun _ hk => hk.2) (.slice A117_1 ((rd_T99 l0_0 x9_2).f1).length c117_1)) (fun _ hk => hk.2) (.int .i64 ((rd_T99 l0_0 x9_2).f2))) (fun _ hk => trivial)⟩, ⟨by (with_reducible repeat (first | refine blk_drewN ?_ _ | refine blk_drew ?_ | refine blk_alloc ?_ _)); refine blk_far ?_ NB101_118.out _; (with_reducible repeat (first | refine blk_drewN ?_ _ | refine blk_drew ?_ | refine blk_alloc ?_ _)); refine blk_far ?_ NB101_118.out _; (with_reducible repeat (first | refine blk_drewN ?_ _ | refine blk_drew ?_ | refine blk_alloc ?_ _)); refine blk_far ?_ NB101_118.out _; (with_reducible repeat (first | refine blk_drewN ?_ _ | refine blk_drew ?_ | refine blk_alloc ?_ _)); exact BK101.out⟩, ⟨by (with_reducible repeat (first | refine blk_drewN ?_ _ | refine blk_drew ?_ | refine blk_alloc ?_ _)); refine blk_put (cs := #[.int .i64 ((rd_T99 l0_0 x9_2).f0), .slice A117_1 ((rd_T99 l0_0 x9_2).f1).length c117_1, .int .i64 0]) ?_ 2 _ rfl; (with_reducible repeat (first | refine blk_drewN ?_ _ | refine blk_drew ?_ | refine blk_alloc ?_ _)); refine blk_put (cs := #[.int .i64 ((rd_T99 l0_0 x9_2).f0), .slice none 0 0, .int .i64 0]) ?_ 1 _ rfl; (with_reducible repeat (first | refine blk_drewN ?_ _ | refine blk_drew ?_ | refine blk_alloc ?_ _)); refine blk_put (cs := #[.int .i64 0, .slice none 0 0, .int .i64 0]) ?_ 0 _ rfl; (with_reducible repeat (first | refine blk_drewN ?_ _ | refine blk_drew ?_ | refine blk_alloc ?_ _)); exact BK118.out⟩, ⟨by repeat (first | (with_reducible first | exact HB.out | apply below_alloc | apply pw_below_drewN | apply below_drew1 | refine below_set ?_ GE101.out | refine below_set ?_ GE118.out) | exact HB.out)⟩⟩
          case rest =>
           clear HC28
           try clear c1
           try clear p1
           try clear q1
           try clear hx1
           try clear c2
           try clear p2
           try clear c3
           try clear c4
           try clear c5
           try clear p6
           try clear c11
           try clear c11b0
           try clear p11
           try clear q11
           try clear hx11
           try clear c12
           try clear c13
           try clear c13b0
           try clear c14
           try clear c14b0
           try clear c21
           try clear c21b0
           try clear c26
           try clear c26b0
           try clear c27
           try clear c27b0
           try clear c31
           try clear c34
           try clear c34b0
           try clear c36
           try clear c36b0
           try clear hcz15_0
           try clear hcz17_0
           try clear hcz18_0
           try clear hcz20_0
           try clear hcz22_0
           try clear hcz23_0
           try clear hcz29_0
           try clear hcz32_0
           try clear hcz32_1
           try clear hcz32_2
           try clear hcz7_0
           try clear hfz15_0
           try clear hfz17_0
           try clear hfz18_0
           try clear hfz20_0
           try clear hfz22_0
           try clear hfz23_0
           try clear hfz29_0
           try clear hfz32_0
           try clear hfz32_1
           try clear hfz32_2
           try clear hfz7_0
           try clear hx112_0
           try clear hx112_1
           try clear hx112_2
           try clear hx113_0
           try clear hx113_1
           try clear hx113_2
           try clear hx117_0
           try clear hx117_1
           try clear hx117_2
           try clear hx119_0
           try clear p1
           try clear p11
           try clear p112
           try clear p113
           try clear p117
           try clear p119
           try clear p2
           try clear p6
           try clear q1
           try clear q11
           try clear q112
           try clear q113
           try clear q117
           try clear q119
           obtain ⟨kq, x11_27, rfl, HA, HJ27, HO_5, HO_8, BK101, BK118, HB⟩ := hcut
           cases kq with
           | zero => exact absurd HA.out (by simp [spec_Compile.j2])
           | succ kj27 =>
            have H := HA.out
            clear HA
            simp only [spec_Compile.j2] at H
            have HC37 := Aside0.mk H
            clear H
            have hnb38 := NB118_101.out
            have hnc38 := NB101_118.out
            have hcz39_0 : wc.cell? ⟨gb118, 0, none⟩ = some (.int .i64 ((rd_T99 l0_0 x9_2).f0)) := (blk_cell BK118.out 0).trans rfl
            have hcz39_1 : wc.cell? ⟨gb118, 1, none⟩ = some (.slice A117_1 ((rd_T99 l0_0 x9_2).f1).length c117_1) := (blk_cell BK118.out 1).trans rfl
            have hcz39_2 : wc.cell? ⟨gb118, 2, none⟩ = some (.int .i64 ((rd_T99 l0_0 x9_2).f2)) := (blk_cell BK118.out 2).trans rfl
            have hfz39_0 := blk_frozen BK118.out 0
            have hfz39_1 := blk_frozen BK118.out 1
            have hfz39_2 := blk_frozen BK118.out 2
            go_upto_if 82 with (fail)
            go_cut [8] (fun v8 wc => ∃ (kq : Nat) (x8_36 : List (S81)), Aside0 (spec_Compile.j3 kq x5_1 x6_1 x8_36 x9_2 x11_27 l0_0 ((rd_T99 l0_0 x9_2).f0) ((rd_T99 l0_0 x9_2).f1) ((rd_T99 l0_0 x9_2).f2) = some (r1, r2)) ∧ Aside0 (kq ≤ kj27) ∧ Aside0 (Kd.R (Kd.int .i64) 2 wc w.heap.size (fun _ => True) (.slice Ao33 x5_1.length co33) x5_1) ∧ Aside0 (Kd.R k81 81 wc w.heap.size (fun _ => True) v8 x8_36) ∧ Aside0 (wc.heap[gb101]? = some (.cells #[(.slice (some ad117) l0_0.length c0_0)] 58 (0, 0))) ∧ Aside0 (wc.heap[gb118]? = some (.cells #[.int .i64 ((rd_T99 l0_0 x9_2).f0), (.slice A117_1 ((rd_T99 l0_0 x9_2).f1).length c117_1), .int .i64 ((rd_T99 l0_0 x9_2).f2)] 99 (0, 0))) ∧ Aside0 (Below w.heap.size w wc))
            case first =>
             have H := HC37.out
             clear HC37
             by_cases c40 : ((rd_T99 l0_0 x9_2).f0) ≥ 0
             ·rw [if_pos c40] at H
              have c40b0 : decide (0 ≤ ((rd_T99 l0_0 x9_2).f0)) = true := decide_eq_true c40
              clear c40
              (first | rw [c40b0] | (simp only [i64_w, i32_w]; rw [c40b0]) | skip)
              by_cases c41 : x8_2.length < 5864062014805
              ·rw [if_pos c41] at H
               have LMc41 := Aside0.mk c41
               clear c41
               obtain ⟨y120, hy120⟩ : ∃ y_ : List (S81), y_ = (x8_2 ++ [(⟨1, ((rd_T99 l0_0 x9_2).f0), 0⟩ : S81)]) := ⟨_, rfl⟩
               replace H : (spec_Compile.j3 kj27 x5_1 x6_1 y120 x9_2 x11_27 l0_0 ((rd_T99 l0_0 x9_2).f0) ((rd_T99 l0_0 x9_2).f1) ((rd_T99 l0_0 x9_2).f2)) = some (r1, r2) := by first | (rw [hy120]; with_reducible exact H) | (have H2_ := (Option.bind_some _ _).symm.trans H; rw [hy120]; with_reducible exact H2_) | (have H2_ := (Option.bind_some _ _).symm.trans H; with_reducible exact H2_) | with_reducible exact H | (rw [hy120]; exact H) | exact H
               have Ny120 := Aside0.mk hy120
               clear hy120
               have H' := Aside0.mk H
               clear H
               have hnb42 := NB118_101.out
               have hnc42 := NB101_118.out
               have hcz43_0 : wc.cell? ⟨gb118, 0, none⟩ = some (.int .i64 ((rd_T99 l0_0 x9_2).f0)) := (blk_cell BK118.out 0).trans rfl
               have hcz43_1 : wc.cell? ⟨gb118, 1, none⟩ = some (.slice A117_1 ((rd_T99 l0_0 x9_2).f1).length c117_1) := (blk_cell BK118.out 1).trans rfl
               have hcz43_2 : wc.cell? ⟨gb118, 2, none⟩ = some (.int .i64 ((rd_T99 l0_0 x9_2).f2)) := (blk_cell BK118.out 2).trans rfl
               have hfz43_0 := blk_frozen BK118.out 0
               have hfz43_1 := blk_frozen BK118.out 1
               have hfz43_2 := blk_frozen BK118.out 2
               go_wp2_with (first | ((with_reducible refine gate_builtin (b := .append) (xs := #[.tmp 83, .tmp 87]) rfl ?_); at_builtin; refine Kd.R_append k81 (w0 := w) w.heap.size rfl (.tmp 83) (.tmp 87) 25 81 (.agg #[(.int .i64 0), (.int .i64 0), (.int .i64 0)]) 24 rfl Try.underlying25 info81 rfl (by decide) (by omega) u8 x8_2 (⟨1, ((rd_T99 l0_0 x9_2).f0), 0⟩ : S81) [.int .i64 1, .int .i64 ((rd_T99 l0_0 x9_2).f0), .int .i64 0] (fun _ => True) (fun _ => False) rfl rfl ?aP (fun _ hk => hk.elim) ?aF ?aO ?aB ?aS ?aL ?_; (case aP => exact k81_mkM _ _ _ (⟨1, ((rd_T99 l0_0 x9_2).f0), 0⟩ : S81)); (case aB => exact (by repeat (first | (with_reducible first | exact HB.out | apply below_alloc | apply pw_below_drewN | apply below_drew1 | refine below_set ?_ GE101.out | refine below_set ?_ GE118.out) | exact HB.out))); (case aF => exact (fun _ _ => trivial)); (case aO => exact (by (with_reducible repeat (first | apply Kd.R_alloc | apply Kd.R_drewN | apply Kd.R_drew)); exact HO_8.out)); (case aS => exact (below_size (by repeat (first | (with_reducible first | exact HB.out | apply below_alloc | apply pw_below_drewN | apply below_drew1 | refine below_set ?_ GE101.out | refine below_set ?_ GE118.out) | exact HB.out)))); (case aL => have := LMc41.out; omega); intro v121 w44 ho hb hg hat; rw [← Ny120.out] at ho; have n0_ := Aside0.mk (Kd.R_over' (by (with_reducible repeat (first | apply Kd.R_alloc | apply Kd.R_drewN | apply Kd.R_drew)); exact HO_5.out) (Kd.R_typed (by (with_reducible repeat (first | apply Kd.R_alloc | apply Kd.R_drewN | apply Kd.R_drew)); exact HO_8.out)) (by decide) hg); have n1_ := Aside0.mk (blk_grown (g := gb101) (o := .cells #[.slice (some ad117) l0_0.length c0_0] 58 (0, 0)) (by (with_reducible repeat (first | refine blk_drewN ?_ _ | refine blk_drew ?_ | refine blk_alloc ?_ _)); exact BK101.out) hg (Kd.R_ne HO_8.out BK101.out (by decide))); have n2_ := Aside0.mk (blk_grown (g := gb118) (o := .cells #[.int .i64 ((rd_T99 l0_0 x9_2).f0), .slice A117_1 ((rd_T99 l0_0 x9_2).f1).length c117_1, .int .i64 ((rd_T99 l0_0 x9_2).f2)] 99 (0, 0)) (by (with_reducible repeat (first | refine blk_drewN ?_ _ | refine blk_drew ?_ | refine blk_alloc ?_ _)); exact BK118.out) hg (Kd.R_ne HO_8.out BK118.out (by decide))); have n3_ := Aside0.mk (hb); have n4_ := Aside0.mk (ho); clear HO_5; clear BK101; clear BK118; clear HB; clear HO_8; have HO_5 := n0_; have BK101 := n1_; have BK118 := n2_; have HB := n3_; have HO122 := n4_; clear n0_ n1_ n2_ n3_ n4_; clear ho hb hg hat))
               go_meet
               case rel => exact ⟨_, (y120), H', ⟨by have := HK1.out; have := HK2.out; have := HJ27.out; first | omega | exact Nat.le_refl _⟩, ⟨by (with_reducible repeat (first | apply Kd.R_alloc | apply Kd.R_drewN | apply Kd.R_drew)); exact HO_5.out⟩, ⟨by (with_reducible repeat (first | apply Kd.R_alloc | apply Kd.R_drewN | apply Kd.R_drew)); exact HO122.out⟩, ⟨by (with_reducible repeat (first | refine blk_drewN ?_ _ | refine blk_drew ?_ | refine blk_alloc ?_ _)); exact BK101.out⟩, ⟨by (with_reducible repeat (first | refine blk_drewN ?_ _ | refine blk_drew ?_ | refine blk_alloc ?_ _)); exact BK118.out⟩, ⟨by repeat (first | (with_reducible first | exact HB.out | apply below_alloc | apply pw_below_drewN | apply below_drew1 | refine below_set ?_ GE101.out | refine below_set ?_ GE118.out) | exact HB.out)⟩⟩
              ·rw [if_neg c41] at H
               exact absurd H (by simp)
             ·rw [if_neg c40] at H
              have c40b0 : decide (0 ≤ ((rd_T99 l0_0 x9_2).f0)) = false := decide_eq_false c40
              clear c40
              (first | rw [c40b0] | (simp only [i64_w, i32_w]; rw [c40b0]) | skip)
              have H' := Aside0.mk H
              clear H
              go_wp2
              go_meet
              case rel => exact ⟨_, (x8_2), H', ⟨by have := HK1.out; have := HK2.out; have := HJ27.out; first | omega | exact Nat.le_refl _⟩, ⟨by (with_reducible repeat (first | apply Kd.R_alloc | apply Kd.R_drewN | apply Kd.R_drew)); exact HO_5.out⟩, ⟨by (with_reducible repeat (first | apply Kd.R_alloc | apply Kd.R_drewN | apply Kd.R_drew)); exact HO_8.out⟩, ⟨by (with_reducible repeat (first | refine blk_drewN ?_ _ | refine blk_drew ?_ | refine blk_alloc ?_ _)); exact BK101.out⟩, ⟨by (with_reducible repeat (first | refine blk_drewN ?_ _ | refine blk_drew ?_ | refine blk_alloc ?_ _)); exact BK118.out⟩, ⟨by repeat (first | (with_reducible first | exact HB.out | apply below_alloc | apply pw_below_drewN | apply below_drew1 | refine below_set ?_ GE101.out | refine below_set ?_ GE118.out) | exact HB.out)⟩⟩
            case rest =>
             clear HC37
             try clear c1
             try clear p1
             try clear q1
             try clear hx1
             try clear c2
             try clear p2
             try clear c3
             try clear c4
             try clear c5
             try clear p6
             try clear c11
             try clear c11b0
             try clear p11
             try clear q11
             try clear hx11
             try clear c12
             try clear c13
             try clear c13b0
             try clear c14
             try clear c14b0
             try clear c21
             try clear c21b0
             try clear c26
             try clear c26b0
             try clear c27
             try clear c27b0
             try clear c31
             try clear c34
             try clear c34b0
             try clear c36
             try clear c36b0
             try clear c38
             try clear c40
             try clear c40b0
             try clear c41
             try clear c42
             try clear hcz15_0
             try clear hcz17_0
             try clear hcz18_0
             try clear hcz20_0
             try clear hcz22_0
             try clear hcz23_0
             try clear hcz29_0
             try clear hcz32_0
             try clear hcz32_1
             try clear hcz32_2
             try clear hcz39_0
             try clear hcz39_1
             try clear hcz39_2
             try clear hcz43_0
             try clear hcz43_1
             try clear hcz43_2
             try clear hcz7_0
             try clear hfz15_0
             try clear hfz17_0
             try clear hfz18_0
             try clear hfz20_0
             try clear hfz22_0
             try clear hfz23_0
             try clear hfz29_0
             try clear hfz32_0
             try clear hfz32_1
             try clear hfz32_2
             try clear hfz39_0
             try clear hfz39_1
             try clear hfz39_2
             try clear hfz43_0
             try clear hfz43_1
             try clear hfz43_2
             try clear hfz7_0
             try clear hx112_0
             try clear hx112_1
             try clear hx112_2
             try clear hx113_0
             try clear hx113_1
             try clear hx113_2
             try clear hx117_0
             try clear hx117_1
             try clear hx117_2
             try clear hx119_0
             try clear p1
             try clear p11
             try clear p112
             try clear p113
             try clear p117
             try clear p119
             try clear p2
             try clear p6
             try clear q1
             try clear q11
             try clear q112
             try clear q113
             try clear q117
             try clear q119
             obtain ⟨kq, x8_36, HA, HJ36, HO_5, HO_8, BK101, BK118, HB⟩ := hcut
             cases kq with
             | zero => exact absurd HA.out (by simp [spec_Compile.j3])
             | succ kj36 =>
              have H := HA.out
              clear HA
              simp only [spec_Compile.j3] at H
              by_cases c45 : x8_36.length < 5864062014805
              ·rw [if_pos c45] at H
               have LMc45 := Aside0.mk c45
               clear c45
               obtain ⟨y123, hy123⟩ : ∃ y_ : List (S81), y_ = (x8_36 ++ [(⟨2, 0, 0⟩ : S81)]) := ⟨_, rfl⟩
               replace H : (spec_Compile.l2 kj36 x5_1 x6_1 y123 x9_2 x11_27 0 l0_0 ((rd_T99 l0_0 x9_2).f0) ((rd_T99 l0_0 x9_2).f1) ((rd_T99 l0_0 x9_2).f2)) = some (r1, r2) := by first | (rw [hy123]; with_reducible exact H) | (have H2_ := (Option.bind_some _ _).symm.trans H; rw [hy123]; with_reducible exact H2_) | (have H2_ := (Option.bind_some _ _).symm.trans H; with_reducible exact H2_) | with_reducible exact H | (rw [hy123]; exact H) | exact H
               have Ny123 := Aside0.mk hy123
               clear hy123
               have H' := Aside0.mk H
               clear H
               go_wp2_with (first | ((with_reducible refine gate_builtin (b := .append) (xs := #[.tmp 89, .tmp 91]) rfl ?_); at_builtin; refine Kd.R_append k81 (w0 := w) w.heap.size rfl (.tmp 89) (.tmp 91) 25 81 (.agg #[(.int .i64 0), (.int .i64 0), (.int .i64 0)]) 24 rfl Try.underlying25 info81 rfl (by decide) (by omega) u8 x8_36 (⟨2, 0, 0⟩ : S81) [.int .i64 2, .int .i64 0, .int .i64 0] (fun _ => True) (fun _ => False) rfl rfl ?aP (fun _ hk => hk.elim) ?aF ?aO ?aB ?aS ?aL ?_; (case aP => exact k81_mkM _ _ _ (⟨2, 0, 0⟩ : S81)); (case aB => exact (by repeat (first | (with_reducible first | exact HB.out | apply below_alloc | apply pw_below_drewN | apply below_drew1 | refine below_set ?_ GE101.out | refine below_set ?_ GE118.out) | exact HB.out))); (case aF => exact (fun _ _ => trivial)); (case aO => exact (by (with_reducible repeat (first | apply Kd.R_alloc | apply Kd.R_drewN | apply Kd.R_drew)); exact HO_8.out)); (case aS => exact (below_size (by repeat (first | (with_reducible first | exact HB.out | apply below_alloc | apply pw_below_drewN | apply below_drew1 | refine below_set ?_ GE101.out | refine below_set ?_ GE118.out) | exact HB.out)))); (case aL => have := LMc45.out; omega); intro v124 w46 ho hb hg hat; rw [← Ny123.out] at ho; have n0_ := Aside0.mk (Kd.R_over' (by (with_reducible repeat (first | apply Kd.R_alloc | apply Kd.R_drewN | apply Kd.R_drew)); exact HO_5.out) (Kd.R_typed (by (with_reducible repeat (first | apply Kd.R_alloc | apply Kd.R_drewN | apply Kd.R_drew)); exact HO_8.out)) (by decide) hg); have n1_ := Aside0.mk (blk_grown (g := gb101) (o := .cells #[.slice (some ad117) l0_0.length c0_0] 58 (0, 0)) (by (with_reducible repeat (first | refine blk_drewN ?_ _ | refine blk_drew ?_ | refine blk_alloc ?_ _)); exact BK101.out) hg (Kd.R_ne HO_8.out BK101.out (by decide))); have n2_ := Aside0.mk (blk_grown (g := gb118) (o := .cells #[.int .i64 ((rd_T99 l0_0 x9_2).f0), .slice A117_1 ((rd_T99 l0_0 x9_2).f1).length c117_1, .int .i64 ((rd_T99 l0_0 x9_2).f2)] 99 (0, 0)) (by (with_reducible repeat (first | refine blk_drewN ?_ _ | refine blk_drew ?_ | refine blk_alloc ?_ _)); exact BK118.out) hg (Kd.R_ne HO_8.out BK118.out (by decide))); have n3_ := Aside0.mk (hb); have n4_ := Aside0.mk (ho); clear HO_5; clear BK101; clear BK118; clear HB; clear HO_8; have HO_5 := n0_; have BK101 := n1_; have BK118 := n2_; have HB := n3_; have HO125 := n4_; clear n0_ n1_ n2_ n3_ n4_; clear ho hb hg hat))
               go_loopg [8, 12] kj36 (fun kq v8 v12 w' => ∃ (x8_5 : List (S81)) (x12_5 : Int), v12 = .int .i64 x12_5 ∧ Aside0 (spec_Compile.l2 kq x5_1 x6_1 x8_5 x9_2 x11_27 x12_5 l0_0 ((rd_T99 l0_0 x9_2).f0) ((rd_T99 l0_0 x9_2).f1) ((rd_T99 l0_0 x9_2).f2) = some (r1, r2)) ∧ Aside0 (kq ≤ kj36) ∧ Aside0 (Kd.R (Kd.int .i64) 2 w' w.heap.size (fun _ => True) (.slice Ao33 x5_1.length co33) x5_1) ∧ Aside0 (Kd.R k81 81 w' w.heap.size (fun _ => True) v8 x8_5) ∧ Aside0 (w'.heap[gb101]? = some (.cells #[(.slice (some ad117) l0_0.length c0_0)] 58 (0, 0))) ∧ Aside0 (w'.heap[gb118]? = some (.cells #[.int .i64 ((rd_T99 l0_0 x9_2).f0), (.slice A117_1 ((rd_T99 l0_0 x9_2).f1).length c117_1), .int .i64 ((rd_T99 l0_0 x9_2).f2)] 99 (0, 0))) ∧ Aside0 (Below w.heap.size w w'))
               case atStart => exact ⟨(y123), (0), (by first | rfl | (simp; done) | (simp [*]; done)), H', ⟨Nat.le_refl _⟩, ⟨by (with_reducible repeat (first | apply Kd.R_alloc | apply Kd.R_drewN | apply Kd.R_drew)); exact HO_5.out⟩, ⟨by (with_reducible repeat (first | apply Kd.R_alloc | apply Kd.R_drewN | apply Kd.R_drew)); exact HO125.out⟩, ⟨by (with_reducible repeat (first | refine blk_drewN ?_ _ | refine blk_drew ?_ | refine blk_alloc ?_ _)); exact BK101.out⟩, ⟨by (with_reducible repeat (first | refine blk_drewN ?_ _ | refine blk_drew ?_ | refine blk_alloc ?_ _)); exact BK118.out⟩, ⟨by repeat (first | (with_reducible first | exact HB.out | apply below_alloc | apply pw_below_drewN | apply below_drew1 | refine below_set ?_ GE101.out | refine below_set ?_ GE118.out) | exact HB.out)⟩⟩
               case round =>
                clear H'
                try clear c1
                try clear p1
                try clear q1
                try clear hx1
                try clear c2
                try clear p2
                try clear c3
                try clear c4
                try clear c5
                try clear p6
                try clear c11
                try clear c11b0
                try clear p11
                try clear q11
                try clear hx11
                try clear c12
                try clear c13
                try clear c13b0
                try clear c14
                try clear c14b0
                try clear c21
                try clear c21b0
                try clear c26
                try clear c26b0
                try clear c27
                try clear c27b0
                try clear c31
                try clear c34
                try clear c34b0
                try clear c36
                try clear c36b0
                try clear c38
                try clear c40
                try clear c40b0
                try clear c41
                try clear c42
                try clear c45
                try clear hcz15_0
                try clear hcz17_0
                try clear hcz18_0
                try clear hcz20_0
                try clear hcz22_0
                try clear hcz23_0
                try clear hcz29_0
                try clear hcz32_0
                try clear hcz32_1
                try clear hcz32_2
                try clear hcz39_0
                try clear hcz39_1
                try clear hcz39_2
                try clear hcz43_0
                try clear hcz43_1
                try clear hcz43_2
                try clear hcz7_0
                try clear hfz15_0
                try clear hfz17_0
                try clear hfz18_0
                try clear hfz20_0
                try clear hfz22_0
                try clear hfz23_0
                try clear hfz29_0
                try clear hfz32_0
                try clear hfz32_1
                try clear hfz32_2
                try clear hfz39_0
                try clear hfz39_1
                try clear hfz39_2
                try clear hfz43_0
                try clear hfz43_1
                try clear hfz43_2
                try clear hfz7_0
                try clear hx112_0
                try clear hx112_1
                try clear hx112_2
                try clear hx113_0
                try clear hx113_1
                try clear hx113_2
                try clear hx117_0
                try clear hx117_1
                try clear hx117_2
                try clear hx119_0
                try clear p1
                try clear p11
                try clear p112
                try clear p113
                try clear p117
                try clear p119
                try clear p2
                try clear p6
                try clear q1
                try clear q11
                try clear q112
                try clear q113
                try clear q117
                try clear q119
                obtain ⟨x8_5, x12_5, rfl, HA, HK5, HO_5, HO_8, BK101, BK118, HB⟩ := hrel
                cases gk with
                | zero => exact absurd HA.out (by simp [spec_Compile.l2])
                | succ k5 =>
                 have H := HA.out
                 clear HA
                 simp only [spec_Compile.l2] at H
                 by_cases c47 : x12_5 < (((rd_T99 l0_0 x9_2).f1).length : Int)
                 ·rw [if_pos c47] at H
                  have c47b0 : decide (x12_5 < (((rd_T99 l0_0 x9_2).f1).length : Int)) = true := decide_eq_true c47
                  clear c47
                  by_cases c48 : 0 ≤ x12_5
                  ·rw [if_pos c48] at H
                   have c48b0 : decide (0 ≤ x12_5) = true := decide_eq_true c48
                   clear c48
                   by_cases c49 : x8_5.length < 5864062014805
                   ·rw [if_pos c49] at H
                    have LMc49 := Aside0.mk c49
                    clear c49
                    obtain ⟨y127, hy127⟩ : ∃ y_ : List (S81), y_ = (x8_5 ++ [(⟨3, (rd_T117 ((rd_T99 l0_0 x9_2).f1) x12_5).f0, x11_27⟩ : S81)]) := ⟨_, rfl⟩
                    replace H : (if y127.length < 5864062014805 then ((some (y127 ++ [(⟨4, (rd_T117 ((rd_T99 l0_0 x9_2).f1) x12_5).f1, wrap64 ((x8_5.length : Int) + 3)⟩ : S81)] : List (S81))).bind fun y131 => (if 0 ≤ ((rd_T117 ((rd_T99 l0_0 x9_2).f1) x12_5).f2) then (if ((rd_T117 ((rd_T99 l0_0 x9_2).f1) x12_5).f2) < (x5_1.length : Int) then (if y131.length < 5864062014805 then (spec_Compile.l2 k5 x5_1 x6_1 (y131 ++ [(⟨5, rd x5_1 ((rd_T117 ((rd_T99 l0_0 x9_2).f1) x12_5).f2), 0⟩ : S81)]) x9_2 x11_27 (wrap64 (x12_5 + 1)) l0_0 ((rd_T99 l0_0 x9_2).f0) ((rd_T99 l0_0 x9_2).f1) ((rd_T99 l0_0 x9_2).f2)) else (none)) else (none)) else (none))) else (none)) = some (r1, r2) := by first | (rw [hy127]; with_reducible exact H) | (have H2_ := (Option.bind_some _ _).symm.trans H; rw [hy127]; with_reducible exact H2_) | (have H2_ := (Option.bind_some _ _).symm.trans H; with_reducible exact H2_) | with_reducible exact H | (rw [hy127]; exact H) | exact H
                    have Ny127 := Aside0.mk hy127
                    clear hy127
                    by_cases c50 : y127.length < 5864062014805
                    ·rw [if_pos c50] at H
                     have LMc50 := Aside0.mk c50
                     clear c50
                     obtain ⟨y131, hy131⟩ : ∃ y_ : List (S81), y_ = (y127 ++ [(⟨4, (rd_T117 ((rd_T99 l0_0 x9_2).f1) x12_5).f1, wrap64 ((x8_5.length : Int) + 3)⟩ : S81)]) := ⟨_, rfl⟩
                     replace H : (if 0 ≤ ((rd_T117 ((rd_T99 l0_0 x9_2).f1) x12_5).f2) then (if ((rd_T117 ((rd_T99 l0_0 x9_2).f1) x12_5).f2) < (x5_1.length : Int) then (if y131.length < 5864062014805 then (spec_Compile.l2 k5 x5_1 x6_1 (y131 ++ [(⟨5, rd x5_1 ((rd_T117 ((rd_T99 l0_0 x9_2).f1) x12_5).f2), 0⟩ : S81)]) x9_2 x11_27 (wrap64 (x12_5 + 1)) l0_0 ((rd_T99 l0_0 x9_2).f0) ((rd_T99 l0_0 x9_2).f1) ((rd_T99 l0_0 x9_2).f2)) else (none)) else (none)) else (none)) = some (r1, r2) := by first | (rw [hy131]; with_reducible exact H) | (have H2_ := (Option.bind_some _ _).symm.trans H; rw [hy131]; with_reducible exact H2_) | (have H2_ := (Option.bind_some _ _).symm.trans H; with_reducible exact H2_) | with_reducible exact H | (rw [hy131]; exact H) | exact H
                     have Ny131 := Aside0.mk hy131
                     clear hy131
                     by_cases c51 : 0 ≤ ((rd_T117 ((rd_T99 l0_0 x9_2).f1) x12_5).f2)
                     ·rw [if_pos c51] at H
                      have c51b0 : decide (0 ≤ ((rd_T117 ((rd_T99 l0_0 x9_2).f1) x12_5).f2)) = true := decide_eq_true c51
                      clear c51
                      by_cases c52 : ((rd_T117 ((rd_T99 l0_0 x9_2).f1) x12_5).f2) < (x5_1.length : Int)
                      ·rw [if_pos c52] at H
                       have c52b0 : decide (((rd_T117 ((rd_T99 l0_0 x9_2).f1) x12_5).f2) < (x5_1.length : Int)) = true := decide_eq_true c52
                       clear c52
                       by_cases c53 : y131.length < 5864062014805
                       ·rw [if_pos c53] at H
                        have LMc53 := Aside0.mk c53
                        clear c53
                        obtain ⟨y136, hy136⟩ : ∃ y_ : List (S81), y_ = (y131 ++ [(⟨5, rd x5_1 ((rd_T117 ((rd_T99 l0_0 x9_2).f1) x12_5).f2), 0⟩ : S81)]) := ⟨_, rfl⟩
                        replace H : (spec_Compile.l2 k5 x5_1 x6_1 y136 x9_2 x11_27 (wrap64 (x12_5 + 1)) l0_0 ((rd_T99 l0_0 x9_2).f0) ((rd_T99 l0_0 x9_2).f1) ((rd_T99 l0_0 x9_2).f2)) = some (r1, r2) := by first | (rw [hy136]; with_reducible exact H) | (have H2_ := (Option.bind_some _ _).symm.trans H; rw [hy136]; with_reducible exact H2_) | (have H2_ := (Option.bind_some _ _).symm.trans H; with_reducible exact H2_) | with_reducible exact H | (rw [hy136]; exact H) | exact H
                        have Ny136 := Aside0.mk hy136
                        clear hy136
                        have H' := Aside0.mk H
                        clear H
                        have hnb54 := NB118_101.out
                        have hnc54 := NB101_118.out
                        have hcz55_0 : wr.cell? ⟨gb118, 0, none⟩ = some (.int .i64 ((rd_T99 l0_0 x9_2).f0)) := (blk_cell BK118.out 0).trans rfl
                        have hcz55_1 : wr.cell? ⟨gb118, 1, none⟩ = some (.slice A117_1 ((rd_T99 l0_0 x9_2).f1).length c117_1) := (blk_cell BK118.out 1).trans rfl
                        have hcz55_2 : wr.cell? ⟨gb118, 2, none⟩ = some (.int .i64 ((rd_T99 l0_0 x9_2).f2)) := (blk_cell BK118.out 2).trans rfl
                        have hfz55_0 := blk_frozen BK118.out 0
                        have hfz55_1 := blk_frozen BK118.out 1
                        have hfz55_2 := blk_frozen BK118.out 2
                        obtain ⟨Ao56, co56, eo56⟩ := Kd.R_slice HO_8.out
                        subst eo56
                        have p126 : 0 ≤ (x12_5 : Int) := of_decide_eq_true (by first | (with_reducible assumption) | assumption)
                        have q126 : x12_5 < (((rd_T99 l0_0 x9_2).f1).length : Int) := of_decide_eq_true (by first | (with_reducible assumption) | assumption)
                        obtain ⟨ad126, e126, hx126_0, hx126_1, hx126_2⟩ := at_T117 HR117_1.out x12_5 p126 q126
                        cases e126
                        replace hx126_0 := (HB.out.cell (World.block_lt_of_cell? w _ hx126_0)).trans hx126_0
                        replace hx126_1 := (HB.out.cell (World.block_lt_of_cell? w _ hx126_1)).trans hx126_1
                        replace hx126_2 := (HB.out.cell (World.block_lt_of_cell? w _ hx126_2)).trans hx126_2
                        replace p126 := eq_true p126
                        replace q126 := eq_true q126
                        go_wp2_with (first | ((with_reducible refine gate_builtin (b := .append) (xs := #[.tmp 102, .tmp 111]) rfl ?_); at_builtin; refine Kd.R_append k81 (w0 := w) w.heap.size rfl (.tmp 102) (.tmp 111) 25 81 (.agg #[(.int .i64 0), (.int .i64 0), (.int .i64 0)]) 24 rfl Try.underlying25 info81 rfl (by decide) (by omega) (.slice Ao56 x8_5.length co56) x8_5 (⟨3, (rd_T117 ((rd_T99 l0_0 x9_2).f1) x12_5).f0, x11_27⟩ : S81) [.int .i64 3, .int .i64 ((rd_T117 ((rd_T99 l0_0 x9_2).f1) x12_5).f0), .int .i64 x11_27] (fun _ => True) (fun _ => False) rfl rfl ?aP (fun _ hk => hk.elim) ?aF ?aO ?aB ?aS ?aL ?_; (case aP => exact k81_mkM _ _ _ (⟨3, (rd_T117 ((rd_T99 l0_0 x9_2).f1) x12_5).f0, x11_27⟩ : S81)); (case aB => exact (by repeat (first | (with_reducible first | exact HB.out | apply below_alloc | apply pw_below_drewN | apply below_drew1 | refine below_set ?_ GE101.out | refine below_set ?_ GE118.out) | exact HB.out))); (case aF => exact (fun _ _ => trivial)); (case aO => exact (by (with_reducible repeat (first | apply Kd.R_alloc | apply Kd.R_drewN | apply Kd.R_drew)); exact HO_8.out)); (case aS => exact (below_size (by repeat (first | (with_reducible first | exact HB.out | apply below_alloc | apply pw_below_drewN | apply below_drew1 | refine below_set ?_ GE101.out | refine below_set ?_ GE118.out) | exact HB.out)))); (case aL => have := LMc49.out; omega); intro v128 w57 ho hb hg hat; rw [← Ny127.out] at ho; have n0_ := Aside0.mk (Kd.R_over' (by (with_reducible repeat (first | apply Kd.R_alloc | apply Kd.R_drewN | apply Kd.R_drew)); exact HO_5.out) (Kd.R_typed (by (with_reducible repeat (first | apply Kd.R_alloc | apply Kd.R_drewN | apply Kd.R_drew)); exact HO_8.out)) (by decide) hg); have n1_ := Aside0.mk (blk_grown (g := gb101) (o := .cells #[.slice (some ad117) l0_0.length c0_0] 58 (0, 0)) (by (with_reducible repeat (first | refine blk_drewN ?_ _ | refine blk_drew ?_ | refine blk_alloc ?_ _)); exact BK101.out) hg (Kd.R_ne HO_8.out BK101.out (by decide))); have n2_ := Aside0.mk (blk_grown (g := gb118) (o := .cells #[.int .i64 ((rd_T99 l0_0 x9_2).f0), .slice (some ad126) ((rd_T99 l0_0 x9_2).f1).length c117_1, .int .i64 ((rd_T99 l0_0 x9_2).f2)] 99 (0, 0)) (by (with_reducible repeat (first | refine blk_drewN ?_ _ | refine blk_drew ?_ | refine blk_alloc ?_ _)); exact BK118.out) hg (Kd.R_ne HO_8.out BK118.out (by decide))); have n3_ := Aside0.mk (hb); have n4_ := Aside0.mk (ho); clear HO_5; clear BK101; clear BK118; clear HB; clear HO_8; have HO_5 := n0_; have BK101 := n1_; have BK118 := n2_; have HB := n3_; have HO129 := n4_; clear n0_ n1_ n2_ n3_ n4_; clear ho hb hg hat; have hcz58_0 : w57.cell? ⟨gb118, 0, none⟩ = some (.int .i64 ((rd_T99 l0_0 x9_2).f0)) := (blk_cell BK118.out 0).trans rfl; have hcz58_1 : w57.cell? ⟨gb118, 1, none⟩ = some (.slice (some ad126) ((rd_T99 l0_0 x9_2).f1).length c117_1) := (blk_cell BK118.out 1).trans rfl; have hcz58_2 : w57.cell? ⟨gb118, 2, none⟩ = some (.int .i64 ((rd_T99 l0_0 x9_2).f2)) := (blk_cell BK118.out 2).trans rfl; have hfz58_0 := blk_frozen BK118.out 0; have hfz58_1 := blk_frozen BK118.out 1; have hfz58_2 := blk_frozen BK118.out 2; have p130 : 0 ≤ (x12_5 : Int) := of_decide_eq_true (by first | (with_reducible assumption) | assumption); have q130 : x12_5 < (((rd_T99 l0_0 x9_2).f1).length : Int) := of_decide_eq_true (by first | (with_reducible assumption) | assumption); obtain ⟨ad130, e130, hx130_0, hx130_1, hx130_2⟩ := at_T117 HR117_1.out x12_5 p130 q130; obtain rfl : ad126 = ad130 := (by injection e130); replace hx130_0 := (HB.out.cell (World.block_lt_of_cell? w _ hx130_0)).trans hx130_0; replace hx130_1 := (HB.out.cell (World.block_lt_of_cell? w _ hx130_1)).trans hx130_1; replace hx130_2 := (HB.out.cell (World.block_lt_of_cell? w _ hx130_2)).trans hx130_2; replace p130 := eq_true p130; replace q130 := eq_true q130) | ((with_reducible refine gate_builtin (b := .append) (xs := #[.tmp 113, .tmp 123]) rfl ?_); at_builtin; refine Kd.R_append k81 (w0 := w) w.heap.size rfl (.tmp 113) (.tmp 123) 25 81 (.agg #[(.int .i64 0), (.int .i64 0), (.int .i64 0)]) 24 rfl Try.underlying25 info81 rfl (by decide) (by omega) v128 y127 (⟨4, (rd_T117 ((rd_T99 l0_0 x9_2).f1) x12_5).f1, wrap64 ((x8_5.length : Int) + 3)⟩ : S81) [.int .i64 4, .int .i64 ((rd_T117 ((rd_T99 l0_0 x9_2).f1) x12_5).f1), .int .i64 (wrap64 ((x8_5.length : Int) + 3))] (fun _ => True) (fun _ => False) rfl rfl ?aP (fun _ hk => hk.elim) ?aF ?aO ?aB ?aS ?aL ?_; (case aP => exact k81_mkM _ _ _ (⟨4, (rd_T117 ((rd_T99 l0_0 x9_2).f1) x12_5).f1, wrap64 ((x8_5.length : Int) + 3)⟩ : S81)); (case aB => exact (by repeat (first | (with_reducible first | exact HB.out | apply below_alloc | apply pw_below_drewN | apply below_drew1 | refine below_set ?_ GE101.out | refine below_set ?_ GE118.out) | exact HB.out))); (case aF => exact (fun _ _ => trivial)); (case aO => exact (by (with_reducible repeat (first | apply Kd.R_alloc | apply Kd.R_drewN | apply Kd.R_drew)); exact HO129.out)); (case aS => exact (below_size (by repeat (first | (with_reducible first | exact HB.out | apply below_alloc | apply pw_below_drewN | apply below_drew1 | refine below_set ?_ GE101.out | refine below_set ?_ GE118.out) | exact HB.out)))); (case aL => have := LMc50.out; omega); intro v132 w59 ho hb hg hat; rw [← Ny131.out] at ho; have n0_ := Aside0.mk (Kd.R_over' (by (with_reducible repeat (first | apply Kd.R_alloc | apply Kd.R_drewN | apply Kd.R_drew)); exact HO_5.out) (Kd.R_typed (by (with_reducible repeat (first | apply Kd.R_alloc | apply Kd.R_drewN | apply Kd.R_drew)); exact HO129.out)) (by decide) hg); have n1_ := Aside0.mk (blk_grown (g := gb101) (o := .cells #[.slice (some ad117) l0_0.length c0_0] 58 (0, 0)) (by (with_reducible repeat (first | refine blk_drewN ?_ _ | refine blk_drew ?_ | refine blk_alloc ?_ _)); exact BK101.out) hg (Kd.R_ne HO129.out BK101.out (by decide))); have n2_ := Aside0.mk (blk_grown (g := gb118) (o := .cells #[.int .i64 ((rd_T99 l0_0 x9_2).f0), .slice (some ad126) ((rd_T99 l0_0 x9_2).f1).length c117_1, .int .i64 ((rd_T99 l0_0 x9_2).f2)] 99 (0, 0)) (by (with_reducible repeat (first | refine blk_drewN ?_ _ | refine blk_drew ?_ | refine blk_alloc ?_ _)); exact BK118.out) hg (Kd.R_ne HO129.out BK118.out (by decide))); have n3_ := Aside0.mk (hb); have n4_ := Aside0.mk (ho); clear HO_5; clear BK101; clear BK118; clear HB; clear HO129; have HO_5 := n0_; have BK101 := n1_; have BK118 := n2_; have HB := n3_; have HO133 := n4_; clear n0_ n1_ n2_ n3_ n4_; clear ho hb hg hat; have hcz60_0 : w59.cell? ⟨gb118, 0, none⟩ = some (.int .i64 ((rd_T99 l0_0 x9_2).f0)) := (blk_cell BK118.out 0).trans rfl; have hcz60_1 : w59.cell? ⟨gb118, 1, none⟩ = some (.slice (some ad126) ((rd_T99 l0_0 x9_2).f1).length c117_1) := (blk_cell BK118.out 1).trans rfl; have hcz60_2 : w59.cell? ⟨gb118, 2, none⟩ = some (.int .i64 ((rd_T99 l0_0 x9_2).f2)) := (blk_cell BK118.out 2).trans rfl; have hfz60_0 := blk_frozen BK118.out 0; have hfz60_1 := blk_frozen BK118.out 1; have hfz60_2 := blk_frozen BK118.out 2; have p134 : 0 ≤ (x12_5 : Int) := of_decide_eq_true (by first | (with_reducible assumption) | assumption); have q134 : x12_5 < (((rd_T99 l0_0 x9_2).f1).length : Int) := of_decide_eq_true (by first | (with_reducible assumption) | assumption); obtain ⟨ad134, e134, hx134_0, hx134_1, hx134_2⟩ := at_T117 HR117_1.out x12_5 p134 q134; obtain rfl : ad126 = ad134 := (by injection e134); replace hx134_0 := (HB.out.cell (World.block_lt_of_cell? w _ hx134_0)).trans hx134_0; replace hx134_1 := (HB.out.cell (World.block_lt_of_cell? w _ hx134_1)).trans hx134_1; replace hx134_2 := (HB.out.cell (World.block_lt_of_cell? w _ hx134_2)).trans hx134_2; replace p134 := eq_true p134; replace q134 := eq_true q134; have p135 : 0 ≤ (((rd_T117 ((rd_T99 l0_0 x9_2).f1) x12_5).f2) : Int) := of_decide_eq_true (by first | (with_reducible assumption) | assumption); have q135 : ((rd_T117 ((rd_T99 l0_0 x9_2).f1) x12_5).f2) < (x5_1.length : Int) := of_decide_eq_true (by first | (with_reducible assumption) | assumption); obtain ⟨ad135, e135, hx135_0⟩ := Kd.at_int (Kd.R_reads' HO_5.out).2.2 ((rd_T117 ((rd_T99 l0_0 x9_2).f1) x12_5).f2) p135 q135; cases e135; replace p135 := eq_true p135; replace q135 := eq_true q135) | ((with_reducible refine gate_builtin (b := .append) (xs := #[.tmp 125, .tmp 136]) rfl ?_); at_builtin; refine Kd.R_append k81 (w0 := w) w.heap.size rfl (.tmp 125) (.tmp 136) 25 81 (.agg #[(.int .i64 0), (.int .i64 0), (.int .i64 0)]) 24 rfl Try.underlying25 info81 rfl (by decide) (by omega) v132 y131 (⟨5, rd x5_1 ((rd_T117 ((rd_T99 l0_0 x9_2).f1) x12_5).f2), 0⟩ : S81) [.int .i64 5, .int .i64 (rd x5_1 ((rd_T117 ((rd_T99 l0_0 x9_2).f1) x12_5).f2)), .int .i64 0] (fun _ => True) (fun _ => False) rfl rfl ?aP (fun _ hk => hk.elim) ?aF ?aO ?aB ?aS ?aL ?_; (case aP => exact k81_mkM _ _ _ (⟨5, rd x5_1 ((rd_T117 ((rd_T99 l0_0 x9_2).f1) x12_5).f2), 0⟩ : S81)); (case aB => exact (by repeat (first | (with_reducible first | exact HB.out | apply below_alloc | apply pw_below_drewN | apply below_drew1 | refine below_set ?_ GE101.out | refine below_set ?_ GE118.out) | exact HB.out))); (case aF => exact (fun _ _ => trivial)); (case aO => exact (by (with_reducible repeat (first | apply Kd.R_alloc | apply Kd.R_drewN | apply Kd.R_drew)); exact HO133.out)); (case aS => exact (below_size (by repeat (first | (with_reducible first | exact HB.out | apply below_alloc | apply pw_below_drewN | apply below_drew1 | refine below_set ?_ GE101.out | refine below_set ?_ GE118.out) | exact HB.out)))); (case aL => have := LMc53.out; omega); intro v137 w61 ho hb hg hat; rw [← Ny136.out] at ho; have n0_ := Aside0.mk (Kd.R_over' (by (with_reducible repeat (first | apply Kd.R_alloc | apply Kd.R_drewN | apply Kd.R_drew)); exact HO_5.out) (Kd.R_typed (by (with_reducible repeat (first | apply Kd.R_alloc | apply Kd.R_drewN | apply Kd.R_drew)); exact HO133.out)) (by decide) hg); have n1_ := Aside0.mk (blk_grown (g := gb101) (o := .cells #[.slice (some ad117) l0_0.length c0_0] 58 (0, 0)) (by (with_reducible repeat (first | refine blk_drewN ?_ _ | refine blk_drew ?_ | refine blk_alloc ?_ _)); exact BK101.out) hg (Kd.R_ne HO133.out BK101.out (by decide))); have n2_ := Aside0.mk (blk_grown (g := gb118) (o := .cells #[.int .i64 ((rd_T99 l0_0 x9_2).f0), .slice (some ad126) ((rd_T99 l0_0 x9_2).f1).length c117_1, .int .i64 ((rd_T99 l0_0 x9_2).f2)] 99 (0, 0)) (by (with_reducible repeat (first | refine blk_drewN ?_ _ | refine blk_drew ?_ | refine blk_alloc ?_ _)); exact BK118.out) hg (Kd.R_ne HO133.out BK118.out (by decide))); have n3_ := Aside0.mk (hb); have n4_ := Aside0.mk (ho); clear HO_5; clear BK101; clear BK118; clear HB; clear HO133; have HO_5 := n0_; have BK101 := n1_; have BK118 := n2_; have HB := n3_; have HO138 := n4_; clear n0_ n1_ n2_ n3_ n4_; clear ho hb hg hat))
                        go_roundg k5
                        case measure => have := HK1.out; have := HK2.out; have := HJ27.out; have := HJ36.out; have := HK5.out; omega
                        case rel => exact ⟨(y136), (wrap64 (x12_5 + 1)), (by first | rfl | (simp; done) | (simp [*]; done)), H', ⟨by have := HK1.out; have := HK2.out; have := HJ27.out; have := HJ36.out; have := HK5.out; omega⟩, ⟨by (with_reducible repeat (first | apply Kd.R_alloc | apply Kd.R_drewN | apply Kd.R_drew)); exact HO_5.out⟩, ⟨by (with_reducible repeat (first | apply Kd.R_alloc | apply Kd.R_drewN | apply Kd.R_drew)); exact HO138.out⟩, ⟨by (with_reducible repeat (first | refine blk_drewN ?_ _ | refine blk_drew ?_ | refine blk_alloc ?_ _)); exact BK101.out⟩, ⟨by (with_reducible repeat (first | refine blk_drewN ?_ _ | refine blk_drew ?_ | refine blk_alloc ?_ _)); exact BK118.out⟩, ⟨by repeat (first | (with_reducible first | exact HB.out | apply below_alloc | apply pw_below_drewN | apply below_drew1 | refine below_set ?_ GE101.out | refine below_set ?_ GE118.out) | exact HB.out)⟩⟩
                       ·rw [if_neg c53] at H
                        exact absurd H (by simp)
                      ·rw [if_neg c52] at H
                       exact absurd H (by simp)
                     ·rw [if_neg c51] at H
                      exact absurd H (by simp)
                    ·rw [if_neg c50] at H
                     exact absurd H (by simp)
                   ·rw [if_neg c49] at H
                    exact absurd H (by simp)
                  ·rw [if_neg c48] at H
                   exact absurd H (by simp)
                 ·rw [if_neg c47] at H
                  have c47b0 : decide (x12_5 < (((rd_T99 l0_0 x9_2).f1).length : Int)) = false := decide_eq_false c47
                  clear c47
                  by_cases c62 : 0 ≤ ((rd_T99 l0_0 x9_2).f2)
                  ·rw [if_pos c62] at H
                   have c62b0 : decide (0 ≤ ((rd_T99 l0_0 x9_2).f2)) = true := decide_eq_true c62
                   clear c62
                   by_cases c63 : ((rd_T99 l0_0 x9_2).f2) < (x5_1.length : Int)
                   ·rw [if_pos c63] at H
                    have c63b0 : decide (((rd_T99 l0_0 x9_2).f2) < (x5_1.length : Int)) = true := decide_eq_true c63
                    clear c63
                    by_cases c64 : x8_5.length < 5864062014805
                    ·rw [if_pos c64] at H
                     have LMc64 := Aside0.mk c64
                     clear c64
                     obtain ⟨y140, hy140⟩ : ∃ y_ : List (S81), y_ = (x8_5 ++ [(⟨5, rd x5_1 ((rd_T99 l0_0 x9_2).f2), 0⟩ : S81)]) := ⟨_, rfl⟩
                     replace H : (spec_Compile.l1 k5 x5_1 x6_1 y140 (wrap64 (x9_2 + 1)) l0_0) = some (r1, r2) := by first | (rw [hy140]; with_reducible exact H) | (have H2_ := (Option.bind_some _ _).symm.trans H; rw [hy140]; with_reducible exact H2_) | (have H2_ := (Option.bind_some _ _).symm.trans H; with_reducible exact H2_) | with_reducible exact H | (rw [hy140]; exact H) | exact H
                     have Ny140 := Aside0.mk hy140
                     clear hy140
                     have H' := Aside0.mk H
                     clear H
                     have hnb65 := NB118_101.out
                     have hnc65 := NB101_118.out
                     have hcz66_0 : wr.cell? ⟨gb118, 0, none⟩ = some (.int .i64 ((rd_T99 l0_0 x9_2).f0)) := (blk_cell BK118.out 0).trans rfl
                     have hcz66_1 : wr.cell? ⟨gb118, 1, none⟩ = some (.slice A117_1 ((rd_T99 l0_0 x9_2).f1).length c117_1) := (blk_cell BK118.out 1).trans rfl
                     have hcz66_2 : wr.cell? ⟨gb118, 2, none⟩ = some (.int .i64 ((rd_T99 l0_0 x9_2).f2)) := (blk_cell BK118.out 2).trans rfl
                     have hfz66_0 := blk_frozen BK118.out 0
                     have hfz66_1 := blk_frozen BK118.out 1
                     have hfz66_2 := blk_frozen BK118.out 2
                     have p139 : 0 ≤ (((rd_T99 l0_0 x9_2).f2) : Int) := of_decide_eq_true (by first | (with_reducible assumption) | assumption)
                     have q139 : ((rd_T99 l0_0 x9_2).f2) < (x5_1.length : Int) := of_decide_eq_true (by first | (with_reducible assumption) | assumption)
                     obtain ⟨ad139, e139, hx139_0⟩ := Kd.at_int (Kd.R_reads' HO_5.out).2.2 ((rd_T99 l0_0 x9_2).f2) p139 q139
                     cases e139
                     replace p139 := eq_true p139
                     replace q139 := eq_true q139
                     go_wp2_with (first | ((with_reducible refine gate_builtin (b := .append) (xs := #[.tmp 138, .tmp 145]) rfl ?_); at_builtin; refine Kd.R_append k81 (w0 := w) w.heap.size rfl (.tmp 138) (.tmp 145) 25 81 (.agg #[(.int .i64 0), (.int .i64 0), (.int .i64 0)]) 24 rfl Try.underlying25 info81 rfl (by decide) (by omega) u8 x8_5 (⟨5, rd x5_1 ((rd_T99 l0_0 x9_2).f2), 0⟩ : S81) [.int .i64 5, .int .i64 (rd x5_1 ((rd_T99 l0_0 x9_2).f2)), .int .i64 0] (fun _ => True) (fun _ => False) rfl rfl ?aP (fun _ hk => hk.elim) ?aF ?aO ?aB ?aS ?aL ?_; (case aP => exact k81_mkM _ _ _ (⟨5, rd x5_1 ((rd_T99 l0_0 x9_2).f2), 0⟩ : S81)); (case aB => exact (by repeat (first | (with_reducible first | exact HB.out | apply below_alloc | apply pw_below_drewN | apply below_drew1 | refine below_set ?_ GE101.out | refine below_set ?_ GE118.out) | exact HB.out))); (case aF => exact (fun _ _ => trivial)); (case aO => exact (by (with_reducible repeat (first | apply Kd.R_alloc | apply Kd.R_drewN | apply Kd.R_drew)); exact HO_8.out)); (case aS => exact (below_size (by repeat (first | (with_reducible first | exact HB.out | apply below_alloc | apply pw_below_drewN | apply below_drew1 | refine below_set ?_ GE101.out | refine below_set ?_ GE118.out) | exact HB.out)))); (case aL => have := LMc64.out; omega); intro v141 w67 ho hb hg hat; rw [← Ny140.out] at ho; have n0_ := Aside0.mk (Kd.R_over' (by (with_reducible repeat (first | apply Kd.R_alloc | apply Kd.R_drewN | apply Kd.R_drew)); exact HO_5.out) (Kd.R_typed (by (with_reducible repeat (first | apply Kd.R_alloc | apply Kd.R_drewN | apply Kd.R_drew)); exact HO_8.out)) (by decide) hg); have n1_ := Aside0.mk (blk_grown (g := gb101) (o := .cells #[.slice (some ad117) l0_0.length c0_0] 58 (0, 0)) (by (with_reducible repeat (first | refine blk_drewN ?_ _ | refine blk_drew ?_ | refine blk_alloc ?_ _)); exact BK101.out) hg (Kd.R_ne HO_8.out BK101.out (by decide))); have n2_ := Aside0.mk (blk_grown (g := gb118) (o := .cells #[.int .i64 ((rd_T99 l0_0 x9_2).f0), .slice A117_1 ((rd_T99 l0_0 x9_2).f1).length c117_1, .int .i64 ((rd_T99 l0_0 x9_2).f2)] 99 (0, 0)) (by (with_reducible repeat (first | refine blk_drewN ?_ _ | refine blk_drew ?_ | refine blk_alloc ?_ _)); exact BK118.out) hg (Kd.R_ne HO_8.out BK118.out (by decide))); have n3_ := Aside0.mk (hb); have n4_ := Aside0.mk (ho); clear HO_5; clear BK101; clear BK118; clear HB; clear HO_8; have HO_5 := n0_; have BK101 := n1_; have BK118 := n2_; have HB := n3_; have HO142 := n4_; clear n0_ n1_ n2_ n3_ n4_; clear ho hb hg hat))
                     go_roundg k5
                     case measure => have := HK1.out; have := HK2.out; have := HJ27.out; have := HJ36.out; have := HK5.out; omega
                     case rel => exact ⟨(y140), (wrap64 (x9_2 + 1)), (by first | rfl | (simp; done) | (simp [*]; done)), H', ⟨by have := HK1.out; have := HK2.out; have := HJ27.out; have := HJ36.out; have := HK5.out; omega⟩, ⟨by (with_reducible repeat (first | apply Kd.R_alloc | apply Kd.R_drewN | apply Kd.R_drew)); exact HO_5.out⟩, ⟨by (with_reducible repeat (first | apply Kd.R_alloc | apply Kd.R_drewN | apply Kd.R_drew)); exact HO142.out⟩, ⟨by (with_reducible repeat (first | refine blk_drewN ?_ _ | refine blk_drew ?_ | refine blk_alloc ?_ _)); exact BK101.out⟩, ⟨by repeat (first | (with_reducible first | exact HB.out | apply below_alloc | apply pw_below_drewN | apply below_drew1 | refine below_set ?_ GE101.out | refine below_set ?_ GE118.out) | exact HB.out)⟩⟩
                    ·rw [if_neg c64] at H
                     exact absurd H (by simp)
                   ·rw [if_neg c63] at H
                    exact absurd H (by simp)
                  ·rw [if_neg c62] at H
                   exact absurd H (by simp)
              ·rw [if_neg c45] at H
               exact absurd H (by simp)
         ·rw [if_neg c27] at H
          exact absurd H (by simp)
        ·rw [if_neg c26] at H
         have c26b0 : decide (x9_2 < (l0_0.length : Int)) = false := decide_eq_false c26
         clear c26
         simp only [Option.some.injEq, Prod.mk.injEq] at H
         obtain ⟨rfl, rfl⟩ := H
         have hcz68_0 : wr.cell? ⟨gb101, 0, none⟩ = some (.slice A0_0 l0_0.length c0_0) := (blk_cell BK101.out 0).trans rfl
         have hfz68_0 := blk_frozen BK101.out 0
         go_wp2
         go_ret2
         exact ⟨_, by first | rfl | (simp [errW_none, errW_some] <;> rfl) | (simp [*, errW_none, errW_some] <;> rfl), by (with_reducible repeat (first | apply Kd.R_alloc | apply Kd.R_drewN | apply Kd.R_drew)); exact HO_8.out, by repeat (first | (with_reducible first | exact HB.out | apply below_alloc | apply pw_below_drewN | apply below_drew1 | refine below_set ?_ GE101.out) | exact HB.out)⟩
 ·replace c3 := Bool.eq_false_iff.mpr c3
  subst c3
  have H1 : (some (y102, false)) = some (r1, r2) := by rw [if_neg (show ¬ (false = true) by decide)] at H; exact H
  clear H
  have H := H1
  clear H1
  simp only [Option.some.injEq, Prod.mk.injEq] at H
  obtain ⟨rfl, rfl⟩ := H
  go_enter Try.func56, Try.ntmps56
  go_wp2_with (first | ((with_reducible refine gate_dst (N := 1) rfl ?_); refine box_event ?hg (N := 1) ?hd (cs := #[.slice A0_0 l0_0.length c0_0]) (t := 58) ?hr ?_; (case hd => rfl); (case hg => rfl); (case hr => first | (go_simp; done) | (go_simp; rfl)); intro gb101 hg w69 hbox hb; have n0_ := Aside0.mk (below_step (by repeat (first | (with_reducible first | exact HB.out | apply below_alloc | apply pw_below_drewN | apply below_drew1) | exact HB.out)) hb); have n1_ := Aside0.mk (hbox); have n2_ := Aside0.mk ((by rw [hg]; exact (below_size (by repeat (first | (with_reducible first | exact HB.out | apply below_alloc | apply pw_below_drewN | apply below_drew1) | exact HB.out))) : w.heap.size ≤ gb101)); have n3_ := Aside0.mk ((by rw [hg]; exact (below_size (by repeat (first | (with_reducible first | exact HB.out | apply below_alloc | apply pw_below_drewN | apply below_drew1) | exact HB.out))) : w.heap.size ≤ gb101)); clear HB; have HB := n0_; have BK101 := n1_; have GW101 := n2_; have GE101 := n3_; clear n0_ n1_ n2_ n3_; clear hb hbox hg) | ((with_reducible refine gate_dst (N := 14) rfl ?_); refine Kd.R_lit k81 _ 81 ?hg (N := 14) ?hd (xs := ([] : List (S81))) (inner := []) (ok := fun _ => True) (okp := fun _ => True) ?hr ?hp (fun _ hk => hk) trivial (Below.refl _ _) (Nat.le_refl _) (by simp) ?_; (case hd => rfl); (case hg => rfl); (case hr => first | (go_simp; done) | (go_simp; rfl)); (case hp => exact (Reps.none _ _)); intro v103 w70 ho71 hb hg_ hnew_; clear hg_ hnew_; (first | rw [← Ny102.out] at ho71 | (simp only [Int.reduceToNat] at ho71; rw [← Ny102.out] at ho71)); have n0_ := Aside0.mk (Kd.R_lower ho71 (below_size (by repeat (first | (with_reducible first | exact HB.out | apply below_alloc | apply pw_below_drewN | apply below_drew1 | refine below_set ?_ GE101.out) | exact HB.out)))); have n1_ := Aside0.mk (blk_below (g := gb101) (o := .cells #[.slice A0_0 l0_0.length c0_0] 58 (0, 0)) (by (with_reducible repeat (first | refine blk_drewN ?_ _ | refine blk_drew ?_ | refine blk_alloc ?_ _)); exact BK101.out) hb); have n2_ := Aside0.mk (below_step (by repeat (first | (with_reducible first | exact HB.out | apply below_alloc | apply pw_below_drewN | apply below_drew1 | refine below_set ?_ GE101.out) | exact HB.out)) hb); clear BK101; clear HB; have HO104 := n0_; have BK101 := n1_; have HB := n2_; clear n0_ n1_ n2_; clear hb ho71; have hcz72_0 : w70.cell? ⟨gb101, 0, none⟩ = some (.slice A0_0 l0_0.length c0_0) := (blk_cell BK101.out 0).trans rfl; have hfz72_0 := blk_frozen BK101.out 0) | ((with_reducible refine gate_callee (f := 42) rfl ?_); refine goesL_ (some 16) rfl rfl Try.func42 (by kernel_rfl) rfl #[.agg #[.slice A0_0 l0_0.length c0_0]] rfl (by (try simp only [List.map_toArray, List.map_cons, List.map_nil]); first | done | rfl | (simp only [List.length_drop, List.length_take]; rfl)) ?_; (with_reducible refine (spec_CodeOk.calls k _ _ l0_0 false _ ?side1 ?side2 A2.out).mono ?_); (case side1 => repeat (first | exact (Kd.C_below HR0_0.out HB.out) | (with_reducible refine Kd.C_alloc ?_ _) | (with_reducible refine Kd.C_drewN ?_ _) | (with_reducible refine Kd.C_drew ?_))); (case side2 => exact HC0_0.out); rintro e w73 ⟨rfl, hb⟩; refine ⟨_, rfl, ?_⟩; have n0_ := Aside0.mk (Kd.R_below (by (with_reducible repeat (first | apply Kd.R_alloc | apply Kd.R_drewN | apply Kd.R_drew)); exact HO104.out) hb); have n1_ := Aside0.mk (blk_below (g := gb101) (o := .cells #[.slice A0_0 l0_0.length c0_0] 58 (0, 0)) (by (with_reducible repeat (first | refine blk_drewN ?_ _ | refine blk_drew ?_ | refine blk_alloc ?_ _)); exact BK101.out) hb); have n2_ := Aside0.mk (below_step (by repeat (first | (with_reducible first | exact HB.out | apply below_alloc | apply pw_below_drewN | apply below_drew1 | refine below_set ?_ GE101.out) | exact HB.out)) hb); clear HO104; clear BK101; clear HB; have HO104 := n0_; have BK101 := n1_; have HB := n2_; clear n0_ n1_ n2_; (try clear hb); (try clear hb2); (try clear hk); (try clear hi)))
  go_ret2
  exact ⟨_, by first | rfl | (simp [errW_none, errW_some] <;> rfl) | (simp [*, errW_none, errW_some] <;> rfl), by (with_reducible repeat (first | apply Kd.R_alloc | apply Kd.R_drewN | apply Kd.R_drew)); exact HO104.out, by repeat (first | (with_reducible first | exact HB.out | apply below_alloc | apply pw_below_drewN | apply below_drew1 | refine below_set ?_ GE101.out) | exact HB.out)⟩

end Go.Proofs.Ytimdoghlnegpgaa.P
/- What the printed Compile of program and reference answer: for each block its steps, jumps told by where blocks begin. -/
namespace Go.Proofs.Ytimdoghlnegpgaa.P
open Go.RowKit Go.Proofs.YtimdoghlnegpgaaW.PrintWords Go.Proofs.YtimdoghlnegpgaaW.PrintLast Go.Proofs.YtimdoghlnegpgaaW.PrintMore Go.Proofs.YtimdoghlnegpgaaEv
set_option linter.unusedVariables false
set_option linter.unusedSimpArgs false

def stepsI (b : S99) : Int := 2 + 3 * b.f1.length + (if b.f0 ≥ 0 then 1 else 0)
def sumI : Int → List S99 → Int
  | at_, [] => at_
  | at_, b :: bs => sumI (at_ + stepsI b) bs
def begsI : Int → List S99 → List Int
  | _, [] => []
  | at_, b :: bs => at_ :: begsI (at_ + stepsI b) bs
def armsI (begs : List Int) (last : Int) : List S117 → List S81 → List S81
  | [], out => out
  | a :: rest, out => armsI begs last rest (((out ++ [⟨3, a.f0, last⟩]) ++ [⟨4, a.f1, (out.length : Int) + 3⟩]) ++ [⟨5, rd begs a.f2, 0⟩])
def blocksI (begs : List Int) : Int → List S99 → List S81 → List S81
  | _, [], out => out
  | at_, b :: bs, out => blocksI begs (at_ + stepsI b) bs (armsI begs (at_ + stepsI b - 1) b.f1 ((if b.f0 ≥ 0 then out ++ [⟨1, b.f0, 0⟩] else out) ++ [⟨2, 0, 0⟩]) ++ [⟨5, rd begs b.f2, 0⟩])
def compB (l : List S99) : List S81 × Bool := if codeB l then (if sumI 0 l > 60000 then ([], false) else (blocksI (begsI 0 l) 0 l [], true)) else ([], false)

theorem stepsI_le {b : S99} (h : b.f1.length ≤ 256) : 2 ≤ stepsI b ∧ stepsI b ≤ 771 := by
  unfold stepsI
  split <;> omega
theorem impl_stepsIn_eq (b : S99) (h : b.f1.length ≤ 256) : impl_stepsIn.f b.f0 b.f1 b.f2 = some (stepsI b) := by
  unfold impl_stepsIn.f stepsI
  simp only [impl_Arm.f, Option.bind_some]
  rw [wrap_id (x := 3 * (b.f1.length : Int)) (by omega) (by omega), wrap_id (x := 2 + 3 * (b.f1.length : Int)) (by omega) (by omega), wrap_id (x := 2 + 3 * (b.f1.length : Int) + 1) (by omega) (by omega)]
  split
  · rfl
  · simp
theorem begsI_length : ∀ (l : List S99) (a : Int), (begsI a l).length = l.length
  | [], _ => rfl
  | b :: bs, a => by simp [begsI, begsI_length bs]
/-- Where block i begins. -/
def atI (l : List S99) (i : Nat) : Int := sumI 0 (l.take i)
theorem sumI_append : ∀ (l m : List S99) (a : Int), sumI a (l ++ m) = sumI (sumI a l) m
  | [], _, _ => rfl
  | b :: bs, m, a => by simp [sumI, sumI_append bs]
theorem atI_succ (l : List S99) (i : Nat) (h : i < l.length) : atI l (i + 1) = atI l i + stepsI (rd_T99 l i) := by
  have hr : rd_T99 l i = l[i] := by simp [rd_T99, h]
  unfold atI
  rw [List.take_succ_eq_append_getElem h, sumI_append, hr]
  rfl
theorem begsI_snoc : ∀ (l : List S99) (a : Int) (b : S99), begsI a (l ++ [b]) = begsI a l ++ [sumI a l]
  | [], _, _ => rfl
  | c :: bs, a, b => by simp [begsI, sumI, begsI_snoc bs]
theorem begsI_take (l : List S99) (i : Nat) (h : i < l.length) : begsI 0 (l.take (i + 1)) = begsI 0 (l.take i) ++ [atI l i] := by
  rw [List.take_succ_eq_append_getElem h, begsI_snoc]
  rfl
theorem begsI_at : ∀ (l : List S99) (a : Int) (i : Nat) (h : i < l.length), rd (begsI a l) (i : Int) = sumI a (l.take i)
  | b :: bs, a, 0, _ => by simp [begsI, rd, sumI]
  | b :: bs, a, i + 1, h => by
    have := begsI_at bs (a + stepsI b) i (by simpa using h)
    simp only [begsI, List.take_succ_cons, sumI]
    rw [← this]
    unfold rd
    rw [Int.toNat_natCast, Int.toNat_natCast, List.getD_cons_succ]
theorem atI_le (l : List S99) (hb : ∀ i, i < l.length → (rd_T99 l (i : Nat)).f1.length ≤ 256) : ∀ i : Nat, i ≤ l.length → 0 ≤ atI l i ∧ atI l i ≤ 771 * i := by
  intro i
  induction i with
  | zero => intro _; simp [atI, sumI]
  | succ i ih =>
    intro h
    have := ih (by omega)
    have := stepsI_le (hb i (by omega))
    rw [atI_succ l i (by omega)]
    omega
theorem armsI_length (begs : List Int) (last : Int) : ∀ (as_ : List S117) (out : List S81), (armsI begs last as_ out).length = out.length + 3 * as_.length
  | [], out => by simp [armsI]
  | a :: rest, out => by
    simp only [armsI]
    rw [armsI_length begs last rest]
    simp
    omega
theorem blocksI_length (begs : List Int) : ∀ (bs : List S99) (a : Int) (out : List S81), ((blocksI begs a bs out).length : Int) = out.length + (sumI a bs - a)
  | [], a, out => by simp [blocksI, sumI]
  | b :: bs, a, out => by
    simp only [blocksI, sumI]
    rw [blocksI_length begs bs]
    simp only [List.length_append, armsI_length, List.length_cons, List.length_nil]
    unfold stepsI
    split
    · simp only [List.length_append, List.length_cons, List.length_nil]
      omega
    · omega
theorem compB_few (l : List S99) : (compB l).1.length ≤ 60000 := by
  unfold compB
  split
  · split
    · simp
    · have := blocksI_length (begsI 0 l) l 0 []
      simp at this ⊢
      omega
  · simp
theorem code_arms {l : List S99} (h : codeB l = true) (i : Nat) (hi : i < l.length) : (rd_T99 l i).f1.length ≤ 256 ∧ (∀ a ∈ (rd_T99 l i).f1, 0 ≤ a.f2 ∧ a.f2 < l.length) ∧ 0 ≤ (rd_T99 l i).f2 ∧ (rd_T99 l i).f2 < l.length := by
  simp only [codeB, Bool.and_eq_true, decide_eq_true_eq, List.all_eq_true] at h
  have hr : rd_T99 l i = l[i] := by simp [rd_T99, hi]
  have hb := h.2 _ (List.getElem_mem hi)
  rw [hr]
  simp only [blockB, Bool.and_eq_true, decide_eq_true_eq] at hb
  refine ⟨armsB_few hb.2, ?_, by omega, by omega⟩
  have key : ∀ (as_ : List S117) (last : Int), armsR l.length last as_ = true → ∀ a ∈ as_, 0 ≤ a.f2 ∧ a.f2 < l.length := by
    intro as_
    induction as_ with
    | nil => intro _ _ a ha; simp at ha
    | cons x xs ih =>
      intro last h1 a ha
      simp only [armsR, Bool.and_eq_true, decide_eq_true_eq] at h1
      rcases List.mem_cons.1 ha with rfl | ha
      · have := h1.1.2; omega
      · exact ih _ h1.2 a ha
  exact key _ _ hb.2
theorem rd_arm (as_ : List S117) (i : Nat) (h : i < as_.length) : rd_T117 as_ (i : Int) = as_[i] := by simp [rd_T117, h]

/-! ### the program's -/
theorem impl_Compile_l2 (l : List S99) (begs : List Int) (hbl : begs.length = l.length) (hl : l.length ≤ 1000) (b : S99) (ha : ∀ a ∈ b.f1, 0 ≤ a.f2 ∧ a.f2 < l.length) (hf2 : 0 ≤ b.f2 ∧ b.f2 < l.length) (hn : b.f1.length ≤ 256) (last i : Int) (r : List S81 × Bool) :
    ∀ m, m ≤ b.f1.length → ∀ out : List S81, out.length ≤ 1000000 + 3 * m → Ev (fun k => impl_Compile.l1 k begs (armsI begs last (b.f1.drop m) out ++ [⟨5, rd begs b.f2, 0⟩]) l l.length (wrap64 (i + 1))) r → Ev (fun k => impl_Compile.l2 k begs out last l l.length i b.f1 b.f1.length (m : Nat) b.f0 b.f1 b.f2) r := by
  refine down b.f1.length _ ?_ ?_
  · intro out ho h
    rw [ev_succ]
    simp only [impl_Compile.l2, ev_ite]
    rw [if_neg (by omega), if_pos hf2.1, if_pos (by omega), if_pos (by omega)]
    rw [List.drop_length] at h
    exact h
  · intro m hm ih out ho h
    have hb := ha _ (List.getElem_mem hm)
    rw [drop_cons b.f1 z117 m hm] at h
    have hr : b.f1.getD m z117 = b.f1[m] := by simp [hm]
    rw [hr] at h
    simp only [armsI] at h
    rw [ev_succ]
    simp only [impl_Compile.l2, Option.bind_some, ev_ite, impl_MOp.f, rd_arm b.f1 m hm]
    rw [if_pos (by omega), if_pos (by omega), if_pos (by omega), if_pos (by omega), if_pos (by simp; omega), if_pos hb.1, if_pos (by omega), if_pos (by simp; omega), wrap_succ hm (by omega)]
    rw [show wrap64 (((out ++ [(⟨3, b.f1[m].f0, last⟩ : S81)]).length : Int) + 2) = (out.length : Int) + 3 by rw [wrap_id (by simp; omega) (by simp; omega)]; simp; omega]
    exact ih _ (by simp; omega) h
theorem impl_Compile_l1 (l : List S99) (hc : codeB l = true) : ∀ i, i ≤ l.length → ∀ out : List S81, out.length ≤ 771 * i → Ev (fun k => impl_Compile.l1 k (begsI 0 l) out l l.length (i : Nat)) (blocksI (begsI 0 l) (atI l i) (l.drop i) out, true) := by
  have hsz := hc
  simp only [codeB, Bool.and_eq_true, decide_eq_true_eq] at hsz
  have hl1 := hsz.1.2
  refine down l.length _ ?_ ?_
  · intro out _
    rw [ev_succ]
    simp only [impl_Compile.l1, ev_ite, ev_some]
    rw [if_neg (by omega), List.drop_length]
    rfl
  · intro i hi ih out ho
    have hca := code_arms hc i hi
    have hat := atI_le l (fun j hj => (code_arms hc j hj).1) i (by omega)
    have hst := stepsI_le hca.1
    rw [ev_succ, drop_cons l z99 i hi]
    have hr : l.getD i z99 = rd_T99 l i := by simp [rd_T99]
    rw [hr]
    have hbg : rd (begsI 0 l) (i : Int) = atI l i := begsI_at l 0 i hi
    have tail : ∀ o2 : List S81, o2.length ≤ 771 * i + 1 → o2.length + 2 + 3 * (rd_T99 l i).f1.length ≤ 771 * (i + 1) → Ev (fun k => impl_Compile.j2 k (begsI 0 l) o2 i l l.length i (rd_T99 l i).f0 (rd_T99 l i).f1 (rd_T99 l i).f2) (blocksI (begsI 0 l) (atI l i + stepsI (rd_T99 l i)) (l.drop (i + 1)) (armsI (begsI 0 l) (atI l i + stepsI (rd_T99 l i) - 1) (rd_T99 l i).f1 (o2 ++ [⟨2, 0, 0⟩]) ++ [⟨5, rd (begsI 0 l) (rd_T99 l i).f2, 0⟩]), true) := by
      intro o2 h1 h2
      rw [ev_succ]
      simp only [impl_Compile.j2, ev_ite, impl_stepsIn_eq _ hca.1, Option.bind_some, begsI_length]
      rw [if_pos (by omega), if_pos (by omega), if_pos (by omega), hbg, wrap_id (x := atI l i + stepsI (rd_T99 l i)) (by omega) (by omega), wrap_id (x := atI l i + stepsI (rd_T99 l i) - 1) (by omega) (by omega)]
      refine impl_Compile_l2 l (begsI 0 l) (begsI_length l 0) hl1 (rd_T99 l i) hca.2.1 hca.2.2 hca.1 _ _ _ 0 (by omega) _ (by simp; omega) ?_
      rw [wrap_succ hi (by omega), List.drop_zero, ← atI_succ l i hi]
      exact ih _ (by simp only [List.length_append, armsI_length, List.length_cons, List.length_nil]; omega)
    simp only [impl_Compile.l1, ev_ite]
    rw [if_pos (by omega), if_pos (by omega), if_pos (by omega)]
    simp only [blocksI]
    have hx : stepsI (rd_T99 l i) = 2 + 3 * ((rd_T99 l i).f1.length : Int) + (if (rd_T99 l i).f0 ≥ 0 then 1 else 0) := rfl
    have h256 := hca.1
    by_cases h0 : (rd_T99 l i).f0 ≥ 0
    · rw [if_pos h0, if_pos h0, if_pos (by omega)]
      exact tail _ (by simp; omega) (by simp; omega)
    · rw [if_neg h0, if_neg h0]
      exact tail _ (by omega) (by omega)
theorem impl_Compile_ev (l : List S99) : Ev (fun k => impl_Compile.f k l) (compB l) := by
  unfold impl_Compile.f compB
  simp only [impl_CodeOk.f, Option.bind_some, ev_ite]
  cases hc : codeB l
  · exact ev_some.2 rfl
  have hsz := hc
  simp only [codeB, Bool.and_eq_true, decide_eq_true_eq] at hsz
  have hl1 := hsz.1.2
  simp only [if_true]
  have hle := atI_le l (fun j hj => (code_arms hc j hj).1)
  have key := down l.length (fun i => Ev (fun k => impl_Compile.l0 k (begsI 0 (l.take i)) (atI l i) l l.length (i : Nat) l) (if sumI 0 l > 60000 then ([], false) else (blocksI (begsI 0 l) 0 l [], true))) ?_ ?_ 0 (by omega)
  · exact key
  · rw [ev_succ]
    simp only [impl_Compile.l0, ev_ite, ev_some]
    rw [if_neg (by omega), List.take_length]
    have e : atI l l.length = sumI 0 l := by unfold atI; rw [List.take_length]
    rw [e]
    by_cases h6 : sumI 0 l > 60000
    · rw [if_pos h6, if_pos h6]
    · rw [if_neg h6, if_neg h6]
      exact impl_Compile_l1 l hc 0 (by omega) [] (by simp)
  · intro i hi ih
    rw [ev_succ]
    have hca := code_arms hc i hi
    have hst := stepsI_le hca.1
    have hat := hle i (by omega)
    simp only [impl_Compile.l0, ev_ite, impl_stepsIn_eq _ hca.1, Option.bind_some, begsI_length, List.length_take]
    rw [if_pos (by omega), if_pos (by omega), if_pos (by omega), if_pos (by omega), wrap_id (x := atI l i + stepsI (rd_T99 l i)) (by omega) (by omega), wrap_succ hi (by omega), ← atI_succ l i hi, ← begsI_take l i hi]
    exact ih

/-! ### the reference's -/
theorem spec_Compile_l2 (l : List S99) (begs : List Int) (hbl : begs.length = l.length) (b : S99) (ha : ∀ a ∈ b.f1, 0 ≤ a.f2 ∧ a.f2 < l.length) (hf2 : 0 ≤ b.f2 ∧ b.f2 < l.length) (hn : b.f1.length ≤ 256) (at_ last i : Int) (r : List S81 × Bool) :
    ∀ m, m ≤ b.f1.length → ∀ out : List S81, out.length ≤ 1000000 + 3 * m → Ev (fun k => spec_Compile.l1 k begs at_ (armsI begs last (b.f1.drop m) out ++ [⟨5, rd begs b.f2, 0⟩]) (wrap64 (i + 1)) l) r → Ev (fun k => spec_Compile.l2 k begs at_ out i last (m : Nat) l b.f0 b.f1 b.f2) r := by
  refine down b.f1.length _ ?_ ?_
  · intro out ho h
    rw [ev_succ]
    simp only [spec_Compile.l2, ev_ite]
    rw [if_neg (by omega), if_pos hf2.1, if_pos (by omega), if_pos (by omega)]
    rw [List.drop_length] at h
    exact h
  · intro m hm ih out ho h
    have hb := ha _ (List.getElem_mem hm)
    rw [drop_cons b.f1 z117 m hm] at h
    have hr : b.f1.getD m z117 = b.f1[m] := by simp [hm]
    rw [hr] at h
    simp only [armsI] at h
    rw [ev_succ]
    simp only [spec_Compile.l2, Option.bind_some, ev_ite, rd_arm b.f1 m hm]
    rw [if_pos (by omega), if_pos (by omega), if_pos (by omega), if_pos (by simp; omega), if_pos hb.1, if_pos (by omega), if_pos (by simp; omega), wrap_succ hm (by omega), wrap_id (x := (out.length : Int) + 3) (by omega) (by omega)]
    exact ih _ (by simp; omega) h
theorem spec_Compile_l1 (l : List S99) (hc : codeB l = true) : ∀ i, i ≤ l.length → ∀ out : List S81, out.length ≤ 771 * i → Ev (fun k => spec_Compile.l1 k (begsI 0 l) (atI l l.length) out (i : Nat) l) (blocksI (begsI 0 l) (atI l i) (l.drop i) out, true) := by
  have hsz := hc
  simp only [codeB, Bool.and_eq_true, decide_eq_true_eq] at hsz
  have hl1 := hsz.1.2
  refine down l.length _ ?_ ?_
  · intro out _
    rw [ev_succ]
    simp only [spec_Compile.l1, ev_ite, ev_some]
    rw [if_neg (by omega), List.drop_length]
    rfl
  · intro i hi ih out ho
    have hca := code_arms hc i hi
    have hat := atI_le l (fun j hj => (code_arms hc j hj).1) i (by omega)
    have hat1 := atI_le l (fun j hj => (code_arms hc j hj).1) (i + 1) (by omega)
    have hatl := atI_le l (fun j hj => (code_arms hc j hj).1) l.length (by omega)
    have hst := stepsI_le hca.1
    rw [ev_succ, drop_cons l z99 i hi]
    have hr : l.getD i z99 = rd_T99 l i := by simp [rd_T99]
    rw [hr]
    have hsucc := atI_succ l i hi
    have t3 : ∀ o2 : List S81, o2.length ≤ 771 * i + 1 → o2.length + 2 + 3 * (rd_T99 l i).f1.length ≤ 771 * (i + 1) → Ev (fun k => spec_Compile.j3 k (begsI 0 l) (atI l l.length) o2 i (atI l (i + 1) - 1) l (rd_T99 l i).f0 (rd_T99 l i).f1 (rd_T99 l i).f2) (blocksI (begsI 0 l) (atI l i + stepsI (rd_T99 l i)) (l.drop (i + 1)) (armsI (begsI 0 l) (atI l i + stepsI (rd_T99 l i) - 1) (rd_T99 l i).f1 (o2 ++ [⟨2, 0, 0⟩]) ++ [⟨5, rd (begsI 0 l) (rd_T99 l i).f2, 0⟩]), true) := by
      intro o2 h1 h2
      rw [ev_succ]
      simp only [spec_Compile.j3, ev_ite]
      rw [if_pos (by omega), ← hsucc]
      refine spec_Compile_l2 l (begsI 0 l) (begsI_length l 0) (rd_T99 l i) hca.2.1 hca.2.2 hca.1 _ _ _ _ 0 (by omega) _ (by simp; omega) ?_
      rw [wrap_succ hi (by omega), List.drop_zero]
      exact ih _ (by simp only [List.length_append, armsI_length, List.length_cons, List.length_nil]; omega)
    have t2 : Ev (fun k => spec_Compile.j2 k (begsI 0 l) (atI l l.length) out i (atI l (i + 1) - 1) l (rd_T99 l i).f0 (rd_T99 l i).f1 (rd_T99 l i).f2) (blocksI (begsI 0 l) (atI l i) (rd_T99 l i :: l.drop (i + 1)) out, true) := by
      rw [ev_succ]
      simp only [spec_Compile.j2, ev_ite, blocksI]
      have hx : stepsI (rd_T99 l i) = 2 + 3 * ((rd_T99 l i).f1.length : Int) + (if (rd_T99 l i).f0 ≥ 0 then 1 else 0) := rfl
      have h256 := hca.1
      by_cases h0 : (rd_T99 l i).f0 ≥ 0
      · rw [if_pos h0, if_pos h0, if_pos (by omega)]
        exact t3 _ (by simp; omega) (by simp; omega)
      · rw [if_neg h0, if_neg h0]
        exact t3 _ (by omega) (by omega)
    simp only [spec_Compile.l1, ev_ite]
    rw [if_pos (by omega), if_pos (by omega), wrap_succ hi (by omega)]
    by_cases hi1 : i + 1 < l.length
    · have hbg : rd (begsI 0 l) ((i + 1 : Nat) : Int) = atI l (i + 1) := begsI_at l 0 (i + 1) hi1
      rw [if_pos (by rw [begsI_length]; omega), if_pos (by omega), hbg, wrap_id (x := atI l (i + 1) - 1) (by omega) (by omega)]
      exact t2
    · have e : atI l (i + 1) = atI l l.length := by rw [show i + 1 = l.length by omega]
      rw [if_neg (by rw [begsI_length]; omega), wrap_id (x := atI l l.length - 1) (by omega) (by omega)]
      rw [e] at t2
      exact t2
theorem spec_Compile_ev (l : List S99) (hl : l.length ≤ 1048576) : Ev (fun k => spec_Compile.f k l) (compB l) := by
  unfold spec_Compile.f compB
  simp only [Option.bind_some]
  rw [ev_bind (spec_CodeOk_ev l hl), ev_ite]
  cases hc : codeB l
  · exact ev_some.2 rfl
  have hsz := hc
  simp only [codeB, Bool.and_eq_true, decide_eq_true_eq] at hsz
  have hl1 := hsz.1.2
  simp only [if_true]
  have hle := atI_le l (fun j hj => (code_arms hc j hj).1)
  have e : atI l l.length = sumI 0 l := by unfold atI; rw [List.take_length]
  have key := down l.length (fun i => Ev (fun k => spec_Compile.l0 k [] (begsI 0 (l.take i)) (atI l i) (i : Nat) l) (if sumI 0 l > 60000 then ([], false) else (blocksI (begsI 0 l) 0 l [], true))) ?_ ?_ 0 (by omega)
  · exact key
  · rw [ev_succ]
    simp only [spec_Compile.l0, ev_ite, ev_some]
    rw [if_neg (by omega), List.take_length]
    by_cases h6 : sumI 0 l > 60000
    · rw [e, if_pos h6, if_pos h6]
    · rw [if_neg (by rw [e]; exact h6), if_neg h6]
      exact spec_Compile_l1 l hc 0 (by omega) [] (by simp)
  · intro i hi ih
    rw [ev_succ]
    have hca := code_arms hc i hi
    have hst := stepsI_le hca.1
    have hat := hle i (by omega)
    have h256 := hca.1
    have hx : stepsI (rd_T99 l i) = 2 + 3 * ((rd_T99 l i).f1.length : Int) + (if (rd_T99 l i).f0 ≥ 0 then 1 else 0) := rfl
    have hs := atI_succ l i hi
    simp only [spec_Compile.l0, ev_ite, Option.bind_some, begsI_length, List.length_take]
    rw [if_pos (by omega), if_pos (by omega), if_pos (by omega)]
    rw [wrap_id (x := 3 * ((rd_T99 l i).f1.length : Int)) (by omega) (by omega), wrap_id (x := atI l i + 2) (by omega) (by omega), wrap_id (x := atI l i + 2 + 3 * ((rd_T99 l i).f1.length : Int)) (by omega) (by omega), wrap_succ hi (by omega)]
    rw [begsI_take l i hi] at ih
    by_cases h0 : (rd_T99 l i).f0 ≥ 0
    · rw [if_pos h0] at hx
      rw [if_pos h0, wrap_id (x := atI l i + 2 + 3 * ((rd_T99 l i).f1.length : Int) + 1) (by omega) (by omega), show atI l i + 2 + 3 * ((rd_T99 l i).f1.length : Int) + 1 = atI l (i + 1) by omega]
      exact ih
    · rw [if_neg h0] at hx
      rw [if_neg h0, show atI l i + 2 + 3 * ((rd_T99 l i).f1.length : Int) = atI l (i + 1) by omega]
      exact ih
end Go.Proofs.Ytimdoghlnegpgaa.P
-- Made by wip/gen/pp.py of this session over the kit's print of the loaded program: a function, and the contract of its walk. Lean checks it.
namespace Go.Proofs.Ytimdoghlnegpgaa.P
open Go.RowKit Go.Proofs.YtimdoghlnegpgaaW.PrintWords Go.Proofs.YtimdoghlnegpgaaW.PrintLast Go.Proofs.YtimdoghlnegpgaaW.PrintMore
attribute [local go_sem] max2_int min2_int max_two min_two max_three min_three max_four min_four   -- for this text's walks alone
set_option linter.unusedVariables false
set_option linter.unusedSimpArgs false

/-! ### laws_markArmS: function 108 -/
def laws_markArmS.l0 : Nat → List (S117) → Int → Int → Option (Int × (List (S117)))
 | 0, _, _, _ => none
 | k + 1, x0, x1, x5 => if x5 < (x0.length : Int) then (if 0 ≤ x5 then ((some (x0.set (x5 : Int).toNat (⟨x1, (rd_T117 x0 x5).f1, (rd_T117 x0 x5).f2⟩ : S117) : List (S117))).bind fun y101 => ((some (y101.set (x5 : Int).toNat (⟨(rd_T117 y101 x5).f0, wrap64 (x1 + 1), (rd_T117 y101 x5).f2⟩ : S117) : List (S117))).bind fun y102 => (laws_markArmS.l0 k (y102.set (x5 : Int).toNat (⟨(rd_T117 y102 x5).f0, (rd_T117 y102 x5).f1, wrap64 ((wrap64 (x1 + 1)) + 1)⟩ : S117)) (wrap64 ((wrap64 ((wrap64 (x1 + 1)) + 1)) + 1)) (wrap64 (x5 + 1))))) else (none)) else (some (x1, x0))
def laws_markArmS.f (k : Nat) (l0 : List (S117)) (a1 : Int) : Option (Int × (List (S117))) := laws_markArmS.l0 k l0 a1 0
theorem laws_markArmS.mono_l : ∀ k, (∀ y0 y1 y2, LeO (laws_markArmS.l0 k y0 y1 y2) (laws_markArmS.l0 (k + 1) y0 y1 y2))
 | 0 => fun _ _ _ r h => by simp [laws_markArmS.l0] at h
 | k + 1 => by
  have ih0 := laws_markArmS.mono_l k
  ·intro y0 y1 y2
   unfold laws_markArmS.l0
   repeat' first
   | (with_reducible exact ih0 _ _ _)
   | (with_reducible exact LeO.refl _)
   | (with_reducible exact LeO.none _)
   | (with_reducible refine LeO.ite ?_ ?_)
   | (with_reducible refine LeO.bind ?_ (fun _ => ?_))
   | exact ih0 _ _ _
   | exact LeO.none _
   | refine LeO.ite ?_ ?_
   | refine LeO.bind ?_ (fun _ => ?_)
theorem laws_markArmS.mono : ∀ a0 a1 k, LeO (laws_markArmS.f k a0 a1) (laws_markArmS.f (k + 1) a0 a1) := by
 intro a0 a1 k
 have ih0 := laws_markArmS.mono_l k
 unfold laws_markArmS.f
 repeat' first
   | (with_reducible exact ih0 _ _ _)
   | (with_reducible exact LeO.refl _)
   | (with_reducible exact LeO.none _)
   | (with_reducible refine LeO.ite ?_ ?_)
   | (with_reducible refine LeO.bind ?_ (fun _ => ?_))
   | exact ih0 _ _ _
   | exact LeO.none _
   | refine LeO.ite ?_ ?_
   | refine LeO.bind ?_ (fun _ => ?_)
set_option maxHeartbeats 8000000 in
set_option maxRecDepth 100000 in
theorem laws_markArmS.calls (k : Nat) (P0_ : Nat → Prop) (u9000_ : Value) (l0 : List (S117)) (a1 : Int) (r1 : Int) (r2 : List (S117)) (w0 w : World) (hB : Below w0.heap.size w0 w) (ho0 : Kd.R k117 117 w w0.heap.size P0_ u9000_ l0) (h : laws_markArmS.f k l0 a1 = some (r1, r2)) :
  Calls Try.prog 108 #[u9000_, .int .i64 a1] w fun e w' => e = .returned (.int .i64 r1) ∧ Kd.R k117 117 w' w0.heap.size (fun k_ => (P0_ k_ ∨ w.heap.size ≤ k_)) u9000_ r2 ∧ Below w0.heap.size w0 w' ∧ Kept w w' (fun k_ => P0_ k_) := by
 have HO0 := Aside0.mk (show Kd.R k117 117 w w0.heap.size (fun k_ => (P0_ k_ ∨ w.heap.size ≤ k_)) u9000_ l0 from Kd.R_mono ho0 (fun k_ hk => (.inl hk)))
 have HK := Aside0.mk (Kept.refl w (fun k_ => P0_ k_))
 have HW0 := Aside0.mk hB.size
 have HB := Aside0.mk hB
 clear hB
 have H : (laws_markArmS.l0 k l0 a1 0) = some (r1, r2) := h
 clear h
 have H' := Aside0.mk H
 clear H
 go_enter Try.func108, Try.ntmps108
 go_wp2
 go_loopg [1, 5] k (fun kq v1 v5 w' => ∃ (x0_1 : List (S117)) (x1_1 : Int) (x5_1 : Int), v1 = .int .i64 x1_1 ∧ v5 = .int .i64 x5_1 ∧ Aside0 (laws_markArmS.l0 kq x0_1 x1_1 x5_1 = some (r1, r2)) ∧ Aside0 (kq ≤ k) ∧ Aside0 (Kd.R k117 117 w' w0.heap.size (fun k_ => (P0_ k_ ∨ w.heap.size ≤ k_)) u9000_ x0_1) ∧ Aside0 (Kept w w' (fun k_ => P0_ k_)) ∧ Aside0 (Below w0.heap.size w0 w'))
 case atStart => exact ⟨(l0), (a1), (0), (by first | rfl | (simp; done) | (simp [*]; done)), (by first | rfl | (simp; done) | (simp [*]; done)), H', ⟨Nat.le_refl _⟩, ⟨by (with_reducible repeat (first | apply Kd.R_alloc | apply Kd.R_drewN | apply Kd.R_drew)); exact HO0.out⟩, ⟨by repeat (first | (with_reducible first | exact HK.out | apply Kept.alloc | apply Kept.drewN | apply Kept.drew) | exact HK.out)⟩, ⟨by repeat (first | (with_reducible first | exact HB.out | apply below_alloc | apply pw_below_drewN | apply below_drew1) | exact HB.out)⟩⟩
 case round =>
  clear H'
  try clear c1
  try clear p2
  obtain ⟨x0_1, x1_1, x5_1, rfl, rfl, HA, HK1, HO_0, HK, HB⟩ := hrel
  cases gk with
  | zero => exact absurd HA.out (by simp [laws_markArmS.l0])
  | succ k1 =>
   have H := HA.out
   clear HA
   simp only [laws_markArmS.l0] at H
   by_cases c3 : x5_1 < (x0_1.length : Int)
   ·rw [if_pos c3] at H
    have c3b0 : decide (x5_1 < (x0_1.length : Int)) = true := decide_eq_true c3
    clear c3
    by_cases c4 : 0 ≤ x5_1
    ·rw [if_pos c4] at H
     have c4b0 : decide (0 ≤ x5_1) = true := decide_eq_true c4
     clear c4
     obtain ⟨y101, hy101⟩ : ∃ y_ : List (S117), y_ = (x0_1.set (x5_1 : Int).toNat (⟨x1_1, (rd_T117 x0_1 x5_1).f1, (rd_T117 x0_1 x5_1).f2⟩ : S117)) := ⟨_, rfl⟩
     replace H : ((some (y101.set (x5_1 : Int).toNat (⟨(rd_T117 y101 x5_1).f0, wrap64 (x1_1 + 1), (rd_T117 y101 x5_1).f2⟩ : S117) : List (S117))).bind fun y102 => (laws_markArmS.l0 k1 (y102.set (x5_1 : Int).toNat (⟨(rd_T117 y102 x5_1).f0, (rd_T117 y102 x5_1).f1, wrap64 ((wrap64 (x1_1 + 1)) + 1)⟩ : S117)) (wrap64 ((wrap64 ((wrap64 (x1_1 + 1)) + 1)) + 1)) (wrap64 (x5_1 + 1)))) = some (r1, r2) := by first | (rw [hy101]; with_reducible exact H) | (have H2_ := (Option.bind_some _ _).symm.trans H; rw [hy101]; with_reducible exact H2_) | (have H2_ := (Option.bind_some _ _).symm.trans H; with_reducible exact H2_) | with_reducible exact H | (rw [hy101]; exact H) | exact H
     have Ny101 := Aside0.mk hy101
     clear hy101
     obtain ⟨y102, hy102⟩ : ∃ y_ : List (S117), y_ = (y101.set (x5_1 : Int).toNat (⟨(rd_T117 y101 x5_1).f0, wrap64 (x1_1 + 1), (rd_T117 y101 x5_1).f2⟩ : S117)) := ⟨_, rfl⟩
     replace H : (laws_markArmS.l0 k1 (y102.set (x5_1 : Int).toNat (⟨(rd_T117 y102 x5_1).f0, (rd_T117 y102 x5_1).f1, wrap64 ((wrap64 (x1_1 + 1)) + 1)⟩ : S117)) (wrap64 ((wrap64 ((wrap64 (x1_1 + 1)) + 1)) + 1)) (wrap64 (x5_1 + 1))) = some (r1, r2) := by first | (rw [hy102]; with_reducible exact H) | (have H2_ := (Option.bind_some _ _).symm.trans H; rw [hy102]; with_reducible exact H2_) | (have H2_ := (Option.bind_some _ _).symm.trans H; with_reducible exact H2_) | with_reducible exact H | (rw [hy102]; exact H) | exact H
     have Ny102 := Aside0.mk hy102
     clear hy102
     obtain ⟨y103, hy103⟩ : ∃ y_ : List (S117), y_ = (y102.set (x5_1 : Int).toNat (⟨(rd_T117 y102 x5_1).f0, (rd_T117 y102 x5_1).f1, wrap64 ((wrap64 (x1_1 + 1)) + 1)⟩ : S117)) := ⟨_, rfl⟩
     replace H : (laws_markArmS.l0 k1 y103 (wrap64 ((wrap64 ((wrap64 (x1_1 + 1)) + 1)) + 1)) (wrap64 (x5_1 + 1))) = some (r1, r2) := by first | (rw [hy103]; with_reducible exact H) | (have H2_ := (Option.bind_some _ _).symm.trans H; rw [hy103]; with_reducible exact H2_) | (have H2_ := (Option.bind_some _ _).symm.trans H; with_reducible exact H2_) | with_reducible exact H | (rw [hy103]; exact H) | exact H
     have Ny103 := Aside0.mk hy103
     clear hy103
     have H' := Aside0.mk H
     clear H
     obtain ⟨Ao8, co8, eo8⟩ := Kd.R_slice HO_0.out
     subst eo8
     have p5 : 0 ≤ (x5_1 : Int) := of_decide_eq_true (by first | (with_reducible assumption) | assumption)
     have q5 : (x5_1 : Int) < ((x0_1.length : Int) : Int) := of_decide_eq_true (by first | (with_reducible assumption) | assumption)
     obtain ⟨go5, co5, eo5, gb5, gl5, cl5, HG5⟩ := Kd.R_form HO_0.out (by omega)
     (first | cases eo5 | (injection eo5 with ea_ en_ ec_; (first | subst ea_ | (injection ea_ with ea_; subst ea_)); subst ec_; clear en_))
     have GB5 := Aside0.mk gb5
     have GG5 := Aside0.mk HG5
     clear gb5 gl5 HG5
     have HMgo5 := Aside0.mk (show (P0_ go5 ∨ w.heap.size ≤ go5) from (HO_0.out.1 _ rfl))
     obtain ⟨ce5, hcl5, hM5, hcc5, hfr5⟩ := Kd.R_elem HO_0.out z117 (x5_1 : Int) p5 q5
     obtain rfl := k117_openM hM5
     have hx5_0 : wr.cell? ⟨go5, (x5_1 : Int).toNat * 3, none⟩ = some (.int .i64 ((rd_T117 x0_1 x5_1).f0)) := hcc5 0 _ rfl
     have hx5_1 : wr.cell? ⟨go5, (x5_1 : Int).toNat * 3 + 1, none⟩ = some (.int .i64 ((rd_T117 x0_1 x5_1).f1)) := hcc5 1 _ rfl
     have hx5_2 : wr.cell? ⟨go5, (x5_1 : Int).toNat * 3 + 2, none⟩ = some (.int .i64 ((rd_T117 x0_1 x5_1).f2)) := hcc5 2 _ rfl
     have hf5_0 : wr.frozen? ⟨go5, (x5_1 : Int).toNat * 3, none⟩ = false := hfr5 0
     have hf5_1 : wr.frozen? ⟨go5, (x5_1 : Int).toNat * 3 + 1, none⟩ = false := hfr5 1
     have hf5_2 : wr.frozen? ⟨go5, (x5_1 : Int).toNat * 3 + 2, none⟩ = false := hfr5 2
     clear hcl5 hcc5 hfr5 hM5
     replace p5 := eq_true p5
     replace q5 := eq_true q5
     have HX9 := Aside0.mk (show Kd.R k117 117 wr w0.heap.size (fun k_ => (P0_ k_ ∨ w.heap.size ≤ k_)) (.slice (some ⟨go5, 0, none⟩) x0_1.length co8) x0_1 from (by (with_reducible repeat (first | apply Kd.R_alloc | apply Kd.R_drewN | apply Kd.R_drew)); exact HO_0.out))
     obtain ⟨ce9, hcl9, hM9, hcc9, hfr9⟩ := Kd.R_elem HX9.out z117 (x5_1 : Int) (of_decide_eq_true (by first | (with_reducible assumption) | assumption)) (by have h_ : (x5_1 : Int) < ((x0_1.length : Int) : Int) := of_decide_eq_true (by first | (with_reducible assumption) | assumption); first | exact h_ | (have e_ := (Kd.R_reads' HO_0.out).1; omega) | simpa using h_)
     obtain rfl := k117_openM hM9
     have HP9 := Kd.R_seg HX9.out (x5_1 : Int) (of_decide_eq_true (by first | (with_reducible assumption) | assumption)) (by have h_ : (x5_1 : Int) < ((x0_1.length : Int) : Int) := of_decide_eq_true (by first | (with_reducible assumption) | assumption); first | exact h_ | (have e_ := (Kd.R_reads' HO_0.out).1; omega) | simpa using h_) (seg := [.int .i64 x1_1]) (j := 0) hcl9 hcc9 (show 1 ≤ 3 from by decide) (x' := (⟨x1_1, (rd_T117 x0_1 x5_1).f1, (rd_T117 x0_1 x5_1).f2⟩ : S117)) (k117_mkM _ _ _ (⟨x1_1, (rd_T117 x0_1 x5_1).f1, (rd_T117 x0_1 x5_1).f2⟩ : S117) ) (fun _ hk => hk)
     have hx9_0 := hcc9 0 _ rfl
     (try simp only [show (k117).sz = 3 from rfl, Nat.mul_one, Nat.add_zero] at hx9_0)
     have hf9_0 := hfr9 0
     (try simp only [show (k117).sz = 3 from rfl, Nat.mul_one, Nat.add_zero] at hf9_0)
     clear hcl9 hcc9 hfr9 hM9
     go_wp2_with (first | ((with_reducible refine gate_store (t := 2) (p := 16) rfl ?_); refine store_event (t := 2) (p := 16) (v := ?vo_w10) (w1 := (wr.setCell ⟨go5, (x5_1 : Int).toNat * 3, none⟩ (.int .i64 x1_1))) ?hg ?ho ?hn ?hr ?_; (case ho => rfl); (case hg => rfl); (case hn => rfl); (case hr => first | (go_simp; done) | (go_simp; rfl)); intro w10 hw; have hg : wr.grownBy w10 (some go5) := (by rw [hw]; exact HP9.2); have hp_ : Kd.R k117 117 w10 w0.heap.size (fun k_ => (P0_ k_ ∨ w.heap.size ≤ k_)) (.slice (some ⟨go5, 0, none⟩) x0_1.length co8) y101 := (by rw [hw, Ny101.out]; exact HP9.1); clear HP9; have n0_ := Aside0.mk (hp_); have n1_ := Aside0.mk ((by rw [hw]; exact below_set (HB.out) GB5.out : Below w0.heap.size w0 w10)); have n2_ := Aside0.mk (Kept.of_grown (S := (fun k_ => P0_ k_)) hg (by repeat (first | (with_reducible first | exact HK.out | apply Kept.alloc | apply Kept.drewN | apply Kept.drew) | exact HK.out)) (fun k_ e_ => (HO_0.out.1 k_ e_))); clear HO_0; clear HB; clear HK; have HO_0 := n0_; have HB := n1_; have HK := n2_; clear n0_ n1_ n2_; clear hg hw hp_; have p6 : 0 ≤ (x5_1 : Int) := of_decide_eq_true (by first | (with_reducible assumption) | assumption); have q6 : (x5_1 : Int) < ((x0_1.length : Int) : Int) := of_decide_eq_true (by first | (with_reducible assumption) | assumption); obtain ⟨ce6, hcl6, hM6, hcc6, hfr6⟩ := Kd.R_elem HO_0.out z117 (x5_1 : Int) p6 q6; obtain rfl := k117_openM hM6; have hx6_0 : w10.cell? ⟨go5, (x5_1 : Int).toNat * 3, none⟩ = some (.int .i64 ((rd_T117 y101 x5_1).f0)) := hcc6 0 _ rfl; have hx6_1 : w10.cell? ⟨go5, (x5_1 : Int).toNat * 3 + 1, none⟩ = some (.int .i64 ((rd_T117 y101 x5_1).f1)) := hcc6 1 _ rfl; have hx6_2 : w10.cell? ⟨go5, (x5_1 : Int).toNat * 3 + 2, none⟩ = some (.int .i64 ((rd_T117 y101 x5_1).f2)) := hcc6 2 _ rfl; have hf6_0 : w10.frozen? ⟨go5, (x5_1 : Int).toNat * 3, none⟩ = false := hfr6 0; have hf6_1 : w10.frozen? ⟨go5, (x5_1 : Int).toNat * 3 + 1, none⟩ = false := hfr6 1; have hf6_2 : w10.frozen? ⟨go5, (x5_1 : Int).toNat * 3 + 2, none⟩ = false := hfr6 2; clear hcl6 hcc6 hfr6 hM6; replace p6 := eq_true p6; replace q6 := eq_true q6; have HX11 := Aside0.mk (show Kd.R k117 117 w10 w0.heap.size (fun k_ => (P0_ k_ ∨ w.heap.size ≤ k_)) (.slice (some ⟨go5, 0, none⟩) x0_1.length co8) y101 from (by (with_reducible repeat (first | apply Kd.R_alloc | apply Kd.R_drewN | apply Kd.R_drew)); exact HO_0.out)); obtain ⟨ce11, hcl11, hM11, hcc11, hfr11⟩ := Kd.R_elem HX11.out z117 (x5_1 : Int) (of_decide_eq_true (by first | (with_reducible assumption) | assumption)) (by have h_ : (x5_1 : Int) < ((x0_1.length : Int) : Int) := of_decide_eq_true (by first | (with_reducible assumption) | assumption); first | exact h_ | (have e_ := (Kd.R_reads' HO_0.out).1; omega) | simpa using h_); obtain rfl := k117_openM hM11; have HP11 := Kd.R_seg HX11.out (x5_1 : Int) (of_decide_eq_true (by first | (with_reducible assumption) | assumption)) (by have h_ : (x5_1 : Int) < ((x0_1.length : Int) : Int) := of_decide_eq_true (by first | (with_reducible assumption) | assumption); first | exact h_ | (have e_ := (Kd.R_reads' HO_0.out).1; omega) | simpa using h_) (seg := [.int .i64 (wrap64 (x1_1 + 1))]) (j := 1) hcl11 hcc11 (show 2 ≤ 3 from by decide) (x' := (⟨(rd_T117 y101 x5_1).f0, wrap64 (x1_1 + 1), (rd_T117 y101 x5_1).f2⟩ : S117)) (k117_mkM _ _ _ (⟨(rd_T117 y101 x5_1).f0, wrap64 (x1_1 + 1), (rd_T117 y101 x5_1).f2⟩ : S117) ) (fun _ hk => hk); have hx11_1 := hcc11 1 _ rfl; (try simp only [show (k117).sz = 3 from rfl, Nat.mul_one, Nat.add_zero] at hx11_1); have hf11_1 := hfr11 1; (try simp only [show (k117).sz = 3 from rfl, Nat.mul_one, Nat.add_zero] at hf11_1); clear hcl11 hcc11 hfr11 hM11) | ((with_reducible refine gate_store (t := 2) (p := 23) rfl ?_); refine store_event (t := 2) (p := 23) (v := ?vo_w12) (w1 := (w10.setCell ⟨go5, (x5_1 : Int).toNat * 3 + 1, none⟩ (.int .i64 (wrap64 (x1_1 + 1))))) ?hg ?ho ?hn ?hr ?_; (case ho => rfl); (case hg => rfl); (case hn => rfl); (case hr => first | (go_simp; done) | (go_simp; rfl)); intro w12 hw; have hg : w10.grownBy w12 (some go5) := (by rw [hw]; exact HP11.2); have hp_ : Kd.R k117 117 w12 w0.heap.size (fun k_ => (P0_ k_ ∨ w.heap.size ≤ k_)) (.slice (some ⟨go5, 0, none⟩) x0_1.length co8) y102 := (by rw [hw, Ny102.out]; exact HP11.1); clear HP11; have n0_ := Aside0.mk (hp_); have n1_ := Aside0.mk ((by rw [hw]; exact below_set (HB.out) GB5.out : Below w0.heap.size w0 w12)); have n2_ := Aside0.mk (Kept.of_grown (S := (fun k_ => P0_ k_)) hg (by repeat (first | (with_reducible first | exact HK.out | apply Kept.alloc | apply Kept.drewN | apply Kept.drew) | exact HK.out)) (fun k_ e_ => (HO_0.out.1 k_ e_))); clear HO_0; clear HB; clear HK; have HO_0 := n0_; have HB := n1_; have HK := n2_; clear n0_ n1_ n2_; clear hg hw hp_; have p7 : 0 ≤ (x5_1 : Int) := of_decide_eq_true (by first | (with_reducible assumption) | assumption); have q7 : (x5_1 : Int) < ((x0_1.length : Int) : Int) := of_decide_eq_true (by first | (with_reducible assumption) | assumption); obtain ⟨ce7, hcl7, hM7, hcc7, hfr7⟩ := Kd.R_elem HO_0.out z117 (x5_1 : Int) p7 q7; obtain rfl := k117_openM hM7; have hx7_0 : w12.cell? ⟨go5, (x5_1 : Int).toNat * 3, none⟩ = some (.int .i64 ((rd_T117 y102 x5_1).f0)) := hcc7 0 _ rfl; have hx7_1 : w12.cell? ⟨go5, (x5_1 : Int).toNat * 3 + 1, none⟩ = some (.int .i64 ((rd_T117 y102 x5_1).f1)) := hcc7 1 _ rfl; have hx7_2 : w12.cell? ⟨go5, (x5_1 : Int).toNat * 3 + 2, none⟩ = some (.int .i64 ((rd_T117 y102 x5_1).f2)) := hcc7 2 _ rfl; have hf7_0 : w12.frozen? ⟨go5, (x5_1 : Int).toNat * 3, none⟩ = false := hfr7 0; have hf7_1 : w12.frozen? ⟨go5, (x5_1 : Int).toNat * 3 + 1, none⟩ = false := hfr7 1; have hf7_2 : w12.frozen? ⟨go5, (x5_1 : Int).toNat * 3 + 2, none⟩ = false := hfr7 2; clear hcl7 hcc7 hfr7 hM7; replace p7 := eq_true p7; replace q7 := eq_true q7; have HX13 := Aside0.mk (show Kd.R k117 117 w12 w0.heap.size (fun k_ => (P0_ k_ ∨ w.heap.size ≤ k_)) (.slice (some ⟨go5, 0, none⟩) x0_1.length co8) y102 from (by (with_reducible repeat (first | apply Kd.R_alloc | apply Kd.R_drewN | apply Kd.R_drew)); exact HO_0.out)); obtain ⟨ce13, hcl13, hM13, hcc13, hfr13⟩ := Kd.R_elem HX13.out z117 (x5_1 : Int) (of_decide_eq_true (by first | (with_reducible assumption) | assumption)) (by have h_ : (x5_1 : Int) < ((x0_1.length : Int) : Int) := of_decide_eq_true (by first | (with_reducible assumption) | assumption); first | exact h_ | (have e_ := (Kd.R_reads' HO_0.out).1; omega) | simpa using h_); obtain rfl := k117_openM hM13; have HP13 := Kd.R_seg HX13.out (x5_1 : Int) (of_decide_eq_true (by first | (with_reducible assumption) | assumption)) (by have h_ : (x5_1 : Int) < ((x0_1.length : Int) : Int) := of_decide_eq_true (by first | (with_reducible assumption) | assumption); first | exact h_ | (have e_ := (Kd.R_reads' HO_0.out).1; omega) | simpa using h_) (seg := [.int .i64 (wrap64 ((wrap64 (x1_1 + 1)) + 1))]) (j := 2) hcl13 hcc13 (show 3 ≤ 3 from by decide) (x' := (⟨(rd_T117 y102 x5_1).f0, (rd_T117 y102 x5_1).f1, wrap64 ((wrap64 (x1_1 + 1)) + 1)⟩ : S117)) (k117_mkM _ _ _ (⟨(rd_T117 y102 x5_1).f0, (rd_T117 y102 x5_1).f1, wrap64 ((wrap64 (x1_1 + 1)) + 1)⟩ : S117) ) (fun _ hk => hk); have hx13_2 := hcc13 2 _ rfl; (try simp only [show (k117).sz = 3 from rfl, Nat.mul_one, Nat.add_zero] at hx13_2); have hf13_2 := hfr13 2; (try simp only [show (k117).sz = 3 from rfl, Nat.mul_one, Nat.add_zero] at hf13_2); clear hcl13 hcc13 hfr13 hM13) | ((with_reducible refine gate_store (t := 2) (p := 30) rfl ?_); refine store_event (t := 2) (p := 30) (v := ?vo_w14) (w1 := (w12.setCell ⟨go5, (x5_1 : Int).toNat * 3 + 2, none⟩ (.int .i64 (wrap64 ((wrap64 (x1_1 + 1)) + 1))))) ?hg ?ho ?hn ?hr ?_; (case ho => rfl); (case hg => rfl); (case hn => rfl); (case hr => first | (go_simp; done) | (go_simp; rfl)); intro w14 hw; have hg : w12.grownBy w14 (some go5) := (by rw [hw]; exact HP13.2); have hp_ : Kd.R k117 117 w14 w0.heap.size (fun k_ => (P0_ k_ ∨ w.heap.size ≤ k_)) (.slice (some ⟨go5, 0, none⟩) x0_1.length co8) y103 := (by rw [hw, Ny103.out]; exact HP13.1); clear HP13; have n0_ := Aside0.mk (hp_); have n1_ := Aside0.mk ((by rw [hw]; exact below_set (HB.out) GB5.out : Below w0.heap.size w0 w14)); have n2_ := Aside0.mk (Kept.of_grown (S := (fun k_ => P0_ k_)) hg (by repeat (first | (with_reducible first | exact HK.out | apply Kept.alloc | apply Kept.drewN | apply Kept.drew) | exact HK.out)) (fun k_ e_ => (HO_0.out.1 k_ e_))); clear HO_0; clear HB; clear HK; have HO_0 := n0_; have HB := n1_; have HK := n2_; clear n0_ n1_ n2_; clear hg hw hp_))
     go_roundg k1
     case measure => have := HK1.out; omega
     case rel => exact ⟨(y103), (wrap64 ((wrap64 ((wrap64 (x1_1 + 1)) + 1)) + 1)), (wrap64 (x5_1 + 1)), (by first | rfl | (simp; done) | (simp [*]; done)), (by first | rfl | (simp; done) | (simp [*]; done)), H', ⟨by have := HK1.out; omega⟩, ⟨by (with_reducible repeat (first | apply Kd.R_alloc | apply Kd.R_drewN | apply Kd.R_drew)); exact HO_0.out⟩, ⟨by repeat (first | (with_reducible first | exact HK.out | apply Kept.alloc | apply Kept.drewN | apply Kept.drew) | exact HK.out)⟩, ⟨by repeat (first | (with_reducible first | exact HB.out | apply below_alloc | apply pw_below_drewN | apply below_drew1) | exact HB.out)⟩⟩
    ·rw [if_neg c4] at H
     exact absurd H (by simp)
   ·rw [if_neg c3] at H
    have c3b0 : decide (x5_1 < (x0_1.length : Int)) = false := decide_eq_false c3
    clear c3
    simp only [Option.some.injEq, Prod.mk.injEq] at H
    obtain ⟨rfl, rfl⟩ := H
    obtain ⟨Ao15, co15, eo15⟩ := Kd.R_slice HO_0.out
    subst eo15
    go_wp2
    go_ret
    exact ⟨by first | rfl | (simp [errW_none, errW_some] <;> rfl) | (simp [*, errW_none, errW_some] <;> rfl), by (with_reducible repeat (first | apply Kd.R_alloc | apply Kd.R_drewN | apply Kd.R_drew)); exact HO_0.out, by repeat (first | (with_reducible first | exact HB.out | apply below_alloc | apply pw_below_drewN | apply below_drew1) | exact HB.out), by repeat (first | (with_reducible first | exact HK.out | apply Kept.alloc | apply Kept.drewN | apply Kept.drew) | exact HK.out)⟩

end Go.Proofs.Ytimdoghlnegpgaa.P
/- What the laws' helpers on slices of Arm answer: the copy is the list, a list equals itself, marks are held. -/
namespace Go.Proofs.Ytimdoghlnegpgaa.P
open Go.RowKit Go.Proofs.YtimdoghlnegpgaaW.PrintWords Go.Proofs.YtimdoghlnegpgaaW.PrintLast Go.Proofs.YtimdoghlnegpgaaEv
set_option linter.unusedVariables false
set_option linter.unusedSimpArgs false

/-- The j-th mark from a on. -/
def mkArm (a : Int) (j : Nat) : S117 := ⟨a + 3 * (j : Int), a + 3 * (j : Int) + 1, a + 3 * (j : Int) + 2⟩
theorem rd_T117_set (l : List S117) (i : Nat) (v : S117) (h : i < l.length) : rd_T117 (l.set i v) (i : Int) = v := by
  simp [rd_T117, h]

theorem laws_markArmS_ev (l : List S117) (a : Int) (h0 : 0 ≤ a) (h1 : a + 3 * l.length ≤ 9000000000000000000) : Ev (fun k => laws_markArmS.f k l a) (a + 3 * l.length, (List.range l.length).map (mkArm a)) := by
  unfold laws_markArmS.f
  have h := ev_loop l.length (fun k i => laws_markArmS.l0 k (marked (mkArm a) l i) (a + 3 * (i : Int)) (i : Nat)) (fun _ => (a + 3 * l.length, (List.range l.length).map (mkArm a))) ?_ ?_ 0 (by omega)
  · simpa [marked] using h
  · rw [ev_succ]
    simp [laws_markArmS.l0, ev_some, marked]
  · intro i hi ih
    rw [ev_succ]
    have hl : (marked (mkArm a) l i).length = l.length := marked_length _ _ _ (by omega)
    simp only [laws_markArmS.l0, Option.bind_some, ev_ite, hl, Int.toNat_natCast]
    rw [if_pos (by omega), if_pos (by omega)]
    simp only [rd_T117_set, List.length_set, hl, hi, List.set_set]
    rw [wrap_succ hi (by omega)]
    have e : ∀ x : Int, 0 ≤ x → x ≤ 9000000000000000100 → wrap64 (x + 1) = x + 1 := fun x hx hy => wrap_id (by omega) (by omega)
    rw [e _ (by omega) (by omega)]
    repeat rw [e _ (by omega) (by omega)]
    have hm := marked_set (mkArm a) l i hi
    have ih' : Ev (fun k => laws_markArmS.l0 k (marked (mkArm a) l (i + 1)) (a + 3 * ((i + 1 : Nat) : Int)) ((i + 1 : Nat) : Int)) _ := ih
    rw [← hm, show a + 3 * ((i + 1 : Nat) : Int) = a + 3 * (i : Int) + 3 by omega] at ih'
    simpa [mkArm, Int.add_assoc] using ih'

end Go.Proofs.Ytimdoghlnegpgaa.P
