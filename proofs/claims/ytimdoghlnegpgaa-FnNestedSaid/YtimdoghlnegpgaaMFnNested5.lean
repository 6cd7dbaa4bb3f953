/- The law FnNested holds for every call: part 6 of 6 of the proof (the row). Conditions: none beyond what the given row says. -/
import Derived.Test.YtimdoghlnegpgaaMFnNested0
import Derived.Test.YtimdoghlnegpgaaMFnNested4
import Derived.Test.YtimdoghlnegpgaaMFnNested2
import Derived.Test.YtimdoghlnegpgaaMFnNested3
import Derived.Test.YtimdoghlnegpgaaMFnNested1
import Derived.SizedLaws
import Derived.ChangeSlices
import Derived.Test.YtimdoghlnegpgaaRows
import Derived.WalkKit
import Derived.ProofKit
import Derived.OpenShut
import Derived.ShutString
import Derived.ChangeOld
import Derived.Below
-- Made by wip/gen/pp.py of this session over the kit's print of the loaded program: a function, and the contract of its walk. Lean checks it.
namespace Go.Proofs.Ytimdoghlnegpgaa.P
open Go.RowKit Go.Proofs.YtimdoghlnegpgaaW.PrintWords Go.Proofs.YtimdoghlnegpgaaW.PrintLast Go.Proofs.YtimdoghlnegpgaaW.PrintMore
attribute [local go_sem] max2_int min2_int max_two min_two max_three min_three max_four min_four   -- for this text's walks alone
set_option linter.unusedVariables false
set_option linter.unusedSimpArgs false

/-! ### impl_itemsOk: function 73 -/
def impl_itemsOk.l0 : Nat → List (S73) → List (S73) → Int → Int → Option (Bool)
 | 0, _, _, _, _ => none
 | k + 1, x0, x5, x6, x7 => if x7 < x6 then (if 0 ≤ x7 then (if x7 < (x5.length : Int) then (if ((rd_T73 x5 x7).f0) < 0 then (some false) else ((impl_within.f ((rd_T73 x5 x7).f1) 1 1000000000000).bind fun t103 => (if t103 = true then ((impl_within.f ((rd_T73 x5 x7).f2) 1 1000000000000).bind fun t104 => (if t104 = true then (if x7 > 0 then (if 0 ≤ (wrap64 (x7 - 1)) then (if (wrap64 (x7 - 1)) < (x0.length : Int) then (if ((rd_T73 x0 (wrap64 (x7 - 1))).f1) > ((rd_T73 x5 x7).f1) then (some false) else (impl_itemsOk.l0 k x0 x5 x6 (wrap64 (x7 + 1)))) else (none)) else (none)) else (impl_itemsOk.l0 k x0 x5 x6 (wrap64 (x7 + 1)))) else (some false))) else (some false)))) else (none)) else (none)) else (some (decide ((x0.length : Int) ≤ 5000)))
def impl_itemsOk.f (k : Nat) (l0 : List (S73)) : Option (Bool) := impl_itemsOk.l0 k l0 l0 (l0.length : Int) 0
theorem impl_itemsOk.mono_l : ∀ k, (∀ y0 y1 y2 y3, LeO (impl_itemsOk.l0 k y0 y1 y2 y3) (impl_itemsOk.l0 (k + 1) y0 y1 y2 y3))
 | 0 => fun _ _ _ _ r h => by simp [impl_itemsOk.l0] at h
 | k + 1 => by
  have ih0 := impl_itemsOk.mono_l k
  ·intro y0 y1 y2 y3
   unfold impl_itemsOk.l0
   repeat' first
   | (with_reducible exact ih0 _ _ _ _)
   | (with_reducible exact LeO.refl _)
   | (with_reducible exact LeO.none _)
   | (with_reducible refine LeO.ite ?_ ?_)
   | (with_reducible refine LeO.bind ?_ (fun _ => ?_))
   | exact ih0 _ _ _ _
   | exact LeO.none _
   | refine LeO.ite ?_ ?_
   | refine LeO.bind ?_ (fun _ => ?_)
theorem impl_itemsOk.mono : ∀ a0 k, LeO (impl_itemsOk.f k a0) (impl_itemsOk.f (k + 1) a0) := by
 intro a0 k
 have ih0 := impl_itemsOk.mono_l k
 unfold impl_itemsOk.f
 repeat' first
   | (with_reducible exact ih0 _ _ _ _)
   | (with_reducible exact LeO.refl _)
   | (with_reducible exact LeO.none _)
   | (with_reducible refine LeO.ite ?_ ?_)
   | (with_reducible refine LeO.bind ?_ (fun _ => ?_))
   | exact ih0 _ _ _ _
   | exact LeO.none _
   | refine LeO.ite ?_ ?_
   | refine LeO.bind ?_ (fun _ => ?_)
def impl_itemsOk.T4 : Bool × List (List Nat × List Nat) := (true, [([], []), ([0], [0]), ([1], [1]), ([2], [2]), ([3], [3]), ([4, 3], [3, 4]), ([5, 3, 3], [3, 5]), ([6, 3], [3, 6]), ([3, 7], [3, 7]), ([8, 6], [8]), ([9], [9]), ([10, 9], [9, 10]), ([11, 9, 9], [9, 11]), ([12, 9], [9, 12]), ([9, 13], [9, 13]), ([14, 12], [14]), ([15], [15]), ([16, 15], [15, 16]), ([17, 15, 15], [15, 17]), ([18], [18]), ([18], [18]), ([20, 18], [18, 20]), ([19, 21, 18], [18, 19, 21]), ([22, 18], [18, 22]), ([23, 18], [18, 23]), ([18], [18]), ([25, 18], [18, 25]), ([24, 26, 18], [18, 24, 26]), ([18, 27, 15], [15, 18, 27]), ([15, 28], [15, 28])])
def impl_itemsOk.B4 : List Nat := [0, 1, 3, 7, 15, 31, 63, 127, 255, 511, 1023, 2047, 4095, 8191, 16383, 32767, 65535, 131071, 262143, 524287, 524287, 1572863, 4194303, 8388607, 16777215, 524287, 34078719, 134217727, 268435455, 536870911]
theorem impl_itemsOk.tab4 : rtab .any (opsOf Try.f73 4) = impl_itemsOk.T4 := by kernel_rfl
theorem impl_itemsOk.bits4 : waitsOk impl_itemsOk.T4.2 impl_itemsOk.B4 = true := by kernel_rfl
set_option maxHeartbeats 8000000 in
set_option maxRecDepth 100000 in
theorem impl_itemsOk.calls (k : Nat) (A0 : Option Addr) (c0 : Nat) (l0 : List (S73)) (r : Bool) (w : World) (hr0 : Kd.C k73 w A0 l0.length l0) (hc0 : l0.length ≤ c0) (h : impl_itemsOk.f k l0 = some r) :
  Calls Try.prog 73 #[.slice A0 l0.length c0] w fun e w' => e = .returned (.bool r) ∧ Below w.heap.size w w' := by
 have hu73 := Try.underlying73
 have HR0 := Aside0.mk hr0
 have HC0 := Aside0.mk hc0
 clear hr0 hc0
 have HB := Aside0.mk (Below.refl w.heap.size w)
 have H : (impl_itemsOk.l0 k l0 l0 (l0.length : Int) 0) = some r := h
 clear h
 have H' := Aside0.mk H
 clear H
 go_enter Try.func73, Try.ntmps73
 go_wp2
 go_loopg [7] k (fun kq v7 w' => ∃ (x7_1 : Int), v7 = .int .i64 x7_1 ∧ Aside0 (impl_itemsOk.l0 kq l0 l0 (l0.length : Int) x7_1 = some r) ∧ Aside0 (kq ≤ k) ∧ Aside0 (Below w.heap.size w w'))
 case atStart => exact ⟨(0), (by first | rfl | (simp; done) | (simp [*]; done)), H', ⟨Nat.le_refl _⟩, ⟨by repeat (first | (with_reducible first | exact HB.out | apply below_alloc | apply pw_below_drewN | apply below_drew1) | exact HB.out)⟩⟩
 case round =>
  clear H'
  obtain ⟨x7_1, rfl, HA, HK1, HB⟩ := hrel
  cases gk with
  | zero => exact absurd HA.out (by simp [impl_itemsOk.l0])
  | succ k1 =>
   have H := HA.out
   clear HA
   simp only [impl_itemsOk.l0] at H
   by_cases c2 : x7_1 < (l0.length : Int)
   ·rw [if_pos c2] at H
    have c2b0 : decide (x7_1 < (l0.length : Int)) = true := decide_eq_true c2
    clear c2
    by_cases c3 : 0 ≤ x7_1
    ·rw [if_pos c3] at H
     have c3b0 : decide (0 ≤ x7_1) = true := decide_eq_true c3
     clear c3
     by_cases c4 : x7_1 < (l0.length : Int)
     ·rw [if_pos c4] at H
      have c4b0 : decide (x7_1 < (l0.length : Int)) = true := decide_eq_true c4
      clear c4
      by_cases c5 : ((rd_T73 l0 x7_1).f0) < 0
      ·rw [if_pos c5] at H
       have c5b0 : decide (((rd_T73 l0 x7_1).f0) < 0) = true := decide_eq_true c5
       clear c5
       obtain rfl := Option.some.inj H
       have p101 : 0 ≤ (x7_1 : Int) := of_decide_eq_true (by first | (with_reducible assumption) | assumption)
       have q101 : x7_1 < (l0.length : Int) := of_decide_eq_true (by first | (with_reducible assumption) | assumption)
       obtain ⟨ad101, e101, hx101_0, hx101_1, hx101_2⟩ := at_T73 HR0.out x7_1 p101 q101
       cases e101
       replace hx101_0 := (HB.out.cell (World.block_lt_of_cell? w _ hx101_0)).trans hx101_0
       replace hx101_1 := (HB.out.cell (World.block_lt_of_cell? w _ hx101_1)).trans hx101_1
       replace hx101_2 := (HB.out.cell (World.block_lt_of_cell? w _ hx101_2)).trans hx101_2
       replace p101 := eq_true p101
       replace q101 := eq_true q101
       try go_wp2_with (first | ((with_reducible refine gate_dst (N := 4) rfl ?_); refine box_event ?hg (N := 4) ?hd (cs := #[.int .i64 0, .int .i64 0, .int .i64 0]) (t := 73) ?hr ?_; (case hd => rfl); (case hg => rfl); (case hr => first | (go_simp; done) | (go_simp; rfl)); intro gb102 hg w6 hbox hb; have n0_ := Aside0.mk (below_step (by repeat (first | (with_reducible first | exact HB.out | apply below_alloc | apply pw_below_drewN | apply below_drew1) | exact HB.out)) hb); have n1_ := Aside0.mk (hbox); have n2_ := Aside0.mk ((by rw [hg]; exact (below_size (by repeat (first | (with_reducible first | exact HB.out | apply below_alloc | apply pw_below_drewN | apply below_drew1) | exact HB.out))) : w.heap.size ≤ gb102)); have n3_ := Aside0.mk ((by rw [hg]; exact (below_size (by repeat (first | (with_reducible first | exact HB.out | apply below_alloc | apply pw_below_drewN | apply below_drew1) | exact HB.out))) : w.heap.size ≤ gb102)); clear HB; have HB := n0_; have BK102 := n1_; have GW102 := n2_; have GE102 := n3_; clear n0_ n1_ n2_ n3_; clear hb hbox hg; have hcz7_0 : w6.cell? ⟨gb102, 0, none⟩ = some (.int .i64 0) := (blk_cell BK102.out 0).trans rfl; have hcz7_1 : w6.cell? ⟨gb102, 1, none⟩ = some (.int .i64 0) := (blk_cell BK102.out 1).trans rfl; have hcz7_2 : w6.cell? ⟨gb102, 2, none⟩ = some (.int .i64 0) := (blk_cell BK102.out 2).trans rfl; have hfz7_0 := blk_frozen BK102.out 0; have hfz7_1 := blk_frozen BK102.out 1; have hfz7_2 := blk_frozen BK102.out 2))
       have n0_ : Aside0 ((((w6.setCell ⟨gb102, 0, none⟩ (.int .i64 ((rd_T73 l0 x7_1).f0))).setCell ⟨gb102, 1, none⟩ (.int .i64 ((rd_T73 l0 x7_1).f1))).setCell ⟨gb102, 2, none⟩ (.int .i64 ((rd_T73 l0 x7_1).f2))).heap[gb102]? = some (.cells #[.int .i64 ((rd_T73 l0 x7_1).f0), .int .i64 ((rd_T73 l0 x7_1).f1), .int .i64 ((rd_T73 l0 x7_1).f2)] 73 (0, 0))) := ⟨by (with_reducible repeat (first | refine blk_drewN ?_ _ | refine blk_drew ?_ | refine blk_alloc ?_ _)); refine blk_put (cs := #[.int .i64 ((rd_T73 l0 x7_1).f0), .int .i64 ((rd_T73 l0 x7_1).f1), .int .i64 0]) ?_ 2 _ rfl; (with_reducible repeat (first | refine blk_drewN ?_ _ | refine blk_drew ?_ | refine blk_alloc ?_ _)); refine blk_put (cs := #[.int .i64 ((rd_T73 l0 x7_1).f0), .int .i64 0, .int .i64 0]) ?_ 1 _ rfl; (with_reducible repeat (first | refine blk_drewN ?_ _ | refine blk_drew ?_ | refine blk_alloc ?_ _)); refine blk_put (cs := #[.int .i64 0, .int .i64 0, .int .i64 0]) ?_ 0 _ rfl; (with_reducible repeat (first | refine blk_drewN ?_ _ | refine blk_drew ?_ | refine blk_alloc ?_ _)); exact BK102.out⟩
       have n1_ : Aside0 (Below w.heap.size w (((w6.setCell ⟨gb102, 0, none⟩ (.int .i64 ((rd_T73 l0 x7_1).f0))).setCell ⟨gb102, 1, none⟩ (.int .i64 ((rd_T73 l0 x7_1).f1))).setCell ⟨gb102, 2, none⟩ (.int .i64 ((rd_T73 l0 x7_1).f2)))) := ⟨by repeat (first | (with_reducible first | exact HB.out | apply below_alloc | apply pw_below_drewN | apply below_drew1 | refine below_set ?_ GE102.out) | exact HB.out)⟩
       (try clear BK102)
       (try clear HB)
       generalize (((w6.setCell ⟨gb102, 0, none⟩ (.int .i64 ((rd_T73 l0 x7_1).f0))).setCell ⟨gb102, 1, none⟩ (.int .i64 ((rd_T73 l0 x7_1).f1))).setCell ⟨gb102, 2, none⟩ (.int .i64 ((rd_T73 l0 x7_1).f2))) = w8 at n0_ n1_ ⊢
       have BK102 := n0_
       have HB := n1_
       clear n0_ n1_
       have n0_ := Aside0.mk (blk_drew BK102.out)
       have n1_ := Aside0.mk (below_drew1 HB.out)
       clear BK102
       clear HB
       have BK102 := n0_
       have HB := n1_
       clear n0_ n1_
       refine start_ (n := 30) (S := fun w' => w'.cell? ⟨gb102, 0, none⟩ = some (.int .i64 ((rd_T73 l0 x7_1).f0)) ∧ w'.cell? ⟨gb102, 1, none⟩ = some (.int .i64 ((rd_T73 l0 x7_1).f1)) ∧ w'.cell? ⟨gb102, 2, none⟩ = some (.int .i64 ((rd_T73 l0 x7_1).f2))) (ds := []) #[false, false, false, false, false, false, false, false, false, false, false, false, false, false, false, false, false, false, false, false, false, false, false, false, false, false, false, false, false, false] (by kernel_rfl) rfl rfl ⟨(blk_cell BK102.out 0).trans rfl, (blk_cell BK102.out 1).trans rfl, (blk_cell BK102.out 2).trans rfl⟩ (fun hHeld => ?_); refine with_tabW impl_itemsOk.tab4 impl_itemsOk.bits4 (fun HT_ HW_ => ?_)
       generalize w8.drew = w9 at BK102 HB hHeld ⊢
       refine pure_ (i := 0) (N := some 12) (v := ?_) (a' := ?_) #[true, false, false, false, false, false, false, false, false, false, false, false, false, false, false, false, false, false, false, false, false, false, false, false, false, false, false, false, false, false] rfl rfl (any_of HT_.out (by kernel_rfl)) (fun _ _ _ h => h) (Or.inl ⟨by rfl, ?_⟩) ?_ ?_
       rotate_left
       ·intro w'
        go_simp
        with_reducible rfl
       rotate_left
       ·simp only [Act.put, List.setIfInBounds_toArray, List.set_cons_zero, List.set_cons_succ, i64_w, i32_w]
        rfl
       refine take_ (i := 1) (N := some 13) (v := ?_) (a' := ?_) #[true, true, false, false, false, false, false, false, false, false, false, false, false, false, false, false, false, false, false, false, false, false, false, false, false, false, false, false, false, false] rfl rfl (take_ofW HT_.out HW_.out (by kernel_rfl)) (fun _ _ _ h => h) (Or.inl ⟨by rfl, ?_⟩) hHeld ?_ ?_
       rotate_left
       ·rintro w' ⟨s0, s1, s2⟩
        go_simp
        with_reducible rfl
       rotate_left
       ·simp only [Act.put, List.setIfInBounds_toArray, List.set_cons_zero, List.set_cons_succ, i64_w, i32_w]
        rfl
       refine pure_ (i := 2) (N := some 14) (v := ?_) (a' := ?_) #[true, true, true, false, false, false, false, false, false, false, false, false, false, false, false, false, false, false, false, false, false, false, false, false, false, false, false, false, false, false] rfl rfl (any_of HT_.out (by kernel_rfl)) (fun _ _ _ h => h) (Or.inl ⟨by rfl, ?_⟩) ?_ ?_
       rotate_left
       ·intro w'
        go_simp
        with_reducible rfl
       rotate_left
       ·simp only [Act.put, List.setIfInBounds_toArray, List.set_cons_zero, List.set_cons_succ, i64_w, i32_w]
        rfl
       refine pure_ (i := 3) (N := some 15) (v := ?_) (a' := ?_) #[true, true, true, true, false, false, false, false, false, false, false, false, false, false, false, false, false, false, false, false, false, false, false, false, false, false, false, false, false, false] rfl rfl (any_of HT_.out (by kernel_rfl)) (fun _ _ _ h => h) (Or.inl ⟨by rfl, ?_⟩) ?_ ?_
       rotate_left
       ·intro w'
        go_simp
        with_reducible rfl
       rotate_left
       ·simp only [Act.put, List.setIfInBounds_toArray, List.set_cons_zero, List.set_cons_succ, i64_w, i32_w]
        rfl
       refine pure_ (i := 4) (N := some 16) (v := undef) (a' := ?_) #[true, true, true, true, true, false, false, false, false, false, false, false, false, false, false, false, false, false, false, false, false, false, false, false, false, false, false, false, false, false] rfl rfl (any_of HT_.out (by kernel_rfl)) (fun _ _ _ h => h) (Or.inr ⟨by rfl, rfl⟩) ?_ ?_
       rotate_left
       ·simp only [Act.put, List.setIfInBounds_toArray, List.set_cons_zero, List.set_cons_succ, i64_w, i32_w]
        rfl
       refine pure_ (i := 5) (N := some 17) (v := undef) (a' := ?_) #[true, true, true, true, true, true, false, false, false, false, false, false, false, false, false, false, false, false, false, false, false, false, false, false, false, false, false, false, false, false] rfl rfl (any_of HT_.out (by kernel_rfl)) (fun _ _ _ h => h) (Or.inr ⟨by rfl, rfl⟩) ?_ ?_
       rotate_left
       ·simp only [Act.put, List.setIfInBounds_toArray, List.set_cons_zero, List.set_cons_succ, i64_w, i32_w]
        rfl
       refine pure_ (i := 6) (N := some 18) (v := undef) (a' := ?_) #[true, true, true, true, true, true, true, false, false, false, false, false, false, false, false, false, false, false, false, false, false, false, false, false, false, false, false, false, false, false] rfl rfl (any_of HT_.out (by kernel_rfl)) (fun _ _ _ h => h) (Or.inr ⟨by rfl, rfl⟩) ?_ ?_
       rotate_left
       ·simp only [Act.put, List.setIfInBounds_toArray, List.set_cons_zero, List.set_cons_succ, i64_w, i32_w]
        rfl
       refine pure_ (i := 7) (N := some 19) (v := undef) (a' := ?_) #[true, true, true, true, true, true, true, true, false, false, false, false, false, false, false, false, false, false, false, false, false, false, false, false, false, false, false, false, false, false] rfl rfl (any_of HT_.out (by kernel_rfl)) (fun _ _ _ h => h) (Or.inr ⟨by rfl, rfl⟩) ?_ ?_
       rotate_left
       ·simp only [Act.put, List.setIfInBounds_toArray, List.set_cons_zero, List.set_cons_succ, i64_w, i32_w]
        rfl
       refine pure_ (i := 8) (N := some 20) (v := ?_) (a' := ?_) #[true, true, true, true, true, true, true, true, true, false, false, false, false, false, false, false, false, false, false, false, false, false, false, false, false, false, false, false, false, false] rfl rfl (any_of HT_.out (by kernel_rfl)) (fun _ _ _ h => h) (Or.inl ⟨by rfl, ?_⟩) ?_ ?_
       rotate_left
       ·intro w'
        go_simp
        with_reducible rfl
       rotate_left
       ·simp only [Act.put, List.setIfInBounds_toArray, List.set_cons_zero, List.set_cons_succ, i64_w, i32_w]
        rfl
       refine pure_ (i := 9) (N := some 21) (v := ?_) (a' := ?_) #[true, true, true, true, true, true, true, true, true, true, false, false, false, false, false, false, false, false, false, false, false, false, false, false, false, false, false, false, false, false] rfl rfl (any_of HT_.out (by kernel_rfl)) (fun _ _ _ h => h) (Or.inl ⟨by rfl, ?_⟩) ?_ ?_
       rotate_left
       ·intro w'
        go_simp
        with_reducible rfl
       rotate_left
       ·simp only [Act.put, List.setIfInBounds_toArray, List.set_cons_zero, List.set_cons_succ, i64_w, i32_w]
        rfl
       refine pure_ (i := 10) (N := some 22) (v := undef) (a' := ?_) #[true, true, true, true, true, true, true, true, true, true, true, false, false, false, false, false, false, false, false, false, false, false, false, false, false, false, false, false, false, false] rfl rfl (any_of HT_.out (by kernel_rfl)) (fun _ _ _ h => h) (Or.inr ⟨by rfl, rfl⟩) ?_ ?_
       rotate_left
       ·simp only [Act.put, List.setIfInBounds_toArray, List.set_cons_zero, List.set_cons_succ, i64_w, i32_w]
        rfl
       refine pure_ (i := 11) (N := some 23) (v := undef) (a' := ?_) #[true, true, true, true, true, true, true, true, true, true, true, true, false, false, false, false, false, false, false, false, false, false, false, false, false, false, false, false, false, false] rfl rfl (any_of HT_.out (by kernel_rfl)) (fun _ _ _ h => h) (Or.inr ⟨by rfl, rfl⟩) ?_ ?_
       rotate_left
       ·simp only [Act.put, List.setIfInBounds_toArray, List.set_cons_zero, List.set_cons_succ, i64_w, i32_w]
        rfl
       refine pure_ (i := 12) (N := some 24) (v := undef) (a' := ?_) #[true, true, true, true, true, true, true, true, true, true, true, true, true, false, false, false, false, false, false, false, false, false, false, false, false, false, false, false, false, false] rfl rfl (any_of HT_.out (by kernel_rfl)) (fun _ _ _ h => h) (Or.inr ⟨by rfl, rfl⟩) ?_ ?_
       rotate_left
       ·simp only [Act.put, List.setIfInBounds_toArray, List.set_cons_zero, List.set_cons_succ, i64_w, i32_w]
        rfl
       refine pure_ (i := 13) (N := some 25) (v := undef) (a' := ?_) #[true, true, true, true, true, true, true, true, true, true, true, true, true, true, false, false, false, false, false, false, false, false, false, false, false, false, false, false, false, false] rfl rfl (any_of HT_.out (by kernel_rfl)) (fun _ _ _ h => h) (Or.inr ⟨by rfl, rfl⟩) ?_ ?_
       rotate_left
       ·simp only [Act.put, List.setIfInBounds_toArray, List.set_cons_zero, List.set_cons_succ, i64_w, i32_w]
        rfl
       refine pure_ (i := 14) (N := some 26) (v := ?_) (a' := ?_) #[true, true, true, true, true, true, true, true, true, true, true, true, true, true, true, false, false, false, false, false, false, false, false, false, false, false, false, false, false, false] rfl rfl (any_of HT_.out (by kernel_rfl)) (fun _ _ _ h => h) (Or.inl ⟨by rfl, ?_⟩) ?_ ?_
       rotate_left
       ·intro w'
        go_simp
        with_reducible rfl
       rotate_left
       ·simp only [Act.put, List.setIfInBounds_toArray, List.set_cons_zero, List.set_cons_succ, i64_w, i32_w]
        rfl
       refine pure_ (i := 15) (N := some 27) (v := ?_) (a' := ?_) #[true, true, true, true, true, true, true, true, true, true, true, true, true, true, true, true, false, false, false, false, false, false, false, false, false, false, false, false, false, false] rfl rfl (any_of HT_.out (by kernel_rfl)) (fun _ _ _ h => h) (Or.inl ⟨by rfl, ?_⟩) ?_ ?_
       rotate_left
       ·intro w'
        go_simp
        with_reducible rfl
       rotate_left
       ·simp only [Act.put, List.setIfInBounds_toArray, List.set_cons_zero, List.set_cons_succ, i64_w, i32_w]
        rfl
       refine pure_ (i := 16) (N := some 28) (v := undef) (a' := ?_) #[true, true, true, true, true, true, true, true, true, true, true, true, true, true, true, true, true, false, false, false, false, false, false, false, false, false, false, false, false, false] rfl rfl (any_of HT_.out (by kernel_rfl)) (fun _ _ _ h => h) (Or.inr ⟨by rfl, rfl⟩) ?_ ?_
       rotate_left
       ·simp only [Act.put, List.setIfInBounds_toArray, List.set_cons_zero, List.set_cons_succ, i64_w, i32_w]
        rfl
       refine pure_ (i := 17) (N := some 29) (v := undef) (a' := ?_) #[true, true, true, true, true, true, true, true, true, true, true, true, true, true, true, true, true, true, false, false, false, false, false, false, false, false, false, false, false, false] rfl rfl (any_of HT_.out (by kernel_rfl)) (fun _ _ _ h => h) (Or.inr ⟨by rfl, rfl⟩) ?_ ?_
       rotate_left
       ·simp only [Act.put, List.setIfInBounds_toArray, List.set_cons_zero, List.set_cons_succ, i64_w, i32_w]
        rfl
       refine pure_ (i := 18) (N := some 30) (v := undef) (a' := ?_) #[true, true, true, true, true, true, true, true, true, true, true, true, true, true, true, true, true, true, true, false, false, false, false, false, false, false, false, false, false, false] rfl rfl (any_of HT_.out (by kernel_rfl)) (fun _ _ _ h => h) (Or.inr ⟨by rfl, rfl⟩) ?_ ?_
       rotate_left
       ·simp only [Act.put, List.setIfInBounds_toArray, List.set_cons_zero, List.set_cons_succ, i64_w, i32_w]
        rfl
       refine pure_ (i := 19) (N := some 31) (v := undef) (a' := ?_) #[true, true, true, true, true, true, true, true, true, true, true, true, true, true, true, true, true, true, true, true, false, false, false, false, false, false, false, false, false, false] rfl rfl (any_of HT_.out (by kernel_rfl)) (fun _ _ _ h => h) (Or.inr ⟨by rfl, rfl⟩) ?_ ?_
       rotate_left
       ·simp only [Act.put, List.setIfInBounds_toArray, List.set_cons_zero, List.set_cons_succ, i64_w, i32_w]
        rfl
       refine pure_ (i := 20) (N := some 32) (v := undef) (a' := ?_) #[true, true, true, true, true, true, true, true, true, true, true, true, true, true, true, true, true, true, true, true, true, false, false, false, false, false, false, false, false, false] rfl rfl (any_of HT_.out (by kernel_rfl)) (fun _ _ _ h => h) (Or.inr ⟨by rfl, rfl⟩) ?_ ?_
       rotate_left
       ·simp only [Act.put, List.setIfInBounds_toArray, List.set_cons_zero, List.set_cons_succ, i64_w, i32_w]
        rfl
       refine pure_ (i := 21) (N := some 33) (v := undef) (a' := ?_) #[true, true, true, true, true, true, true, true, true, true, true, true, true, true, true, true, true, true, true, true, true, true, false, false, false, false, false, false, false, false] rfl rfl (any_of HT_.out (by kernel_rfl)) (fun _ _ _ h => h) (Or.inr ⟨by rfl, rfl⟩) ?_ ?_
       rotate_left
       ·simp only [Act.put, List.setIfInBounds_toArray, List.set_cons_zero, List.set_cons_succ, i64_w, i32_w]
        rfl
       refine pure_ (i := 22) (N := some 34) (v := undef) (a' := ?_) #[true, true, true, true, true, true, true, true, true, true, true, true, true, true, true, true, true, true, true, true, true, true, true, false, false, false, false, false, false, false] rfl rfl (any_of HT_.out (by kernel_rfl)) (fun _ _ _ h => h) (Or.inr ⟨by rfl, rfl⟩) ?_ ?_
       rotate_left
       ·simp only [Act.put, List.setIfInBounds_toArray, List.set_cons_zero, List.set_cons_succ, i64_w, i32_w]
        rfl
       refine pure_ (i := 23) (N := some 35) (v := undef) (a' := ?_) #[true, true, true, true, true, true, true, true, true, true, true, true, true, true, true, true, true, true, true, true, true, true, true, true, false, false, false, false, false, false] rfl rfl (any_of HT_.out (by kernel_rfl)) (fun _ _ _ h => h) (Or.inr ⟨by rfl, rfl⟩) ?_ ?_
       rotate_left
       ·simp only [Act.put, List.setIfInBounds_toArray, List.set_cons_zero, List.set_cons_succ, i64_w, i32_w]
        rfl
       refine pure_ (i := 24) (N := some 36) (v := undef) (a' := ?_) #[true, true, true, true, true, true, true, true, true, true, true, true, true, true, true, true, true, true, true, true, true, true, true, true, true, false, false, false, false, false] rfl rfl (any_of HT_.out (by kernel_rfl)) (fun _ _ _ h => h) (Or.inr ⟨by rfl, rfl⟩) ?_ ?_
       rotate_left
       ·simp only [Act.put, List.setIfInBounds_toArray, List.set_cons_zero, List.set_cons_succ, i64_w, i32_w]
        rfl
       refine pure_ (i := 25) (N := some 37) (v := undef) (a' := ?_) #[true, true, true, true, true, true, true, true, true, true, true, true, true, true, true, true, true, true, true, true, true, true, true, true, true, true, false, false, false, false] rfl rfl (any_of HT_.out (by kernel_rfl)) (fun _ _ _ h => h) (Or.inr ⟨by rfl, rfl⟩) ?_ ?_
       rotate_left
       ·simp only [Act.put, List.setIfInBounds_toArray, List.set_cons_zero, List.set_cons_succ, i64_w, i32_w]
        rfl
       refine pure_ (i := 26) (N := some 38) (v := undef) (a' := ?_) #[true, true, true, true, true, true, true, true, true, true, true, true, true, true, true, true, true, true, true, true, true, true, true, true, true, true, true, false, false, false] rfl rfl (any_of HT_.out (by kernel_rfl)) (fun _ _ _ h => h) (Or.inr ⟨by rfl, rfl⟩) ?_ ?_
       rotate_left
       ·simp only [Act.put, List.setIfInBounds_toArray, List.set_cons_zero, List.set_cons_succ, i64_w, i32_w]
        rfl
       refine pure_ (i := 27) (N := some 39) (v := undef) (a' := ?_) #[true, true, true, true, true, true, true, true, true, true, true, true, true, true, true, true, true, true, true, true, true, true, true, true, true, true, true, true, false, false] rfl rfl (any_of HT_.out (by kernel_rfl)) (fun _ _ _ h => h) (Or.inr ⟨by rfl, rfl⟩) ?_ ?_
       rotate_left
       ·simp only [Act.put, List.setIfInBounds_toArray, List.set_cons_zero, List.set_cons_succ, i64_w, i32_w]
        rfl
       refine pure_ (i := 28) (N := some 40) (v := undef) (a' := ?_) #[true, true, true, true, true, true, true, true, true, true, true, true, true, true, true, true, true, true, true, true, true, true, true, true, true, true, true, true, true, false] rfl rfl (any_of HT_.out (by kernel_rfl)) (fun _ _ _ h => h) (Or.inr ⟨by rfl, rfl⟩) ?_ ?_
       rotate_left
       ·simp only [Act.put, List.setIfInBounds_toArray, List.set_cons_zero, List.set_cons_succ, i64_w, i32_w]
        rfl
       refine pure_ (i := 29) (N := some 41) (v := ?_) (a' := ?_) #[true, true, true, true, true, true, true, true, true, true, true, true, true, true, true, true, true, true, true, true, true, true, true, true, true, true, true, true, true, true] rfl rfl (any_of HT_.out (by kernel_rfl)) (fun _ _ _ h => h) (Or.inl ⟨by rfl, ?_⟩) ?_ ?_
       rotate_left
       ·intro w'
        go_simp
        with_reducible rfl
       rotate_left
       ·simp only [Act.put, List.setIfInBounds_toArray, List.set_cons_zero, List.set_cons_succ, i64_w, i32_w]
        rfl
       refine done_ (done_of HT_.out (by kernel_rfl)) ?_
       try go_wp2
       go_ret
       exact ⟨by first | rfl | (simp [errW_none, errW_some] <;> rfl) | (simp [*, errW_none, errW_some] <;> rfl), by repeat (first | (with_reducible first | exact HB.out | apply below_alloc | apply pw_below_drewN | apply below_drew1 | refine below_set ?_ GE102.out) | exact HB.out)⟩
      ·rw [if_neg c5] at H
       have c5b0 : decide (((rd_T73 l0 x7_1).f0) < 0) = false := decide_eq_false c5
       clear c5
       replace H := Option.bind_eq_some_iff.mp H
       obtain ⟨t103, A100, H⟩ := H
       replace H : (if t103 = true then ((impl_within.f ((rd_T73 l0 x7_1).f2) 1 1000000000000).bind fun t104 => (if t104 = true then (if x7_1 > 0 then (if 0 ≤ (wrap64 (x7_1 - 1)) then (if (wrap64 (x7_1 - 1)) < (l0.length : Int) then (if ((rd_T73 l0 (wrap64 (x7_1 - 1))).f1) > ((rd_T73 l0 x7_1).f1) then (some false) else (impl_itemsOk.l0 k1 l0 l0 (l0.length : Int) (wrap64 (x7_1 + 1)))) else (none)) else (none)) else (impl_itemsOk.l0 k1 l0 l0 (l0.length : Int) (wrap64 (x7_1 + 1)))) else (some false))) else (some false)) = some r := H
       have A10 := Aside0.mk A100
       clear A100
       by_cases c11 : t103 = true
       ·subst c11
        have H1 : ((impl_within.f ((rd_T73 l0 x7_1).f2) 1 1000000000000).bind fun t104 => (if t104 = true then (if x7_1 > 0 then (if 0 ≤ (wrap64 (x7_1 - 1)) then (if (wrap64 (x7_1 - 1)) < (l0.length : Int) then (if ((rd_T73 l0 (wrap64 (x7_1 - 1))).f1) > ((rd_T73 l0 x7_1).f1) then (some false) else (impl_itemsOk.l0 k1 l0 l0 (l0.length : Int) (wrap64 (x7_1 + 1)))) else (none)) else (none)) else (impl_itemsOk.l0 k1 l0 l0 (l0.length : Int) (wrap64 (x7_1 + 1)))) else (some false))) = some r := by rw [if_pos rfl] at H; exact H
        clear H
        have H := H1
        clear H1
        replace H := Option.bind_eq_some_iff.mp H
        obtain ⟨t104, A120, H⟩ := H
        replace H : (if t104 = true then (if x7_1 > 0 then (if 0 ≤ (wrap64 (x7_1 - 1)) then (if (wrap64 (x7_1 - 1)) < (l0.length : Int) then (if ((rd_T73 l0 (wrap64 (x7_1 - 1))).f1) > ((rd_T73 l0 x7_1).f1) then (some false) else (impl_itemsOk.l0 k1 l0 l0 (l0.length : Int) (wrap64 (x7_1 + 1)))) else (none)) else (none)) else (impl_itemsOk.l0 k1 l0 l0 (l0.length : Int) (wrap64 (x7_1 + 1)))) else (some false)) = some r := H
        have A12 := Aside0.mk A120
        clear A120
        by_cases c13 : t104 = true
        ·subst c13
         have H1 : (if x7_1 > 0 then (if 0 ≤ (wrap64 (x7_1 - 1)) then (if (wrap64 (x7_1 - 1)) < (l0.length : Int) then (if ((rd_T73 l0 (wrap64 (x7_1 - 1))).f1) > ((rd_T73 l0 x7_1).f1) then (some false) else (impl_itemsOk.l0 k1 l0 l0 (l0.length : Int) (wrap64 (x7_1 + 1)))) else (none)) else (none)) else (impl_itemsOk.l0 k1 l0 l0 (l0.length : Int) (wrap64 (x7_1 + 1)))) = some r := by rw [if_pos rfl] at H; exact H
         clear H
         have H := H1
         clear H1
         by_cases c14 : x7_1 > 0
         ·rw [if_pos c14] at H
          have c14b0 : decide (0 < x7_1) = true := decide_eq_true c14
          clear c14
          obtain ⟨ji15, hji15⟩ : ∃ j_ : Int, (wrap64 (x7_1 - 1)) = j_ := ⟨_, rfl⟩
          replace H : (if 0 ≤ (ji15) then (if (ji15) < (l0.length : Int) then (if ((rd_T73 l0 (ji15)).f1) > ((rd_T73 l0 x7_1).f1) then (some false) else (impl_itemsOk.l0 k1 l0 l0 (l0.length : Int) (wrap64 (x7_1 + 1)))) else (none)) else (none)) = some r := by first | (rw [hji15] at H; exact H) | (simp only [hji15] at H ⊢; exact H)
          (try rw [hji15] at A10)
          (try rw [hji15] at A12)
          have hji15w : (IntKind.i64.wrap (x7_1 - 1)) = ji15 := (i64_w _).trans hji15
          by_cases c16 : 0 ≤ (ji15)
          ·rw [if_pos c16] at H
           have c16b0 : decide (0 ≤ (ji15)) = true := decide_eq_true c16
           clear c16
           by_cases c17 : (ji15) < (l0.length : Int)
           ·rw [if_pos c17] at H
            have c17b0 : decide ((ji15) < (l0.length : Int)) = true := decide_eq_true c17
            clear c17
            by_cases c18 : ((rd_T73 l0 (ji15)).f1) > ((rd_T73 l0 x7_1).f1)
            ·rw [if_pos c18] at H
             have c18b0 : decide (((rd_T73 l0 x7_1).f1) < ((rd_T73 l0 (ji15)).f1)) = true := decide_eq_true c18
             clear c18
             obtain rfl := Option.some.inj H
             have p101 : 0 ≤ (x7_1 : Int) := of_decide_eq_true (by first | (with_reducible assumption) | assumption)
             have q101 : x7_1 < (l0.length : Int) := of_decide_eq_true (by first | (with_reducible assumption) | assumption)
             obtain ⟨ad101, e101, hx101_0, hx101_1, hx101_2⟩ := at_T73 HR0.out x7_1 p101 q101
             cases e101
             replace hx101_0 := (HB.out.cell (World.block_lt_of_cell? w _ hx101_0)).trans hx101_0
             replace hx101_1 := (HB.out.cell (World.block_lt_of_cell? w _ hx101_1)).trans hx101_1
             replace hx101_2 := (HB.out.cell (World.block_lt_of_cell? w _ hx101_2)).trans hx101_2
             replace p101 := eq_true p101
             replace q101 := eq_true q101
             try go_wp2_with (first | ((with_reducible refine gate_dst (N := 4) rfl ?_); refine box_event ?hg (N := 4) ?hd (cs := #[.int .i64 0, .int .i64 0, .int .i64 0]) (t := 73) ?hr ?_; (case hd => rfl); (case hg => rfl); (case hr => first | (go_simp; done) | (go_simp; rfl)); intro gb102 hg w19 hbox hb; have n0_ := Aside0.mk (below_step (by repeat (first | (with_reducible first | exact HB.out | apply below_alloc | apply pw_below_drewN | apply below_drew1) | exact HB.out)) hb); have n1_ := Aside0.mk (hbox); have n2_ := Aside0.mk ((by rw [hg]; exact (below_size (by repeat (first | (with_reducible first | exact HB.out | apply below_alloc | apply pw_below_drewN | apply below_drew1) | exact HB.out))) : w.heap.size ≤ gb102)); have n3_ := Aside0.mk ((by rw [hg]; exact (below_size (by repeat (first | (with_reducible first | exact HB.out | apply below_alloc | apply pw_below_drewN | apply below_drew1) | exact HB.out))) : w.heap.size ≤ gb102)); clear HB; have HB := n0_; have BK102 := n1_; have GW102 := n2_; have GE102 := n3_; clear n0_ n1_ n2_ n3_; clear hb hbox hg; have hcz20_0 : w19.cell? ⟨gb102, 0, none⟩ = some (.int .i64 0) := (blk_cell BK102.out 0).trans rfl; have hcz20_1 : w19.cell? ⟨gb102, 1, none⟩ = some (.int .i64 0) := (blk_cell BK102.out 1).trans rfl; have hcz20_2 : w19.cell? ⟨gb102, 2, none⟩ = some (.int .i64 0) := (blk_cell BK102.out 2).trans rfl; have hfz20_0 := blk_frozen BK102.out 0; have hfz20_1 := blk_frozen BK102.out 1; have hfz20_2 := blk_frozen BK102.out 2))
             have n0_ : Aside0 ((((w19.setCell ⟨gb102, 0, none⟩ (.int .i64 ((rd_T73 l0 x7_1).f0))).setCell ⟨gb102, 1, none⟩ (.int .i64 ((rd_T73 l0 x7_1).f1))).setCell ⟨gb102, 2, none⟩ (.int .i64 ((rd_T73 l0 x7_1).f2))).heap[gb102]? = some (.cells #[.int .i64 ((rd_T73 l0 x7_1).f0), .int .i64 ((rd_T73 l0 x7_1).f1), .int .i64 ((rd_T73 l0 x7_1).f2)] 73 (0, 0))) := ⟨by (with_reducible repeat (first | refine blk_drewN ?_ _ | refine blk_drew ?_ | refine blk_alloc ?_ _)); refine blk_put (cs := #[.int .i64 ((rd_T73 l0 x7_1).f0), .int .i64 ((rd_T73 l0 x7_1).f1), .int .i64 0]) ?_ 2 _ rfl; (with_reducible repeat (first | refine blk_drewN ?_ _ | refine blk_drew ?_ | refine blk_alloc ?_ _)); refine blk_put (cs := #[.int .i64 ((rd_T73 l0 x7_1).f0), .int .i64 0, .int .i64 0]) ?_ 1 _ rfl; (with_reducible repeat (first | refine blk_drewN ?_ _ | refine blk_drew ?_ | refine blk_alloc ?_ _)); refine blk_put (cs := #[.int .i64 0, .int .i64 0, .int .i64 0]) ?_ 0 _ rfl; (with_reducible repeat (first | refine blk_drewN ?_ _ | refine blk_drew ?_ | refine blk_alloc ?_ _)); exact BK102.out⟩
             have n1_ : Aside0 (Below w.heap.size w (((w19.setCell ⟨gb102, 0, none⟩ (.int .i64 ((rd_T73 l0 x7_1).f0))).setCell ⟨gb102, 1, none⟩ (.int .i64 ((rd_T73 l0 x7_1).f1))).setCell ⟨gb102, 2, none⟩ (.int .i64 ((rd_T73 l0 x7_1).f2)))) := ⟨by repeat (first | (with_reducible first | exact HB.out | apply below_alloc | apply pw_below_drewN | apply below_drew1 | refine below_set ?_ GE102.out) | exact HB.out)⟩
             (try clear BK102)
             (try clear HB)
             generalize (((w19.setCell ⟨gb102, 0, none⟩ (.int .i64 ((rd_T73 l0 x7_1).f0))).setCell ⟨gb102, 1, none⟩ (.int .i64 ((rd_T73 l0 x7_1).f1))).setCell ⟨gb102, 2, none⟩ (.int .i64 ((rd_T73 l0 x7_1).f2))) = w21 at n0_ n1_ ⊢
             have BK102 := n0_
             have HB := n1_
             clear n0_ n1_
             have n0_ := Aside0.mk (blk_drew BK102.out)
             have n1_ := Aside0.mk (below_drew1 HB.out)
             clear BK102
             clear HB
             have BK102 := n0_
             have HB := n1_
             clear n0_ n1_
             have p105 : 0 ≤ ((ji15) : Int) := of_decide_eq_true (by first | (with_reducible assumption) | assumption)
             have q105 : (ji15) < (l0.length : Int) := of_decide_eq_true (by first | (with_reducible assumption) | assumption)
             obtain ⟨ad105, e105, hx105_0, hx105_1, hx105_2⟩ := at_T73 HR0.out (ji15) p105 q105
             have hw105_2 := hx105_2
             have hw105_1 := hx105_1
             have hw105_0 := hx105_0
             obtain rfl : ad101 = ad105 := (by injection e105)
             replace hx105_0 := (HB.out.cell (World.block_lt_of_cell? w _ hx105_0)).trans hx105_0
             replace hx105_1 := (HB.out.cell (World.block_lt_of_cell? w _ hx105_1)).trans hx105_1
             replace hx105_2 := (HB.out.cell (World.block_lt_of_cell? w _ hx105_2)).trans hx105_2
             replace p105 := eq_true p105
             replace q105 := eq_true q105
             refine start_ (n := 30) (S := fun w' => w'.cell? ⟨gb102, 0, none⟩ = some (.int .i64 ((rd_T73 l0 x7_1).f0)) ∧ w'.cell? ⟨gb102, 1, none⟩ = some (.int .i64 ((rd_T73 l0 x7_1).f1)) ∧ w'.cell? ⟨gb102, 2, none⟩ = some (.int .i64 ((rd_T73 l0 x7_1).f2)) ∧ w'.cell? (ad101.add (((ji15)).toNat * 3)) = some (.int .i64 ((rd_T73 l0 (ji15)).f0)) ∧ w'.cell? ⟨(ad101.add (((ji15)).toNat * 3)).block, (ad101.add (((ji15)).toNat * 3)).off + 1, none⟩ = some (.int .i64 ((rd_T73 l0 (ji15)).f1)) ∧ w'.cell? ⟨(ad101.add (((ji15)).toNat * 3)).block, (ad101.add (((ji15)).toNat * 3)).off + 2, none⟩ = some (.int .i64 ((rd_T73 l0 (ji15)).f2))) (ds := []) #[false, false, false, false, false, false, false, false, false, false, false, false, false, false, false, false, false, false, false, false, false, false, false, false, false, false, false, false, false, false] (by kernel_rfl) rfl rfl ⟨(blk_cell BK102.out 0).trans rfl, (blk_cell BK102.out 1).trans rfl, (blk_cell BK102.out 2).trans rfl, ((HB.out.cell (World.block_lt_of_cell? w _ hw105_0)).trans hw105_0), ((HB.out.cell (World.block_lt_of_cell? w _ hw105_1)).trans hw105_1), ((HB.out.cell (World.block_lt_of_cell? w _ hw105_2)).trans hw105_2)⟩ (fun hHeld => ?_); refine with_tabW impl_itemsOk.tab4 impl_itemsOk.bits4 (fun HT_ HW_ => ?_)
             generalize w21.drew = w22 at BK102 HB hx105_0 hx105_1 hx105_2 hHeld ⊢
             refine pure_ (i := 0) (N := some 12) (v := ?_) (a' := ?_) #[true, false, false, false, false, false, false, false, false, false, false, false, false, false, false, false, false, false, false, false, false, false, false, false, false, false, false, false, false, false] rfl rfl (any_of HT_.out (by kernel_rfl)) (fun _ _ _ h => h) (Or.inl ⟨by rfl, ?_⟩) ?_ ?_
             rotate_left
             ·intro w'
              go_simp
              with_reducible rfl
             rotate_left
             ·simp only [Act.put, List.setIfInBounds_toArray, List.set_cons_zero, List.set_cons_succ, i64_w, i32_w]
              rfl
             refine take_ (i := 1) (N := some 13) (v := ?_) (a' := ?_) #[true, true, false, false, false, false, false, false, false, false, false, false, false, false, false, false, false, false, false, false, false, false, false, false, false, false, false, false, false, false] rfl rfl (take_ofW HT_.out HW_.out (by kernel_rfl)) (fun _ _ _ h => h) (Or.inl ⟨by rfl, ?_⟩) hHeld ?_ ?_
             rotate_left
             ·rintro w' ⟨s0, s1, s2, s3, s4, s5⟩
              go_simp
              with_reducible rfl
             rotate_left
             ·simp only [Act.put, List.setIfInBounds_toArray, List.set_cons_zero, List.set_cons_succ, i64_w, i32_w]
              rfl
             refine pure_ (i := 2) (N := some 14) (v := ?_) (a' := ?_) #[true, true, true, false, false, false, false, false, false, false, false, false, false, false, false, false, false, false, false, false, false, false, false, false, false, false, false, false, false, false] rfl rfl (any_of HT_.out (by kernel_rfl)) (fun _ _ _ h => h) (Or.inl ⟨by rfl, ?_⟩) ?_ ?_
             rotate_left
             ·intro w'
              go_simp
              with_reducible rfl
             rotate_left
             ·simp only [Act.put, List.setIfInBounds_toArray, List.set_cons_zero, List.set_cons_succ, i64_w, i32_w]
              rfl
             refine pure_ (i := 3) (N := some 15) (v := ?_) (a' := ?_) #[true, true, true, true, false, false, false, false, false, false, false, false, false, false, false, false, false, false, false, false, false, false, false, false, false, false, false, false, false, false] rfl rfl (any_of HT_.out (by kernel_rfl)) (fun _ _ _ h => h) (Or.inl ⟨by rfl, ?_⟩) ?_ ?_
             rotate_left
             ·intro w'
              go_simp
              with_reducible rfl
             rotate_left
             ·simp only [Act.put, List.setIfInBounds_toArray, List.set_cons_zero, List.set_cons_succ, i64_w, i32_w]
              rfl
             refine pure_ (i := 4) (N := some 16) (v := ?_) (a' := ?_) #[true, true, true, true, true, false, false, false, false, false, false, false, false, false, false, false, false, false, false, false, false, false, false, false, false, false, false, false, false, false] rfl rfl (any_of HT_.out (by kernel_rfl)) (fun _ _ _ h => h) (Or.inl ⟨by rfl, ?_⟩) ?_ ?_
             rotate_left
             ·intro w'
              go_simp
              with_reducible rfl
             rotate_left
             ·simp only [Act.put, List.setIfInBounds_toArray, List.set_cons_zero, List.set_cons_succ, i64_w, i32_w]
              rfl
             refine take_ (i := 5) (N := some 17) (v := ?_) (a' := ?_) #[true, true, true, true, true, true, false, false, false, false, false, false, false, false, false, false, false, false, false, false, false, false, false, false, false, false, false, false, false, false] rfl rfl (take_ofW HT_.out HW_.out (by kernel_rfl)) (fun _ _ _ h => h) (Or.inl ⟨by rfl, ?_⟩) hHeld ?_ ?_
             rotate_left
             ·rintro w' ⟨s0, s1, s2, s3, s4, s5⟩
              go_simp
              with_reducible rfl
             rotate_left
             ·simp only [Act.put, List.setIfInBounds_toArray, List.set_cons_zero, List.set_cons_succ, i64_w, i32_w]
              rfl
             refine one_ (i := 6) (N := some 18) #[true, true, true, true, true, true, true, false, false, false, false, false, false, false, false, false, false, false, false, false, false, false, false, false, false, false, false, false, false, false] rfl rfl (one_of HT_.out (by kernel_rfl)) (by decide) (fun K hK => ?_)
             refine goes_ Try.func64 (by kernel_rfl) rfl #[.int .i64 ((rd_T73 l0 x7_1).f1), .int .i64 1, .int .i64 1000000000000] (by rfl) rfl rfl (by (try simp only [List.map_toArray, List.map_cons, List.map_nil]); first | done | rfl | (simp only [List.length_drop, List.length_take]; rfl)) ?_
             with_reducible refine (impl_within.calls ((rd_T73 l0 x7_1).f1) 1 1000000000000 true _ A10.out).mono ?_
             rintro e w' ⟨rfl, ⟨nd, rfl⟩⟩
             refine ⟨_, rfl, ?_⟩
             refine hK.out _ _ ⟨(blk_cell BK102.out 0).trans rfl, (blk_cell BK102.out 1).trans rfl, (blk_cell BK102.out 2).trans rfl, ((HB.out.cell (World.block_lt_of_cell? w _ hw105_0)).trans hw105_0), ((HB.out.cell (World.block_lt_of_cell? w _ hw105_1)).trans hw105_1), ((HB.out.cell (World.block_lt_of_cell? w _ hw105_2)).trans hw105_2)⟩ (fun hHeld => ?_)
             clear hK K
             refine norm_ (a' := ?_) ?_ ?_
             rotate_left
             ·show Act.put _ (some 18) _ = _
              simp only [Act.put, List.setIfInBounds_toArray, List.set_cons_zero, List.set_cons_succ, i64_w, i32_w]
              rfl
             refine pure_ (i := 7) (N := some 19) (v := ?_) (a' := ?_) #[true, true, true, true, true, true, true, true, false, false, false, false, false, false, false, false, false, false, false, false, false, false, false, false, false, false, false, false, false, false] rfl rfl (any_of HT_.out (by kernel_rfl)) (fun _ _ _ h => h) (Or.inl ⟨by rfl, ?_⟩) ?_ ?_
             rotate_left
             ·intro w'
              go_simp
              with_reducible rfl
             rotate_left
             ·simp only [Act.put, List.setIfInBounds_toArray, List.set_cons_zero, List.set_cons_succ, i64_w, i32_w]
              rfl
             refine pure_ (i := 8) (N := some 20) (v := ?_) (a' := ?_) #[true, true, true, true, true, true, true, true, true, false, false, false, false, false, false, false, false, false, false, false, false, false, false, false, false, false, false, false, false, false] rfl rfl (any_of HT_.out (by kernel_rfl)) (fun _ _ _ h => h) (Or.inl ⟨by rfl, ?_⟩) ?_ ?_
             rotate_left
             ·intro w'
              go_simp
              with_reducible rfl
             rotate_left
             ·simp only [Act.put, List.setIfInBounds_toArray, List.set_cons_zero, List.set_cons_succ, i64_w, i32_w]
              rfl
             refine pure_ (i := 9) (N := some 21) (v := ?_) (a' := ?_) #[true, true, true, true, true, true, true, true, true, true, false, false, false, false, false, false, false, false, false, false, false, false, false, false, false, false, false, false, false, false] rfl rfl (any_of HT_.out (by kernel_rfl)) (fun _ _ _ h => h) (Or.inl ⟨by rfl, ?_⟩) ?_ ?_
             rotate_left
             ·intro w'
              go_simp
              with_reducible rfl
             rotate_left
             ·simp only [Act.put, List.setIfInBounds_toArray, List.set_cons_zero, List.set_cons_succ, i64_w, i32_w]
              rfl
             refine pure_ (i := 10) (N := some 22) (v := ?_) (a' := ?_) #[true, true, true, true, true, true, true, true, true, true, true, false, false, false, false, false, false, false, false, false, false, false, false, false, false, false, false, false, false, false] rfl rfl (any_of HT_.out (by kernel_rfl)) (fun _ _ _ h => h) (Or.inl ⟨by rfl, ?_⟩) ?_ ?_
             rotate_left
             ·intro w'
              go_simp
              with_reducible rfl
             rotate_left
             ·simp only [Act.put, List.setIfInBounds_toArray, List.set_cons_zero, List.set_cons_succ, i64_w, i32_w]
              rfl
             refine take_ (i := 11) (N := some 23) (v := ?_) (a' := ?_) #[true, true, true, true, true, true, true, true, true, true, true, true, false, false, false, false, false, false, false, false, false, false, false, false, false, false, false, false, false, false] rfl rfl (take_ofW HT_.out HW_.out (by kernel_rfl)) (fun _ _ _ h => h) (Or.inl ⟨by rfl, ?_⟩) hHeld ?_ ?_
             rotate_left
             ·rintro w' ⟨s0, s1, s2, s3, s4, s5⟩
              go_simp
              with_reducible rfl
             rotate_left
             ·simp only [Act.put, List.setIfInBounds_toArray, List.set_cons_zero, List.set_cons_succ, i64_w, i32_w]
              rfl
             refine one_ (i := 12) (N := some 24) #[true, true, true, true, true, true, true, true, true, true, true, true, true, false, false, false, false, false, false, false, false, false, false, false, false, false, false, false, false, false] rfl rfl (one_of HT_.out (by kernel_rfl)) (by decide) (fun K hK => ?_)
             refine goes_ Try.func64 (by kernel_rfl) rfl #[.int .i64 ((rd_T73 l0 x7_1).f2), .int .i64 1, .int .i64 1000000000000] (by rfl) rfl rfl (by (try simp only [List.map_toArray, List.map_cons, List.map_nil]); first | done | rfl | (simp only [List.length_drop, List.length_take]; rfl)) ?_
             with_reducible refine (impl_within.calls ((rd_T73 l0 x7_1).f2) 1 1000000000000 true _ A12.out).mono ?_
             rintro e w' ⟨rfl, ⟨nd, rfl⟩⟩
             refine ⟨_, rfl, ?_⟩
             refine hK.out _ _ ⟨(blk_cell BK102.out 0).trans rfl, (blk_cell BK102.out 1).trans rfl, (blk_cell BK102.out 2).trans rfl, ((HB.out.cell (World.block_lt_of_cell? w _ hw105_0)).trans hw105_0), ((HB.out.cell (World.block_lt_of_cell? w _ hw105_1)).trans hw105_1), ((HB.out.cell (World.block_lt_of_cell? w _ hw105_2)).trans hw105_2)⟩ (fun hHeld => ?_)
             clear hK K
             refine norm_ (a' := ?_) ?_ ?_
             rotate_left
             ·show Act.put _ (some 24) _ = _
              simp only [Act.put, List.setIfInBounds_toArray, List.set_cons_zero, List.set_cons_succ, i64_w, i32_w]
              rfl
             refine pure_ (i := 13) (N := some 25) (v := ?_) (a' := ?_) #[true, true, true, true, true, true, true, true, true, true, true, true, true, true, false, false, false, false, false, false, false, false, false, false, false, false, false, false, false, false] rfl rfl (any_of HT_.out (by kernel_rfl)) (fun _ _ _ h => h) (Or.inl ⟨by rfl, ?_⟩) ?_ ?_
             rotate_left
             ·intro w'
              go_simp
              with_reducible rfl
             rotate_left
             ·simp only [Act.put, List.setIfInBounds_toArray, List.set_cons_zero, List.set_cons_succ, i64_w, i32_w]
              rfl
             refine pure_ (i := 14) (N := some 26) (v := ?_) (a' := ?_) #[true, true, true, true, true, true, true, true, true, true, true, true, true, true, true, false, false, false, false, false, false, false, false, false, false, false, false, false, false, false] rfl rfl (any_of HT_.out (by kernel_rfl)) (fun _ _ _ h => h) (Or.inl ⟨by rfl, ?_⟩) ?_ ?_
             rotate_left
             ·intro w'
              go_simp
              with_reducible rfl
             rotate_left
             ·simp only [Act.put, List.setIfInBounds_toArray, List.set_cons_zero, List.set_cons_succ, i64_w, i32_w]
              rfl
             refine pure_ (i := 15) (N := some 27) (v := ?_) (a' := ?_) #[true, true, true, true, true, true, true, true, true, true, true, true, true, true, true, true, false, false, false, false, false, false, false, false, false, false, false, false, false, false] rfl rfl (any_of HT_.out (by kernel_rfl)) (fun _ _ _ h => h) (Or.inl ⟨by rfl, ?_⟩) ?_ ?_
             rotate_left
             ·intro w'
              go_simp
              with_reducible rfl
             rotate_left
             ·simp only [Act.put, List.setIfInBounds_toArray, List.set_cons_zero, List.set_cons_succ, i64_w, i32_w]
              rfl
             refine pure_ (i := 16) (N := some 28) (v := ?_) (a' := ?_) #[true, true, true, true, true, true, true, true, true, true, true, true, true, true, true, true, true, false, false, false, false, false, false, false, false, false, false, false, false, false] rfl rfl (any_of HT_.out (by kernel_rfl)) (fun _ _ _ h => h) (Or.inl ⟨by rfl, ?_⟩) ?_ ?_
             rotate_left
             ·intro w'
              go_simp
              with_reducible rfl
             rotate_left
             ·simp only [Act.put, List.setIfInBounds_toArray, List.set_cons_zero, List.set_cons_succ, i64_w, i32_w]
              rfl
             refine pure_ (i := 17) (N := some 29) (v := ?_) (a' := ?_) #[true, true, true, true, true, true, true, true, true, true, true, true, true, true, true, true, true, true, false, false, false, false, false, false, false, false, false, false, false, false] rfl rfl (any_of HT_.out (by kernel_rfl)) (fun _ _ _ h => h) (Or.inl ⟨by rfl, ?_⟩) ?_ ?_
             rotate_left
             ·intro w'
              go_simp
              with_reducible rfl
             rotate_left
             ·simp only [Act.put, List.setIfInBounds_toArray, List.set_cons_zero, List.set_cons_succ, i64_w, i32_w]
              rfl
             refine pure_ (i := 18) (N := some 30) (v := ?_) (a' := ?_) #[true, true, true, true, true, true, true, true, true, true, true, true, true, true, true, true, true, true, true, false, false, false, false, false, false, false, false, false, false, false] rfl rfl (any_of HT_.out (by kernel_rfl)) (fun _ _ _ h => h) (Or.inl ⟨by rfl, ?_⟩) ?_ ?_
             rotate_left
             ·intro w'
              go_simp
              with_reducible rfl
             rotate_left
             ·simp only [Act.put, List.setIfInBounds_toArray, List.set_cons_zero, List.set_cons_succ, i64_w, i32_w]
              rfl
             refine pure_ (i := 19) (N := some 31) (v := ?_) (a' := ?_) #[true, true, true, true, true, true, true, true, true, true, true, true, true, true, true, true, true, true, true, true, false, false, false, false, false, false, false, false, false, false] rfl rfl (any_of HT_.out (by kernel_rfl)) (fun _ _ _ h => h) (Or.inl ⟨by rfl, ?_⟩) ?_ ?_
             rotate_left
             ·intro w'
              go_simp
              with_reducible rfl
             rotate_left
             ·simp only [Act.put, List.setIfInBounds_toArray, List.set_cons_zero, List.set_cons_succ, i64_w, i32_w]
              rfl
             refine pure_ (i := 20) (N := some 32) (v := ?_) (a' := ?_) #[true, true, true, true, true, true, true, true, true, true, true, true, true, true, true, true, true, true, true, true, true, false, false, false, false, false, false, false, false, false] rfl rfl (any_of HT_.out (by kernel_rfl)) (fun _ _ _ h => h) (Or.inl ⟨by rfl, ?_⟩) ?_ ?_
             rotate_left
             ·intro w'
              go_simp
              with_reducible rfl
             rotate_left
             ·simp only [Act.put, List.setIfInBounds_toArray, List.set_cons_zero, List.set_cons_succ, i64_w, i32_w]
              rfl
             refine pure_ (i := 21) (N := some 33) (v := ?_) (a' := ?_) #[true, true, true, true, true, true, true, true, true, true, true, true, true, true, true, true, true, true, true, true, true, true, false, false, false, false, false, false, false, false] rfl rfl (any_of HT_.out (by kernel_rfl)) (fun _ _ _ h => h) (Or.inl ⟨by rfl, ?_⟩) ?_ ?_
             rotate_left
             ·intro w'
              go_simp
              with_reducible rfl
             rotate_left
             ·simp only [Act.put, List.setIfInBounds_toArray, List.set_cons_zero, List.set_cons_succ, i64_w, i32_w]
              rfl
             refine pure_ (i := 22) (N := some 34) (v := ?_) (a' := ?_) #[true, true, true, true, true, true, true, true, true, true, true, true, true, true, true, true, true, true, true, true, true, true, true, false, false, false, false, false, false, false] rfl rfl (any_of HT_.out (by kernel_rfl)) (fun _ _ _ h => h) (Or.inl ⟨by rfl, ?_⟩) ?_ ?_
             rotate_left
             ·intro w'
              go_simp
              with_reducible rfl
             rotate_left
             ·simp only [Act.put, List.setIfInBounds_toArray, List.set_cons_zero, List.set_cons_succ, i64_w, i32_w]
              rfl
             refine pure_ (i := 23) (N := some 35) (v := ?_) (a' := ?_) #[true, true, true, true, true, true, true, true, true, true, true, true, true, true, true, true, true, true, true, true, true, true, true, true, false, false, false, false, false, false] rfl rfl (any_of HT_.out (by kernel_rfl)) (fun _ _ _ h => h) (Or.inl ⟨by rfl, ?_⟩) ?_ ?_
             rotate_left
             ·intro w'
              go_simp
              with_reducible rfl
             rotate_left
             ·simp only [Act.put, List.setIfInBounds_toArray, List.set_cons_zero, List.set_cons_succ, i64_w, i32_w]
              rfl
             refine pure_ (i := 25) (N := some 37) (v := ?_) (a' := ?_) #[true, true, true, true, true, true, true, true, true, true, true, true, true, true, true, true, true, true, true, true, true, true, true, true, false, true, false, false, false, false] rfl rfl (any_of HT_.out (by kernel_rfl)) (fun _ _ _ h => h) (Or.inl ⟨by rfl, ?_⟩) ?_ ?_
             rotate_left
             ·intro w'
              go_simp
              with_reducible rfl
             rotate_left
             ·simp only [Act.put, List.setIfInBounds_toArray, List.set_cons_zero, List.set_cons_succ, i64_w, i32_w]
              rfl
             refine take_ (i := 24) (N := some 36) (v := ?_) (a' := ?_) #[true, true, true, true, true, true, true, true, true, true, true, true, true, true, true, true, true, true, true, true, true, true, true, true, true, true, false, false, false, false] rfl rfl (take_ofW HT_.out HW_.out (by kernel_rfl)) (fun _ _ _ h => h) (Or.inl ⟨by rfl, ?_⟩) hHeld ?_ ?_
             rotate_left
             ·rintro w' ⟨s0, s1, s2, s3, s4, s5⟩
              go_simp
              with_reducible rfl
             rotate_left
             ·simp only [Act.put, List.setIfInBounds_toArray, List.set_cons_zero, List.set_cons_succ, i64_w, i32_w]
              rfl
             refine take_ (i := 26) (N := some 38) (v := ?_) (a' := ?_) #[true, true, true, true, true, true, true, true, true, true, true, true, true, true, true, true, true, true, true, true, true, true, true, true, true, true, true, false, false, false] rfl rfl (take_ofW HT_.out HW_.out (by kernel_rfl)) (fun _ _ _ h => h) (Or.inl ⟨by rfl, ?_⟩) hHeld ?_ ?_
             rotate_left
             ·rintro w' ⟨s0, s1, s2, s3, s4, s5⟩
              go_simp
              with_reducible rfl
             rotate_left
             ·simp only [Act.put, List.setIfInBounds_toArray, List.set_cons_zero, List.set_cons_succ, i64_w, i32_w]
              rfl
             refine pure_ (i := 27) (N := some 39) (v := ?_) (a' := ?_) #[true, true, true, true, true, true, true, true, true, true, true, true, true, true, true, true, true, true, true, true, true, true, true, true, true, true, true, true, false, false] rfl rfl (any_of HT_.out (by kernel_rfl)) (fun _ _ _ h => h) (Or.inl ⟨by rfl, ?_⟩) ?_ ?_
             rotate_left
             ·intro w'
              go_simp
              with_reducible rfl
             rotate_left
             ·simp only [Act.put, List.setIfInBounds_toArray, List.set_cons_zero, List.set_cons_succ, i64_w, i32_w]
              rfl
             refine pure_ (i := 28) (N := some 40) (v := ?_) (a' := ?_) #[true, true, true, true, true, true, true, true, true, true, true, true, true, true, true, true, true, true, true, true, true, true, true, true, true, true, true, true, true, false] rfl rfl (any_of HT_.out (by kernel_rfl)) (fun _ _ _ h => h) (Or.inl ⟨by rfl, ?_⟩) ?_ ?_
             rotate_left
             ·intro w'
              go_simp
              with_reducible rfl
             rotate_left
             ·simp only [Act.put, List.setIfInBounds_toArray, List.set_cons_zero, List.set_cons_succ, i64_w, i32_w]
              rfl
             refine pure_ (i := 29) (N := some 41) (v := ?_) (a' := ?_) #[true, true, true, true, true, true, true, true, true, true, true, true, true, true, true, true, true, true, true, true, true, true, true, true, true, true, true, true, true, true] rfl rfl (any_of HT_.out (by kernel_rfl)) (fun _ _ _ h => h) (Or.inl ⟨by rfl, ?_⟩) ?_ ?_
             rotate_left
             ·intro w'
              go_simp
              with_reducible rfl
             rotate_left
             ·simp only [Act.put, List.setIfInBounds_toArray, List.set_cons_zero, List.set_cons_succ, i64_w, i32_w]
              rfl
             refine done_ (done_of HT_.out (by kernel_rfl)) ?_
             try go_wp2
             go_ret
             exact ⟨by first | rfl | (simp [errW_none, errW_some] <;> rfl) | (simp only [← hji15]; first | rfl | (simp [errW_none, errW_some] <;> rfl)) | (simp [*, errW_none, errW_some] <;> rfl), by repeat (first | (with_reducible first | exact HB.out | apply below_alloc | apply pw_below_drewN | apply below_drew1 | refine below_set ?_ GE102.out) | exact HB.out)⟩
            ·rw [if_neg c18] at H
             have c18b0 : decide (((rd_T73 l0 x7_1).f1) < ((rd_T73 l0 (ji15)).f1)) = false := decide_eq_false c18
             clear c18
             have H' := Aside0.mk H
             clear H
             have p101 : 0 ≤ (x7_1 : Int) := of_decide_eq_true (by first | (with_reducible assumption) | assumption)
             have q101 : x7_1 < (l0.length : Int) := of_decide_eq_true (by first | (with_reducible assumption) | assumption)
             obtain ⟨ad101, e101, hx101_0, hx101_1, hx101_2⟩ := at_T73 HR0.out x7_1 p101 q101
             cases e101
             replace hx101_0 := (HB.out.cell (World.block_lt_of_cell? w _ hx101_0)).trans hx101_0
             replace hx101_1 := (HB.out.cell (World.block_lt_of_cell? w _ hx101_1)).trans hx101_1
             replace hx101_2 := (HB.out.cell (World.block_lt_of_cell? w _ hx101_2)).trans hx101_2
             replace p101 := eq_true p101
             replace q101 := eq_true q101
             try go_wp2_with (first | ((with_reducible refine gate_dst (N := 4) rfl ?_); refine box_event ?hg (N := 4) ?hd (cs := #[.int .i64 0, .int .i64 0, .int .i64 0]) (t := 73) ?hr ?_; (case hd => rfl); (case hg => rfl); (case hr => first | (go_simp; done) | (go_simp; rfl)); intro gb102 hg w23 hbox hb; have n0_ := Aside0.mk (below_step (by repeat (first | (with_reducible first | exact HB.out | apply below_alloc | apply pw_below_drewN | apply below_drew1) | exact HB.out)) hb); have n1_ := Aside0.mk (hbox); have n2_ := Aside0.mk ((by rw [hg]; exact (below_size (by repeat (first | (with_reducible first | exact HB.out | apply below_alloc | apply pw_below_drewN | apply below_drew1) | exact HB.out))) : w.heap.size ≤ gb102)); have n3_ := Aside0.mk ((by rw [hg]; exact (below_size (by repeat (first | (with_reducible first | exact HB.out | apply below_alloc | apply pw_below_drewN | apply below_drew1) | exact HB.out))) : w.heap.size ≤ gb102)); clear HB; have HB := n0_; have BK102 := n1_; have GW102 := n2_; have GE102 := n3_; clear n0_ n1_ n2_ n3_; clear hb hbox hg; have hcz24_0 : w23.cell? ⟨gb102, 0, none⟩ = some (.int .i64 0) := (blk_cell BK102.out 0).trans rfl; have hcz24_1 : w23.cell? ⟨gb102, 1, none⟩ = some (.int .i64 0) := (blk_cell BK102.out 1).trans rfl; have hcz24_2 : w23.cell? ⟨gb102, 2, none⟩ = some (.int .i64 0) := (blk_cell BK102.out 2).trans rfl; have hfz24_0 := blk_frozen BK102.out 0; have hfz24_1 := blk_frozen BK102.out 1; have hfz24_2 := blk_frozen BK102.out 2))
             have n0_ : Aside0 ((((w23.setCell ⟨gb102, 0, none⟩ (.int .i64 ((rd_T73 l0 x7_1).f0))).setCell ⟨gb102, 1, none⟩ (.int .i64 ((rd_T73 l0 x7_1).f1))).setCell ⟨gb102, 2, none⟩ (.int .i64 ((rd_T73 l0 x7_1).f2))).heap[gb102]? = some (.cells #[.int .i64 ((rd_T73 l0 x7_1).f0), .int .i64 ((rd_T73 l0 x7_1).f1), .int .i64 ((rd_T73 l0 x7_1).f2)] 73 (0, 0))) := ⟨by (with_reducible repeat (first | refine blk_drewN ?_ _ | refine blk_drew ?_ | refine blk_alloc ?_ _)); refine blk_put (cs := #[.int .i64 ((rd_T73 l0 x7_1).f0), .int .i64 ((rd_T73 l0 x7_1).f1), .int .i64 0]) ?_ 2 _ rfl; (with_reducible repeat (first | refine blk_drewN ?_ _ | refine blk_drew ?_ | refine blk_alloc ?_ _)); refine blk_put (cs := #[.int .i64 ((rd_T73 l0 x7_1).f0), .int .i64 0, .int .i64 0]) ?_ 1 _ rfl; (with_reducible repeat (first | refine blk_drewN ?_ _ | refine blk_drew ?_ | refine blk_alloc ?_ _)); refine blk_put (cs := #[.int .i64 0, .int .i64 0, .int .i64 0]) ?_ 0 _ rfl; (with_reducible repeat (first | refine blk_drewN ?_ _ | refine blk_drew ?_ | refine blk_alloc ?_ _)); exact BK102.out⟩
             have n1_ : Aside0 (Below w.heap.size w (((w23.setCell ⟨gb102, 0, none⟩ (.int .i64 ((rd_T73 l0 x7_1).f0))).setCell ⟨gb102, 1, none⟩ (.int .i64 ((rd_T73 l0 x7_1).f1))).setCell ⟨gb102, 2, none⟩ (.int .i64 ((rd_T73 l0 x7_1).f2)))) := ⟨by repeat (first | (with_reducible first | exact HB.out | apply below_alloc | apply pw_below_drewN | apply below_drew1 | refine below_set ?_ GE102.out) | exact HB.out)⟩
             (try clear BK102)
             (try clear HB)
             generalize (((w23.setCell ⟨gb102, 0, none⟩ (.int .i64 ((rd_T73 l0 x7_1).f0))).setCell ⟨gb102, 1, none⟩ (.int .i64 ((rd_T73 l0 x7_1).f1))).setCell ⟨gb102, 2, none⟩ (.int .i64 ((rd_T73 l0 x7_1).f2))) = w25 at n0_ n1_ ⊢
             have BK102 := n0_
             have HB := n1_
             clear n0_ n1_
             have n0_ := Aside0.mk (blk_drew BK102.out)
             have n1_ := Aside0.mk (below_drew1 HB.out)
             clear BK102
             clear HB
             have BK102 := n0_
             have HB := n1_
             clear n0_ n1_
             have p105 : 0 ≤ ((ji15) : Int) := of_decide_eq_true (by first | (with_reducible assumption) | assumption)
             have q105 : (ji15) < (l0.length : Int) := of_decide_eq_true (by first | (with_reducible assumption) | assumption)
             obtain ⟨ad105, e105, hx105_0, hx105_1, hx105_2⟩ := at_T73 HR0.out (ji15) p105 q105
             have hw105_2 := hx105_2
             have hw105_1 := hx105_1
             have hw105_0 := hx105_0
             obtain rfl : ad101 = ad105 := (by injection e105)
             replace hx105_0 := (HB.out.cell (World.block_lt_of_cell? w _ hx105_0)).trans hx105_0
             replace hx105_1 := (HB.out.cell (World.block_lt_of_cell? w _ hx105_1)).trans hx105_1
             replace hx105_2 := (HB.out.cell (World.block_lt_of_cell? w _ hx105_2)).trans hx105_2
             replace p105 := eq_true p105
             replace q105 := eq_true q105
             refine start_ (n := 30) (S := fun w' => w'.cell? ⟨gb102, 0, none⟩ = some (.int .i64 ((rd_T73 l0 x7_1).f0)) ∧ w'.cell? ⟨gb102, 1, none⟩ = some (.int .i64 ((rd_T73 l0 x7_1).f1)) ∧ w'.cell? ⟨gb102, 2, none⟩ = some (.int .i64 ((rd_T73 l0 x7_1).f2)) ∧ w'.cell? (ad101.add (((ji15)).toNat * 3)) = some (.int .i64 ((rd_T73 l0 (ji15)).f0)) ∧ w'.cell? ⟨(ad101.add (((ji15)).toNat * 3)).block, (ad101.add (((ji15)).toNat * 3)).off + 1, none⟩ = some (.int .i64 ((rd_T73 l0 (ji15)).f1)) ∧ w'.cell? ⟨(ad101.add (((ji15)).toNat * 3)).block, (ad101.add (((ji15)).toNat * 3)).off + 2, none⟩ = some (.int .i64 ((rd_T73 l0 (ji15)).f2))) (ds := []) #[false, false, false, false, false, false, false, false, false, false, false, false, false, false, false, false, false, false, false, false, false, false, false, false, false, false, false, false, false, false] (by kernel_rfl) rfl rfl ⟨(blk_cell BK102.out 0).trans rfl, (blk_cell BK102.out 1).trans rfl, (blk_cell BK102.out 2).trans rfl, ((HB.out.cell (World.block_lt_of_cell? w _ hw105_0)).trans hw105_0), ((HB.out.cell (World.block_lt_of_cell? w _ hw105_1)).trans hw105_1), ((HB.out.cell (World.block_lt_of_cell? w _ hw105_2)).trans hw105_2)⟩ (fun hHeld => ?_); refine with_tabW impl_itemsOk.tab4 impl_itemsOk.bits4 (fun HT_ HW_ => ?_)
             generalize w25.drew = w26 at BK102 HB hx105_0 hx105_1 hx105_2 hHeld ⊢
             refine pure_ (i := 0) (N := some 12) (v := ?_) (a' := ?_) #[true, false, false, false, false, false, false, false, false, false, false, false, false, false, false, false, false, false, false, false, false, false, false, false, false, false, false, false, false, false] rfl rfl (any_of HT_.out (by kernel_rfl)) (fun _ _ _ h => h) (Or.inl ⟨by rfl, ?_⟩) ?_ ?_
             rotate_left
             ·intro w'
              go_simp
              with_reducible rfl
             rotate_left
             ·simp only [Act.put, List.setIfInBounds_toArray, List.set_cons_zero, List.set_cons_succ, i64_w, i32_w]
              rfl
             refine take_ (i := 1) (N := some 13) (v := ?_) (a' := ?_) #[true, true, false, false, false, false, false, false, false, false, false, false, false, false, false, false, false, false, false, false, false, false, false, false, false, false, false, false, false, false] rfl rfl (take_ofW HT_.out HW_.out (by kernel_rfl)) (fun _ _ _ h => h) (Or.inl ⟨by rfl, ?_⟩) hHeld ?_ ?_
             rotate_left
             ·rintro w' ⟨s0, s1, s2, s3, s4, s5⟩
              go_simp
              with_reducible rfl
             rotate_left
             ·simp only [Act.put, List.setIfInBounds_toArray, List.set_cons_zero, List.set_cons_succ, i64_w, i32_w]
              rfl
             refine pure_ (i := 2) (N := some 14) (v := ?_) (a' := ?_) #[true, true, true, false, false, false, false, false, false, false, false, false, false, false, false, false, false, false, false, false, false, false, false, false, false, false, false, false, false, false] rfl rfl (any_of HT_.out (by kernel_rfl)) (fun _ _ _ h => h) (Or.inl ⟨by rfl, ?_⟩) ?_ ?_
             rotate_left
             ·intro w'
              go_simp
              with_reducible rfl
             rotate_left
             ·simp only [Act.put, List.setIfInBounds_toArray, List.set_cons_zero, List.set_cons_succ, i64_w, i32_w]
              rfl
             refine pure_ (i := 3) (N := some 15) (v := ?_) (a' := ?_) #[true, true, true, true, false, false, false, false, false, false, false, false, false, false, false, false, false, false, false, false, false, false, false, false, false, false, false, false, false, false] rfl rfl (any_of HT_.out (by kernel_rfl)) (fun _ _ _ h => h) (Or.inl ⟨by rfl, ?_⟩) ?_ ?_
             rotate_left
             ·intro w'
              go_simp
              with_reducible rfl
             rotate_left
             ·simp only [Act.put, List.setIfInBounds_toArray, List.set_cons_zero, List.set_cons_succ, i64_w, i32_w]
              rfl
             refine pure_ (i := 4) (N := some 16) (v := ?_) (a' := ?_) #[true, true, true, true, true, false, false, false, false, false, false, false, false, false, false, false, false, false, false, false, false, false, false, false, false, false, false, false, false, false] rfl rfl (any_of HT_.out (by kernel_rfl)) (fun _ _ _ h => h) (Or.inl ⟨by rfl, ?_⟩) ?_ ?_
             rotate_left
             ·intro w'
              go_simp
              with_reducible rfl
             rotate_left
             ·simp only [Act.put, List.setIfInBounds_toArray, List.set_cons_zero, List.set_cons_succ, i64_w, i32_w]
              rfl
             refine take_ (i := 5) (N := some 17) (v := ?_) (a' := ?_) #[true, true, true, true, true, true, false, false, false, false, false, false, false, false, false, false, false, false, false, false, false, false, false, false, false, false, false, false, false, false] rfl rfl (take_ofW HT_.out HW_.out (by kernel_rfl)) (fun _ _ _ h => h) (Or.inl ⟨by rfl, ?_⟩) hHeld ?_ ?_
             rotate_left
             ·rintro w' ⟨s0, s1, s2, s3, s4, s5⟩
              go_simp
              with_reducible rfl
             rotate_left
             ·simp only [Act.put, List.setIfInBounds_toArray, List.set_cons_zero, List.set_cons_succ, i64_w, i32_w]
              rfl
             refine one_ (i := 6) (N := some 18) #[true, true, true, true, true, true, true, false, false, false, false, false, false, false, false, false, false, false, false, false, false, false, false, false, false, false, false, false, false, false] rfl rfl (one_of HT_.out (by kernel_rfl)) (by decide) (fun K hK => ?_)
             refine goes_ Try.func64 (by kernel_rfl) rfl #[.int .i64 ((rd_T73 l0 x7_1).f1), .int .i64 1, .int .i64 1000000000000] (by rfl) rfl rfl (by (try simp only [List.map_toArray, List.map_cons, List.map_nil]); first | done | rfl | (simp only [List.length_drop, List.length_take]; rfl)) ?_
             with_reducible refine (impl_within.calls ((rd_T73 l0 x7_1).f1) 1 1000000000000 true _ A10.out).mono ?_
             rintro e w' ⟨rfl, ⟨nd, rfl⟩⟩
             refine ⟨_, rfl, ?_⟩
             refine hK.out _ _ ⟨(blk_cell BK102.out 0).trans rfl, (blk_cell BK102.out 1).trans rfl, (blk_cell BK102.out 2).trans rfl, ((HB.out.cell (World.block_lt_of_cell? w _ hw105_0)).trans hw105_0), ((HB.out.cell (World.block_lt_of_cell? w _ hw105_1)).trans hw105_1), ((HB.out.cell (World.block_lt_of_cell? w _ hw105_2)).trans hw105_2)⟩ (fun hHeld => ?_)
             clear hK K
             refine norm_ (a' := ?_) ?_ ?_
             rotate_left
             ·show Act.put _ (some 18) _ = _
              simp only [Act.put, List.setIfInBounds_toArray, List.set_cons_zero, List.set_cons_succ, i64_w, i32_w]
              rfl
             refine pure_ (i := 7) (N := some 19) (v := ?_) (a' := ?_) #[true, true, true, true, true, true, true, true, false, false, false, false, false, false, false, false, false, false, false, false, false, false, false, false, false, false, false, false, false, false] rfl rfl (any_of HT_.out (by kernel_rfl)) (fun _ _ _ h => h) (Or.inl ⟨by rfl, ?_⟩) ?_ ?_
             rotate_left
             ·intro w'
              go_simp
              with_reducible rfl
             rotate_left
             ·simp only [Act.put, List.setIfInBounds_toArray, List.set_cons_zero, List.set_cons_succ, i64_w, i32_w]
              rfl
             refine pure_ (i := 8) (N := some 20) (v := ?_) (a' := ?_) #[true, true, true, true, true, true, true, true, true, false, false, false, false, false, false, false, false, false, false, false, false, false, false, false, false, false, false, false, false, false] rfl rfl (any_of HT_.out (by kernel_rfl)) (fun _ _ _ h => h) (Or.inl ⟨by rfl, ?_⟩) ?_ ?_
             rotate_left
             ·intro w'
              go_simp
              with_reducible rfl
             rotate_left
             ·simp only [Act.put, List.setIfInBounds_toArray, List.set_cons_zero, List.set_cons_succ, i64_w, i32_w]
              rfl
             refine pure_ (i := 9) (N := some 21) (v := ?_) (a' := ?_) #[true, true, true, true, true, true, true, true, true, true, false, false, false, false, false, false, false, false, false, false, false, false, false, false, false, false, false, false, false, false] rfl rfl (any_of HT_.out (by kernel_rfl)) (fun _ _ _ h => h) (Or.inl ⟨by rfl, ?_⟩) ?_ ?_
             rotate_left
             ·intro w'
              go_simp
              with_reducible rfl
             rotate_left
             ·simp only [Act.put, List.setIfInBounds_toArray, List.set_cons_zero, List.set_cons_succ, i64_w, i32_w]
              rfl
             refine pure_ (i := 10) (N := some 22) (v := ?_) (a' := ?_) #[true, true, true, true, true, true, true, true, true, true, true, false, false, false, false, false, false, false, false, false, false, false, false, false, false, false, false, false, false, false] rfl rfl (any_of HT_.out (by kernel_rfl)) (fun _ _ _ h => h) (Or.inl ⟨by rfl, ?_⟩) ?_ ?_
             rotate_left
             ·intro w'
              go_simp
              with_reducible rfl
             rotate_left
             ·simp only [Act.put, List.setIfInBounds_toArray, List.set_cons_zero, List.set_cons_succ, i64_w, i32_w]
              rfl
             refine take_ (i := 11) (N := some 23) (v := ?_) (a' := ?_) #[true, true, true, true, true, true, true, true, true, true, true, true, false, false, false, false, false, false, false, false, false, false, false, false, false, false, false, false, false, false] rfl rfl (take_ofW HT_.out HW_.out (by kernel_rfl)) (fun _ _ _ h => h) (Or.inl ⟨by rfl, ?_⟩) hHeld ?_ ?_
             rotate_left
             ·rintro w' ⟨s0, s1, s2, s3, s4, s5⟩
              go_simp
              with_reducible rfl
             rotate_left
             ·simp only [Act.put, List.setIfInBounds_toArray, List.set_cons_zero, List.set_cons_succ, i64_w, i32_w]
              rfl
             refine one_ (i := 12) (N := some 24) #[true, true, true, true, true, true, true, true, true, true, true, true, true, false, false, false, false, false, false, false, false, false, false, false, false, false, false, false, false, false] rfl rfl (one_of HT_.out (by kernel_rfl)) (by decide) (fun K hK => ?_)
             refine goes_ Try.func64 (by kernel_rfl) rfl #[.int .i64 ((rd_T73 l0 x7_1).f2), .int .i64 1, .int .i64 1000000000000] (by rfl) rfl rfl (by (try simp only [List.map_toArray, List.map_cons, List.map_nil]); first | done | rfl | (simp only [List.length_drop, List.length_take]; rfl)) ?_
             with_reducible refine (impl_within.calls ((rd_T73 l0 x7_1).f2) 1 1000000000000 true _ A12.out).mono ?_
             rintro e w' ⟨rfl, ⟨nd, rfl⟩⟩
             refine ⟨_, rfl, ?_⟩
             refine hK.out _ _ ⟨(blk_cell BK102.out 0).trans rfl, (blk_cell BK102.out 1).trans rfl, (blk_cell BK102.out 2).trans rfl, ((HB.out.cell (World.block_lt_of_cell? w _ hw105_0)).trans hw105_0), ((HB.out.cell (World.block_lt_of_cell? w _ hw105_1)).trans hw105_1), ((HB.out.cell (World.block_lt_of_cell? w _ hw105_2)).trans hw105_2)⟩ (fun hHeld => ?_)
             clear hK K
             refine norm_ (a' := ?_) ?_ ?_
             rotate_left
             ·show Act.put _ (some 24) _ = _
              simp only [Act.put, List.setIfInBounds_toArray, List.set_cons_zero, List.set_cons_succ, i64_w, i32_w]
              rfl
             refine pure_ (i := 13) (N := some 25) (v := ?_) (a' := ?_) #[true, true, true, true, true, true, true, true, true, true, true, true, true, true, false, false, false, false, false, false, false, false, false, false, false, false, false, false, false, false] rfl rfl (any_of HT_.out (by kernel_rfl)) (fun _ _ _ h => h) (Or.inl ⟨by rfl, ?_⟩) ?_ ?_
             rotate_left
             ·intro w'
              go_simp
              with_reducible rfl
             rotate_left
             ·simp only [Act.put, List.setIfInBounds_toArray, List.set_cons_zero, List.set_cons_succ, i64_w, i32_w]
              rfl
             refine pure_ (i := 14) (N := some 26) (v := ?_) (a' := ?_) #[true, true, true, true, true, true, true, true, true, true, true, true, true, true, true, false, false, false, false, false, false, false, false, false, false, false, false, false, false, false] rfl rfl (any_of HT_.out (by kernel_rfl)) (fun _ _ _ h => h) (Or.inl ⟨by rfl, ?_⟩) ?_ ?_
             rotate_left
             ·intro w'
              go_simp
              with_reducible rfl
             rotate_left
             ·simp only [Act.put, List.setIfInBounds_toArray, List.set_cons_zero, List.set_cons_succ, i64_w, i32_w]
              rfl
             refine pure_ (i := 15) (N := some 27) (v := ?_) (a' := ?_) #[true, true, true, true, true, true, true, true, true, true, true, true, true, true, true, true, false, false, false, false, false, false, false, false, false, false, false, false, false, false] rfl rfl (any_of HT_.out (by kernel_rfl)) (fun _ _ _ h => h) (Or.inl ⟨by rfl, ?_⟩) ?_ ?_
             rotate_left
             ·intro w'
              go_simp
              with_reducible rfl
             rotate_left
             ·simp only [Act.put, List.setIfInBounds_toArray, List.set_cons_zero, List.set_cons_succ, i64_w, i32_w]
              rfl
             refine pure_ (i := 16) (N := some 28) (v := ?_) (a' := ?_) #[true, true, true, true, true, true, true, true, true, true, true, true, true, true, true, true, true, false, false, false, false, false, false, false, false, false, false, false, false, false] rfl rfl (any_of HT_.out (by kernel_rfl)) (fun _ _ _ h => h) (Or.inl ⟨by rfl, ?_⟩) ?_ ?_
             rotate_left
             ·intro w'
              go_simp
              with_reducible rfl
             rotate_left
             ·simp only [Act.put, List.setIfInBounds_toArray, List.set_cons_zero, List.set_cons_succ, i64_w, i32_w]
              rfl
             refine pure_ (i := 17) (N := some 29) (v := ?_) (a' := ?_) #[true, true, true, true, true, true, true, true, true, true, true, true, true, true, true, true, true, true, false, false, false, false, false, false, false, false, false, false, false, false] rfl rfl (any_of HT_.out (by kernel_rfl)) (fun _ _ _ h => h) (Or.inl ⟨by rfl, ?_⟩) ?_ ?_
             rotate_left
             ·intro w'
              go_simp
              with_reducible rfl
             rotate_left
             ·simp only [Act.put, List.setIfInBounds_toArray, List.set_cons_zero, List.set_cons_succ, i64_w, i32_w]
              rfl
             refine pure_ (i := 18) (N := some 30) (v := ?_) (a' := ?_) #[true, true, true, true, true, true, true, true, true, true, true, true, true, true, true, true, true, true, true, false, false, false, false, false, false, false, false, false, false, false] rfl rfl (any_of HT_.out (by kernel_rfl)) (fun _ _ _ h => h) (Or.inl ⟨by rfl, ?_⟩) ?_ ?_
             rotate_left
             ·intro w'
              go_simp
              with_reducible rfl
             rotate_left
             ·simp only [Act.put, List.setIfInBounds_toArray, List.set_cons_zero, List.set_cons_succ, i64_w, i32_w]
              rfl
             refine pure_ (i := 19) (N := some 31) (v := ?_) (a' := ?_) #[true, true, true, true, true, true, true, true, true, true, true, true, true, true, true, true, true, true, true, true, false, false, false, false, false, false, false, false, false, false] rfl rfl (any_of HT_.out (by kernel_rfl)) (fun _ _ _ h => h) (Or.inl ⟨by rfl, ?_⟩) ?_ ?_
             rotate_left
             ·intro w'
              go_simp
              with_reducible rfl
             rotate_left
             ·simp only [Act.put, List.setIfInBounds_toArray, List.set_cons_zero, List.set_cons_succ, i64_w, i32_w]
              rfl
             refine pure_ (i := 20) (N := some 32) (v := ?_) (a' := ?_) #[true, true, true, true, true, true, true, true, true, true, true, true, true, true, true, true, true, true, true, true, true, false, false, false, false, false, false, false, false, false] rfl rfl (any_of HT_.out (by kernel_rfl)) (fun _ _ _ h => h) (Or.inl ⟨by rfl, ?_⟩) ?_ ?_
             rotate_left
             ·intro w'
              go_simp
              with_reducible rfl
             rotate_left
             ·simp only [Act.put, List.setIfInBounds_toArray, List.set_cons_zero, List.set_cons_succ, i64_w, i32_w]
              rfl
             refine pure_ (i := 21) (N := some 33) (v := ?_) (a' := ?_) #[true, true, true, true, true, true, true, true, true, true, true, true, true, true, true, true, true, true, true, true, true, true, false, false, false, false, false, false, false, false] rfl rfl (any_of HT_.out (by kernel_rfl)) (fun _ _ _ h => h) (Or.inl ⟨by rfl, ?_⟩) ?_ ?_
             rotate_left
             ·intro w'
              go_simp
              with_reducible rfl
             rotate_left
             ·simp only [Act.put, List.setIfInBounds_toArray, List.set_cons_zero, List.set_cons_succ, i64_w, i32_w]
              rfl
             refine pure_ (i := 22) (N := some 34) (v := ?_) (a' := ?_) #[true, true, true, true, true, true, true, true, true, true, true, true, true, true, true, true, true, true, true, true, true, true, true, false, false, false, false, false, false, false] rfl rfl (any_of HT_.out (by kernel_rfl)) (fun _ _ _ h => h) (Or.inl ⟨by rfl, ?_⟩) ?_ ?_
             rotate_left
             ·intro w'
              go_simp
              with_reducible rfl
             rotate_left
             ·simp only [Act.put, List.setIfInBounds_toArray, List.set_cons_zero, List.set_cons_succ, i64_w, i32_w]
              rfl
             refine pure_ (i := 23) (N := some 35) (v := ?_) (a' := ?_) #[true, true, true, true, true, true, true, true, true, true, true, true, true, true, true, true, true, true, true, true, true, true, true, true, false, false, false, false, false, false] rfl rfl (any_of HT_.out (by kernel_rfl)) (fun _ _ _ h => h) (Or.inl ⟨by rfl, ?_⟩) ?_ ?_
             rotate_left
             ·intro w'
              go_simp
              with_reducible rfl
             rotate_left
             ·simp only [Act.put, List.setIfInBounds_toArray, List.set_cons_zero, List.set_cons_succ, i64_w, i32_w]
              rfl
             refine pure_ (i := 25) (N := some 37) (v := ?_) (a' := ?_) #[true, true, true, true, true, true, true, true, true, true, true, true, true, true, true, true, true, true, true, true, true, true, true, true, false, true, false, false, false, false] rfl rfl (any_of HT_.out (by kernel_rfl)) (fun _ _ _ h => h) (Or.inl ⟨by rfl, ?_⟩) ?_ ?_
             rotate_left
             ·intro w'
              go_simp
              with_reducible rfl
             rotate_left
             ·simp only [Act.put, List.setIfInBounds_toArray, List.set_cons_zero, List.set_cons_succ, i64_w, i32_w]
              rfl
             refine take_ (i := 24) (N := some 36) (v := ?_) (a' := ?_) #[true, true, true, true, true, true, true, true, true, true, true, true, true, true, true, true, true, true, true, true, true, true, true, true, true, true, false, false, false, false] rfl rfl (take_ofW HT_.out HW_.out (by kernel_rfl)) (fun _ _ _ h => h) (Or.inl ⟨by rfl, ?_⟩) hHeld ?_ ?_
             rotate_left
             ·rintro w' ⟨s0, s1, s2, s3, s4, s5⟩
              go_simp
              with_reducible rfl
             rotate_left
             ·simp only [Act.put, List.setIfInBounds_toArray, List.set_cons_zero, List.set_cons_succ, i64_w, i32_w]
              rfl
             refine take_ (i := 26) (N := some 38) (v := ?_) (a' := ?_) #[true, true, true, true, true, true, true, true, true, true, true, true, true, true, true, true, true, true, true, true, true, true, true, true, true, true, true, false, false, false] rfl rfl (take_ofW HT_.out HW_.out (by kernel_rfl)) (fun _ _ _ h => h) (Or.inl ⟨by rfl, ?_⟩) hHeld ?_ ?_
             rotate_left
             ·rintro w' ⟨s0, s1, s2, s3, s4, s5⟩
              go_simp
              with_reducible rfl
             rotate_left
             ·simp only [Act.put, List.setIfInBounds_toArray, List.set_cons_zero, List.set_cons_succ, i64_w, i32_w]
              rfl
             refine pure_ (i := 27) (N := some 39) (v := ?_) (a' := ?_) #[true, true, true, true, true, true, true, true, true, true, true, true, true, true, true, true, true, true, true, true, true, true, true, true, true, true, true, true, false, false] rfl rfl (any_of HT_.out (by kernel_rfl)) (fun _ _ _ h => h) (Or.inl ⟨by rfl, ?_⟩) ?_ ?_
             rotate_left
             ·intro w'
              go_simp
              with_reducible rfl
             rotate_left
             ·simp only [Act.put, List.setIfInBounds_toArray, List.set_cons_zero, List.set_cons_succ, i64_w, i32_w]
              rfl
             refine pure_ (i := 28) (N := some 40) (v := ?_) (a' := ?_) #[true, true, true, true, true, true, true, true, true, true, true, true, true, true, true, true, true, true, true, true, true, true, true, true, true, true, true, true, true, false] rfl rfl (any_of HT_.out (by kernel_rfl)) (fun _ _ _ h => h) (Or.inl ⟨by rfl, ?_⟩) ?_ ?_
             rotate_left
             ·intro w'
              go_simp
              with_reducible rfl
             rotate_left
             ·simp only [Act.put, List.setIfInBounds_toArray, List.set_cons_zero, List.set_cons_succ, i64_w, i32_w]
              rfl
             refine pure_ (i := 29) (N := some 41) (v := ?_) (a' := ?_) #[true, true, true, true, true, true, true, true, true, true, true, true, true, true, true, true, true, true, true, true, true, true, true, true, true, true, true, true, true, true] rfl rfl (any_of HT_.out (by kernel_rfl)) (fun _ _ _ h => h) (Or.inl ⟨by rfl, ?_⟩) ?_ ?_
             rotate_left
             ·intro w'
              go_simp
              with_reducible rfl
             rotate_left
             ·simp only [Act.put, List.setIfInBounds_toArray, List.set_cons_zero, List.set_cons_succ, i64_w, i32_w]
              rfl
             refine done_ (done_of HT_.out (by kernel_rfl)) ?_
             try go_wp2
             go_roundg k1
             case measure => have := HK1.out; omega
             case rel => exact ⟨(wrap64 (x7_1 + 1)), (by first | rfl | (simp; done) | (simp [*]; done)), H', ⟨by have := HK1.out; omega⟩, ⟨by repeat (first | (with_reducible first | exact HB.out | apply below_alloc | apply pw_below_drewN | apply below_drew1 | refine below_set ?_ GE102.out) | exact HB.out)⟩⟩
           ·rw [if_neg c17] at H
            exact absurd H (by simp)
          ·rw [if_neg c16] at H
           exact absurd H (by simp)
         ·rw [if_neg c14] at H
          have c14b0 : decide (0 < x7_1) = false := decide_eq_false c14
          clear c14
          have H' := Aside0.mk H
          clear H
          have p101 : 0 ≤ (x7_1 : Int) := of_decide_eq_true (by first | (with_reducible assumption) | assumption)
          have q101 : x7_1 < (l0.length : Int) := of_decide_eq_true (by first | (with_reducible assumption) | assumption)
          obtain ⟨ad101, e101, hx101_0, hx101_1, hx101_2⟩ := at_T73 HR0.out x7_1 p101 q101
          cases e101
          replace hx101_0 := (HB.out.cell (World.block_lt_of_cell? w _ hx101_0)).trans hx101_0
          replace hx101_1 := (HB.out.cell (World.block_lt_of_cell? w _ hx101_1)).trans hx101_1
          replace hx101_2 := (HB.out.cell (World.block_lt_of_cell? w _ hx101_2)).trans hx101_2
          replace p101 := eq_true p101
          replace q101 := eq_true q101
          try go_wp2_with (first | ((with_reducible refine gate_dst (N := 4) rfl ?_); refine box_event ?hg (N := 4) ?hd (cs := #[.int .i64 0, .int .i64 0, .int .i64 0]) (t := 73) ?hr ?_; (case hd => rfl); (case hg => rfl); (case hr => first | (go_simp; done) | (go_simp; rfl)); intro gb102 hg w27 hbox hb; have n0_ := Aside0.mk (below_step (by repeat (first | (with_reducible first | exact HB.out | apply below_alloc | apply pw_below_drewN | apply below_drew1) | exact HB.out)) hb); have n1_ := Aside0.mk (hbox); have n2_ := Aside0.mk ((by rw [hg]; exact (below_size (by repeat (first | (with_reducible first | exact HB.out | apply below_alloc | apply pw_below_drewN | apply below_drew1) | exact HB.out))) : w.heap.size ≤ gb102)); have n3_ := Aside0.mk ((by rw [hg]; exact (below_size (by repeat (first | (with_reducible first | exact HB.out | apply below_alloc | apply pw_below_drewN | apply below_drew1) | exact HB.out))) : w.heap.size ≤ gb102)); clear HB; have HB := n0_; have BK102 := n1_; have GW102 := n2_; have GE102 := n3_; clear n0_ n1_ n2_ n3_; clear hb hbox hg; have hcz28_0 : w27.cell? ⟨gb102, 0, none⟩ = some (.int .i64 0) := (blk_cell BK102.out 0).trans rfl; have hcz28_1 : w27.cell? ⟨gb102, 1, none⟩ = some (.int .i64 0) := (blk_cell BK102.out 1).trans rfl; have hcz28_2 : w27.cell? ⟨gb102, 2, none⟩ = some (.int .i64 0) := (blk_cell BK102.out 2).trans rfl; have hfz28_0 := blk_frozen BK102.out 0; have hfz28_1 := blk_frozen BK102.out 1; have hfz28_2 := blk_frozen BK102.out 2))
          have n0_ : Aside0 ((((w27.setCell ⟨gb102, 0, none⟩ (.int .i64 ((rd_T73 l0 x7_1).f0))).setCell ⟨gb102, 1, none⟩ (.int .i64 ((rd_T73 l0 x7_1).f1))).setCell ⟨gb102, 2, none⟩ (.int .i64 ((rd_T73 l0 x7_1).f2))).heap[gb102]? = some (.cells #[.int .i64 ((rd_T73 l0 x7_1).f0), .int .i64 ((rd_T73 l0 x7_1).f1), .int .i64 ((rd_T73 l0 x7_1).f2)] 73 (0, 0))) := ⟨by (with_reducible repeat (first | refine blk_drewN ?_ _ | refine blk_drew ?_ | refine blk_alloc ?_ _)); refine blk_put (cs := #[.int .i64 ((rd_T73 l0 x7_1).f0), .int .i64 ((rd_T73 l0 x7_1).f1), .int .i64 0]) ?_ 2 _ rfl; (with_reducible repeat (first | refine blk_drewN ?_ _ | refine blk_drew ?_ | refine blk_alloc ?_ _)); refine blk_put (cs := #[.int .i64 ((rd_T73 l0 x7_1).f0), .int .i64 0, .int .i64 0]) ?_ 1 _ rfl; (with_reducible repeat (first | refine blk_drewN ?_ _ | refine blk_drew ?_ | refine blk_alloc ?_ _)); refine blk_put (cs := #[.int .i64 0, .int .i64 0, .int .i64 0]) ?_ 0 _ rfl; (with_reducible repeat (first | refine blk_drewN ?_ _ | refine blk_drew ?_ | refine blk_alloc ?_ _)); exact BK102.out⟩
          have n1_ : Aside0 (Below w.heap.size w (((w27.setCell ⟨gb102, 0, none⟩ (.int .i64 ((rd_T73 l0 x7_1).f0))).setCell ⟨gb102, 1, none⟩ (.int .i64 ((rd_T73 l0 x7_1).f1))).setCell ⟨gb102, 2, none⟩ (.int .i64 ((rd_T73 l0 x7_1).f2)))) := ⟨by repeat (first | (with_reducible first | exact HB.out | apply below_alloc | apply pw_below_drewN | apply below_drew1 | refine below_set ?_ GE102.out) | exact HB.out)⟩
          (try clear BK102)
          (try clear HB)
          generalize (((w27.setCell ⟨gb102, 0, none⟩ (.int .i64 ((rd_T73 l0 x7_1).f0))).setCell ⟨gb102, 1, none⟩ (.int .i64 ((rd_T73 l0 x7_1).f1))).setCell ⟨gb102, 2, none⟩ (.int .i64 ((rd_T73 l0 x7_1).f2))) = w29 at n0_ n1_ ⊢
          have BK102 := n0_
          have HB := n1_
          clear n0_ n1_
          have n0_ := Aside0.mk (blk_drew BK102.out)
          have n1_ := Aside0.mk (below_drew1 HB.out)
          clear BK102
          clear HB
          have BK102 := n0_
          have HB := n1_
          clear n0_ n1_
          refine start_ (n := 30) (S := fun w' => w'.cell? ⟨gb102, 0, none⟩ = some (.int .i64 ((rd_T73 l0 x7_1).f0)) ∧ w'.cell? ⟨gb102, 1, none⟩ = some (.int .i64 ((rd_T73 l0 x7_1).f1)) ∧ w'.cell? ⟨gb102, 2, none⟩ = some (.int .i64 ((rd_T73 l0 x7_1).f2))) (ds := []) #[false, false, false, false, false, false, false, false, false, false, false, false, false, false, false, false, false, false, false, false, false, false, false, false, false, false, false, false, false, false] (by kernel_rfl) rfl rfl ⟨(blk_cell BK102.out 0).trans rfl, (blk_cell BK102.out 1).trans rfl, (blk_cell BK102.out 2).trans rfl⟩ (fun hHeld => ?_); refine with_tabW impl_itemsOk.tab4 impl_itemsOk.bits4 (fun HT_ HW_ => ?_)
          generalize w29.drew = w30 at BK102 HB hHeld ⊢
          refine pure_ (i := 0) (N := some 12) (v := ?_) (a' := ?_) #[true, false, false, false, false, false, false, false, false, false, false, false, false, false, false, false, false, false, false, false, false, false, false, false, false, false, false, false, false, false] rfl rfl (any_of HT_.out (by kernel_rfl)) (fun _ _ _ h => h) (Or.inl ⟨by rfl, ?_⟩) ?_ ?_
          rotate_left
          ·intro w'
           go_simp
           with_reducible rfl
          rotate_left
          ·simp only [Act.put, List.setIfInBounds_toArray, List.set_cons_zero, List.set_cons_succ, i64_w, i32_w]
           rfl
          refine take_ (i := 1) (N := some 13) (v := ?_) (a' := ?_) #[true, true, false, false, false, false, false, false, false, false, false, false, false, false, false, false, false, false, false, false, false, false, false, false, false, false, false, false, false, false] rfl rfl (take_ofW HT_.out HW_.out (by kernel_rfl)) (fun _ _ _ h => h) (Or.inl ⟨by rfl, ?_⟩) hHeld ?_ ?_
          rotate_left
          ·rintro w' ⟨s0, s1, s2⟩
           go_simp
           with_reducible rfl
          rotate_left
          ·simp only [Act.put, List.setIfInBounds_toArray, List.set_cons_zero, List.set_cons_succ, i64_w, i32_w]
           rfl
          refine pure_ (i := 2) (N := some 14) (v := ?_) (a' := ?_) #[true, true, true, false, false, false, false, false, false, false, false, false, false, false, false, false, false, false, false, false, false, false, false, false, false, false, false, false, false, false] rfl rfl (any_of HT_.out (by kernel_rfl)) (fun _ _ _ h => h) (Or.inl ⟨by rfl, ?_⟩) ?_ ?_
          rotate_left
          ·intro w'
           go_simp
           with_reducible rfl
          rotate_left
          ·simp only [Act.put, List.setIfInBounds_toArray, List.set_cons_zero, List.set_cons_succ, i64_w, i32_w]
           rfl
          refine pure_ (i := 3) (N := some 15) (v := ?_) (a' := ?_) #[true, true, true, true, false, false, false, false, false, false, false, false, false, false, false, false, false, false, false, false, false, false, false, false, false, false, false, false, false, false] rfl rfl (any_of HT_.out (by kernel_rfl)) (fun _ _ _ h => h) (Or.inl ⟨by rfl, ?_⟩) ?_ ?_
          rotate_left
          ·intro w'
           go_simp
           with_reducible rfl
          rotate_left
          ·simp only [Act.put, List.setIfInBounds_toArray, List.set_cons_zero, List.set_cons_succ, i64_w, i32_w]
           rfl
          refine pure_ (i := 4) (N := some 16) (v := ?_) (a' := ?_) #[true, true, true, true, true, false, false, false, false, false, false, false, false, false, false, false, false, false, false, false, false, false, false, false, false, false, false, false, false, false] rfl rfl (any_of HT_.out (by kernel_rfl)) (fun _ _ _ h => h) (Or.inl ⟨by rfl, ?_⟩) ?_ ?_
          rotate_left
          ·intro w'
           go_simp
           with_reducible rfl
          rotate_left
          ·simp only [Act.put, List.setIfInBounds_toArray, List.set_cons_zero, List.set_cons_succ, i64_w, i32_w]
           rfl
          refine take_ (i := 5) (N := some 17) (v := ?_) (a' := ?_) #[true, true, true, true, true, true, false, false, false, false, false, false, false, false, false, false, false, false, false, false, false, false, false, false, false, false, false, false, false, false] rfl rfl (take_ofW HT_.out HW_.out (by kernel_rfl)) (fun _ _ _ h => h) (Or.inl ⟨by rfl, ?_⟩) hHeld ?_ ?_
          rotate_left
          ·rintro w' ⟨s0, s1, s2⟩
           go_simp
           with_reducible rfl
          rotate_left
          ·simp only [Act.put, List.setIfInBounds_toArray, List.set_cons_zero, List.set_cons_succ, i64_w, i32_w]
           rfl
          refine one_ (i := 6) (N := some 18) #[true, true, true, true, true, true, true, false, false, false, false, false, false, false, false, false, false, false, false, false, false, false, false, false, false, false, false, false, false, false] rfl rfl (one_of HT_.out (by kernel_rfl)) (by decide) (fun K hK => ?_)
          refine goes_ Try.func64 (by kernel_rfl) rfl #[.int .i64 ((rd_T73 l0 x7_1).f1), .int .i64 1, .int .i64 1000000000000] (by rfl) rfl rfl (by (try simp only [List.map_toArray, List.map_cons, List.map_nil]); first | done | rfl | (simp only [List.length_drop, List.length_take]; rfl)) ?_
          with_reducible refine (impl_within.calls ((rd_T73 l0 x7_1).f1) 1 1000000000000 true _ A10.out).mono ?_
          rintro e w' ⟨rfl, ⟨nd, rfl⟩⟩
          refine ⟨_, rfl, ?_⟩
          refine hK.out _ _ ⟨(blk_cell BK102.out 0).trans rfl, (blk_cell BK102.out 1).trans rfl, (blk_cell BK102.out 2).trans rfl⟩ (fun hHeld => ?_)
          clear hK K
          refine norm_ (a' := ?_) ?_ ?_
          rotate_left
          ·show Act.put _ (some 18) _ = _
           simp only [Act.put, List.setIfInBounds_toArray, List.set_cons_zero, List.set_cons_succ, i64_w, i32_w]
           rfl
          refine pure_ (i := 7) (N := some 19) (v := ?_) (a' := ?_) #[true, true, true, true, true, true, true, true, false, false, false, false, false, false, false, false, false, false, false, false, false, false, false, false, false, false, false, false, false, false] rfl rfl (any_of HT_.out (by kernel_rfl)) (fun _ _ _ h => h) (Or.inl ⟨by rfl, ?_⟩) ?_ ?_
          rotate_left
          ·intro w'
           go_simp
           with_reducible rfl
          rotate_left
          ·simp only [Act.put, List.setIfInBounds_toArray, List.set_cons_zero, List.set_cons_succ, i64_w, i32_w]
           rfl
          refine pure_ (i := 8) (N := some 20) (v := ?_) (a' := ?_) #[true, true, true, true, true, true, true, true, true, false, false, false, false, false, false, false, false, false, false, false, false, false, false, false, false, false, false, false, false, false] rfl rfl (any_of HT_.out (by kernel_rfl)) (fun _ _ _ h => h) (Or.inl ⟨by rfl, ?_⟩) ?_ ?_
          rotate_left
          ·intro w'
           go_simp
           with_reducible rfl
          rotate_left
          ·simp only [Act.put, List.setIfInBounds_toArray, List.set_cons_zero, List.set_cons_succ, i64_w, i32_w]
           rfl
          refine pure_ (i := 9) (N := some 21) (v := ?_) (a' := ?_) #[true, true, true, true, true, true, true, true, true, true, false, false, false, false, false, false, false, false, false, false, false, false, false, false, false, false, false, false, false, false] rfl rfl (any_of HT_.out (by kernel_rfl)) (fun _ _ _ h => h) (Or.inl ⟨by rfl, ?_⟩) ?_ ?_
          rotate_left
          ·intro w'
           go_simp
           with_reducible rfl
          rotate_left
          ·simp only [Act.put, List.setIfInBounds_toArray, List.set_cons_zero, List.set_cons_succ, i64_w, i32_w]
           rfl
          refine pure_ (i := 10) (N := some 22) (v := ?_) (a' := ?_) #[true, true, true, true, true, true, true, true, true, true, true, false, false, false, false, false, false, false, false, false, false, false, false, false, false, false, false, false, false, false] rfl rfl (any_of HT_.out (by kernel_rfl)) (fun _ _ _ h => h) (Or.inl ⟨by rfl, ?_⟩) ?_ ?_
          rotate_left
          ·intro w'
           go_simp
           with_reducible rfl
          rotate_left
          ·simp only [Act.put, List.setIfInBounds_toArray, List.set_cons_zero, List.set_cons_succ, i64_w, i32_w]
           rfl
          refine take_ (i := 11) (N := some 23) (v := ?_) (a' := ?_) #[true, true, true, true, true, true, true, true, true, true, true, true, false, false, false, false, false, false, false, false, false, false, false, false, false, false, false, false, false, false] rfl rfl (take_ofW HT_.out HW_.out (by kernel_rfl)) (fun _ _ _ h => h) (Or.inl ⟨by rfl, ?_⟩) hHeld ?_ ?_
          rotate_left
          ·rintro w' ⟨s0, s1, s2⟩
           go_simp
           with_reducible rfl
          rotate_left
          ·simp only [Act.put, List.setIfInBounds_toArray, List.set_cons_zero, List.set_cons_succ, i64_w, i32_w]
           rfl
          refine one_ (i := 12) (N := some 24) #[true, true, true, true, true, true, true, true, true, true, true, true, true, false, false, false, false, false, false, false, false, false, false, false, false, false, false, false, false, false] rfl rfl (one_of HT_.out (by kernel_rfl)) (by decide) (fun K hK => ?_)
          refine goes_ Try.func64 (by kernel_rfl) rfl #[.int .i64 ((rd_T73 l0 x7_1).f2), .int .i64 1, .int .i64 1000000000000] (by rfl) rfl rfl (by (try simp only [List.map_toArray, List.map_cons, List.map_nil]); first | done | rfl | (simp only [List.length_drop, List.length_take]; rfl)) ?_
          with_reducible refine (impl_within.calls ((rd_T73 l0 x7_1).f2) 1 1000000000000 true _ A12.out).mono ?_
          rintro e w' ⟨rfl, ⟨nd, rfl⟩⟩
          refine ⟨_, rfl, ?_⟩
          refine hK.out _ _ ⟨(blk_cell BK102.out 0).trans rfl, (blk_cell BK102.out 1).trans rfl, (blk_cell BK102.out 2).trans rfl⟩ (fun hHeld => ?_)
          clear hK K
          refine norm_ (a' := ?_) ?_ ?_
          rotate_left
          ·show Act.put _ (some 24) _ = _
           simp only [Act.put, List.setIfInBounds_toArray, List.set_cons_zero, List.set_cons_succ, i64_w, i32_w]
           rfl
          refine pure_ (i := 13) (N := some 25) (v := ?_) (a' := ?_) #[true, true, true, true, true, true, true, true, true, true, true, true, true, true, false, false, false, false, false, false, false, false, false, false, false, false, false, false, false, false] rfl rfl (any_of HT_.out (by kernel_rfl)) (fun _ _ _ h => h) (Or.inl ⟨by rfl, ?_⟩) ?_ ?_
          rotate_left
          ·intro w'
           go_simp
           with_reducible rfl
          rotate_left
          ·simp only [Act.put, List.setIfInBounds_toArray, List.set_cons_zero, List.set_cons_succ, i64_w, i32_w]
           rfl
          refine pure_ (i := 14) (N := some 26) (v := ?_) (a' := ?_) #[true, true, true, true, true, true, true, true, true, true, true, true, true, true, true, false, false, false, false, false, false, false, false, false, false, false, false, false, false, false] rfl rfl (any_of HT_.out (by kernel_rfl)) (fun _ _ _ h => h) (Or.inl ⟨by rfl, ?_⟩) ?_ ?_
          rotate_left
          ·intro w'
           go_simp
           with_reducible rfl
          rotate_left
          ·simp only [Act.put, List.setIfInBounds_toArray, List.set_cons_zero, List.set_cons_succ, i64_w, i32_w]
           rfl
          refine pure_ (i := 15) (N := some 27) (v := ?_) (a' := ?_) #[true, true, true, true, true, true, true, true, true, true, true, true, true, true, true, true, false, false, false, false, false, false, false, false, false, false, false, false, false, false] rfl rfl (any_of HT_.out (by kernel_rfl)) (fun _ _ _ h => h) (Or.inl ⟨by rfl, ?_⟩) ?_ ?_
          rotate_left
          ·intro w'
           go_simp
           with_reducible rfl
          rotate_left
          ·simp only [Act.put, List.setIfInBounds_toArray, List.set_cons_zero, List.set_cons_succ, i64_w, i32_w]
           rfl
          refine pure_ (i := 16) (N := some 28) (v := ?_) (a' := ?_) #[true, true, true, true, true, true, true, true, true, true, true, true, true, true, true, true, true, false, false, false, false, false, false, false, false, false, false, false, false, false] rfl rfl (any_of HT_.out (by kernel_rfl)) (fun _ _ _ h => h) (Or.inl ⟨by rfl, ?_⟩) ?_ ?_
          rotate_left
          ·intro w'
           go_simp
           with_reducible rfl
          rotate_left
          ·simp only [Act.put, List.setIfInBounds_toArray, List.set_cons_zero, List.set_cons_succ, i64_w, i32_w]
           rfl
          refine pure_ (i := 17) (N := some 29) (v := ?_) (a' := ?_) #[true, true, true, true, true, true, true, true, true, true, true, true, true, true, true, true, true, true, false, false, false, false, false, false, false, false, false, false, false, false] rfl rfl (any_of HT_.out (by kernel_rfl)) (fun _ _ _ h => h) (Or.inl ⟨by rfl, ?_⟩) ?_ ?_
          rotate_left
          ·intro w'
           go_simp
           with_reducible rfl
          rotate_left
          ·simp only [Act.put, List.setIfInBounds_toArray, List.set_cons_zero, List.set_cons_succ, i64_w, i32_w]
           rfl
          refine pure_ (i := 18) (N := some 30) (v := ?_) (a' := ?_) #[true, true, true, true, true, true, true, true, true, true, true, true, true, true, true, true, true, true, true, false, false, false, false, false, false, false, false, false, false, false] rfl rfl (any_of HT_.out (by kernel_rfl)) (fun _ _ _ h => h) (Or.inl ⟨by rfl, ?_⟩) ?_ ?_
          rotate_left
          ·intro w'
           go_simp
           with_reducible rfl
          rotate_left
          ·simp only [Act.put, List.setIfInBounds_toArray, List.set_cons_zero, List.set_cons_succ, i64_w, i32_w]
           rfl
          refine pure_ (i := 19) (N := some 31) (v := undef) (a' := ?_) #[true, true, true, true, true, true, true, true, true, true, true, true, true, true, true, true, true, true, true, true, false, false, false, false, false, false, false, false, false, false] rfl rfl (any_of HT_.out (by kernel_rfl)) (fun _ _ _ h => h) (Or.inr ⟨by rfl, rfl⟩) ?_ ?_
          rotate_left
          ·simp only [Act.put, List.setIfInBounds_toArray, List.set_cons_zero, List.set_cons_succ, i64_w, i32_w]
           rfl
          refine pure_ (i := 20) (N := some 32) (v := undef) (a' := ?_) #[true, true, true, true, true, true, true, true, true, true, true, true, true, true, true, true, true, true, true, true, true, false, false, false, false, false, false, false, false, false] rfl rfl (any_of HT_.out (by kernel_rfl)) (fun _ _ _ h => h) (Or.inr ⟨by rfl, rfl⟩) ?_ ?_
          rotate_left
          ·simp only [Act.put, List.setIfInBounds_toArray, List.set_cons_zero, List.set_cons_succ, i64_w, i32_w]
           rfl
          refine pure_ (i := 21) (N := some 33) (v := undef) (a' := ?_) #[true, true, true, true, true, true, true, true, true, true, true, true, true, true, true, true, true, true, true, true, true, true, false, false, false, false, false, false, false, false] rfl rfl (any_of HT_.out (by kernel_rfl)) (fun _ _ _ h => h) (Or.inr ⟨by rfl, rfl⟩) ?_ ?_
          rotate_left
          ·simp only [Act.put, List.setIfInBounds_toArray, List.set_cons_zero, List.set_cons_succ, i64_w, i32_w]
           rfl
          refine pure_ (i := 22) (N := some 34) (v := undef) (a' := ?_) #[true, true, true, true, true, true, true, true, true, true, true, true, true, true, true, true, true, true, true, true, true, true, true, false, false, false, false, false, false, false] rfl rfl (any_of HT_.out (by kernel_rfl)) (fun _ _ _ h => h) (Or.inr ⟨by rfl, rfl⟩) ?_ ?_
          rotate_left
          ·simp only [Act.put, List.setIfInBounds_toArray, List.set_cons_zero, List.set_cons_succ, i64_w, i32_w]
           rfl
          refine pure_ (i := 23) (N := some 35) (v := undef) (a' := ?_) #[true, true, true, true, true, true, true, true, true, true, true, true, true, true, true, true, true, true, true, true, true, true, true, true, false, false, false, false, false, false] rfl rfl (any_of HT_.out (by kernel_rfl)) (fun _ _ _ h => h) (Or.inr ⟨by rfl, rfl⟩) ?_ ?_
          rotate_left
          ·simp only [Act.put, List.setIfInBounds_toArray, List.set_cons_zero, List.set_cons_succ, i64_w, i32_w]
           rfl
          refine pure_ (i := 24) (N := some 36) (v := undef) (a' := ?_) #[true, true, true, true, true, true, true, true, true, true, true, true, true, true, true, true, true, true, true, true, true, true, true, true, true, false, false, false, false, false] rfl rfl (any_of HT_.out (by kernel_rfl)) (fun _ _ _ h => h) (Or.inr ⟨by rfl, rfl⟩) ?_ ?_
          rotate_left
          ·simp only [Act.put, List.setIfInBounds_toArray, List.set_cons_zero, List.set_cons_succ, i64_w, i32_w]
           rfl
          refine pure_ (i := 25) (N := some 37) (v := undef) (a' := ?_) #[true, true, true, true, true, true, true, true, true, true, true, true, true, true, true, true, true, true, true, true, true, true, true, true, true, true, false, false, false, false] rfl rfl (any_of HT_.out (by kernel_rfl)) (fun _ _ _ h => h) (Or.inr ⟨by rfl, rfl⟩) ?_ ?_
          rotate_left
          ·simp only [Act.put, List.setIfInBounds_toArray, List.set_cons_zero, List.set_cons_succ, i64_w, i32_w]
           rfl
          refine pure_ (i := 26) (N := some 38) (v := undef) (a' := ?_) #[true, true, true, true, true, true, true, true, true, true, true, true, true, true, true, true, true, true, true, true, true, true, true, true, true, true, true, false, false, false] rfl rfl (any_of HT_.out (by kernel_rfl)) (fun _ _ _ h => h) (Or.inr ⟨by rfl, rfl⟩) ?_ ?_
          rotate_left
          ·simp only [Act.put, List.setIfInBounds_toArray, List.set_cons_zero, List.set_cons_succ, i64_w, i32_w]
           rfl
          refine pure_ (i := 27) (N := some 39) (v := undef) (a' := ?_) #[true, true, true, true, true, true, true, true, true, true, true, true, true, true, true, true, true, true, true, true, true, true, true, true, true, true, true, true, false, false] rfl rfl (any_of HT_.out (by kernel_rfl)) (fun _ _ _ h => h) (Or.inr ⟨by rfl, rfl⟩) ?_ ?_
          rotate_left
          ·simp only [Act.put, List.setIfInBounds_toArray, List.set_cons_zero, List.set_cons_succ, i64_w, i32_w]
           rfl
          refine pure_ (i := 28) (N := some 40) (v := ?_) (a' := ?_) #[true, true, true, true, true, true, true, true, true, true, true, true, true, true, true, true, true, true, true, true, true, true, true, true, true, true, true, true, true, false] rfl rfl (any_of HT_.out (by kernel_rfl)) (fun _ _ _ h => h) (Or.inl ⟨by rfl, ?_⟩) ?_ ?_
          rotate_left
          ·intro w'
           go_simp
           with_reducible rfl
          rotate_left
          ·simp only [Act.put, List.setIfInBounds_toArray, List.set_cons_zero, List.set_cons_succ, i64_w, i32_w]
           rfl
          refine pure_ (i := 29) (N := some 41) (v := ?_) (a' := ?_) #[true, true, true, true, true, true, true, true, true, true, true, true, true, true, true, true, true, true, true, true, true, true, true, true, true, true, true, true, true, true] rfl rfl (any_of HT_.out (by kernel_rfl)) (fun _ _ _ h => h) (Or.inl ⟨by rfl, ?_⟩) ?_ ?_
          rotate_left
          ·intro w'
           go_simp
           with_reducible rfl
          rotate_left
          ·simp only [Act.put, List.setIfInBounds_toArray, List.set_cons_zero, List.set_cons_succ, i64_w, i32_w]
           rfl
          refine done_ (done_of HT_.out (by kernel_rfl)) ?_
          try go_wp2
          go_roundg k1
          case measure => have := HK1.out; omega
          case rel => exact ⟨(wrap64 (x7_1 + 1)), (by first | rfl | (simp; done) | (simp [*]; done)), H', ⟨by have := HK1.out; omega⟩, ⟨by repeat (first | (with_reducible first | exact HB.out | apply below_alloc | apply pw_below_drewN | apply below_drew1 | refine below_set ?_ GE102.out) | exact HB.out)⟩⟩
        ·replace c13 := Bool.eq_false_iff.mpr c13
         subst c13
         have H1 : (some false) = some r := by rw [if_neg (show ¬ (false = true) by decide)] at H; exact H
         clear H
         have H := H1
         clear H1
         obtain rfl := Option.some.inj H
         have p101 : 0 ≤ (x7_1 : Int) := of_decide_eq_true (by first | (with_reducible assumption) | assumption)
         have q101 : x7_1 < (l0.length : Int) := of_decide_eq_true (by first | (with_reducible assumption) | assumption)
         obtain ⟨ad101, e101, hx101_0, hx101_1, hx101_2⟩ := at_T73 HR0.out x7_1 p101 q101
         cases e101
         replace hx101_0 := (HB.out.cell (World.block_lt_of_cell? w _ hx101_0)).trans hx101_0
         replace hx101_1 := (HB.out.cell (World.block_lt_of_cell? w _ hx101_1)).trans hx101_1
         replace hx101_2 := (HB.out.cell (World.block_lt_of_cell? w _ hx101_2)).trans hx101_2
         replace p101 := eq_true p101
         replace q101 := eq_true q101
         try go_wp2_with (first | ((with_reducible refine gate_dst (N := 4) rfl ?_); refine box_event ?hg (N := 4) ?hd (cs := #[.int .i64 0, .int .i64 0, .int .i64 0]) (t := 73) ?hr ?_; (case hd => rfl); (case hg => rfl); (case hr => first | (go_simp; done) | (go_simp; rfl)); intro gb102 hg w31 hbox hb; have n0_ := Aside0.mk (below_step (by repeat (first | (with_reducible first | exact HB.out | apply below_alloc | apply pw_below_drewN | apply below_drew1) | exact HB.out)) hb); have n1_ := Aside0.mk (hbox); have n2_ := Aside0.mk ((by rw [hg]; exact (below_size (by repeat (first | (with_reducible first | exact HB.out | apply below_alloc | apply pw_below_drewN | apply below_drew1) | exact HB.out))) : w.heap.size ≤ gb102)); have n3_ := Aside0.mk ((by rw [hg]; exact (below_size (by repeat (first | (with_reducible first | exact HB.out | apply below_alloc | apply pw_below_drewN | apply below_drew1) | exact HB.out))) : w.heap.size ≤ gb102)); clear HB; have HB := n0_; have BK102 := n1_; have GW102 := n2_; have GE102 := n3_; clear n0_ n1_ n2_ n3_; clear hb hbox hg; have hcz32_0 : w31.cell? ⟨gb102, 0, none⟩ = some (.int .i64 0) := (blk_cell BK102.out 0).trans rfl; have hcz32_1 : w31.cell? ⟨gb102, 1, none⟩ = some (.int .i64 0) := (blk_cell BK102.out 1).trans rfl; have hcz32_2 : w31.cell? ⟨gb102, 2, none⟩ = some (.int .i64 0) := (blk_cell BK102.out 2).trans rfl; have hfz32_0 := blk_frozen BK102.out 0; have hfz32_1 := blk_frozen BK102.out 1; have hfz32_2 := blk_frozen BK102.out 2))
         have n0_ : Aside0 ((((w31.setCell ⟨gb102, 0, none⟩ (.int .i64 ((rd_T73 l0 x7_1).f0))).setCell ⟨gb102, 1, none⟩ (.int .i64 ((rd_T73 l0 x7_1).f1))).setCell ⟨gb102, 2, none⟩ (.int .i64 ((rd_T73 l0 x7_1).f2))).heap[gb102]? = some (.cells #[.int .i64 ((rd_T73 l0 x7_1).f0), .int .i64 ((rd_T73 l0 x7_1).f1), .int .i64 ((rd_T73 l0 x7_1).f2)] 73 (0, 0))) := ⟨by (with_reducible repeat (first | refine blk_drewN ?_ _ | refine blk_drew ?_ | refine blk_alloc ?_ _)); refine blk_put (cs := #[.int .i64 ((rd_T73 l0 x7_1).f0), .int .i64 ((rd_T73 l0 x7_1).f1), .int .i64 0]) ?_ 2 _ rfl; (with_reducible repeat (first | refine blk_drewN ?_ _ | refine blk_drew ?_ | refine blk_alloc ?_ _)); refine blk_put (cs := #[.int .i64 ((rd_T73 l0 x7_1).f0), .int .i64 0, .int .i64 0]) ?_ 1 _ rfl; (with_reducible repeat (first | refine blk_drewN ?_ _ | refine blk_drew ?_ | refine blk_alloc ?_ _)); refine blk_put (cs := #[.int .i64 0, .int .i64 0, .int .i64 0]) ?_ 0 _ rfl; (with_reducible repeat (first | refine blk_drewN ?_ _ | refine blk_drew ?_ | refine blk_alloc ?_ _)); exact BK102.out⟩
         have n1_ : Aside0 (Below w.heap.size w (((w31.setCell ⟨gb102, 0, none⟩ (.int .i64 ((rd_T73 l0 x7_1).f0))).setCell ⟨gb102, 1, none⟩ (.int .i64 ((rd_T73 l0 x7_1).f1))).setCell ⟨gb102, 2, none⟩ (.int .i64 ((rd_T73 l0 x7_1).f2)))) := ⟨by repeat (first | (with_reducible first | exact HB.out | apply below_alloc | apply pw_below_drewN | apply below_drew1 | refine below_set ?_ GE102.out) | exact HB.out)⟩
         (try clear BK102)
         (try clear HB)
         generalize (((w31.setCell ⟨gb102, 0, none⟩ (.int .i64 ((rd_T73 l0 x7_1).f0))).setCell ⟨gb102, 1, none⟩ (.int .i64 ((rd_T73 l0 x7_1).f1))).setCell ⟨gb102, 2, none⟩ (.int .i64 ((rd_T73 l0 x7_1).f2))) = w33 at n0_ n1_ ⊢
         have BK102 := n0_
         have HB := n1_
         clear n0_ n1_
         have n0_ := Aside0.mk (blk_drew BK102.out)
         have n1_ := Aside0.mk (below_drew1 HB.out)
         clear BK102
         clear HB
         have BK102 := n0_
         have HB := n1_
         clear n0_ n1_
         refine start_ (n := 30) (S := fun w' => w'.cell? ⟨gb102, 0, none⟩ = some (.int .i64 ((rd_T73 l0 x7_1).f0)) ∧ w'.cell? ⟨gb102, 1, none⟩ = some (.int .i64 ((rd_T73 l0 x7_1).f1)) ∧ w'.cell? ⟨gb102, 2, none⟩ = some (.int .i64 ((rd_T73 l0 x7_1).f2))) (ds := []) #[false, false, false, false, false, false, false, false, false, false, false, false, false, false, false, false, false, false, false, false, false, false, false, false, false, false, false, false, false, false] (by kernel_rfl) rfl rfl ⟨(blk_cell BK102.out 0).trans rfl, (blk_cell BK102.out 1).trans rfl, (blk_cell BK102.out 2).trans rfl⟩ (fun hHeld => ?_); refine with_tabW impl_itemsOk.tab4 impl_itemsOk.bits4 (fun HT_ HW_ => ?_)
         generalize w33.drew = w34 at BK102 HB hHeld ⊢
         refine pure_ (i := 0) (N := some 12) (v := ?_) (a' := ?_) #[true, false, false, false, false, false, false, false, false, false, false, false, false, false, false, false, false, false, false, false, false, false, false, false, false, false, false, false, false, false] rfl rfl (any_of HT_.out (by kernel_rfl)) (fun _ _ _ h => h) (Or.inl ⟨by rfl, ?_⟩) ?_ ?_
         rotate_left
         ·intro w'
          go_simp
          with_reducible rfl
         rotate_left
         ·simp only [Act.put, List.setIfInBounds_toArray, List.set_cons_zero, List.set_cons_succ, i64_w, i32_w]
          rfl
         refine take_ (i := 1) (N := some 13) (v := ?_) (a' := ?_) #[true, true, false, false, false, false, false, false, false, false, false, false, false, false, false, false, false, false, false, false, false, false, false, false, false, false, false, false, false, false] rfl rfl (take_ofW HT_.out HW_.out (by kernel_rfl)) (fun _ _ _ h => h) (Or.inl ⟨by rfl, ?_⟩) hHeld ?_ ?_
         rotate_left
         ·rintro w' ⟨s0, s1, s2⟩
          go_simp
          with_reducible rfl
         rotate_left
         ·simp only [Act.put, List.setIfInBounds_toArray, List.set_cons_zero, List.set_cons_succ, i64_w, i32_w]
          rfl
         refine pure_ (i := 2) (N := some 14) (v := ?_) (a' := ?_) #[true, true, true, false, false, false, false, false, false, false, false, false, false, false, false, false, false, false, false, false, false, false, false, false, false, false, false, false, false, false] rfl rfl (any_of HT_.out (by kernel_rfl)) (fun _ _ _ h => h) (Or.inl ⟨by rfl, ?_⟩) ?_ ?_
         rotate_left
         ·intro w'
          go_simp
          with_reducible rfl
         rotate_left
         ·simp only [Act.put, List.setIfInBounds_toArray, List.set_cons_zero, List.set_cons_succ, i64_w, i32_w]
          rfl
         refine pure_ (i := 3) (N := some 15) (v := ?_) (a' := ?_) #[true, true, true, true, false, false, false, false, false, false, false, false, false, false, false, false, false, false, false, false, false, false, false, false, false, false, false, false, false, false] rfl rfl (any_of HT_.out (by kernel_rfl)) (fun _ _ _ h => h) (Or.inl ⟨by rfl, ?_⟩) ?_ ?_
         rotate_left
         ·intro w'
          go_simp
          with_reducible rfl
         rotate_left
         ·simp only [Act.put, List.setIfInBounds_toArray, List.set_cons_zero, List.set_cons_succ, i64_w, i32_w]
          rfl
         refine pure_ (i := 4) (N := some 16) (v := ?_) (a' := ?_) #[true, true, true, true, true, false, false, false, false, false, false, false, false, false, false, false, false, false, false, false, false, false, false, false, false, false, false, false, false, false] rfl rfl (any_of HT_.out (by kernel_rfl)) (fun _ _ _ h => h) (Or.inl ⟨by rfl, ?_⟩) ?_ ?_
         rotate_left
         ·intro w'
          go_simp
          with_reducible rfl
         rotate_left
         ·simp only [Act.put, List.setIfInBounds_toArray, List.set_cons_zero, List.set_cons_succ, i64_w, i32_w]
          rfl
         refine take_ (i := 5) (N := some 17) (v := ?_) (a' := ?_) #[true, true, true, true, true, true, false, false, false, false, false, false, false, false, false, false, false, false, false, false, false, false, false, false, false, false, false, false, false, false] rfl rfl (take_ofW HT_.out HW_.out (by kernel_rfl)) (fun _ _ _ h => h) (Or.inl ⟨by rfl, ?_⟩) hHeld ?_ ?_
         rotate_left
         ·rintro w' ⟨s0, s1, s2⟩
          go_simp
          with_reducible rfl
         rotate_left
         ·simp only [Act.put, List.setIfInBounds_toArray, List.set_cons_zero, List.set_cons_succ, i64_w, i32_w]
          rfl
         refine one_ (i := 6) (N := some 18) #[true, true, true, true, true, true, true, false, false, false, false, false, false, false, false, false, false, false, false, false, false, false, false, false, false, false, false, false, false, false] rfl rfl (one_of HT_.out (by kernel_rfl)) (by decide) (fun K hK => ?_)
         refine goes_ Try.func64 (by kernel_rfl) rfl #[.int .i64 ((rd_T73 l0 x7_1).f1), .int .i64 1, .int .i64 1000000000000] (by rfl) rfl rfl (by (try simp only [List.map_toArray, List.map_cons, List.map_nil]); first | done | rfl | (simp only [List.length_drop, List.length_take]; rfl)) ?_
         with_reducible refine (impl_within.calls ((rd_T73 l0 x7_1).f1) 1 1000000000000 true _ A10.out).mono ?_
         rintro e w' ⟨rfl, ⟨nd, rfl⟩⟩
         refine ⟨_, rfl, ?_⟩
         refine hK.out _ _ ⟨(blk_cell BK102.out 0).trans rfl, (blk_cell BK102.out 1).trans rfl, (blk_cell BK102.out 2).trans rfl⟩ (fun hHeld => ?_)
         clear hK K
         refine norm_ (a' := ?_) ?_ ?_
         rotate_left
         ·show Act.put _ (some 18) _ = _
          simp only [Act.put, List.setIfInBounds_toArray, List.set_cons_zero, List.set_cons_succ, i64_w, i32_w]
          rfl
         refine pure_ (i := 7) (N := some 19) (v := ?_) (a' := ?_) #[true, true, true, true, true, true, true, true, false, false, false, false, false, false, false, false, false, false, false, false, false, false, false, false, false, false, false, false, false, false] rfl rfl (any_of HT_.out (by kernel_rfl)) (fun _ _ _ h => h) (Or.inl ⟨by rfl, ?_⟩) ?_ ?_
         rotate_left
         ·intro w'
          go_simp
          with_reducible rfl
         rotate_left
         ·simp only [Act.put, List.setIfInBounds_toArray, List.set_cons_zero, List.set_cons_succ, i64_w, i32_w]
          rfl
         refine pure_ (i := 8) (N := some 20) (v := ?_) (a' := ?_) #[true, true, true, true, true, true, true, true, true, false, false, false, false, false, false, false, false, false, false, false, false, false, false, false, false, false, false, false, false, false] rfl rfl (any_of HT_.out (by kernel_rfl)) (fun _ _ _ h => h) (Or.inl ⟨by rfl, ?_⟩) ?_ ?_
         rotate_left
         ·intro w'
          go_simp
          with_reducible rfl
         rotate_left
         ·simp only [Act.put, List.setIfInBounds_toArray, List.set_cons_zero, List.set_cons_succ, i64_w, i32_w]
          rfl
         refine pure_ (i := 9) (N := some 21) (v := ?_) (a' := ?_) #[true, true, true, true, true, true, true, true, true, true, false, false, false, false, false, false, false, false, false, false, false, false, false, false, false, false, false, false, false, false] rfl rfl (any_of HT_.out (by kernel_rfl)) (fun _ _ _ h => h) (Or.inl ⟨by rfl, ?_⟩) ?_ ?_
         rotate_left
         ·intro w'
          go_simp
          with_reducible rfl
         rotate_left
         ·simp only [Act.put, List.setIfInBounds_toArray, List.set_cons_zero, List.set_cons_succ, i64_w, i32_w]
          rfl
         refine pure_ (i := 10) (N := some 22) (v := ?_) (a' := ?_) #[true, true, true, true, true, true, true, true, true, true, true, false, false, false, false, false, false, false, false, false, false, false, false, false, false, false, false, false, false, false] rfl rfl (any_of HT_.out (by kernel_rfl)) (fun _ _ _ h => h) (Or.inl ⟨by rfl, ?_⟩) ?_ ?_
         rotate_left
         ·intro w'
          go_simp
          with_reducible rfl
         rotate_left
         ·simp only [Act.put, List.setIfInBounds_toArray, List.set_cons_zero, List.set_cons_succ, i64_w, i32_w]
          rfl
         refine take_ (i := 11) (N := some 23) (v := ?_) (a' := ?_) #[true, true, true, true, true, true, true, true, true, true, true, true, false, false, false, false, false, false, false, false, false, false, false, false, false, false, false, false, false, false] rfl rfl (take_ofW HT_.out HW_.out (by kernel_rfl)) (fun _ _ _ h => h) (Or.inl ⟨by rfl, ?_⟩) hHeld ?_ ?_
         rotate_left
         ·rintro w' ⟨s0, s1, s2⟩
          go_simp
          with_reducible rfl
         rotate_left
         ·simp only [Act.put, List.setIfInBounds_toArray, List.set_cons_zero, List.set_cons_succ, i64_w, i32_w]
          rfl
         refine one_ (i := 12) (N := some 24) #[true, true, true, true, true, true, true, true, true, true, true, true, true, false, false, false, false, false, false, false, false, false, false, false, false, false, false, false, false, false] rfl rfl (one_of HT_.out (by kernel_rfl)) (by decide) (fun K hK => ?_)
         refine goes_ Try.func64 (by kernel_rfl) rfl #[.int .i64 ((rd_T73 l0 x7_1).f2), .int .i64 1, .int .i64 1000000000000] (by rfl) rfl rfl (by (try simp only [List.map_toArray, List.map_cons, List.map_nil]); first | done | rfl | (simp only [List.length_drop, List.length_take]; rfl)) ?_
         with_reducible refine (impl_within.calls ((rd_T73 l0 x7_1).f2) 1 1000000000000 false _ A12.out).mono ?_
         rintro e w' ⟨rfl, ⟨nd, rfl⟩⟩
         refine ⟨_, rfl, ?_⟩
         refine hK.out _ _ ⟨(blk_cell BK102.out 0).trans rfl, (blk_cell BK102.out 1).trans rfl, (blk_cell BK102.out 2).trans rfl⟩ (fun hHeld => ?_)
         clear hK K
         refine norm_ (a' := ?_) ?_ ?_
         rotate_left
         ·show Act.put _ (some 24) _ = _
          simp only [Act.put, List.setIfInBounds_toArray, List.set_cons_zero, List.set_cons_succ, i64_w, i32_w]
          rfl
         refine pure_ (i := 13) (N := some 25) (v := ?_) (a' := ?_) #[true, true, true, true, true, true, true, true, true, true, true, true, true, true, false, false, false, false, false, false, false, false, false, false, false, false, false, false, false, false] rfl rfl (any_of HT_.out (by kernel_rfl)) (fun _ _ _ h => h) (Or.inl ⟨by rfl, ?_⟩) ?_ ?_
         rotate_left
         ·intro w'
          go_simp
          with_reducible rfl
         rotate_left
         ·simp only [Act.put, List.setIfInBounds_toArray, List.set_cons_zero, List.set_cons_succ, i64_w, i32_w]
          rfl
         refine pure_ (i := 14) (N := some 26) (v := ?_) (a' := ?_) #[true, true, true, true, true, true, true, true, true, true, true, true, true, true, true, false, false, false, false, false, false, false, false, false, false, false, false, false, false, false] rfl rfl (any_of HT_.out (by kernel_rfl)) (fun _ _ _ h => h) (Or.inl ⟨by rfl, ?_⟩) ?_ ?_
         rotate_left
         ·intro w'
          go_simp
          with_reducible rfl
         rotate_left
         ·simp only [Act.put, List.setIfInBounds_toArray, List.set_cons_zero, List.set_cons_succ, i64_w, i32_w]
          rfl
         refine pure_ (i := 15) (N := some 27) (v := ?_) (a' := ?_) #[true, true, true, true, true, true, true, true, true, true, true, true, true, true, true, true, false, false, false, false, false, false, false, false, false, false, false, false, false, false] rfl rfl (any_of HT_.out (by kernel_rfl)) (fun _ _ _ h => h) (Or.inl ⟨by rfl, ?_⟩) ?_ ?_
         rotate_left
         ·intro w'
          go_simp
          with_reducible rfl
         rotate_left
         ·simp only [Act.put, List.setIfInBounds_toArray, List.set_cons_zero, List.set_cons_succ, i64_w, i32_w]
          rfl
         refine pure_ (i := 16) (N := some 28) (v := undef) (a' := ?_) #[true, true, true, true, true, true, true, true, true, true, true, true, true, true, true, true, true, false, false, false, false, false, false, false, false, false, false, false, false, false] rfl rfl (any_of HT_.out (by kernel_rfl)) (fun _ _ _ h => h) (Or.inr ⟨by rfl, rfl⟩) ?_ ?_
         rotate_left
         ·simp only [Act.put, List.setIfInBounds_toArray, List.set_cons_zero, List.set_cons_succ, i64_w, i32_w]
          rfl
         refine pure_ (i := 17) (N := some 29) (v := undef) (a' := ?_) #[true, true, true, true, true, true, true, true, true, true, true, true, true, true, true, true, true, true, false, false, false, false, false, false, false, false, false, false, false, false] rfl rfl (any_of HT_.out (by kernel_rfl)) (fun _ _ _ h => h) (Or.inr ⟨by rfl, rfl⟩) ?_ ?_
         rotate_left
         ·simp only [Act.put, List.setIfInBounds_toArray, List.set_cons_zero, List.set_cons_succ, i64_w, i32_w]
          rfl
         refine pure_ (i := 18) (N := some 30) (v := undef) (a' := ?_) #[true, true, true, true, true, true, true, true, true, true, true, true, true, true, true, true, true, true, true, false, false, false, false, false, false, false, false, false, false, false] rfl rfl (any_of HT_.out (by kernel_rfl)) (fun _ _ _ h => h) (Or.inr ⟨by rfl, rfl⟩) ?_ ?_
         rotate_left
         ·simp only [Act.put, List.setIfInBounds_toArray, List.set_cons_zero, List.set_cons_succ, i64_w, i32_w]
          rfl
         refine pure_ (i := 19) (N := some 31) (v := undef) (a' := ?_) #[true, true, true, true, true, true, true, true, true, true, true, true, true, true, true, true, true, true, true, true, false, false, false, false, false, false, false, false, false, false] rfl rfl (any_of HT_.out (by kernel_rfl)) (fun _ _ _ h => h) (Or.inr ⟨by rfl, rfl⟩) ?_ ?_
         rotate_left
         ·simp only [Act.put, List.setIfInBounds_toArray, List.set_cons_zero, List.set_cons_succ, i64_w, i32_w]
          rfl
         refine pure_ (i := 20) (N := some 32) (v := undef) (a' := ?_) #[true, true, true, true, true, true, true, true, true, true, true, true, true, true, true, true, true, true, true, true, true, false, false, false, false, false, false, false, false, false] rfl rfl (any_of HT_.out (by kernel_rfl)) (fun _ _ _ h => h) (Or.inr ⟨by rfl, rfl⟩) ?_ ?_
         rotate_left
         ·simp only [Act.put, List.setIfInBounds_toArray, List.set_cons_zero, List.set_cons_succ, i64_w, i32_w]
          rfl
         refine pure_ (i := 21) (N := some 33) (v := undef) (a' := ?_) #[true, true, true, true, true, true, true, true, true, true, true, true, true, true, true, true, true, true, true, true, true, true, false, false, false, false, false, false, false, false] rfl rfl (any_of HT_.out (by kernel_rfl)) (fun _ _ _ h => h) (Or.inr ⟨by rfl, rfl⟩) ?_ ?_
         rotate_left
         ·simp only [Act.put, List.setIfInBounds_toArray, List.set_cons_zero, List.set_cons_succ, i64_w, i32_w]
          rfl
         refine pure_ (i := 22) (N := some 34) (v := undef) (a' := ?_) #[true, true, true, true, true, true, true, true, true, true, true, true, true, true, true, true, true, true, true, true, true, true, true, false, false, false, false, false, false, false] rfl rfl (any_of HT_.out (by kernel_rfl)) (fun _ _ _ h => h) (Or.inr ⟨by rfl, rfl⟩) ?_ ?_
         rotate_left
         ·simp only [Act.put, List.setIfInBounds_toArray, List.set_cons_zero, List.set_cons_succ, i64_w, i32_w]
          rfl
         refine pure_ (i := 23) (N := some 35) (v := undef) (a' := ?_) #[true, true, true, true, true, true, true, true, true, true, true, true, true, true, true, true, true, true, true, true, true, true, true, true, false, false, false, false, false, false] rfl rfl (any_of HT_.out (by kernel_rfl)) (fun _ _ _ h => h) (Or.inr ⟨by rfl, rfl⟩) ?_ ?_
         rotate_left
         ·simp only [Act.put, List.setIfInBounds_toArray, List.set_cons_zero, List.set_cons_succ, i64_w, i32_w]
          rfl
         refine pure_ (i := 24) (N := some 36) (v := undef) (a' := ?_) #[true, true, true, true, true, true, true, true, true, true, true, true, true, true, true, true, true, true, true, true, true, true, true, true, true, false, false, false, false, false] rfl rfl (any_of HT_.out (by kernel_rfl)) (fun _ _ _ h => h) (Or.inr ⟨by rfl, rfl⟩) ?_ ?_
         rotate_left
         ·simp only [Act.put, List.setIfInBounds_toArray, List.set_cons_zero, List.set_cons_succ, i64_w, i32_w]
          rfl
         refine pure_ (i := 25) (N := some 37) (v := undef) (a' := ?_) #[true, true, true, true, true, true, true, true, true, true, true, true, true, true, true, true, true, true, true, true, true, true, true, true, true, true, false, false, false, false] rfl rfl (any_of HT_.out (by kernel_rfl)) (fun _ _ _ h => h) (Or.inr ⟨by rfl, rfl⟩) ?_ ?_
         rotate_left
         ·simp only [Act.put, List.setIfInBounds_toArray, List.set_cons_zero, List.set_cons_succ, i64_w, i32_w]
          rfl
         refine pure_ (i := 26) (N := some 38) (v := undef) (a' := ?_) #[true, true, true, true, true, true, true, true, true, true, true, true, true, true, true, true, true, true, true, true, true, true, true, true, true, true, true, false, false, false] rfl rfl (any_of HT_.out (by kernel_rfl)) (fun _ _ _ h => h) (Or.inr ⟨by rfl, rfl⟩) ?_ ?_
         rotate_left
         ·simp only [Act.put, List.setIfInBounds_toArray, List.set_cons_zero, List.set_cons_succ, i64_w, i32_w]
          rfl
         refine pure_ (i := 27) (N := some 39) (v := undef) (a' := ?_) #[true, true, true, true, true, true, true, true, true, true, true, true, true, true, true, true, true, true, true, true, true, true, true, true, true, true, true, true, false, false] rfl rfl (any_of HT_.out (by kernel_rfl)) (fun _ _ _ h => h) (Or.inr ⟨by rfl, rfl⟩) ?_ ?_
         rotate_left
         ·simp only [Act.put, List.setIfInBounds_toArray, List.set_cons_zero, List.set_cons_succ, i64_w, i32_w]
          rfl
         refine pure_ (i := 28) (N := some 40) (v := undef) (a' := ?_) #[true, true, true, true, true, true, true, true, true, true, true, true, true, true, true, true, true, true, true, true, true, true, true, true, true, true, true, true, true, false] rfl rfl (any_of HT_.out (by kernel_rfl)) (fun _ _ _ h => h) (Or.inr ⟨by rfl, rfl⟩) ?_ ?_
         rotate_left
         ·simp only [Act.put, List.setIfInBounds_toArray, List.set_cons_zero, List.set_cons_succ, i64_w, i32_w]
          rfl
         refine pure_ (i := 29) (N := some 41) (v := ?_) (a' := ?_) #[true, true, true, true, true, true, true, true, true, true, true, true, true, true, true, true, true, true, true, true, true, true, true, true, true, true, true, true, true, true] rfl rfl (any_of HT_.out (by kernel_rfl)) (fun _ _ _ h => h) (Or.inl ⟨by rfl, ?_⟩) ?_ ?_
         rotate_left
         ·intro w'
          go_simp
          with_reducible rfl
         rotate_left
         ·simp only [Act.put, List.setIfInBounds_toArray, List.set_cons_zero, List.set_cons_succ, i64_w, i32_w]
          rfl
         refine done_ (done_of HT_.out (by kernel_rfl)) ?_
         try go_wp2
         go_ret
         exact ⟨by first | rfl | (simp [errW_none, errW_some] <;> rfl) | (simp [*, errW_none, errW_some] <;> rfl), by repeat (first | (with_reducible first | exact HB.out | apply below_alloc | apply pw_below_drewN | apply below_drew1 | refine below_set ?_ GE102.out) | exact HB.out)⟩
       ·replace c11 := Bool.eq_false_iff.mpr c11
        subst c11
        have H1 : (some false) = some r := by rw [if_neg (show ¬ (false = true) by decide)] at H; exact H
        clear H
        have H := H1
        clear H1
        obtain rfl := Option.some.inj H
        have p101 : 0 ≤ (x7_1 : Int) := of_decide_eq_true (by first | (with_reducible assumption) | assumption)
        have q101 : x7_1 < (l0.length : Int) := of_decide_eq_true (by first | (with_reducible assumption) | assumption)
        obtain ⟨ad101, e101, hx101_0, hx101_1, hx101_2⟩ := at_T73 HR0.out x7_1 p101 q101
        cases e101
        replace hx101_0 := (HB.out.cell (World.block_lt_of_cell? w _ hx101_0)).trans hx101_0
        replace hx101_1 := (HB.out.cell (World.block_lt_of_cell? w _ hx101_1)).trans hx101_1
        replace hx101_2 := (HB.out.cell (World.block_lt_of_cell? w _ hx101_2)).trans hx101_2
        replace p101 := eq_true p101
        replace q101 := eq_true q101
        try go_wp2_with (first | ((with_reducible refine gate_dst (N := 4) rfl ?_); refine box_event ?hg (N := 4) ?hd (cs := #[.int .i64 0, .int .i64 0, .int .i64 0]) (t := 73) ?hr ?_; (case hd => rfl); (case hg => rfl); (case hr => first | (go_simp; done) | (go_simp; rfl)); intro gb102 hg w35 hbox hb; have n0_ := Aside0.mk (below_step (by repeat (first | (with_reducible first | exact HB.out | apply below_alloc | apply pw_below_drewN | apply below_drew1) | exact HB.out)) hb); have n1_ := Aside0.mk (hbox); have n2_ := Aside0.mk ((by rw [hg]; exact (below_size (by repeat (first | (with_reducible first | exact HB.out | apply below_alloc | apply pw_below_drewN | apply below_drew1) | exact HB.out))) : w.heap.size ≤ gb102)); have n3_ := Aside0.mk ((by rw [hg]; exact (below_size (by repeat (first | (with_reducible first | exact HB.out | apply below_alloc | apply pw_below_drewN | apply below_drew1) | exact HB.out))) : w.heap.size ≤ gb102)); clear HB; have HB := n0_; have BK102 := n1_; have GW102 := n2_; have GE102 := n3_; clear n0_ n1_ n2_ n3_; clear hb hbox hg; have hcz36_0 : w35.cell? ⟨gb102, 0, none⟩ = some (.int .i64 0) := (blk_cell BK102.out 0).trans rfl; have hcz36_1 : w35.cell? ⟨gb102, 1, none⟩ = some (.int .i64 0) := (blk_cell BK102.out 1).trans rfl; have hcz36_2 : w35.cell? ⟨gb102, 2, none⟩ = some (.int .i64 0) := (blk_cell BK102.out 2).trans rfl; have hfz36_0 := blk_frozen BK102.out 0; have hfz36_1 := blk_frozen BK102.out 1; have hfz36_2 := blk_frozen BK102.out 2))
        have n0_ : Aside0 ((((w35.setCell ⟨gb102, 0, none⟩ (.int .i64 ((rd_T73 l0 x7_1).f0))).setCell ⟨gb102, 1, none⟩ (.int .i64 ((rd_T73 l0 x7_1).f1))).setCell ⟨gb102, 2, none⟩ (.int .i64 ((rd_T73 l0 x7_1).f2))).heap[gb102]? = some (.cells #[.int .i64 ((rd_T73 l0 x7_1).f0), .int .i64 ((rd_T73 l0 x7_1).f1), .int .i64 ((rd_T73 l0 x7_1).f2)] 73 (0, 0))) := ⟨by (with_reducible repeat (first | refine blk_drewN ?_ _ | refine blk_drew ?_ | refine blk_alloc ?_ _)); refine blk_put (cs := #[.int .i64 ((rd_T73 l0 x7_1).f0), .int .i64 ((rd_T73 l0 x7_1).f1), .int .i64 0]) ?_ 2 _ rfl; (with_reducible repeat (first | refine blk_drewN ?_ _ | refine blk_drew ?_ | refine blk_alloc ?_ _)); refine blk_put (cs := #[.int .i64 ((rd_T73 l0 x7_1).f0), .int .i64 0, .int .i64 0]) ?_ 1 _ rfl; (with_reducible repeat (first | refine blk_drewN ?_ _ | refine blk_drew ?_ | refine blk_alloc ?_ _)); refine blk_put (cs := #[.int .i64 0, .int .i64 0, .int .i64 0]) ?_ 0 _ rfl; (with_reducible repeat (first | refine blk_drewN ?_ _ | refine blk_drew ?_ | refine blk_alloc ?_ _)); exact BK102.out⟩
        have n1_ : Aside0 (Below w.heap.size w (((w35.setCell ⟨gb102, 0, none⟩ (.int .i64 ((rd_T73 l0 x7_1).f0))).setCell ⟨gb102, 1, none⟩ (.int .i64 ((rd_T73 l0 x7_1).f1))).setCell ⟨gb102, 2, none⟩ (.int .i64 ((rd_T73 l0 x7_1).f2)))) := ⟨by repeat (first | (with_reducible first | exact HB.out | apply below_alloc | apply pw_below_drewN | apply below_drew1 | refine below_set ?_ GE102.out) | exact HB.out)⟩
        (try clear BK102)
        (try clear HB)
        generalize (((w35.setCell ⟨gb102, 0, none⟩ (.int .i64 ((rd_T73 l0 x7_1).f0))).setCell ⟨gb102, 1, none⟩ (.int .i64 ((rd_T73 l0 x7_1).f1))).setCell ⟨gb102, 2, none⟩ (.int .i64 ((rd_T73 l0 x7_1).f2))) = w37 at n0_ n1_ ⊢
        have BK102 := n0_
        have HB := n1_
        clear n0_ n1_
        have n0_ := Aside0.mk (blk_drew BK102.out)
        have n1_ := Aside0.mk (below_drew1 HB.out)
        clear BK102
        clear HB
        have BK102 := n0_
        have HB := n1_
        clear n0_ n1_
        refine start_ (n := 30) (S := fun w' => w'.cell? ⟨gb102, 0, none⟩ = some (.int .i64 ((rd_T73 l0 x7_1).f0)) ∧ w'.cell? ⟨gb102, 1, none⟩ = some (.int .i64 ((rd_T73 l0 x7_1).f1)) ∧ w'.cell? ⟨gb102, 2, none⟩ = some (.int .i64 ((rd_T73 l0 x7_1).f2))) (ds := []) #[false, false, false, false, false, false, false, false, false, false, false, false, false, false, false, false, false, false, false, false, false, false, false, false, false, false, false, false, false, false] (by kernel_rfl) rfl rfl ⟨(blk_cell BK102.out 0).trans rfl, (blk_cell BK102.out 1).trans rfl, (blk_cell BK102.out 2).trans rfl⟩ (fun hHeld => ?_); refine with_tabW impl_itemsOk.tab4 impl_itemsOk.bits4 (fun HT_ HW_ => ?_)
        generalize w37.drew = w38 at BK102 HB hHeld ⊢
        refine pure_ (i := 0) (N := some 12) (v := ?_) (a' := ?_) #[true, false, false, false, false, false, false, false, false, false, false, false, false, false, false, false, false, false, false, false, false, false, false, false, false, false, false, false, false, false] rfl rfl (any_of HT_.out (by kernel_rfl)) (fun _ _ _ h => h) (Or.inl ⟨by rfl, ?_⟩) ?_ ?_
        rotate_left
        ·intro w'
         go_simp
         with_reducible rfl
        rotate_left
        ·simp only [Act.put, List.setIfInBounds_toArray, List.set_cons_zero, List.set_cons_succ, i64_w, i32_w]
         rfl
        refine take_ (i := 1) (N := some 13) (v := ?_) (a' := ?_) #[true, true, false, false, false, false, false, false, false, false, false, false, false, false, false, false, false, false, false, false, false, false, false, false, false, false, false, false, false, false] rfl rfl (take_ofW HT_.out HW_.out (by kernel_rfl)) (fun _ _ _ h => h) (Or.inl ⟨by rfl, ?_⟩) hHeld ?_ ?_
        rotate_left
        ·rintro w' ⟨s0, s1, s2⟩
         go_simp
         with_reducible rfl
        rotate_left
        ·simp only [Act.put, List.setIfInBounds_toArray, List.set_cons_zero, List.set_cons_succ, i64_w, i32_w]
         rfl
        refine pure_ (i := 2) (N := some 14) (v := ?_) (a' := ?_) #[true, true, true, false, false, false, false, false, false, false, false, false, false, false, false, false, false, false, false, false, false, false, false, false, false, false, false, false, false, false] rfl rfl (any_of HT_.out (by kernel_rfl)) (fun _ _ _ h => h) (Or.inl ⟨by rfl, ?_⟩) ?_ ?_
        rotate_left
        ·intro w'
         go_simp
         with_reducible rfl
        rotate_left
        ·simp only [Act.put, List.setIfInBounds_toArray, List.set_cons_zero, List.set_cons_succ, i64_w, i32_w]
         rfl
        refine pure_ (i := 3) (N := some 15) (v := ?_) (a' := ?_) #[true, true, true, true, false, false, false, false, false, false, false, false, false, false, false, false, false, false, false, false, false, false, false, false, false, false, false, false, false, false] rfl rfl (any_of HT_.out (by kernel_rfl)) (fun _ _ _ h => h) (Or.inl ⟨by rfl, ?_⟩) ?_ ?_
        rotate_left
        ·intro w'
         go_simp
         with_reducible rfl
        rotate_left
        ·simp only [Act.put, List.setIfInBounds_toArray, List.set_cons_zero, List.set_cons_succ, i64_w, i32_w]
         rfl
        refine pure_ (i := 4) (N := some 16) (v := ?_) (a' := ?_) #[true, true, true, true, true, false, false, false, false, false, false, false, false, false, false, false, false, false, false, false, false, false, false, false, false, false, false, false, false, false] rfl rfl (any_of HT_.out (by kernel_rfl)) (fun _ _ _ h => h) (Or.inl ⟨by rfl, ?_⟩) ?_ ?_
        rotate_left
        ·intro w'
         go_simp
         with_reducible rfl
        rotate_left
        ·simp only [Act.put, List.setIfInBounds_toArray, List.set_cons_zero, List.set_cons_succ, i64_w, i32_w]
         rfl
        refine take_ (i := 5) (N := some 17) (v := ?_) (a' := ?_) #[true, true, true, true, true, true, false, false, false, false, false, false, false, false, false, false, false, false, false, false, false, false, false, false, false, false, false, false, false, false] rfl rfl (take_ofW HT_.out HW_.out (by kernel_rfl)) (fun _ _ _ h => h) (Or.inl ⟨by rfl, ?_⟩) hHeld ?_ ?_
        rotate_left
        ·rintro w' ⟨s0, s1, s2⟩
         go_simp
         with_reducible rfl
        rotate_left
        ·simp only [Act.put, List.setIfInBounds_toArray, List.set_cons_zero, List.set_cons_succ, i64_w, i32_w]
         rfl
        refine one_ (i := 6) (N := some 18) #[true, true, true, true, true, true, true, false, false, false, false, false, false, false, false, false, false, false, false, false, false, false, false, false, false, false, false, false, false, false] rfl rfl (one_of HT_.out (by kernel_rfl)) (by decide) (fun K hK => ?_)
        refine goes_ Try.func64 (by kernel_rfl) rfl #[.int .i64 ((rd_T73 l0 x7_1).f1), .int .i64 1, .int .i64 1000000000000] (by rfl) rfl rfl (by (try simp only [List.map_toArray, List.map_cons, List.map_nil]); first | done | rfl | (simp only [List.length_drop, List.length_take]; rfl)) ?_
        with_reducible refine (impl_within.calls ((rd_T73 l0 x7_1).f1) 1 1000000000000 false _ A10.out).mono ?_
        rintro e w' ⟨rfl, ⟨nd, rfl⟩⟩
        refine ⟨_, rfl, ?_⟩
        refine hK.out _ _ ⟨(blk_cell BK102.out 0).trans rfl, (blk_cell BK102.out 1).trans rfl, (blk_cell BK102.out 2).trans rfl⟩ (fun hHeld => ?_)
        clear hK K
        refine norm_ (a' := ?_) ?_ ?_
        rotate_left
        ·show Act.put _ (some 18) _ = _
         simp only [Act.put, List.setIfInBounds_toArray, List.set_cons_zero, List.set_cons_succ, i64_w, i32_w]
         rfl
        refine pure_ (i := 7) (N := some 19) (v := ?_) (a' := ?_) #[true, true, true, true, true, true, true, true, false, false, false, false, false, false, false, false, false, false, false, false, false, false, false, false, false, false, false, false, false, false] rfl rfl (any_of HT_.out (by kernel_rfl)) (fun _ _ _ h => h) (Or.inl ⟨by rfl, ?_⟩) ?_ ?_
        rotate_left
        ·intro w'
         go_simp
         with_reducible rfl
        rotate_left
        ·simp only [Act.put, List.setIfInBounds_toArray, List.set_cons_zero, List.set_cons_succ, i64_w, i32_w]
         rfl
        refine pure_ (i := 8) (N := some 20) (v := ?_) (a' := ?_) #[true, true, true, true, true, true, true, true, true, false, false, false, false, false, false, false, false, false, false, false, false, false, false, false, false, false, false, false, false, false] rfl rfl (any_of HT_.out (by kernel_rfl)) (fun _ _ _ h => h) (Or.inl ⟨by rfl, ?_⟩) ?_ ?_
        rotate_left
        ·intro w'
         go_simp
         with_reducible rfl
        rotate_left
        ·simp only [Act.put, List.setIfInBounds_toArray, List.set_cons_zero, List.set_cons_succ, i64_w, i32_w]
         rfl
        refine pure_ (i := 9) (N := some 21) (v := ?_) (a' := ?_) #[true, true, true, true, true, true, true, true, true, true, false, false, false, false, false, false, false, false, false, false, false, false, false, false, false, false, false, false, false, false] rfl rfl (any_of HT_.out (by kernel_rfl)) (fun _ _ _ h => h) (Or.inl ⟨by rfl, ?_⟩) ?_ ?_
        rotate_left
        ·intro w'
         go_simp
         with_reducible rfl
        rotate_left
        ·simp only [Act.put, List.setIfInBounds_toArray, List.set_cons_zero, List.set_cons_succ, i64_w, i32_w]
         rfl
        refine pure_ (i := 10) (N := some 22) (v := undef) (a' := ?_) #[true, true, true, true, true, true, true, true, true, true, true, false, false, false, false, false, false, false, false, false, false, false, false, false, false, false, false, false, false, false] rfl rfl (any_of HT_.out (by kernel_rfl)) (fun _ _ _ h => h) (Or.inr ⟨by rfl, rfl⟩) ?_ ?_
        rotate_left
        ·simp only [Act.put, List.setIfInBounds_toArray, List.set_cons_zero, List.set_cons_succ, i64_w, i32_w]
         rfl
        refine pure_ (i := 11) (N := some 23) (v := undef) (a' := ?_) #[true, true, true, true, true, true, true, true, true, true, true, true, false, false, false, false, false, false, false, false, false, false, false, false, false, false, false, false, false, false] rfl rfl (any_of HT_.out (by kernel_rfl)) (fun _ _ _ h => h) (Or.inr ⟨by rfl, rfl⟩) ?_ ?_
        rotate_left
        ·simp only [Act.put, List.setIfInBounds_toArray, List.set_cons_zero, List.set_cons_succ, i64_w, i32_w]
         rfl
        refine pure_ (i := 12) (N := some 24) (v := undef) (a' := ?_) #[true, true, true, true, true, true, true, true, true, true, true, true, true, false, false, false, false, false, false, false, false, false, false, false, false, false, false, false, false, false] rfl rfl (any_of HT_.out (by kernel_rfl)) (fun _ _ _ h => h) (Or.inr ⟨by rfl, rfl⟩) ?_ ?_
        rotate_left
        ·simp only [Act.put, List.setIfInBounds_toArray, List.set_cons_zero, List.set_cons_succ, i64_w, i32_w]
         rfl
        refine pure_ (i := 13) (N := some 25) (v := undef) (a' := ?_) #[true, true, true, true, true, true, true, true, true, true, true, true, true, true, false, false, false, false, false, false, false, false, false, false, false, false, false, false, false, false] rfl rfl (any_of HT_.out (by kernel_rfl)) (fun _ _ _ h => h) (Or.inr ⟨by rfl, rfl⟩) ?_ ?_
        rotate_left
        ·simp only [Act.put, List.setIfInBounds_toArray, List.set_cons_zero, List.set_cons_succ, i64_w, i32_w]
         rfl
        refine pure_ (i := 14) (N := some 26) (v := ?_) (a' := ?_) #[true, true, true, true, true, true, true, true, true, true, true, true, true, true, true, false, false, false, false, false, false, false, false, false, false, false, false, false, false, false] rfl rfl (any_of HT_.out (by kernel_rfl)) (fun _ _ _ h => h) (Or.inl ⟨by rfl, ?_⟩) ?_ ?_
        rotate_left
        ·intro w'
         go_simp
         with_reducible rfl
        rotate_left
        ·simp only [Act.put, List.setIfInBounds_toArray, List.set_cons_zero, List.set_cons_succ, i64_w, i32_w]
         rfl
        refine pure_ (i := 15) (N := some 27) (v := ?_) (a' := ?_) #[true, true, true, true, true, true, true, true, true, true, true, true, true, true, true, true, false, false, false, false, false, false, false, false, false, false, false, false, false, false] rfl rfl (any_of HT_.out (by kernel_rfl)) (fun _ _ _ h => h) (Or.inl ⟨by rfl, ?_⟩) ?_ ?_
        rotate_left
        ·intro w'
         go_simp
         with_reducible rfl
        rotate_left
        ·simp only [Act.put, List.setIfInBounds_toArray, List.set_cons_zero, List.set_cons_succ, i64_w, i32_w]
         rfl
        refine pure_ (i := 16) (N := some 28) (v := undef) (a' := ?_) #[true, true, true, true, true, true, true, true, true, true, true, true, true, true, true, true, true, false, false, false, false, false, false, false, false, false, false, false, false, false] rfl rfl (any_of HT_.out (by kernel_rfl)) (fun _ _ _ h => h) (Or.inr ⟨by rfl, rfl⟩) ?_ ?_
        rotate_left
        ·simp only [Act.put, List.setIfInBounds_toArray, List.set_cons_zero, List.set_cons_succ, i64_w, i32_w]
         rfl
        refine pure_ (i := 17) (N := some 29) (v := undef) (a' := ?_) #[true, true, true, true, true, true, true, true, true, true, true, true, true, true, true, true, true, true, false, false, false, false, false, false, false, false, false, false, false, false] rfl rfl (any_of HT_.out (by kernel_rfl)) (fun _ _ _ h => h) (Or.inr ⟨by rfl, rfl⟩) ?_ ?_
        rotate_left
        ·simp only [Act.put, List.setIfInBounds_toArray, List.set_cons_zero, List.set_cons_succ, i64_w, i32_w]
         rfl
        refine pure_ (i := 18) (N := some 30) (v := undef) (a' := ?_) #[true, true, true, true, true, true, true, true, true, true, true, true, true, true, true, true, true, true, true, false, false, false, false, false, false, false, false, false, false, false] rfl rfl (any_of HT_.out (by kernel_rfl)) (fun _ _ _ h => h) (Or.inr ⟨by rfl, rfl⟩) ?_ ?_
        rotate_left
        ·simp only [Act.put, List.setIfInBounds_toArray, List.set_cons_zero, List.set_cons_succ, i64_w, i32_w]
         rfl
        refine pure_ (i := 19) (N := some 31) (v := undef) (a' := ?_) #[true, true, true, true, true, true, true, true, true, true, true, true, true, true, true, true, true, true, true, true, false, false, false, false, false, false, false, false, false, false] rfl rfl (any_of HT_.out (by kernel_rfl)) (fun _ _ _ h => h) (Or.inr ⟨by rfl, rfl⟩) ?_ ?_
        rotate_left
        ·simp only [Act.put, List.setIfInBounds_toArray, List.set_cons_zero, List.set_cons_succ, i64_w, i32_w]
         rfl
        refine pure_ (i := 20) (N := some 32) (v := undef) (a' := ?_) #[true, true, true, true, true, true, true, true, true, true, true, true, true, true, true, true, true, true, true, true, true, false, false, false, false, false, false, false, false, false] rfl rfl (any_of HT_.out (by kernel_rfl)) (fun _ _ _ h => h) (Or.inr ⟨by rfl, rfl⟩) ?_ ?_
        rotate_left
        ·simp only [Act.put, List.setIfInBounds_toArray, List.set_cons_zero, List.set_cons_succ, i64_w, i32_w]
         rfl
        refine pure_ (i := 21) (N := some 33) (v := undef) (a' := ?_) #[true, true, true, true, true, true, true, true, true, true, true, true, true, true, true, true, true, true, true, true, true, true, false, false, false, false, false, false, false, false] rfl rfl (any_of HT_.out (by kernel_rfl)) (fun _ _ _ h => h) (Or.inr ⟨by rfl, rfl⟩) ?_ ?_
        rotate_left
        ·simp only [Act.put, List.setIfInBounds_toArray, List.set_cons_zero, List.set_cons_succ, i64_w, i32_w]
         rfl
        refine pure_ (i := 22) (N := some 34) (v := undef) (a' := ?_) #[true, true, true, true, true, true, true, true, true, true, true, true, true, true, true, true, true, true, true, true, true, true, true, false, false, false, false, false, false, false] rfl rfl (any_of HT_.out (by kernel_rfl)) (fun _ _ _ h => h) (Or.inr ⟨by rfl, rfl⟩) ?_ ?_
        rotate_left
        ·simp only [Act.put, List.setIfInBounds_toArray, List.set_cons_zero, List.set_cons_succ, i64_w, i32_w]
         rfl
        refine pure_ (i := 23) (N := some 35) (v := undef) (a' := ?_) #[true, true, true, true, true, true, true, true, true, true, true, true, true, true, true, true, true, true, true, true, true, true, true, true, false, false, false, false, false, false] rfl rfl (any_of HT_.out (by kernel_rfl)) (fun _ _ _ h => h) (Or.inr ⟨by rfl, rfl⟩) ?_ ?_
        rotate_left
        ·simp only [Act.put, List.setIfInBounds_toArray, List.set_cons_zero, List.set_cons_succ, i64_w, i32_w]
         rfl
        refine pure_ (i := 24) (N := some 36) (v := undef) (a' := ?_) #[true, true, true, true, true, true, true, true, true, true, true, true, true, true, true, true, true, true, true, true, true, true, true, true, true, false, false, false, false, false] rfl rfl (any_of HT_.out (by kernel_rfl)) (fun _ _ _ h => h) (Or.inr ⟨by rfl, rfl⟩) ?_ ?_
        rotate_left
        ·simp only [Act.put, List.setIfInBounds_toArray, List.set_cons_zero, List.set_cons_succ, i64_w, i32_w]
         rfl
        refine pure_ (i := 25) (N := some 37) (v := undef) (a' := ?_) #[true, true, true, true, true, true, true, true, true, true, true, true, true, true, true, true, true, true, true, true, true, true, true, true, true, true, false, false, false, false] rfl rfl (any_of HT_.out (by kernel_rfl)) (fun _ _ _ h => h) (Or.inr ⟨by rfl, rfl⟩) ?_ ?_
        rotate_left
        ·simp only [Act.put, List.setIfInBounds_toArray, List.set_cons_zero, List.set_cons_succ, i64_w, i32_w]
         rfl
        refine pure_ (i := 26) (N := some 38) (v := undef) (a' := ?_) #[true, true, true, true, true, true, true, true, true, true, true, true, true, true, true, true, true, true, true, true, true, true, true, true, true, true, true, false, false, false] rfl rfl (any_of HT_.out (by kernel_rfl)) (fun _ _ _ h => h) (Or.inr ⟨by rfl, rfl⟩) ?_ ?_
        rotate_left
        ·simp only [Act.put, List.setIfInBounds_toArray, List.set_cons_zero, List.set_cons_succ, i64_w, i32_w]
         rfl
        refine pure_ (i := 27) (N := some 39) (v := undef) (a' := ?_) #[true, true, true, true, true, true, true, true, true, true, true, true, true, true, true, true, true, true, true, true, true, true, true, true, true, true, true, true, false, false] rfl rfl (any_of HT_.out (by kernel_rfl)) (fun _ _ _ h => h) (Or.inr ⟨by rfl, rfl⟩) ?_ ?_
        rotate_left
        ·simp only [Act.put, List.setIfInBounds_toArray, List.set_cons_zero, List.set_cons_succ, i64_w, i32_w]
         rfl
        refine pure_ (i := 28) (N := some 40) (v := undef) (a' := ?_) #[true, true, true, true, true, true, true, true, true, true, true, true, true, true, true, true, true, true, true, true, true, true, true, true, true, true, true, true, true, false] rfl rfl (any_of HT_.out (by kernel_rfl)) (fun _ _ _ h => h) (Or.inr ⟨by rfl, rfl⟩) ?_ ?_
        rotate_left
        ·simp only [Act.put, List.setIfInBounds_toArray, List.set_cons_zero, List.set_cons_succ, i64_w, i32_w]
         rfl
        refine pure_ (i := 29) (N := some 41) (v := ?_) (a' := ?_) #[true, true, true, true, true, true, true, true, true, true, true, true, true, true, true, true, true, true, true, true, true, true, true, true, true, true, true, true, true, true] rfl rfl (any_of HT_.out (by kernel_rfl)) (fun _ _ _ h => h) (Or.inl ⟨by rfl, ?_⟩) ?_ ?_
        rotate_left
        ·intro w'
         go_simp
         with_reducible rfl
        rotate_left
        ·simp only [Act.put, List.setIfInBounds_toArray, List.set_cons_zero, List.set_cons_succ, i64_w, i32_w]
         rfl
        refine done_ (done_of HT_.out (by kernel_rfl)) ?_
        try go_wp2
        go_ret
        exact ⟨by first | rfl | (simp [errW_none, errW_some] <;> rfl) | (simp [*, errW_none, errW_some] <;> rfl), by repeat (first | (with_reducible first | exact HB.out | apply below_alloc | apply pw_below_drewN | apply below_drew1 | refine below_set ?_ GE102.out) | exact HB.out)⟩
     ·rw [if_neg c4] at H
      exact absurd H (by simp)
    ·rw [if_neg c3] at H
     exact absurd H (by simp)
   ·rw [if_neg c2] at H
    have c2b0 : decide (x7_1 < (l0.length : Int)) = false := decide_eq_false c2
    clear c2
    obtain rfl := Option.some.inj H
    go_wp2
    go_ret
    exact ⟨by first | rfl | (simp [errW_none, errW_some] <;> rfl) | (simp [*, errW_none, errW_some] <;> rfl), by repeat (first | (with_reducible first | exact HB.out | apply below_alloc | apply pw_below_drewN | apply below_drew1) | exact HB.out)⟩

end Go.Proofs.Ytimdoghlnegpgaa.P
/- What the printed checks of items and kinds answer, the program's and the reference's. -/
namespace Go.Proofs.Ytimdoghlnegpgaa.P
open Go.RowKit Go.Proofs.YtimdoghlnegpgaaW.PrintWords Go.Proofs.YtimdoghlnegpgaaW.PrintLast Go.Proofs.YtimdoghlnegpgaaEv
set_option linter.unusedVariables false
set_option linter.unusedSimpArgs false

def itemB (last : Int) (x : S73) : Bool := decide (0 ≤ x.f0) && decide (1 ≤ x.f1 ∧ x.f1 ≤ 1000000000000) && decide (1 ≤ x.f2 ∧ x.f2 ≤ 1000000000000) && decide (last ≤ x.f1)
def itemsR : Int → List S73 → Bool
  | _, [] => true
  | last, x :: rest => itemB last x && itemsR x.f1 rest
def itemsB (l : List S73) : Bool := decide (l.length ≤ 5000) && itemsR 0 l
theorem impl_itemsOk_ev (l : List S73) (hl : l.length ≤ 9223372036854775807) : Ev (fun k => impl_itemsOk.f k l) (itemsB l) := by
  unfold impl_itemsOk.f itemsB
  have key := down l.length (fun i => ∀ last : Int, (i = 0 → last = 0) → (0 < i → last = (rd_T73 l ((i - 1 : Nat) : Int)).f1) → Ev (fun k => impl_itemsOk.l0 k l l l.length (i : Nat)) (decide (l.length ≤ 5000) && itemsR last (l.drop i))) ?_ ?_ 0 (by omega) 0 (fun _ => rfl) (by omega)
  · exact key
  · intro last _ _
    rw [ev_succ]
    simp only [impl_itemsOk.l0, ev_ite, ev_some]
    rw [if_neg (by omega), List.drop_length]
    simp only [itemsR, Bool.and_true]
    by_cases h : l.length ≤ 5000
    · rw [decide_eq_true h, decide_eq_true (show (l.length : Int) ≤ 5000 by omega)]
    · rw [decide_eq_false h, decide_eq_false (show ¬ (l.length : Int) ≤ 5000 by omega)]
  · intro i hi ih last hl0 hl1
    rw [ev_succ, drop_cons l z73 i hi]
    have hr : l.getD i z73 = rd_T73 l i := by simp [rd_T73]
    rw [hr]
    have ih2 := ih (rd_T73 l i).f1 (by omega) (fun _ => by rw [Nat.add_sub_cancel])
    simp only [impl_itemsOk.l0, impl_within_eq, Option.bind_some, ev_ite, ev_some, itemsR, itemB]
    rw [if_pos (by omega), if_pos (by omega), if_pos (by omega), wrap_succ hi (by omega)]
    have hprev : 0 < i → (0 ≤ wrap64 ((i : Int) - 1) ∧ wrap64 ((i : Int) - 1) < l.length ∧ (rd_T73 l (wrap64 ((i : Int) - 1))).f1 = last) := by
      intro hp
      rw [wrap_id (x := (i : Int) - 1) (by omega) (by omega)]
      exact ⟨by omega, by omega, by rw [hl1 hp, show ((i : Int) - 1) = ((i - 1 : Nat) : Int) by omega]⟩
    generalize decide (l.length ≤ 5000) = D at *
    generalize (l.drop (i + 1)) = T at *
    generalize rd_T73 l (i : Int) = a at *
    generalize hG : (fun k => impl_itemsOk.l0 k l l (l.length : Int) ((i + 1 : Nat) : Int)) = G at *
    by_cases c1 : a.f0 < 0
    · rw [if_pos c1]; simp [show ¬ 0 ≤ a.f0 by omega]
    rw [if_neg c1]
    by_cases c2 : 1 ≤ a.f1 ∧ a.f1 ≤ 1000000000000
    · rw [if_pos (by simpa using c2)]
      by_cases c3 : 1 ≤ a.f2 ∧ a.f2 ≤ 1000000000000
      · rw [if_pos (by simpa using c3)]
        have hend : (last ≤ a.f1) → Ev G (D && (decide (0 ≤ a.f0) && decide (1 ≤ a.f1 ∧ a.f1 ≤ 1000000000000) && decide (1 ≤ a.f2 ∧ a.f2 ≤ 1000000000000) && decide (last ≤ a.f1) && itemsR a.f1 T)) := by
          intro h5
          refine ev_congr ih2 ?_
          simp [c2, c3, show 0 ≤ a.f0 by omega, h5]
        by_cases h00 : i = 0
        · rw [if_neg (by omega)]
          exact hend (by have := hl0 h00; omega)
        · obtain ⟨h1', h2', h3'⟩ := hprev (by omega)
          rw [if_pos (by omega), if_pos h1', if_pos h2', h3']
          by_cases c5 : last > a.f1
          · rw [if_pos c5]; simp [show ¬ last ≤ a.f1 by omega]
          · rw [if_neg c5]
            exact hend (by omega)
      · rw [if_neg (by simpa using c3)]; simp [c3]
    · rw [if_neg (by simpa using c2)]; simp [c2]
theorem spec_l16Items_ev (l : List S73) : Ev (fun k => spec_l16Items.f k l) (itemsB l) := by
  unfold spec_l16Items.f itemsB
  simp only [ev_ite]
  by_cases h6 : l.length ≤ 5000
  · rw [if_neg (by omega), decide_eq_true h6, Bool.true_and]
    have key := down l.length (fun i => ∀ last : Int, (i = 0 → last = 0) → (0 < i → last = (rd_T73 l ((i - 1 : Nat) : Int)).f1) → Ev (fun k => spec_l16Items.l0 k l (i : Nat)) (itemsR last (l.drop i))) ?_ ?_ 0 (by omega) 0 (fun _ => rfl) (by omega)
    · exact key
    · intro last _ _
      rw [ev_succ]
      simp only [spec_l16Items.l0, ev_ite, ev_some]
      rw [if_neg (by omega), List.drop_length]
      rfl
    · intro i hi ih last hl0 hl1
      rw [ev_succ, drop_cons l z73 i hi]
      have hr : l.getD i z73 = rd_T73 l i := by simp [rd_T73]
      rw [hr]
      have ih2 := ih (rd_T73 l i).f1 (by omega) (fun _ => by rw [Nat.add_sub_cancel])
      simp only [spec_l16Items.l0, spec_l1In_eq, Option.bind_some, ev_ite, ev_some, itemsR, itemB]
      rw [if_pos (by omega), if_pos (by omega), wrap_succ hi (by omega)]
      have hprev : 0 < i → (0 ≤ wrap64 ((i : Int) - 1) ∧ wrap64 ((i : Int) - 1) < l.length ∧ (rd_T73 l (wrap64 ((i : Int) - 1))).f1 = last) := by
        intro hp
        rw [wrap_id (x := (i : Int) - 1) (by omega) (by omega)]
        exact ⟨by omega, by omega, by rw [hl1 hp, show ((i : Int) - 1) = ((i - 1 : Nat) : Int) by omega]⟩
      generalize (l.drop (i + 1)) = T at *
      generalize rd_T73 l (i : Int) = a at *
      generalize hG : (fun k => spec_l16Items.l0 k l ((i + 1 : Nat) : Int)) = G at *
      by_cases c1 : a.f0 < 0
      · rw [if_pos c1]; simp [show ¬ 0 ≤ a.f0 by omega]
      rw [if_neg c1]
      by_cases c2 : 1 ≤ a.f1 ∧ a.f1 ≤ 1000000000000
      · rw [if_pos (by simpa using c2)]
        by_cases c3 : 1 ≤ a.f2 ∧ a.f2 ≤ 1000000000000
        · rw [if_pos (by simpa using c3)]
          have hend : (last ≤ a.f1) → Ev G (decide (0 ≤ a.f0) && decide (1 ≤ a.f1 ∧ a.f1 ≤ 1000000000000) && decide (1 ≤ a.f2 ∧ a.f2 ≤ 1000000000000) && decide (last ≤ a.f1) && itemsR a.f1 T) := by
            intro h5
            refine ev_congr ih2 ?_
            simp [c2, c3, show 0 ≤ a.f0 by omega, h5]
          by_cases h00 : i = 0
          · rw [if_neg (by omega)]
            exact hend (by have := hl0 h00; omega)
          · obtain ⟨h1', h2', h3'⟩ := hprev (by omega)
            rw [if_pos (by omega), if_pos h1', if_pos h2', h3']
            by_cases c5 : a.f1 < last
            · rw [if_pos c5]; simp [show ¬ last ≤ a.f1 by omega]
            · rw [if_neg c5]
              exact hend (by omega)
        · rw [if_neg (by simpa using c3)]; simp [c3]
      · rw [if_neg (by simpa using c2)]; simp [c2]
  · rw [if_pos (by omega)]
    exact ev_some.2 (by simp [h6])
theorem itemsB_len {l : List S73} (h : itemsB l = true) : l.length ≤ 5000 := by
  simp only [itemsB, Bool.and_eq_true, decide_eq_true_eq] at h
  exact h.1
end Go.Proofs.Ytimdoghlnegpgaa.P
-- Made by wip/gen/pp.py of this session over the kit's print of the loaded program: a function, and the contract of its walk. Lean checks it.
namespace Go.Proofs.Ytimdoghlnegpgaa.P
open Go.RowKit Go.Proofs.YtimdoghlnegpgaaW.PrintWords Go.Proofs.YtimdoghlnegpgaaW.PrintLast Go.Proofs.YtimdoghlnegpgaaW.PrintMore
attribute [local go_sem] max2_int min2_int max_two min_two max_three min_three max_four min_four   -- for this text's walks alone
set_option linter.unusedVariables false
set_option linter.unusedSimpArgs false

/-! ### impl_kindsOk: function 85 -/
def impl_kindsOk.l0 : Nat → List Int → List Int → Int → Int → Option (Bool)
 | 0, _, _, _, _ => none
 | k + 1, x0, x5, x6, x7 => if x7 < x6 then (if 0 ≤ x7 then (if x7 < (x5.length : Int) then (if (rd x5 x7) < 0 then (some false) else (if x7 > 0 then (if 0 ≤ (wrap64 (x7 - 1)) then (if (wrap64 (x7 - 1)) < (x0.length : Int) then (if (rd x0 (wrap64 (x7 - 1))) ≥ (rd x5 x7) then (some false) else (impl_kindsOk.l0 k x0 x5 x6 (wrap64 (x7 + 1)))) else (none)) else (none)) else (impl_kindsOk.l0 k x0 x5 x6 (wrap64 (x7 + 1))))) else (none)) else (none)) else (some (decide ((x0.length : Int) ≤ 20)))
def impl_kindsOk.f (k : Nat) (l0 : List Int) : Option (Bool) := impl_kindsOk.l0 k l0 l0 (l0.length : Int) 0
theorem impl_kindsOk.mono_l : ∀ k, (∀ y0 y1 y2 y3, LeO (impl_kindsOk.l0 k y0 y1 y2 y3) (impl_kindsOk.l0 (k + 1) y0 y1 y2 y3))
 | 0 => fun _ _ _ _ r h => by simp [impl_kindsOk.l0] at h
 | k + 1 => by
  have ih0 := impl_kindsOk.mono_l k
  ·intro y0 y1 y2 y3
   unfold impl_kindsOk.l0
   repeat' first
   | (with_reducible exact ih0 _ _ _ _)
   | (with_reducible exact LeO.refl _)
   | (with_reducible exact LeO.none _)
   | (with_reducible refine LeO.ite ?_ ?_)
   | (with_reducible refine LeO.bind ?_ (fun _ => ?_))
   | exact ih0 _ _ _ _
   | exact LeO.none _
   | refine LeO.ite ?_ ?_
   | refine LeO.bind ?_ (fun _ => ?_)
theorem impl_kindsOk.mono : ∀ a0 k, LeO (impl_kindsOk.f k a0) (impl_kindsOk.f (k + 1) a0) := by
 intro a0 k
 have ih0 := impl_kindsOk.mono_l k
 unfold impl_kindsOk.f
 repeat' first
   | (with_reducible exact ih0 _ _ _ _)
   | (with_reducible exact LeO.refl _)
   | (with_reducible exact LeO.none _)
   | (with_reducible refine LeO.ite ?_ ?_)
   | (with_reducible refine LeO.bind ?_ (fun _ => ?_))
   | exact ih0 _ _ _ _
   | exact LeO.none _
   | refine LeO.ite ?_ ?_
   | refine LeO.bind ?_ (fun _ => ?_)
set_option maxHeartbeats 8000000 in
set_option maxRecDepth 100000 in
theorem impl_kindsOk.calls (k : Nat) (A0 : Option Addr) (c0 : Nat) (l0 : List Int) (r : Bool) (w : World) (hr0 : Kd.C (Kd.int .i64) w A0 l0.length l0) (hc0 : l0.length ≤ c0) (h : impl_kindsOk.f k l0 = some r) :
  Calls Try.prog 85 #[.slice A0 l0.length c0] w fun e w' => e = .returned (.bool r) ∧ Drawn0 w w' := by
 have HR0 := Aside0.mk hr0
 have HC0 := Aside0.mk hc0
 clear hr0 hc0
 have H : (impl_kindsOk.l0 k l0 l0 (l0.length : Int) 0) = some r := h
 clear h
 have H' := Aside0.mk H
 clear H
 go_enter Try.func85, Try.ntmps85
 go_wp2
 go_loopg [7] k (fun kq v7 w' => ∃ (x7_1 : Int), v7 = .int .i64 x7_1 ∧ Aside0 (impl_kindsOk.l0 kq l0 l0 (l0.length : Int) x7_1 = some r) ∧ Aside0 (kq ≤ k) ∧ Drawn0 w w')
 case atStart => exact ⟨(0), (by first | rfl | (simp; done) | (simp [*]; done)), H', ⟨Nat.le_refl _⟩, by repeat (first | exact Drawn0.refl _ | apply Drawn0.step)⟩
 case round =>
  clear H'
  obtain ⟨x7_1, rfl, HA, HK1, ⟨m1, rfl⟩⟩ := hrel
  cases gk with
  | zero => exact absurd HA.out (by simp [impl_kindsOk.l0])
  | succ k1 =>
   have H := HA.out
   clear HA
   simp only [impl_kindsOk.l0] at H
   by_cases c2 : x7_1 < (l0.length : Int)
   ·rw [if_pos c2] at H
    have c2b0 : decide (x7_1 < (l0.length : Int)) = true := decide_eq_true c2
    clear c2
    by_cases c3 : 0 ≤ x7_1
    ·rw [if_pos c3] at H
     have c3b0 : decide (0 ≤ x7_1) = true := decide_eq_true c3
     clear c3
     by_cases c4 : x7_1 < (l0.length : Int)
     ·rw [if_pos c4] at H
      have c4b0 : decide (x7_1 < (l0.length : Int)) = true := decide_eq_true c4
      clear c4
      by_cases c5 : (rd l0 x7_1) < 0
      ·rw [if_pos c5] at H
       have c5b0 : decide ((rd l0 x7_1) < 0) = true := decide_eq_true c5
       clear c5
       obtain rfl := Option.some.inj H
       have p101 : 0 ≤ (x7_1 : Int) := of_decide_eq_true (by first | (with_reducible assumption) | assumption)
       have q101 : x7_1 < (l0.length : Int) := of_decide_eq_true (by first | (with_reducible assumption) | assumption)
       obtain ⟨ad101, e101, hx101_0⟩ := Kd.at_int HR0.out x7_1 p101 q101
       cases e101
       replace p101 := eq_true p101
       replace q101 := eq_true q101
       go_wp2
       go_ret
       exact ⟨by first | rfl | (simp; done) | (simp [*]; done), by repeat (first | exact Drawn0.refl _ | apply Drawn0.step)⟩
      ·rw [if_neg c5] at H
       have c5b0 : decide ((rd l0 x7_1) < 0) = false := decide_eq_false c5
       clear c5
       by_cases c6 : x7_1 > 0
       ·rw [if_pos c6] at H
        have c6b0 : decide (0 < x7_1) = true := decide_eq_true c6
        clear c6
        obtain ⟨ji7, hji7⟩ : ∃ j_ : Int, (wrap64 (x7_1 - 1)) = j_ := ⟨_, rfl⟩
        replace H : (if 0 ≤ (ji7) then (if (ji7) < (l0.length : Int) then (if (rd l0 (ji7)) ≥ (rd l0 x7_1) then (some false) else (impl_kindsOk.l0 k1 l0 l0 (l0.length : Int) (wrap64 (x7_1 + 1)))) else (none)) else (none)) = some r := by first | (rw [hji7] at H; exact H) | (simp only [hji7] at H ⊢; exact H)
        have hji7w : (IntKind.i64.wrap (x7_1 - 1)) = ji7 := (i64_w _).trans hji7
        by_cases c8 : 0 ≤ (ji7)
        ·rw [if_pos c8] at H
         have c8b0 : decide (0 ≤ (ji7)) = true := decide_eq_true c8
         clear c8
         by_cases c9 : (ji7) < (l0.length : Int)
         ·rw [if_pos c9] at H
          have c9b0 : decide ((ji7) < (l0.length : Int)) = true := decide_eq_true c9
          clear c9
          by_cases c10 : (rd l0 (ji7)) ≥ (rd l0 x7_1)
          ·rw [if_pos c10] at H
           have c10b0 : decide ((rd l0 x7_1) ≤ (rd l0 (ji7))) = true := decide_eq_true c10
           clear c10
           obtain rfl := Option.some.inj H
           have p101 : 0 ≤ (x7_1 : Int) := of_decide_eq_true (by first | (with_reducible assumption) | assumption)
           have q101 : x7_1 < (l0.length : Int) := of_decide_eq_true (by first | (with_reducible assumption) | assumption)
           obtain ⟨ad101, e101, hx101_0⟩ := Kd.at_int HR0.out x7_1 p101 q101
           cases e101
           replace p101 := eq_true p101
           replace q101 := eq_true q101
           have p102 : 0 ≤ ((ji7) : Int) := of_decide_eq_true (by first | (with_reducible assumption) | assumption)
           have q102 : (ji7) < (l0.length : Int) := of_decide_eq_true (by first | (with_reducible assumption) | assumption)
           obtain ⟨ad102, e102, hx102_0⟩ := Kd.at_int HR0.out (ji7) p102 q102
           obtain rfl : ad101 = ad102 := (by injection e102)
           replace p102 := eq_true p102
           replace q102 := eq_true q102
           go_wp2
           go_ret
           exact ⟨by first | rfl | (simp; done) | (simp only [← hji7] <;> (first | rfl | simp)) | (simp [*]; done), by repeat (first | exact Drawn0.refl _ | apply Drawn0.step)⟩
          ·rw [if_neg c10] at H
           have c10b0 : decide ((rd l0 x7_1) ≤ (rd l0 (ji7))) = false := decide_eq_false c10
           clear c10
           have H' := Aside0.mk H
           clear H
           have p101 : 0 ≤ (x7_1 : Int) := of_decide_eq_true (by first | (with_reducible assumption) | assumption)
           have q101 : x7_1 < (l0.length : Int) := of_decide_eq_true (by first | (with_reducible assumption) | assumption)
           obtain ⟨ad101, e101, hx101_0⟩ := Kd.at_int HR0.out x7_1 p101 q101
           cases e101
           replace p101 := eq_true p101
           replace q101 := eq_true q101
           have p102 : 0 ≤ ((ji7) : Int) := of_decide_eq_true (by first | (with_reducible assumption) | assumption)
           have q102 : (ji7) < (l0.length : Int) := of_decide_eq_true (by first | (with_reducible assumption) | assumption)
           obtain ⟨ad102, e102, hx102_0⟩ := Kd.at_int HR0.out (ji7) p102 q102
           obtain rfl : ad101 = ad102 := (by injection e102)
           replace p102 := eq_true p102
           replace q102 := eq_true q102
           go_wp2
           go_roundg k1
           case measure => have := HK1.out; omega
           case rel => exact ⟨(wrap64 (x7_1 + 1)), (by first | rfl | (simp; done) | (simp [*]; done)), H', ⟨by have := HK1.out; omega⟩, by repeat (first | exact Drawn0.refl _ | apply Drawn0.step)⟩
         ·rw [if_neg c9] at H
          exact absurd H (by simp)
        ·rw [if_neg c8] at H
         exact absurd H (by simp)
       ·rw [if_neg c6] at H
        have c6b0 : decide (0 < x7_1) = false := decide_eq_false c6
        clear c6
        have H' := Aside0.mk H
        clear H
        have p101 : 0 ≤ (x7_1 : Int) := of_decide_eq_true (by first | (with_reducible assumption) | assumption)
        have q101 : x7_1 < (l0.length : Int) := of_decide_eq_true (by first | (with_reducible assumption) | assumption)
        obtain ⟨ad101, e101, hx101_0⟩ := Kd.at_int HR0.out x7_1 p101 q101
        cases e101
        replace p101 := eq_true p101
        replace q101 := eq_true q101
        go_wp2
        go_roundg k1
        case measure => have := HK1.out; omega
        case rel => exact ⟨(wrap64 (x7_1 + 1)), (by first | rfl | (simp; done) | (simp [*]; done)), H', ⟨by have := HK1.out; omega⟩, by repeat (first | exact Drawn0.refl _ | apply Drawn0.step)⟩
     ·rw [if_neg c4] at H
      exact absurd H (by simp)
    ·rw [if_neg c3] at H
     exact absurd H (by simp)
   ·rw [if_neg c2] at H
    have c2b0 : decide (x7_1 < (l0.length : Int)) = false := decide_eq_false c2
    clear c2
    obtain rfl := Option.some.inj H
    go_wp2
    go_ret
    exact ⟨by first | rfl | (simp; done) | (simp [*]; done), by repeat (first | exact Drawn0.refl _ | apply Drawn0.step)⟩

end Go.Proofs.Ytimdoghlnegpgaa.P
-- Made by wip/gen/pp.py of this session over the kit's print of the loaded program: a function, and the contract of its walk. Lean checks it.
namespace Go.Proofs.Ytimdoghlnegpgaa.P
open Go.RowKit Go.Proofs.YtimdoghlnegpgaaW.PrintWords Go.Proofs.YtimdoghlnegpgaaW.PrintLast Go.Proofs.YtimdoghlnegpgaaW.PrintMore
attribute [local go_sem] max2_int min2_int max_two min_two max_three min_three max_four min_four   -- for this text's walks alone
set_option linter.unusedVariables false
set_option linter.unusedSimpArgs false

/-! ### slices_Index_int64_int64: function 102 -/
def slices_Index_int64_int64.l0 : Nat → List Int → Int → Int → Int → Option (Int)
 | 0, _, _, _, _ => none
 | k + 1, x0, x1, x7, x8 => if x8 < x7 then (if 0 ≤ x8 then (if x8 < (x0.length : Int) then (if x1 = (rd x0 x8) then (some x8) else (slices_Index_int64_int64.l0 k x0 x1 x7 (wrap64 (x8 + 1)))) else (none)) else (none)) else (some (-1))
def slices_Index_int64_int64.f (k : Nat) (l0 : List Int) (a1 : Int) : Option (Int) := slices_Index_int64_int64.l0 k l0 a1 (l0.length : Int) 0
theorem slices_Index_int64_int64.mono_l : ∀ k, (∀ y0 y1 y2 y3, LeO (slices_Index_int64_int64.l0 k y0 y1 y2 y3) (slices_Index_int64_int64.l0 (k + 1) y0 y1 y2 y3))
 | 0 => fun _ _ _ _ r h => by simp [slices_Index_int64_int64.l0] at h
 | k + 1 => by
  have ih0 := slices_Index_int64_int64.mono_l k
  ·intro y0 y1 y2 y3
   unfold slices_Index_int64_int64.l0
   repeat' first
   | (with_reducible exact ih0 _ _ _ _)
   | (with_reducible exact LeO.refl _)
   | (with_reducible exact LeO.none _)
   | (with_reducible refine LeO.ite ?_ ?_)
   | (with_reducible refine LeO.bind ?_ (fun _ => ?_))
   | exact ih0 _ _ _ _
   | exact LeO.none _
   | refine LeO.ite ?_ ?_
   | refine LeO.bind ?_ (fun _ => ?_)
theorem slices_Index_int64_int64.mono : ∀ a0 a1 k, LeO (slices_Index_int64_int64.f k a0 a1) (slices_Index_int64_int64.f (k + 1) a0 a1) := by
 intro a0 a1 k
 have ih0 := slices_Index_int64_int64.mono_l k
 unfold slices_Index_int64_int64.f
 repeat' first
   | (with_reducible exact ih0 _ _ _ _)
   | (with_reducible exact LeO.refl _)
   | (with_reducible exact LeO.none _)
   | (with_reducible refine LeO.ite ?_ ?_)
   | (with_reducible refine LeO.bind ?_ (fun _ => ?_))
   | exact ih0 _ _ _ _
   | exact LeO.none _
   | refine LeO.ite ?_ ?_
   | refine LeO.bind ?_ (fun _ => ?_)
set_option maxHeartbeats 8000000 in
set_option maxRecDepth 100000 in
theorem slices_Index_int64_int64.calls (k : Nat) (A0 : Option Addr) (c0 : Nat) (l0 : List Int) (a1 : Int) (r : Int) (w : World) (hr0 : Kd.C (Kd.int .i64) w A0 l0.length l0) (hc0 : l0.length ≤ c0) (h : slices_Index_int64_int64.f k l0 a1 = some r) :
  Calls Try.prog 102 #[.slice A0 l0.length c0, .int .i64 a1] w fun e w' => e = .returned (.int .i64 r) ∧ Drawn0 w w' := by
 have HR0 := Aside0.mk hr0
 have HC0 := Aside0.mk hc0
 clear hr0 hc0
 have H : (slices_Index_int64_int64.l0 k l0 a1 (l0.length : Int) 0) = some r := h
 clear h
 have H' := Aside0.mk H
 clear H
 go_enter Try.func102, Try.ntmps102
 go_wp2
 go_loopg [8] k (fun kq v8 w' => ∃ (x8_1 : Int), v8 = .int .i64 x8_1 ∧ Aside0 (slices_Index_int64_int64.l0 kq l0 a1 (l0.length : Int) x8_1 = some r) ∧ Aside0 (kq ≤ k) ∧ Drawn0 w w')
 case atStart => exact ⟨(0), (by first | rfl | (simp; done) | (simp [*]; done)), H', ⟨Nat.le_refl _⟩, by repeat (first | exact Drawn0.refl _ | apply Drawn0.step)⟩
 case round =>
  clear H'
  try clear c1
  try clear p2
  obtain ⟨x8_1, rfl, HA, HK1, ⟨m1, rfl⟩⟩ := hrel
  cases gk with
  | zero => exact absurd HA.out (by simp [slices_Index_int64_int64.l0])
  | succ k1 =>
   have H := HA.out
   clear HA
   simp only [slices_Index_int64_int64.l0] at H
   by_cases c3 : x8_1 < (l0.length : Int)
   ·rw [if_pos c3] at H
    have c3b0 : decide (x8_1 < (l0.length : Int)) = true := decide_eq_true c3
    clear c3
    by_cases c4 : 0 ≤ x8_1
    ·rw [if_pos c4] at H
     have c4b0 : decide (0 ≤ x8_1) = true := decide_eq_true c4
     clear c4
     by_cases c5 : x8_1 < (l0.length : Int)
     ·rw [if_pos c5] at H
      have c5b0 : decide (x8_1 < (l0.length : Int)) = true := decide_eq_true c5
      clear c5
      by_cases c6 : a1 = (rd l0 x8_1)
      ·rw [if_pos c6] at H
       have c6b0 : (a1 == (rd l0 x8_1)) = true := beq_iff_eq.mpr c6
       have c6b1 : (a1 != (rd l0 x8_1)) = false := bne_eq_false_iff_eq.mpr c6
       clear c6
       obtain rfl := Option.some.inj H
       have p101 : 0 ≤ (x8_1 : Int) := of_decide_eq_true (by first | (with_reducible assumption) | assumption)
       have q101 : x8_1 < (l0.length : Int) := of_decide_eq_true (by first | (with_reducible assumption) | assumption)
       obtain ⟨ad101, e101, hx101_0⟩ := Kd.at_int HR0.out x8_1 p101 q101
       cases e101
       replace p101 := eq_true p101
       replace q101 := eq_true q101
       go_wp2
       go_ret
       exact ⟨by first | rfl | (simp; done) | (simp [*]; done), by repeat (first | exact Drawn0.refl _ | apply Drawn0.step)⟩
      ·rw [if_neg c6] at H
       have c6b0 : (a1 == (rd l0 x8_1)) = false := beq_eq_false_iff_ne.mpr c6
       have c6b1 : (a1 != (rd l0 x8_1)) = true := bne_iff_ne.mpr c6
       have H' := Aside0.mk H
       clear H
       have p101 : 0 ≤ (x8_1 : Int) := of_decide_eq_true (by first | (with_reducible assumption) | assumption)
       have q101 : x8_1 < (l0.length : Int) := of_decide_eq_true (by first | (with_reducible assumption) | assumption)
       obtain ⟨ad101, e101, hx101_0⟩ := Kd.at_int HR0.out x8_1 p101 q101
       cases e101
       replace p101 := eq_true p101
       replace q101 := eq_true q101
       go_wp2
       go_roundg k1
       case measure => have := HK1.out; omega
       case rel => exact ⟨(wrap64 (x8_1 + 1)), (by first | rfl | (simp; done) | (simp [*]; done)), H', ⟨by have := HK1.out; omega⟩, by repeat (first | exact Drawn0.refl _ | apply Drawn0.step)⟩
     ·rw [if_neg c5] at H
      exact absurd H (by simp)
    ·rw [if_neg c4] at H
     exact absurd H (by simp)
   ·rw [if_neg c3] at H
    have c3b0 : decide (x8_1 < (l0.length : Int)) = false := decide_eq_false c3
    clear c3
    obtain rfl := Option.some.inj H
    go_wp2
    go_ret
    exact ⟨by first | rfl | (simp; done) | (simp [*]; done), by repeat (first | exact Drawn0.refl _ | apply Drawn0.step)⟩

end Go.Proofs.Ytimdoghlnegpgaa.P
-- Made by wip/gen/pp.py of this session over the kit's print of the loaded program: a function, and the contract of its walk. Lean checks it.
namespace Go.Proofs.Ytimdoghlnegpgaa.P
open Go.RowKit Go.Proofs.YtimdoghlnegpgaaW.PrintWords Go.Proofs.YtimdoghlnegpgaaW.PrintLast Go.Proofs.YtimdoghlnegpgaaW.PrintMore
attribute [local go_sem] max2_int min2_int max_two min_two max_three min_three max_four min_four   -- for this text's walks alone
set_option linter.unusedVariables false
set_option linter.unusedSimpArgs false

/-! ### slices_Contains_int64_int64: function 86 -/
def slices_Contains_int64_int64.f (k : Nat) (l0 : List Int) (a1 : Int) : Option (Bool) := (slices_Index_int64_int64.f k l0 a1).bind fun t101 => (some (decide (t101 ≥ 0)))
theorem slices_Contains_int64_int64.mono : ∀ a0 a1 k, LeO (slices_Contains_int64_int64.f k a0 a1) (slices_Contains_int64_int64.f (k + 1) a0 a1) := by
 intro a0 a1 k
 unfold slices_Contains_int64_int64.f
 repeat' first
   | (with_reducible exact slices_Index_int64_int64.mono _ _ _)
   | (with_reducible exact LeO.refl _)
   | (with_reducible exact LeO.none _)
   | (with_reducible refine LeO.ite ?_ ?_)
   | (with_reducible refine LeO.bind ?_ (fun _ => ?_))
   | exact slices_Index_int64_int64.mono _ _ _
   | exact LeO.none _
   | refine LeO.ite ?_ ?_
   | refine LeO.bind ?_ (fun _ => ?_)
set_option maxHeartbeats 8000000 in
set_option maxRecDepth 100000 in
theorem slices_Contains_int64_int64.calls (k : Nat) (A0 : Option Addr) (c0 : Nat) (l0 : List Int) (a1 : Int) (r : Bool) (w : World) (hr0 : Kd.C (Kd.int .i64) w A0 l0.length l0) (hc0 : l0.length ≤ c0) (h : slices_Contains_int64_int64.f k l0 a1 = some r) :
  Calls Try.prog 86 #[.slice A0 l0.length c0, .int .i64 a1] w fun e w' => e = .returned (.bool r) ∧ Drawn0 w w' := by
 have HR0 := Aside0.mk hr0
 have HC0 := Aside0.mk hc0
 clear hr0 hc0
 have H : ((slices_Index_int64_int64.f k l0 a1).bind fun t101 => (some (decide (t101 ≥ 0)))) = some r := h
 clear h
 replace H := Option.bind_eq_some_iff.mp H
 obtain ⟨t101, A30, H⟩ := H
 replace H : (some (decide (t101 ≥ 0))) = some r := H
 have A3 := Aside0.mk A30
 clear A30
 obtain rfl := Option.some.inj H
 go_enter Try.func86, Try.ntmps86
 go_wp2_with (first | ((with_reducible refine gate_callee (f := 102) rfl ?_); refine goesL_ (some 7) rfl rfl Try.func102 (by kernel_rfl) rfl #[.slice A0 l0.length c0, .int .i64 a1] rfl (by (try simp only [List.map_toArray, List.map_cons, List.map_nil]); first | done | rfl | (simp only [List.length_drop, List.length_take]; rfl)) ?_; (with_reducible refine (slices_Index_int64_int64.calls k _ _ l0 a1 t101 _ ?side1 ?side2 A3.out).mono ?_); (case side1 => repeat (first | exact HR0.out | (with_reducible refine Kd.C_alloc ?_ _) | (with_reducible refine Kd.C_drewN ?_ _) | (with_reducible refine Kd.C_drew ?_))); (case side2 => exact HC0.out); rintro e w' ⟨rfl, ⟨nd, rfl⟩⟩; refine ⟨_, rfl, ?_⟩))
 go_ret
 exact ⟨by first | rfl | (simp; done) | (simp [*]; done), by repeat (first | exact Drawn0.refl _ | apply Drawn0.step)⟩

end Go.Proofs.Ytimdoghlnegpgaa.P
/- What the printed checks of rising kinds, and the searches in a list of numbers, answer. -/
namespace Go.Proofs.Ytimdoghlnegpgaa.P
open Go.RowKit Go.Proofs.YtimdoghlnegpgaaW.PrintWords Go.Proofs.YtimdoghlnegpgaaW.PrintLast Go.Proofs.YtimdoghlnegpgaaEv
set_option linter.unusedVariables false
set_option linter.unusedSimpArgs false

def kindsR : Int → List Int → Bool
  | _, [] => true
  | last, x :: rest => decide (0 ≤ x) && decide (last < x) && kindsR x rest
def kindsB (l : List Int) : Bool := decide (l.length ≤ 20) && kindsR (-1) l
theorem rd_nat (l : List Int) (i : Nat) : l.getD i 0 = rd l i := by simp [rd]
theorem impl_kindsOk_ev (l : List Int) (hl : l.length ≤ 9223372036854775807) : Ev (fun k => impl_kindsOk.f k l) (kindsB l) := by
  unfold impl_kindsOk.f kindsB
  have key := down l.length (fun i => ∀ last : Int, (i = 0 → last = -1) → (0 < i → last = rd l ((i - 1 : Nat) : Int)) → Ev (fun k => impl_kindsOk.l0 k l l l.length (i : Nat)) (decide (l.length ≤ 20) && kindsR last (l.drop i))) ?_ ?_ 0 (by omega) (-1) (fun _ => rfl) (by omega)
  · exact key
  · intro last _ _
    rw [ev_succ]
    simp only [impl_kindsOk.l0, ev_ite, ev_some]
    rw [if_neg (by omega), List.drop_length]
    simp only [kindsR, Bool.and_true]
    by_cases h : l.length ≤ 20
    · rw [decide_eq_true h, decide_eq_true (show (l.length : Int) ≤ 20 by omega)]
    · rw [decide_eq_false h, decide_eq_false (show ¬ (l.length : Int) ≤ 20 by omega)]
  · intro i hi ih last hl0 hl1
    rw [ev_succ, drop_cons l 0 i hi, rd_nat]
    have ih2 := ih (rd l i) (by omega) (fun _ => by rw [Nat.add_sub_cancel])
    simp only [impl_kindsOk.l0, Option.bind_some, ev_ite, ev_some, kindsR]
    rw [if_pos (by omega), if_pos (by omega), if_pos (by omega), wrap_succ hi (by omega)]
    have hprev : 0 < i → (0 ≤ wrap64 ((i : Int) - 1) ∧ wrap64 ((i : Int) - 1) < l.length ∧ rd l (wrap64 ((i : Int) - 1)) = last) := by
      intro hp
      rw [wrap_id (x := (i : Int) - 1) (by omega) (by omega)]
      exact ⟨by omega, by omega, by rw [hl1 hp, show ((i : Int) - 1) = ((i - 1 : Nat) : Int) by omega]⟩
    generalize decide (l.length ≤ 20) = D at *
    generalize (l.drop (i + 1)) = T at *
    generalize rd l (i : Int) = a at *
    generalize hG : (fun k => impl_kindsOk.l0 k l l (l.length : Int) ((i + 1 : Nat) : Int)) = G at *
    by_cases c1 : a < 0
    · rw [if_pos c1]; simp [show ¬ 0 ≤ a by omega]
    rw [if_neg c1]
    have hend : (last < a) → Ev G (D && (decide (0 ≤ a) && decide (last < a) && kindsR a T)) := by
      intro h5
      refine ev_congr ih2 ?_
      simp [show 0 ≤ a by omega, h5]
    by_cases h00 : i = 0
    · rw [if_neg (by omega)]
      exact hend (by have := hl0 h00; omega)
    · obtain ⟨h1', h2', h3'⟩ := hprev (by omega)
      rw [if_pos (by omega), if_pos h1', if_pos h2', h3']
      by_cases c5 : last ≥ a
      · rw [if_pos c5]; simp [show ¬ last < a by omega]
      · rw [if_neg c5]
        exact hend (by omega)
theorem spec_l16Kinds_ev (l : List Int) : Ev (fun k => spec_l16Kinds.f k l) (kindsB l) := by
  unfold spec_l16Kinds.f kindsB
  simp only [ev_ite]
  by_cases h6 : l.length ≤ 20
  · rw [if_neg (by omega), decide_eq_true h6, Bool.true_and]
    have key := down l.length (fun i => ∀ last : Int, (i = 0 → last = -1) → (0 < i → last = rd l ((i - 1 : Nat) : Int)) → Ev (fun k => spec_l16Kinds.l0 k l (i : Nat)) (kindsR last (l.drop i))) ?_ ?_ 0 (by omega) (-1) (fun _ => rfl) (by omega)
    · exact key
    · intro last _ _
      rw [ev_succ]
      simp only [spec_l16Kinds.l0, ev_ite, ev_some]
      rw [if_neg (by omega), List.drop_length]
      rfl
    · intro i hi ih last hl0 hl1
      rw [ev_succ, drop_cons l 0 i hi, rd_nat]
      have ih2 := ih (rd l i) (by omega) (fun _ => by rw [Nat.add_sub_cancel])
      simp only [spec_l16Kinds.l0, Option.bind_some, ev_ite, ev_some, kindsR]
      rw [if_pos (by omega), if_pos (by omega), wrap_succ hi (by omega)]
      have hprev : 0 < i → (0 ≤ wrap64 ((i : Int) - 1) ∧ wrap64 ((i : Int) - 1) < l.length ∧ rd l (wrap64 ((i : Int) - 1)) = last) := by
        intro hp
        rw [wrap_id (x := (i : Int) - 1) (by omega) (by omega)]
        exact ⟨by omega, by omega, by rw [hl1 hp, show ((i : Int) - 1) = ((i - 1 : Nat) : Int) by omega]⟩
      generalize (l.drop (i + 1)) = T at *
      generalize rd l (i : Int) = a at *
      generalize hG : (fun k => spec_l16Kinds.l0 k l ((i + 1 : Nat) : Int)) = G at *
      by_cases c1 : a < 0
      · rw [if_pos c1]; simp [show ¬ 0 ≤ a by omega]
      rw [if_neg c1]
      have hend : (last < a) → Ev G (decide (0 ≤ a) && decide (last < a) && kindsR a T) := by
        intro h5
        refine ev_congr ih2 ?_
        simp [show 0 ≤ a by omega, h5]
      by_cases h00 : i = 0
      · rw [if_neg (by omega)]
        exact hend (by have := hl0 h00; omega)
      · obtain ⟨h1', h2', h3'⟩ := hprev (by omega)
        rw [if_pos (by omega), if_pos h1', if_pos h2', h3']
        by_cases c5 : a ≤ last
        · rw [if_pos c5]; simp [show ¬ last < a by omega]
        · rw [if_neg c5]
          exact hend (by omega)
  · rw [if_pos (by omega)]
    exact ev_some.2 (by simp [h6])
theorem kindsB_len {l : List Int} (h : kindsB l = true) : l.length ≤ 20 := by
  simp only [kindsB, Bool.and_eq_true, decide_eq_true_eq] at h
  exact h.1

def hasB (l : List Int) (x : Int) : Bool := l.any (· == x)
theorem any_drop {α : Type} (l : List α) (d : α) (p : α → Bool) (i : Nat) (h : i < l.length) : (l.drop i).any p = (p (l.getD i d) || (l.drop (i + 1)).any p) := by
  rw [drop_cons l d i h, List.any_cons]
theorem spec_l1Has_ev (l : List Int) (x : Int) (hl : l.length ≤ 9223372036854775807) : Ev (fun k => spec_l1Has.f k l x) (hasB l x) := by
  unfold spec_l1Has.f hasB
  have key := ev_loop l.length (fun k i => spec_l1Has.l0 k l x (i : Nat)) (fun i => (l.drop i).any (· == x)) ?_ ?_ 0 (by omega)
  · exact key
  · rw [ev_succ]
    simp [spec_l1Has.l0, ev_some]
  · intro i hi ih
    rw [ev_succ, any_drop l 0 _ i hi, rd_nat]
    simp only [spec_l1Has.l0, ev_ite, ev_some]
    rw [if_pos (by omega), if_pos (by omega), wrap_succ hi (by omega)]
    by_cases h : rd l i = x
    · rw [if_pos h]; simp [h]
    · rw [if_neg h, beq_eq_false_iff_ne.2 h, Bool.false_or]
      exact ih
theorem slices_Contains_ev (l : List Int) (x : Int) (hl : l.length ≤ 9223372036854775807) : Ev (fun k => slices_Contains_int64_int64.f k l x) (hasB l x) := by
  have hi : ∃ r : Int, Ev (fun k => slices_Index_int64_int64.f k l x) r ∧ decide (r ≥ 0) = hasB l x := by
    unfold slices_Index_int64_int64.f hasB
    have key := down l.length (fun i => ∃ r : Int, Ev (fun k => slices_Index_int64_int64.l0 k l x l.length (i : Nat)) r ∧ decide (r ≥ 0) = (l.drop i).any (· == x)) ?_ ?_ 0 (by omega)
    · exact key
    · refine ⟨-1, ?_, by simp⟩
      rw [ev_succ]
      simp [slices_Index_int64_int64.l0, ev_some]
    · rintro i hi ⟨r, hr, hd⟩
      by_cases h : x = rd l i
      · refine ⟨i, ?_, ?_⟩
        · rw [ev_succ]
          simp only [slices_Index_int64_int64.l0, ev_ite, ev_some]
          rw [if_pos (by omega), if_pos (by omega), if_pos (by omega), if_pos h]
          trivial
        · rw [any_drop l 0 _ i hi, rd_nat, ← h]
          simp
      · refine ⟨r, ?_, ?_⟩
        · rw [ev_succ]
          simp only [slices_Index_int64_int64.l0, ev_ite, ev_some]
          rw [if_pos (by omega), if_pos (by omega), if_pos (by omega), if_neg h, wrap_succ hi (by omega)]
          exact hr
        · rw [any_drop l 0 _ i hi, rd_nat, hd, beq_eq_false_iff_ne.2 (Ne.symm h), Bool.false_or]
  obtain ⟨r, hr, hd⟩ := hi
  unfold slices_Contains_int64_int64.f
  rw [ev_bind hr]
  exact ev_some.2 hd
end Go.Proofs.Ytimdoghlnegpgaa.P
/- What the printed Layout of the reference answers: over any items and brackets it ends, and its answer is that of a plain fold over the items. -/
namespace Go.Proofs.Ytimdoghlnegpgaa.P
open Go.RowKit Go.Proofs.YtimdoghlnegpgaaW.PrintWords Go.Proofs.YtimdoghlnegpgaaW.PrintLast Go.Proofs.YtimdoghlnegpgaaW.PrintMore Go.Proofs.YtimdoghlnegpgaaEv
set_option linter.unusedVariables false
set_option linter.unusedSimpArgs false
/-- An item that is made, at another one's place. -/
def madeI (kind : Int) (x : S73) : S73 := ⟨kind, x.f1, x.f2⟩
/-- The last column of a stack. -/
abbrev lastC (st : List Int) : Int := rd st ((st.length : Int) - 1)
/-- Columns above a column come off the stack (its last end first), a dedent for each. -/
def popR (x : S73) : Nat → List Int → List S73 → List Int × List S73
  | 0, st, out => (st, out)
  | n + 1, st, out => if lastC st > x.f2 then popR x n (st.take (st.length - 1)) (out ++ [madeI (-3) x]) else (st, out)
theorem popR_keeps (x : S73) (hx : 1 ≤ x.f2) : ∀ (n : Nat) (st : List Int) (out : List S73), st.length = n + 1 → st[0]? = some 1 → (popR x n st out).1[0]? = some 1 ∧ 1 ≤ (popR x n st out).1.length ∧ (popR x n st out).1.length ≤ st.length ∧ lastC (popR x n st out).1 ≤ x.f2 ∧ (popR x n st out).2.length + (popR x n st out).1.length = out.length + st.length := by
  intro n
  induction n with
  | zero =>
    intro st out hl h0
    simp only [popR]
    refine ⟨h0, by omega, Nat.le_refl _, ?_, trivial⟩
    unfold lastC rd
    rw [hl, List.getD_eq_getElem?_getD]
    simp [h0]
    omega
  | succ n ih =>
    intro st out hl h0
    simp only [popR]
    split
    · have h1 : (st.take (st.length - 1)).length = n + 1 := by simp; omega
      have h2 : (st.take (st.length - 1))[0]? = some 1 := by rw [List.getElem?_take, if_pos (by omega)]; exact h0
      obtain ⟨a, b, c, d, e⟩ := ih _ (out ++ [madeI (-3) x]) h1 h2
      refine ⟨a, b, by omega, d, ?_⟩
      simp only [List.length_append, List.length_cons, List.length_nil] at e
      omega
    · rename_i hgt
      dsimp only
      exact ⟨h0, by omega, Nat.le_refl _, Int.not_lt.mp hgt, rfl⟩
/-- What an item that begins a line does to stack and output. -/
def begR (x : S73) (st : List Int) (out : List S73) : List Int × List S73 :=
  if x.f2 > lastC st then popR x st.length (st ++ [x.f2]) (out ++ [madeI (-2) x]) else popR x (st.length - 1) st out
/-- The end of a line. -/
def nlR (p : Option S73) (out : List S73) : List S73 := match p with
  | none => out
  | some e => out ++ [madeI (-1) e]
/-- The depth behind an item, if it may stand there. -/
def depR (op cl : List Int) (kind d : Int) : Option Int :=
  if hasB cl kind then (if d = 0 then none else some (if hasB op kind then d - 1 + 1 else d - 1)) else some (if hasB op kind then d + 1 else d)
/-- Does an item begin a line? -/
def newR (p : Option S73) (x : S73) : Bool := match p with
  | none => true
  | some e => decide (x.f1 > e.f1)
def endR (p : Option S73) (st : List Int) (out : List S73) : List S73 := match p with
  | none => out
  | some e => out ++ [madeI (-1) e] ++ List.replicate (st.length - 1) (madeI (-3) e)
def layR (op cl : List Int) : Option S73 → List S73 → List S73 → List Int → Int → Int → List S73 × Int × Int
  | p, [], out, st, d, i => if d = 0 then (endR p st out, 0, -1) else ([], 4, i)
  | p, x :: xs, out, st, d, i =>
    if d = 0 ∧ newR p x = true then
      (if lastC (begR x st (nlR p out)).1 = x.f2 then
        (match depR op cl x.f0 d with
          | none => ([], 3, i)
          | some d1 => layR op cl (some x) xs ((begR x st (nlR p out)).2 ++ [x]) (begR x st (nlR p out)).1 d1 (i + 1))
      else ([], 2, i))
    else (match depR op cl x.f0 d with
          | none => ([], 3, i)
          | some d1 => layR op cl (some x) xs (out ++ [x]) st d1 (i + 1))
theorem begR_keeps (x : S73) (hx : 1 ≤ x.f2) (st : List Int) (out : List S73) (h1 : 1 ≤ st.length) (h0 : st[0]? = some 1) : (begR x st out).1[0]? = some 1 ∧ 1 ≤ (begR x st out).1.length ∧ (begR x st out).1.length ≤ st.length + 1 ∧ (begR x st out).2.length + (begR x st out).1.length ≤ out.length + st.length + 2 := by
  unfold begR
  split
  · obtain ⟨a, b, c, _, e⟩ := popR_keeps x hx st.length (st ++ [x.f2]) (out ++ [madeI (-2) x]) (by simp) (by rw [List.getElem?_append_left (by omega)]; exact h0)
    simp only [List.length_append, List.length_cons, List.length_nil] at c e
    exact ⟨a, b, by omega, by omega⟩
  · obtain ⟨a, b, c, _, e⟩ := popR_keeps x hx (st.length - 1) st out (by omega) h0
    exact ⟨a, b, by omega, by omega⟩
theorem lay_l2 (x : S73) : ∀ (n : Nat) (out : List S73), out.length + n ≤ 1000000 → Ev (fun k => spec_Layout.l2 k out (n : Int) x.f0 x.f1 x.f2) (out ++ List.replicate n (madeI (-3) x), 0, -1) := by
  intro n
  induction n with
  | zero =>
    intro out _
    rw [ev_succ]
    simp [spec_Layout.l2, ev_some]
  | succ n ih =>
    intro out h
    rw [ev_succ]
    simp only [spec_Layout.l2, spec_l16Made.f, Option.bind_some, ev_ite]
    rw [if_pos (by omega), if_pos (by omega), wrap_id (x := ((n + 1 : Nat) : Int) - 1) (by omega) (by omega), show ((n + 1 : Nat) : Int) - 1 = (n : Int) by omega]
    refine ev_congr (ih _ (by simp; omega)) ?_
    rw [List.replicate_succ, List.append_assoc]
    rfl
theorem lay_l1 (l : List S73) (op cl : List Int) (d i : Int) (x : S73) (hx : 1 ≤ x.f2) (r : List S73 × Int × Int) : ∀ (n : Nat) (st : List Int) (out : List S73), st.length = n + 1 → st[0]? = some 1 → out.length + st.length ≤ 1000000 →
    (lastC (popR x n st out).1 = x.f2 → Ev (fun k => spec_Layout.j6 k l [] (popR x n st out).2 (popR x n st out).1 d i op cl x.f0 x.f1 x.f2) r) → (lastC (popR x n st out).1 ≠ x.f2 → r = ([], 2, i)) →
    Ev (fun k => spec_Layout.l1 k l [] out st d i op cl x.f0 x.f1 x.f2) r := by
  have fin : ∀ (st : List Int) (out : List S73), 1 ≤ st.length → out.length + st.length ≤ 1000000 → ¬ lastC st > x.f2 → (lastC st = x.f2 → Ev (fun k => spec_Layout.j6 k l [] out st d i op cl x.f0 x.f1 x.f2) r) → (lastC st ≠ x.f2 → r = ([], 2, i)) → Ev (fun k => spec_Layout.l1 k l [] out st d i op cl x.f0 x.f1 x.f2) r := by
    intro st out h1 h2 h3 h4 h5
    rw [ev_succ]
    simp only [spec_Layout.l1, ev_ite]
    rw [wrap_id (x := (st.length : Int) - 1) (by omega) (by omega), if_pos (by omega), if_pos (by omega), if_neg h3]
    by_cases h : lastC st = x.f2
    · rw [if_pos h]
      exact h4 h
    · rw [if_neg h]
      exact ev_some.2 (h5 h).symm
  intro n
  induction n with
  | zero =>
    intro st out hl h0 hs h4 h5
    refine fin st out (by omega) hs ?_ h4 h5
    have := (popR_keeps x hx 0 st out hl h0).2.2.2.1
    simp only [popR] at this
    omega
  | succ n ih =>
    intro st out hl h0 hs h4 h5
    simp only [popR] at h4 h5
    by_cases hc : lastC st > x.f2
    · rw [if_pos hc] at h4 h5
      rw [ev_succ]
      simp only [spec_Layout.l1, spec_l16Made.f, Option.bind_some, ev_ite]
      rw [wrap_id (x := (st.length : Int) - 1) (by omega) (by omega), if_pos (by omega), if_pos (by omega), if_pos hc, if_pos (by omega), if_pos (by omega), show ((st.length : Int) - 1).toNat = st.length - 1 by omega]
      exact ih _ _ (by simp; omega) (by rw [List.getElem?_take, if_pos (by omega)]; exact h0) (by simp; omega) h4 h5
    · rw [if_neg hc] at h4 h5
      exact fin st out (by omega) hs hc h4 h5
/-- A line's first item: what stands ahead of it. -/
theorem lay_j2 (l : List S73) (op cl : List Int) (d : Int) (i : Nat) (x : S73) (hx : 1 ≤ x.f2) (hi : i ≤ l.length) (hl : l.length ≤ 5000) (p : Option S73) (hp : (i = 0 → p = none) ∧ (0 < i → p = some (rd_T73 l ((i - 1 : Nat) : Int)))) (r : List S73 × Int × Int) (st : List Int) (out : List S73) (h1 : 1 ≤ st.length) (h0 : st[0]? = some 1) (hs : out.length + st.length ≤ 100000)
    (h4 : lastC (begR x st (nlR p out)).1 = x.f2 → Ev (fun k => spec_Layout.j6 k l [] (begR x st (nlR p out)).2 (begR x st (nlR p out)).1 d i op cl x.f0 x.f1 x.f2) r) (h5 : lastC (begR x st (nlR p out)).1 ≠ x.f2 → r = ([], 2, (i : Int))) :
    Ev (fun k => spec_Layout.j2 k l [] out st d i true op cl x.f0 x.f1 x.f2) r := by
  have j3 : ∀ o : List S73, o.length + st.length ≤ 100001 → (lastC (begR x st o).1 = x.f2 → Ev (fun k => spec_Layout.j6 k l [] (begR x st o).2 (begR x st o).1 d i op cl x.f0 x.f1 x.f2) r) → (lastC (begR x st o).1 ≠ x.f2 → r = ([], 2, (i : Int))) → Ev (fun k => spec_Layout.j3 k l [] o st d i op cl x.f0 x.f1 x.f2) r := by
    intro o ho h4 h5
    rw [ev_succ]
    simp only [spec_Layout.j3, spec_l16Made.f, Option.bind_some, ev_ite]
    rw [wrap_id (x := (st.length : Int) - 1) (by omega) (by omega), if_pos (by omega), if_pos (by omega)]
    unfold begR at h4 h5
    by_cases hc : x.f2 > lastC st
    · rw [if_pos hc] at h4 h5
      rw [if_pos hc, if_pos (by omega), if_pos (by omega), ev_succ]
      simp only [spec_Layout.j4]
      exact lay_l1 l op cl d i x hx r _ _ _ (by simp) (by rw [List.getElem?_append_left (by omega)]; exact h0) (by simp; omega) h4 h5
    · rw [if_neg hc] at h4 h5
      rw [if_neg hc, ev_succ]
      simp only [spec_Layout.j4]
      exact lay_l1 l op cl d i x hx r _ _ _ (by omega) h0 (by omega) h4 h5
  rw [ev_succ]
  simp only [spec_Layout.j2, spec_l16Made.f, Option.bind_some, ev_ite, if_true]
  by_cases hz : i = 0
  · rw [if_neg (by omega)]
    rw [hp.1 hz] at h4 h5
    exact j3 out (by omega) h4 h5
  · rw [if_pos (by omega), wrap_id (x := (i : Int) - 1) (by omega) (by omega), if_pos (by omega), if_pos (by omega), if_pos (by omega), show (i : Int) - 1 = ((i - 1 : Nat) : Int) by omega]
    rw [hp.2 (by omega)] at h4 h5
    exact j3 _ (by simp; omega) h4 h5
/-- An item behind what stands ahead of it. -/
theorem lay_j6 (l : List S73) (op cl : List Int) (hop : op.length ≤ 1048576) (hcl : cl.length ≤ 1048576) (d : Int) (i : Nat) (hd0 : 0 ≤ d) (hd1 : d ≤ i) (hl : l.length ≤ 5000) (hi : i < l.length) (x : S73) (r : List S73 × Int × Int) (st : List Int) (out : List S73) (hs : out.length ≤ 1000000)
    (h3 : depR op cl x.f0 d = none → r = ([], 3, (i : Int))) (h4 : ∀ d1, depR op cl x.f0 d = some d1 → Ev (fun k => spec_Layout.l0 k l [] (out ++ [x]) st d1 ((i + 1 : Nat) : Int) op cl) r) :
    Ev (fun k => spec_Layout.j6 k l [] out st d i op cl x.f0 x.f1 x.f2) r := by
  rw [ev_succ]
  simp only [spec_Layout.j6]
  rw [ev_bind (spec_l1Has_ev cl x.f0 (by omega))]
  simp only [ev_ite]
  unfold depR at h3 h4
  rw [wrap_succ hi (by omega)]
  by_cases hc : hasB cl x.f0 = true
  · rw [if_pos hc] at h3 h4 ⊢
    by_cases hd : d = 0
    · rw [if_pos hd] at h3 ⊢
      exact ev_some.2 (h3 rfl).symm
    · rw [if_neg hd] at h4 ⊢
      rw [ev_bind (spec_l1Has_ev op x.f0 (by omega))]
      simp only [ev_ite]
      rw [wrap_id (x := d - 1) (by omega) (by omega), wrap_id (x := d - 1 + 1) (by omega) (by omega)]
      have := h4 _ rfl
      by_cases ho : hasB op x.f0 = true
      · rw [if_pos ho] at this ⊢
        rw [if_pos (by omega)]
        exact this
      · rw [if_neg ho] at this ⊢
        rw [if_pos (by omega)]
        exact this
  · rw [if_neg hc] at h4 ⊢
    rw [ev_bind (spec_l1Has_ev op x.f0 (by omega))]
    simp only [ev_ite]
    rw [wrap_id (x := d + 1) (by omega) (by omega)]
    have := h4 _ rfl
    by_cases ho : hasB op x.f0 = true
    · rw [if_pos ho] at this ⊢
      rw [if_pos (by omega)]
      exact this
    · rw [if_neg ho] at this ⊢
      rw [if_pos (by omega)]
      exact this
theorem depR_bound {op cl : List Int} {kind d d1 : Int} (h0 : 0 ≤ d) (h : depR op cl kind d = some d1) : 0 ≤ d1 ∧ d1 ≤ d + 1 := by
  unfold depR at h
  split at h
  · split at h
    · cases h
    · have := Option.some.inj h
      split at this <;> omega
  · have := Option.some.inj h
    split at this <;> omega
theorem lay_l0 (l : List S73) (op cl : List Int) (hop : op.length ≤ 1048576) (hcl : cl.length ≤ 1048576) (hl : l.length ≤ 5000) (hcol : ∀ i, i < l.length → 1 ≤ (rd_T73 l (i : Int)).f2) : ∀ i, i ≤ l.length → ∀ (p : Option S73) (out : List S73) (st : List Int) (d : Int), (i = 0 → p = none) → (0 < i → p = some (rd_T73 l ((i - 1 : Nat) : Int))) → 1 ≤ st.length → st[0]? = some 1 → out.length + st.length ≤ 4 * i + 1 → 0 ≤ d → d ≤ i →
    Ev (fun k => spec_Layout.l0 k l [] out st d (i : Int) op cl) (layR op cl p (l.drop i) out st d i) := by
  refine down l.length _ ?_ ?_
  · intro p out st d hp0 hp1 h1 h0 hs hd0 hd1
    rw [ev_succ, List.drop_length]
    simp only [spec_Layout.l0, layR, spec_l16Made.f, Option.bind_some, ev_ite, ev_some]
    rw [if_neg (by omega)]
    by_cases hd : d = 0
    · rw [if_pos hd, if_pos hd]
      by_cases hz : l.length = 0
      · rw [if_neg (by omega), hp0 hz]
        rfl
      · rw [if_pos (by omega), wrap_id (x := (l.length : Int) - 1) (by omega) (by omega), if_pos (by omega), if_pos (by omega), if_pos (by omega), wrap_id (x := (st.length : Int) - 1) (by omega) (by omega), hp1 (by omega), show (l.length : Int) - 1 = ((l.length - 1 : Nat) : Int) by omega, show (st.length : Int) - 1 = ((st.length - 1 : Nat) : Int) by omega]
        exact lay_l2 _ _ _ (by simp; omega)
    · rw [if_neg hd, if_neg hd]
  · intro i hi ih p out st d hp0 hp1 h1 h0 hs hd0 hd1
    rw [ev_succ, drop_cons l z73 i hi]
    have hr : l.getD i z73 = rd_T73 l i := by simp [rd_T73]
    rw [hr]
    have hx := hcol i hi
    simp only [spec_Layout.l0, layR, ev_ite]
    rw [if_pos (by omega), if_pos (by omega)]
    generalize hT : l.drop (i + 1) = T at *
    have hq1 : ∀ q : S73, (i + 1 = 0 → some q = none) := fun q h => by omega
    have put : ∀ (o : List S73) (s : List Int), 1 ≤ s.length → s[0]? = some 1 → o.length + s.length ≤ 4 * i + 4 → Ev (fun k => spec_Layout.j6 k l [] o s d i op cl (rd_T73 l i).f0 (rd_T73 l i).f1 (rd_T73 l i).f2) (match depR op cl (rd_T73 l i).f0 d with
          | none => ([], 3, (i : Int))
          | some d1 => layR op cl (some (rd_T73 l i)) T (o ++ [rd_T73 l i]) s d1 (i + 1)) := by
      intro o s g1 g0 gs
      refine lay_j6 l op cl hop hcl d i hd0 hd1 hl hi _ _ s o (by omega) (fun h => by rw [h]) (fun d1 h => ?_)
      rw [h]
      have := depR_bound hd0 h
      have key := ih (some (rd_T73 l i)) (o ++ [rd_T73 l i]) s d1 (fun h => by omega) (fun _ => by rw [Nat.add_sub_cancel]) g1 g0 (by simp; omega) this.1 (by omega)
      simpa using key
    have j2f : Ev (fun k => spec_Layout.j2 k l [] out st d i false op cl (rd_T73 l i).f0 (rd_T73 l i).f1 (rd_T73 l i).f2) (match depR op cl (rd_T73 l i).f0 d with
          | none => ([], 3, (i : Int))
          | some d1 => layR op cl (some (rd_T73 l i)) T (out ++ [rd_T73 l i]) st d1 (i + 1)) := by
      rw [ev_succ]
      simp only [spec_Layout.j2, Bool.false_eq_true, if_false]
      exact put out st h1 h0 (by omega)
    have hnl : (nlR p out).length ≤ out.length + 1 := by
      unfold nlR
      split <;> simp
    have j2t : Ev (fun k => spec_Layout.j2 k l [] out st d i true op cl (rd_T73 l i).f0 (rd_T73 l i).f1 (rd_T73 l i).f2) (if lastC (begR (rd_T73 l i) st (nlR p out)).1 = (rd_T73 l i).f2 then
        (match depR op cl (rd_T73 l i).f0 d with
          | none => ([], 3, (i : Int))
          | some d1 => layR op cl (some (rd_T73 l i)) T ((begR (rd_T73 l i) st (nlR p out)).2 ++ [rd_T73 l i]) (begR (rd_T73 l i) st (nlR p out)).1 d1 (i + 1))
      else ([], 2, (i : Int))) := by
      obtain ⟨a, b, c, e⟩ := begR_keeps (rd_T73 l i) hx st (nlR p out) h1 h0
      refine lay_j2 l op cl d i _ hx (by omega) hl p ⟨hp0, hp1⟩ _ st out h1 h0 (by omega) (fun h => ?_) (fun h => ?_)
      · rw [if_pos h]
        exact put _ _ b a (by omega)
      · rw [if_neg h]
    by_cases hd : d = 0
    · rw [if_pos hd]
      by_cases hz : i = 0
      · rw [if_pos (by omega), if_pos ⟨hd, by rw [hp0 hz]; rfl⟩]
        exact j2t
      · rw [if_neg (by omega), wrap_id (x := (i : Int) - 1) (by omega) (by omega), if_pos (by omega), if_pos (by omega), show (i : Int) - 1 = ((i - 1 : Nat) : Int) by omega]
        have hnew : newR p (rd_T73 l i) = decide ((rd_T73 l i).f1 > (rd_T73 l ((i - 1 : Nat) : Int)).f1) := by rw [hp1 (by omega)]; rfl
        rw [← hnew]
        cases hn : newR p (rd_T73 l i)
        · rw [if_neg (by simp)]
          exact j2f
        · rw [if_pos ⟨hd, rfl⟩]
          exact j2t
    · rw [if_neg hd, if_neg (fun h => hd h.1)]
      exact j2f
/-- Right brackets. -/
def bracketsB (op cl : List Int) : Bool := kindsB op && kindsB cl && !(op.any fun k => hasB cl k)
def layB (l : List S73) (op cl : List Int) : List S73 × Int × Int := if itemsB l && bracketsB op cl then layR op cl none l [] [1] 0 0 else ([], 1, -1)
theorem layR_few (op cl : List Int) : ∀ (xs : List S73) (p : Option S73) (out : List S73) (st : List Int) (d i : Int), (∀ x ∈ xs, 1 ≤ x.f2) → 1 ≤ st.length → st[0]? = some 1 → (layR op cl p xs out st d i).1.length ≤ out.length + st.length + 1 + 4 * xs.length := by
  intro xs
  induction xs with
  | nil =>
    intro p out st d i _ h1 _
    simp only [layR]
    split
    · unfold endR
      split <;> simp <;> omega
    · simp
  | cons x xs ih =>
    intro p out st d i hx h1 h0
    have hnl : (nlR p out).length ≤ out.length + 1 := by
      unfold nlR
      split <;> simp
    simp only [layR]
    split
    · split
      · split
        · simp
        · obtain ⟨a, b, c, e⟩ := begR_keeps x (hx x (by simp)) st (nlR p out) h1 h0
          have := ih (some x) ((begR x st (nlR p out)).2 ++ [x]) (begR x st (nlR p out)).1 ‹_› (i + 1) (fun y hy => hx y (by simp [hy])) b a
          simp only [List.length_append, List.length_cons, List.length_nil] at this ⊢
          omega
      · simp
    · split
      · simp
      · have := ih (some x) (out ++ [x]) st ‹_› (i + 1) (fun y hy => hx y (by simp [hy])) h1 h0
        simp only [List.length_append, List.length_cons, List.length_nil] at this ⊢
        omega
theorem itemsR_col : ∀ (l : List S73) (last : Int), itemsR last l = true → ∀ x ∈ l, 1 ≤ x.f2 := by
  intro l
  induction l with
  | nil => intro last _ x hx; cases hx
  | cons y l ih =>
    intro last h x hx
    simp only [itemsR, itemB, Bool.and_eq_true, decide_eq_true_eq] at h
    rcases List.mem_cons.1 hx with rfl | hx
    · exact h.1.1.2.1
    · exact ih _ h.2 x hx
theorem layB_few (l : List S73) (op cl : List Int) : (layB l op cl).1.length ≤ 20002 := by
  unfold layB
  split
  · rename_i h
    simp only [Bool.and_eq_true, itemsB, decide_eq_true_eq] at h
    have := layR_few op cl l none [] [1] 0 0 (itemsR_col l 0 h.1.2) (by simp) rfl
    simp at this
    omega
  · simp
theorem spec_Layout_of (l : List S73) (op cl : List Int) (hop : op.length ≤ 1048576) (hcl : cl.length ≤ 1048576) (hb : Ev (fun k => spec_l16Brackets.f k op cl) (bracketsB op cl)) : Ev (fun k => spec_Layout.f k l op cl) (layB l op cl) := by
  unfold spec_Layout.f layB
  simp only [Option.bind_some]
  rw [ev_bind (spec_l16Items_ev l)]
  simp only [ev_ite]
  have bad : Ev (fun k => spec_Layout.j0 k l [] true op cl) ([], 1, -1) := by
    rw [ev_succ]
    simp only [spec_Layout.j0, if_true]
    exact ev_some.2 rfl
  cases hi : itemsB l
  · rw [if_neg (by simp), Bool.false_and, if_neg (by simp)]
    exact bad
  · rw [if_pos rfl, ev_bind hb, Bool.true_and]
    cases hbb : bracketsB op cl
    · rw [if_neg (by simp)]
      exact bad
    · rw [if_pos rfl, ev_succ]
      simp only [spec_Layout.j0, Bool.not_true, Bool.false_eq_true, if_false]
      simp only [itemsB, Bool.and_eq_true, decide_eq_true_eq] at hi
      have := lay_l0 l op cl hop hcl hi.1 (fun i h => itemsR_col l 0 hi.2 _ (by
        unfold rd_T73
        rw [List.getD_eq_getElem?_getD, Int.toNat_natCast, List.getElem?_eq_getElem h]
        exact List.getElem_mem _)) 0 (by omega) none [] [1] 0 (fun _ => rfl) (fun h => by omega) (by simp) rfl (by simp) (by omega) (by omega)
      simpa using this
end Go.Proofs.Ytimdoghlnegpgaa.P
/- What the reference's check of brackets answers. -/
namespace Go.Proofs.Ytimdoghlnegpgaa.P
open Go.RowKit Go.Proofs.YtimdoghlnegpgaaW.PrintWords Go.Proofs.YtimdoghlnegpgaaW.PrintLast Go.Proofs.YtimdoghlnegpgaaW.PrintMore Go.Proofs.YtimdoghlnegpgaaEv
set_option linter.unusedVariables false
set_option linter.unusedSimpArgs false
theorem spec_l16Brackets_ev (op cl : List Int) (hop : op.length ≤ 1048576) (hcl : cl.length ≤ 1048576) : Ev (fun k => spec_l16Brackets.f k op cl) (bracketsB op cl) := by
  have bad : Ev (fun k => spec_l16Brackets.j0 k true op cl) false := by
    rw [ev_succ]
    simp only [spec_l16Brackets.j0, if_true]
    exact ev_some.2 rfl
  have good : Ev (fun k => spec_l16Brackets.j0 k false op cl) (!(op.any fun k => hasB cl k)) := by
    rw [ev_succ]
    simp only [spec_l16Brackets.j0, Bool.false_eq_true, if_false]
    have key := ev_loop op.length (fun k i => spec_l16Brackets.l0 k (i : Nat) op cl) (fun i => !((op.drop i).any fun k => hasB cl k)) ?_ ?_ 0 (by omega)
    · exact key
    · rw [ev_succ]
      simp [spec_l16Brackets.l0, ev_some]
    · intro i hi ih
      rw [ev_succ, any_drop op 0 _ i hi, rd_nat]
      simp only [spec_l16Brackets.l0, ev_ite, ev_some]
      rw [if_pos (by omega), if_pos (by omega), wrap_succ hi (by omega), ev_bind (spec_l1Has_ev cl _ (by omega))]
      simp only [ev_ite, ev_some]
      cases h : hasB cl (rd op i)
      · rw [if_neg (by simp), Bool.false_or]
        exact ih
      · rw [if_pos rfl]
        rfl
  unfold spec_l16Brackets.f bracketsB
  rw [ev_bind (spec_l16Kinds_ev op)]
  simp only [ev_ite]
  cases h1 : kindsB op
  · rw [if_neg (by simp)]
    exact bad
  · rw [if_pos rfl, ev_bind (spec_l16Kinds_ev cl)]
    cases h2 : kindsB cl
    · exact bad
    · simpa using good
theorem spec_Layout_ev (l : List S73) (op cl : List Int) (hop : op.length ≤ 1048576) (hcl : cl.length ≤ 1048576) : Ev (fun k => spec_Layout.f k l op cl) (layB l op cl) := spec_Layout_of l op cl hop hcl (spec_l16Brackets_ev op cl hop hcl)
end Go.Proofs.Ytimdoghlnegpgaa.P
/- The reference's draws end: next, below, once, word, near, off, size. -/
namespace Go.Proofs.Ytimdoghlnegpgaa.P
open Go.RowKit Go.Proofs.YtimdoghlnegpgaaW.PrintWords Go.Proofs.YtimdoghlnegpgaaW.PrintLast Go.Proofs.YtimdoghlnegpgaaW.PrintMore Go.Proofs.YtimdoghlnegpgaaEv
set_option linter.unusedVariables false
set_option linter.unusedSimpArgs false

/-- The code that draws, and the place in it. -/
def Dr (b : List Int) (p : Int) : Prop := (∀ x ∈ b, 0 ≤ x ∧ x ≤ 255) ∧ 0 ≤ p ∧ p ≤ b.length ∧ b.length ≤ 1048576
theorem next_ok {b : List Int} {p : Int} (h : Dr b p) : ∃ v p', spec_l1Rd_next.f b p = some (v, p') ∧ 0 ≤ v ∧ v ≤ 255 ∧ Dr b p' := by
  obtain ⟨hb, h0, h1, h2⟩ := h
  unfold spec_l1Rd_next.f
  by_cases hp : p ≥ (b.length : Int)
  · rw [if_pos hp]
    exact ⟨0, p, rfl, by omega, by omega, hb, h0, h1, h2⟩
  · rw [if_neg hp, wrap_id (x := p + 1) (by omega) (by omega), show p + 1 - 1 = p by omega, wrap_id (x := p) (by omega) (by omega), if_pos h0, if_pos (by omega)]
    have hm := hb (rd b p) (by
      unfold rd
      rw [List.getD_eq_getElem?_getD, List.getElem?_eq_getElem (by omega)]
      exact List.getElem_mem _)
    rw [wrap_id (x := rd b p) (by omega) (by omega)]
    exact ⟨_, _, rfl, hm.1, hm.2, hb, by omega, by omega, h2⟩
theorem tmod_ok {x n : Int} (h0 : 0 ≤ x) (hn : 0 < n) : 0 ≤ Int.tmod x n ∧ Int.tmod x n < n := by
  rw [Int.tmod_eq_emod_of_nonneg h0]
  exact ⟨Int.emod_nonneg _ (by omega), Int.emod_lt_of_pos _ hn⟩
theorem below_ok {b : List Int} {p : Int} (h : Dr b p) (n : Int) : ∃ v p', spec_l1Rd_below.f b p n = some (v, p') ∧ 0 ≤ v ∧ (1 ≤ n → v < n) ∧ Dr b p' := by
  unfold spec_l1Rd_below.f
  by_cases h1 : n ≤ 1
  · rw [if_pos h1]
    exact ⟨0, p, rfl, by omega, by omega, h⟩
  rw [if_neg h1]
  obtain ⟨v, q, e, hv0, hv1, hq⟩ := next_ok h
  by_cases h2 : n ≤ 256
  · rw [if_pos h2, e]
    simp only [Option.bind_some]
    rw [if_neg (by omega)]
    have := tmod_ok hv0 (show 0 < n by omega)
    exact ⟨_, _, rfl, this.1, fun _ => this.2, hq⟩
  · rw [if_neg h2, e]
    simp only [Option.bind_some]
    obtain ⟨v2, q2, e2, hw0, hw1, hq2⟩ := next_ok hq
    rw [e2]
    simp only [Option.bind_some]
    rw [if_neg (by omega), wrap_id (x := v * 256) (by omega) (by omega), wrap_id (x := v * 256 + v2) (by omega) (by omega)]
    have := tmod_ok (show 0 ≤ v * 256 + v2 by omega) (show 0 < n by omega)
    exact ⟨_, _, rfl, this.1, fun _ => this.2, hq2⟩
theorem once_ok {b : List Int} {p : Int} (h : Dr b p) (n : Int) : ∃ v p', spec_l1Rd_once.f b p n = some (v, p') ∧ Dr b p' := by
  unfold spec_l1Rd_once.f
  obtain ⟨v, q, e, _, _, hq⟩ := below_ok h n
  rw [e]
  exact ⟨_, _, rfl, hq⟩
theorem size_ok {b : List Int} {p : Int} (h : Dr b p) (per most : Int) (hp : 1 ≤ per) (hm : 1 ≤ most) (hm2 : most ≤ 1000000) : ∃ v p', spec_l1Rd_size.f b p per most = some (v, p') ∧ 1 ≤ v ∧ v ≤ most ∧ Dr b p' := by
  have hd0 : 0 ≤ (b.length : Int) / per := Int.ediv_nonneg (by omega) (by omega)
  have hd1 : (b.length : Int) / per ≤ b.length := Int.ediv_le_self _ (by omega)
  have h2 := h.2.2.2
  unfold spec_l1Rd_size.f
  rw [if_neg (by omega), wrap_id (x := (b.length : Int) / per) (by omega) (by omega), wrap_id (x := 1 + (b.length : Int) / per) (by omega) (by omega)]
  by_cases hc : 1 + (b.length : Int) / per > most
  · rw [if_pos hc]
    obtain ⟨v, q, e, h0, h1, hq⟩ := below_ok h most
    have := h1 hm
    rw [e]
    simp only [Option.bind_some]
    rw [wrap_id (x := 1 + v) (by omega) (by omega)]
    exact ⟨_, _, rfl, by omega, by omega, hq⟩
  · rw [if_neg hc]
    obtain ⟨v, q, e, h0, h1, hq⟩ := below_ok h (1 + (b.length : Int) / per)
    have := h1 (by omega)
    rw [e]
    simp only [Option.bind_some]
    rw [wrap_id (x := 1 + v) (by omega) (by omega)]
    exact ⟨_, _, rfl, by omega, by omega, hq⟩
theorem word_ok {b : List Int} : ∀ (n : Nat) (i : Int) (x p : Int), Dr b p → 0 ≤ i → 8 - i = n → ∃ v p', Ev (fun k => spec_l1Rd_word.l0 k x i b p) (v, p') ∧ Dr b p' := by
  intro n
  induction n with
  | zero =>
    intro i x p h h0 hi
    refine ⟨x, p, ?_, h⟩
    rw [ev_succ]
    simp only [spec_l1Rd_word.l0, ev_ite, ev_some]
    rw [if_neg (by omega)]
    trivial
  | succ n ih =>
    intro i x p h h0 hi
    obtain ⟨v, q, e, _, _, hq⟩ := next_ok h
    obtain ⟨r, q2, e2, hq2⟩ := ih (i + 1) (Go.bits .or .u64 (IntKind.u64.wrap (x * 256)) (IntKind.u64.wrap v)) q hq (by omega) (by omega)
    refine ⟨r, q2, ?_, hq2⟩
    rw [ev_succ]
    simp only [spec_l1Rd_word.l0, ev_ite, e, Option.bind_some]
    rw [if_pos (by omega), wrap_id (x := i + 1) (by omega) (by omega)]
    exact e2
theorem near_ok {b : List Int} {p : Int} (h : Dr b p) (lo hi : Int) (hl : 0 ≤ lo) (hh : hi ≤ 1000000000) : ∃ v p', Ev (fun k => spec_l1Rd_near.f k b p lo hi) (v, p') ∧ Dr b p' := by
  unfold spec_l1Rd_near.f
  obtain ⟨v, q, e, _, _, hq⟩ := below_ok h 8
  rw [e]
  simp only [Option.bind_some, ev_ite]
  by_cases h0 : v = 0
  · exact ⟨_, _, by rw [if_pos h0]; exact ev_some.2 rfl, hq⟩
  by_cases h1 : v = 1
  · exact ⟨_, _, by rw [if_neg h0, if_pos h1]; exact ev_some.2 rfl, hq⟩
  by_cases h2 : hi < lo
  · exact ⟨_, _, by rw [if_neg h0, if_neg h1, if_pos h2]; exact ev_some.2 rfl, hq⟩
  obtain ⟨x, q2, e2, hq2⟩ := word_ok 8 0 0 q hq (by omega) (by omega)
  have e3 : Ev (fun k => spec_l1Rd_word.f k b q) (x, q2) := e2
  have hw : IntKind.u64.wrap (hi - lo + 1) = hi - lo + 1 := by
    rw [IntKind.wrap_u64]
    omega
  refine ⟨wrap64 (lo + wrap64 (Int.tmod (x / 2) (hi - lo + 1))), q2, ?_, hq2⟩
  rw [if_neg h0, if_neg h1, if_neg h2, ev_bind e3, wrap_id (x := hi - lo) (by omega) (by omega), wrap_id (x := hi - lo + 1) (by omega) (by omega), hw]
  simp only [ev_ite]
  rw [if_neg (by omega)]
  exact ev_some.2 rfl
theorem off_ok {b : List Int} {p : Int} (h : Dr b p) (lo hi : Int) (hl : 0 ≤ lo) (hh : hi ≤ 1000000000) : ∃ v p', Ev (fun k => spec_l1Rd_off.f k b p lo hi) (v, p') ∧ Dr b p' := by
  unfold spec_l1Rd_off.f
  obtain ⟨o, q, e, hq⟩ := once_ok h 24
  rw [e]
  simp only [Option.bind_some, ev_ite]
  cases o
  · obtain ⟨v, q2, e2, hq2⟩ := near_ok hq lo hi hl hh
    refine ⟨v, q2, ?_, hq2⟩
    rw [if_neg (by simp), ev_bind e2]
    exact ev_some.2 rfl
  · obtain ⟨v, q2, e2, h0, h1, hq2⟩ := below_ok hq 4
    have := h1 (by omega)
    refine ⟨rd [wrap64 (lo - 1), wrap64 (hi + 1), -9223372036854775808, 9223372036854775807] v, q2, ?_, hq2⟩
    rw [if_pos rfl, e2]
    simp only [Option.bind_some, ev_ite]
    rw [if_pos h0, if_pos (by simp; omega)]
    exact ev_some.2 rfl
end Go.Proofs.Ytimdoghlnegpgaa.P
/- The reference's draw of items ends, with at most 5001 items. -/
namespace Go.Proofs.Ytimdoghlnegpgaa.P
open Go.RowKit Go.Proofs.YtimdoghlnegpgaaW.PrintWords Go.Proofs.YtimdoghlnegpgaaW.PrintLast Go.Proofs.YtimdoghlnegpgaaW.PrintMore Go.Proofs.YtimdoghlnegpgaaEv
set_option linter.unusedVariables false
set_option linter.unusedSimpArgs false

theorem items_l3_ok {b : List Int} : ∀ (n : Nat) (out : List S73) (p : Int), Dr b p → 1 ≤ out.length → out.length + n = 5001 → ∃ o q, Ev (fun k => spec_l1Rd_items.l3 k out b p) (o, q) ∧ Dr b q ∧ o.length ≤ 5001 := by
  intro n
  induction n with
  | zero =>
    intro out p h h1 hn
    obtain ⟨v, q, e, h0, hv, hq⟩ := below_ok h 2
    have := hv (by omega)
    refine ⟨out, q, ?_, hq, by omega⟩
    rw [ev_succ]
    simp only [spec_l1Rd_items.l3, e, Option.bind_some, ev_ite]
    rw [wrap_id (x := 5000 + v) (by omega) (by omega), if_neg (by omega)]
    exact ev_some.2 rfl
  | succ n ih =>
    intro out p h h1 hn
    obtain ⟨v, q, e, h0, hv, hq⟩ := below_ok h 2
    have := hv (by omega)
    by_cases hc : (out.length : Int) < 5000 + v
    · obtain ⟨o, q2, e2, hq2, hl⟩ := ih (out ++ [⟨(rd_T73 out ((out.length : Int) - 1)).f0, (rd_T73 out ((out.length : Int) - 1)).f1, (rd_T73 out ((out.length : Int) - 1)).f2⟩]) q hq (by simp) (by simp; omega)
      refine ⟨o, q2, ?_, hq2, hl⟩
      rw [ev_succ]
      simp only [spec_l1Rd_items.l3, e, Option.bind_some, ev_ite]
      rw [wrap_id (x := 5000 + v) (by omega) (by omega), if_pos hc, wrap_id (x := (out.length : Int) - 1) (by omega) (by omega), if_pos (by omega), if_pos (by omega), if_pos (by omega)]
      exact e2
    · refine ⟨out, q, ?_, hq, by omega⟩
      rw [ev_succ]
      simp only [spec_l1Rd_items.l3, e, Option.bind_some, ev_ite]
      rw [wrap_id (x := 5000 + v) (by omega) (by omega), if_neg hc]
      exact ev_some.2 rfl
/-- The next line's loop ends. -/
def NextOk (b : List Int) (cols : List Int) (line : Int) : Prop := ∀ (out : List S73) (depth p : Int), Dr b p → 1 ≤ out.length → (out.length : Int) ≤ 40 * line → -4 * line ≤ depth → depth ≤ 4 * line → ∃ o q, Ev (fun k => spec_l1Rd_items.l0 k out cols depth (line + 1) b p) (o, q) ∧ Dr b q ∧ o.length ≤ 5001
theorem items_l2_ok {b cols : List Int} {line : Int} (hl : 1 ≤ line ∧ line ≤ 9) (hN : NextOk b cols line) (col : Int) : ∀ (n : Nat) (out : List S73) (depth p : Int), Dr b p → 1 ≤ out.length → depth ≤ n → (out.length : Int) + n ≤ 40 * line → -4 * line ≤ depth → depth ≤ 4 * line → ∃ o q, Ev (fun k => spec_l1Rd_items.l2 k out cols depth line col b p) (o, q) ∧ Dr b q ∧ o.length ≤ 5001 := by
  intro n
  induction n with
  | zero =>
    intro out depth p h h1 hd ho hd0 hd1
    obtain ⟨o, q, e, hq, hol⟩ := hN out depth p h h1 (by omega) hd0 hd1
    refine ⟨o, q, ?_, hq, hol⟩
    rw [ev_succ]
    simp only [spec_l1Rd_items.l2, ev_ite]
    rw [if_neg (by omega), wrap_id (x := line + 1) (by omega) (by omega)]
    exact e
  | succ n ih =>
    intro out depth p h h1 hd ho hd0 hd1
    by_cases hc : depth > 0
    · obtain ⟨v, q, e, hq⟩ := once_ok h 6
      cases v
      · obtain ⟨o, q2, e2, hq2, hol⟩ := ih (out ++ [⟨4, line, col⟩]) (depth - 1) q hq (by simp) (by omega) (by simp; omega) (by omega) (by omega)
        refine ⟨o, q2, ?_, hq2, hol⟩
        rw [ev_succ]
        simp only [spec_l1Rd_items.l2, ev_ite, e, Option.bind_some]
        rw [if_pos hc, if_neg (by simp), if_pos (by omega), wrap_id (x := depth - 1) (by omega) (by omega)]
        exact e2
      · obtain ⟨o, q2, e2, hq2, hol⟩ := hN out depth q hq h1 (by omega) hd0 hd1
        refine ⟨o, q2, ?_, hq2, hol⟩
        rw [ev_succ]
        simp only [spec_l1Rd_items.l2, ev_ite, e, Option.bind_some]
        rw [if_pos hc, if_pos trivial, wrap_id (x := line + 1) (by omega) (by omega)]
        exact e2
    · obtain ⟨o, q, e, hq, hol⟩ := hN out depth p h h1 (by omega) hd0 hd1
      refine ⟨o, q, ?_, hq, hol⟩
      rw [ev_succ]
      simp only [spec_l1Rd_items.l2, ev_ite]
      rw [if_neg hc, wrap_id (x := line + 1) (by omega) (by omega)]
      exact e
theorem items_l1_ok {b cols : List Int} {line : Int} (hl : 1 ≤ line ∧ line ≤ 9) (hN : NextOk b cols line) : ∀ (n : Nat) (out : List S73) (depth col p : Int), n ≤ 4 → Dr b p → (1 ≤ n ∨ 1 ≤ out.length) → (out.length : Int) ≤ 40 * (line - 1) + (4 - n) → -4 * (line - 1) - (4 - n) ≤ depth → depth ≤ 4 * (line - 1) + (4 - n) → ∃ o q, Ev (fun k => spec_l1Rd_items.l1 k out cols depth line col n b p) (o, q) ∧ Dr b q ∧ o.length ≤ 5001 := by
  intro n
  induction n with
  | zero =>
    intro out depth col p h4 h h1 ho hd0 hd1
    obtain ⟨o, q, e, hq, hol⟩ := items_l2_ok hl hN col (4 * line).toNat out depth p h (by omega) (by omega) (by omega) (by omega) (by omega)
    refine ⟨o, q, ?_, hq, hol⟩
    rw [ev_succ]
    simp only [spec_l1Rd_items.l1, ev_ite]
    rw [if_neg (by omega)]
    exact e
  | succ n ih =>
    intro out depth col p h4 h h1 ho hd0 hd1
    have j5 : ∀ (kind q : Int), Dr b q → ∃ o q2, Ev (fun k => spec_l1Rd_items.j5 k out cols depth line col ((n + 1 : Nat) : Int) kind b q) (o, q2) ∧ Dr b q2 ∧ o.length ≤ 5001 := by
      intro kind q hq
      obtain ⟨v, q2, e, _, _, hq2⟩ := below_ok hq 3
      have hd : ∀ d : Int, depth - 1 ≤ d → d ≤ depth + 1 → ∃ o q3, Ev (fun k => spec_l1Rd_items.l1 k (out ++ [⟨kind, line, col⟩]) cols d line (wrap64 (wrap64 (col + 1) + v)) n b q2) (o, q3) ∧ Dr b q3 ∧ o.length ≤ 5001 := fun d h0 h1 =>
        ih _ d _ q2 (by omega) hq2 (.inr (by simp)) (by simp; omega) (by omega) (by omega)
      have hwn : wrap64 (((n + 1 : Nat) : Int) - 1) = (n : Int) := by rw [wrap_id (by omega) (by omega)]; omega
      have hol : out.length < 5864062014805 := by omega
      by_cases h3 : kind = 3
      · obtain ⟨o, q3, e3, hq3, ho3⟩ := hd (depth + 1) (by omega) (by omega)
        refine ⟨o, q3, ?_, hq3, ho3⟩
        rw [ev_succ]
        simp only [spec_l1Rd_items.j5, ev_ite, e, Option.bind_some]
        rw [if_pos h3, if_neg (by omega), if_pos hol, hwn, wrap_id (x := depth + 1) (by omega) (by omega)]
        exact e3
      · by_cases h4 : kind = 4
        · obtain ⟨o, q3, e3, hq3, ho3⟩ := hd (depth - 1) (by omega) (by omega)
          refine ⟨o, q3, ?_, hq3, ho3⟩
          rw [ev_succ]
          simp only [spec_l1Rd_items.j5, ev_ite, e, Option.bind_some]
          rw [if_neg h3, if_pos h4, if_pos hol, hwn, wrap_id (x := depth - 1) (by omega) (by omega)]
          exact e3
        · obtain ⟨o, q3, e3, hq3, ho3⟩ := hd depth (by omega) (by omega)
          refine ⟨o, q3, ?_, hq3, ho3⟩
          rw [ev_succ]
          simp only [spec_l1Rd_items.j5, ev_ite, e, Option.bind_some]
          rw [if_neg h3, if_neg h4, if_pos hol, hwn]
          exact e3
    have j4 : ∀ (kind q : Int) (c : Bool), Dr b q → ∃ o q2, Ev (fun k => spec_l1Rd_items.j4 k out cols depth line col ((n + 1 : Nat) : Int) kind c b q) (o, q2) ∧ Dr b q2 ∧ o.length ≤ 5001 := by
      intro kind q c hq
      cases c
      · obtain ⟨o, q2, e, hq2, ho2⟩ := j5 kind q hq
        refine ⟨o, q2, ?_, hq2, ho2⟩
        rw [ev_succ]
        simp only [spec_l1Rd_items.j4, ev_ite]
        rw [if_neg (by simp)]
        exact e
      · obtain ⟨o, q2, e, hq2, ho2⟩ := j5 0 q hq
        refine ⟨o, q2, ?_, hq2, ho2⟩
        rw [ev_succ]
        simp only [spec_l1Rd_items.j4, ev_ite]
        rw [if_pos trivial]
        exact e
    obtain ⟨v, q, e, _, _, hq⟩ := below_ok h 5
    by_cases h4' : v = 4
    · by_cases h0 : depth = 0
      · obtain ⟨c, q2, e2, hq2⟩ := once_ok hq 20
        obtain ⟨o, q3, e3, hq3, ho3⟩ := j4 v q2 (!c) hq2
        refine ⟨o, q3, ?_, hq3, ho3⟩
        rw [ev_succ]
        simp only [spec_l1Rd_items.l1, ev_ite, e, Option.bind_some]
        rw [if_pos (by omega), if_pos h4', if_pos h0, e2]
        exact e3
      · obtain ⟨o, q3, e3, hq3, ho3⟩ := j4 v q false hq
        refine ⟨o, q3, ?_, hq3, ho3⟩
        rw [ev_succ]
        simp only [spec_l1Rd_items.l1, ev_ite, e, Option.bind_some]
        rw [if_pos (by omega), if_pos h4', if_neg h0]
        exact e3
    · obtain ⟨o, q3, e3, hq3, ho3⟩ := j4 v q false hq
      refine ⟨o, q3, ?_, hq3, ho3⟩
      rw [ev_succ]
      simp only [spec_l1Rd_items.l1, ev_ite, e, Option.bind_some]
      rw [if_pos (by omega), if_neg h4']
      exact e3
theorem items_j1_ok {b cols : List Int} {line : Int} (hl : 1 ≤ line ∧ line ≤ 9) (hN : NextOk b cols line) (out : List S73) (depth col p : Int) (h : Dr b p) (ho : (out.length : Int) ≤ 40 * (line - 1)) (hd0 : -4 * (line - 1) ≤ depth) (hd1 : depth ≤ 4 * (line - 1)) : ∃ o q, Ev (fun k => spec_l1Rd_items.j1 k out cols depth line col b p) (o, q) ∧ Dr b q ∧ o.length ≤ 5001 := by
  have j2 : ∀ (c q : Int), Dr b q → ∃ o q2, Ev (fun k => spec_l1Rd_items.j2 k out cols depth line c b q) (o, q2) ∧ Dr b q2 ∧ o.length ≤ 5001 := by
    intro c q hq
    obtain ⟨v, q2, e, h0, h1, hq2⟩ := below_ok hq 4
    have := h1 (by omega)
    obtain ⟨o, q3, e3, hq3, ho3⟩ := items_l1_ok hl hN (1 + v).toNat out depth c q2 (by omega) hq2 (.inl (by omega)) (by omega) (by omega) (by omega)
    refine ⟨o, q3, ?_, hq3, ho3⟩
    rw [ev_succ]
    simp only [spec_l1Rd_items.j2, e, Option.bind_some]
    rw [wrap_id (x := 1 + v) (by omega) (by omega)]
    rw [Int.toNat_of_nonneg (by omega)] at e3
    exact e3
  obtain ⟨c, q, e, hq⟩ := once_ok h 20
  cases c
  · obtain ⟨o, q2, e2, hq2, ho2⟩ := j2 col q hq
    refine ⟨o, q2, ?_, hq2, ho2⟩
    rw [ev_succ]
    simp only [spec_l1Rd_items.j1, e, Option.bind_some, ev_ite]
    rw [if_neg (by simp)]
    exact e2
  · obtain ⟨v, q1, e1, _, _, hq1⟩ := below_ok hq 6
    obtain ⟨o, q2, e2, hq2, ho2⟩ := j2 (wrap64 (1 + v)) q1 hq1
    refine ⟨o, q2, ?_, hq2, ho2⟩
    rw [ev_succ]
    simp only [spec_l1Rd_items.j1, e, e1, Option.bind_some, ev_ite]
    rw [if_pos trivial]
    exact e2
theorem items_out_ok {b : List Int} (line : Int) (cols : List Int) (out : List S73) (depth p v q : Int) (e : spec_l1Rd_size.f b p 4 9 = some (v, q)) (hq : Dr b q) (hlt : ¬ line ≤ v) (hout : 1 ≤ out.length) (ho : (out.length : Int) ≤ 5000) : ∃ o q, Ev (fun k => spec_l1Rd_items.l0 k out cols depth line b p) (o, q) ∧ Dr b q ∧ o.length ≤ 5001 := by
  obtain ⟨i, q1, e1, hi0, hi1, hq1⟩ := below_ok hq (out.length : Int)
  obtain ⟨c, q2, e2, _, _, hq2⟩ := below_ok hq1 40
  have hil := hi1 (by omega)
  obtain ⟨w, q3, e3, hq3⟩ := off_ok hq2 1 9 (by omega) (by omega)
  obtain ⟨o3, q4, e4, hq4, hl4⟩ := items_l3_ok (5001 - out.length) out q2 hq2 hout (by omega)
  have goal : ∃ o q, Ev (fun k => if c = 0 then (if 0 ≤ i then (if i < (out.length : Int) then (some (out.set i.toNat (⟨-1, (rd_T73 out i).f1, (rd_T73 out i).f2⟩ : S73), q2)) else none) else none) else (if c = 1 then ((spec_l1Rd_off.f k b q2 1 9).bind fun bt => (if 0 ≤ i then (if i < (out.length : Int) then (some (out.set i.toNat (⟨(rd_T73 out i).f0, bt.1, (rd_T73 out i).f2⟩ : S73), bt.2)) else none) else none)) else (if c = 2 then ((spec_l1Rd_off.f k b q2 1 9).bind fun bt => (if 0 ≤ i then (if i < (out.length : Int) then (some (out.set i.toNat (⟨(rd_T73 out i).f0, (rd_T73 out i).f1, bt.1⟩ : S73), bt.2)) else none) else none)) else (if c = 3 then (spec_l1Rd_items.l3 k out b q2) else (if c = 4 then (if 0 ≤ (out.length : Int) then (some (out.take (0 : Int).toNat, q2)) else none) else (some (out, q2))))))) (o, q) ∧ Dr b q ∧ o.length ≤ 5001 := by
    simp only [ev_ite, ev_bind e3]
    by_cases c0 : c = 0
    · exact ⟨_, _, by rw [if_pos c0, if_pos hi0, if_pos hil]; exact ev_some.2 rfl, hq2, by simp; omega⟩
    by_cases c1 : c = 1
    · exact ⟨_, _, by rw [if_neg c0, if_pos c1, if_pos hi0, if_pos hil]; exact ev_some.2 rfl, hq3, by simp; omega⟩
    by_cases c2 : c = 2
    · exact ⟨_, _, by rw [if_neg c0, if_neg c1, if_pos c2, if_pos hi0, if_pos hil]; exact ev_some.2 rfl, hq3, by simp; omega⟩
    by_cases c3 : c = 3
    · exact ⟨_, _, by rw [if_neg c0, if_neg c1, if_neg c2, if_pos c3]; exact e4, hq4, hl4⟩
    by_cases c4 : c = 4
    · exact ⟨_, _, by rw [if_neg c0, if_neg c1, if_neg c2, if_neg c3, if_pos c4, if_pos (by omega)]; exact ev_some.2 rfl, hq2, by simp⟩
    · exact ⟨_, _, by rw [if_neg c0, if_neg c1, if_neg c2, if_neg c3, if_neg c4]; exact ev_some.2 rfl, hq2, by omega⟩
  obtain ⟨o, q5, e5, hq5, ho5⟩ := goal
  refine ⟨o, q5, ?_, hq5, ho5⟩
  rw [ev_succ]
  simp only [spec_l1Rd_items.l0, e, Option.bind_some, ev_ite]
  rw [if_neg (by omega), e1]
  simp only [Option.bind_some, e2]
  simp only [ev_ite] at e5
  simpa only [ev_ite] using e5
theorem items_l0_ok {b : List Int} : ∀ (m : Nat) (line : Int) (cols : List Int) (out : List S73) (depth p : Int), line + m = 10 → 1 ≤ line → Dr b p → 1 ≤ cols.length → (cols.length : Int) ≤ line → (2 ≤ line → 1 ≤ out.length) → (out.length : Int) ≤ 40 * (line - 1) → -4 * (line - 1) ≤ depth → depth ≤ 4 * (line - 1) → ∃ o q, Ev (fun k => spec_l1Rd_items.l0 k out cols depth line b p) (o, q) ∧ Dr b q ∧ o.length ≤ 5001 := by
  intro m
  induction m with
  | zero =>
    intro line cols out depth p hm h1 h hc0 hc1 ho1 ho hd0 hd1
    obtain ⟨v, q, e, hv0, hv1, hq⟩ := size_ok h 4 9 (by omega) (by omega) (by omega)
    exact items_out_ok line cols out depth p v q e hq (by omega) (ho1 (by omega)) (by omega)
  | succ m ih =>
    intro line cols out depth p hm h1 h hc0 hc1 ho1 ho hd0 hd1
    obtain ⟨v, q, e, hv0, hv1, hq⟩ := size_ok h 4 9 (by omega) (by omega) (by omega)
    by_cases hlt : line ≤ v
    · have hN : ∀ cols2 : List Int, 1 ≤ cols2.length → (cols2.length : Int) ≤ line + 1 → NextOk b cols2 line := fun cols2 h2 h3 out2 d2 p2 hp2 ho2 ho3 hd2 hd3 => ih (line + 1) cols2 out2 d2 p2 (by omega) (by omega) hp2 h2 h3 (fun _ => ho2) (by omega) (by omega) (by omega)
      have hw : wrap64 ((cols.length : Int) - 1) = (cols.length : Int) - 1 := wrap_id (by omega) (by omega)
      obtain ⟨c, q1, e1, _, _, hq1⟩ := below_ok hq 4
      by_cases c0 : c = 0
      · obtain ⟨o, q2, e2, hq2, ho2⟩ := items_j1_ok (by omega) (hN (cols ++ [wrap64 (rd cols ((cols.length : Int) - 1) + 2)]) (by simp) (by simp; omega)) out depth (wrap64 (rd cols ((cols.length : Int) - 1) + 2)) q1 hq1 ho hd0 hd1
        refine ⟨o, q2, ?_, hq2, ho2⟩
        rw [ev_succ]
        simp only [spec_l1Rd_items.l0, e, Option.bind_some, ev_ite, hw]
        rw [if_pos hlt, if_pos (by omega), if_pos (by omega), e1]
        simp only [Option.bind_some, ev_ite]
        rw [if_pos c0, if_pos (by omega)]
        exact e2
      by_cases c1 : c = 1
      · obtain ⟨w, q3, e3, hw0, hw1, hq3⟩ := below_ok hq1 (cols.length : Int)
        have hwl := hw1 (by omega)
        have hlen : (cols.take (1 + w).toNat).length = (1 + w).toNat := by simp; omega
        obtain ⟨o, q2, e2, hq2, ho2⟩ := items_j1_ok (by omega) (hN (cols.take (1 + w).toNat) (by omega) (by omega)) out depth (rd (cols.take (1 + w).toNat) (((cols.take (1 + w).toNat).length : Int) - 1)) q3 hq3 ho hd0 hd1
        refine ⟨o, q2, ?_, hq2, ho2⟩
        rw [ev_succ]
        simp only [spec_l1Rd_items.l0, e, Option.bind_some, ev_ite, hw]
        rw [if_pos hlt, if_pos (by omega), if_pos (by omega), e1]
        simp only [Option.bind_some, ev_ite]
        rw [if_neg c0, if_pos c1, e3]
        simp only [Option.bind_some, ev_ite]
        rw [wrap_id (x := 1 + w) (by omega) (by omega), if_pos (by omega), if_pos (by omega), wrap_id (x := ((cols.take (1 + w).toNat).length : Int) - 1) (by omega) (by omega), if_pos (by omega), if_pos (by omega)]
        exact e2
      · obtain ⟨o, q2, e2, hq2, ho2⟩ := items_j1_ok (by omega) (hN cols hc0 (by omega)) out depth (rd cols ((cols.length : Int) - 1)) q1 hq1 ho hd0 hd1
        refine ⟨o, q2, ?_, hq2, ho2⟩
        rw [ev_succ]
        simp only [spec_l1Rd_items.l0, e, Option.bind_some, ev_ite, hw]
        rw [if_pos hlt, if_pos (by omega), if_pos (by omega), e1]
        simp only [Option.bind_some, ev_ite]
        rw [if_neg c0, if_neg c1]
        exact e2
    · exact items_out_ok line cols out depth p v q e hq hlt (ho1 (by omega)) (by omega)
theorem items_ok {b : List Int} {p : Int} (h : Dr b p) : ∃ o q, Ev (fun k => spec_l1Rd_items.f k b p) (o, q) ∧ Dr b q ∧ o.length ≤ 5001 :=
  items_l0_ok 9 1 [1] [] 0 p (by omega) (by omega) h (by simp) (by simp) (by omega) (by simp) (by omega) (by omega)
end Go.Proofs.Ytimdoghlnegpgaa.P
/- What the printed NestOf of program and reference answer. -/
namespace Go.Proofs.Ytimdoghlnegpgaa.P
open Go.RowKit Go.Proofs.YtimdoghlnegpgaaW.PrintWords Go.Proofs.YtimdoghlnegpgaaW.PrintLast Go.Proofs.YtimdoghlnegpgaaEv
set_option linter.unusedVariables false
set_option linter.unusedSimpArgs false

def turn (kind : Int) : Int := if kind = -2 then 1 else if kind = -3 then -1 else 0
def nestR (out : List Int) (n : Int) : List S73 → List Int × Bool
  | [] => if n = 0 then (out, true) else ([], false)
  | x :: xs => if n + turn x.f0 < 0 then ([], false) else nestR (out ++ [n]) (n + turn x.f0) xs
def nestB (l : List S73) : List Int × Bool := if 5000 < l.length then ([], false) else nestR [] 0 l

theorem nestR_length (xs : List S73) : ∀ (out : List Int) (n : Int), (nestR out n xs).1.length ≤ out.length + xs.length := by
  induction xs with
  | nil => intro out n; unfold nestR; split <;> simp
  | cons x xs ih =>
    intro out n
    unfold nestR
    split
    · simp
    · have := ih (out ++ [n]) (n + turn x.f0)
      simp at this ⊢
      omega
theorem nestB_length (l : List S73) : (nestB l).1.length ≤ 5000 := by
  unfold nestB
  split
  · simp
  · have := nestR_length l [] 0
    simp at this
    omega

theorem impl_NestOf_ev (l : List S73) : Ev (fun k => impl_NestOf.f k l) (nestB l) := by
  unfold impl_NestOf.f nestB
  simp only [ev_ite]
  by_cases h5 : 5000 < l.length
  · rw [if_pos (by omega), if_pos h5]
    exact ev_some.2 rfl
  · rw [if_neg (by omega), if_neg h5]
    have h := down l.length (fun i => ∀ (out : List Int) (n : Int), out.length = i → 0 ≤ n → n ≤ i → Ev (fun k => impl_NestOf.l0 k out n l l.length (i : Nat)) (nestR out n (l.drop i))) ?_ ?_ 0 (by omega) [] 0 rfl (by omega) (by omega)
    · simpa using h
    · intro out n ho h0 h1
      rw [ev_succ]
      simp [impl_NestOf.l0, ev_some, ev_ite, nestR]
    · intro i hi ih out n ho h0 h1
      rw [ev_succ, drop_cons l z73 i hi]
      have hr : l.getD i z73 = rd_T73 l i := by simp [rd_T73]
      rw [hr]
      simp only [impl_NestOf.l0, ev_ite, Option.bind_some, ev_some]
      rw [if_pos (by omega), if_pos (by omega), if_pos (by omega), if_pos (by omega), wrap_succ hi (by omega), wrap_id (x := n + 1) (by omega) (by omega), wrap_id (x := n - 1) (by omega) (by omega)]
      unfold nestR
      generalize (rd_T73 l i).f0 = kd
      have ih2 : ∀ m : Int, 0 ≤ m → m ≤ i + 1 → Ev (fun k => impl_NestOf.l0 k (out ++ [n]) m l l.length ((i + 1 : Nat) : Int)) (nestR (out ++ [n]) m (l.drop (i + 1))) := fun m hm hm' => ih (out ++ [n]) m (by simp [ho]) hm (by omega)
      by_cases k2 : kd = -2
      · rw [if_pos k2, if_neg (by omega), if_neg (by simp [turn, k2]; omega)]
        simpa [turn, k2] using ih2 (n + 1) (by omega) (by omega)
      · rw [if_neg k2]
        by_cases k3 : kd = -3
        · rw [if_pos k3]
          by_cases hn : n - 1 < 0
          · rw [if_pos hn, if_pos (by simp [turn, k3]; omega)]
          · rw [if_neg hn, if_neg (by simp [turn, k3]; omega)]
            simpa [turn, k3, Int.sub_eq_add_neg] using ih2 (n - 1) (by omega) (by omega)
        · rw [if_neg k3, if_neg (by omega), if_neg (by simp [turn, k2, k3]; omega)]
          simpa [turn, k2, k3] using ih2 n (by omega) (by omega)

theorem spec_NestOf_ev (l : List S73) : Ev (fun k => spec_NestOf.f k l) (nestB l) := by
  unfold spec_NestOf.f nestB
  simp only [ev_ite, Option.bind_some]
  by_cases h5 : 5000 < l.length
  · rw [if_pos (by omega), if_pos h5]
    exact ev_some.2 rfl
  · rw [if_neg (by omega), if_neg h5]
    have h := down l.length (fun i => ∀ (out : List Int) (n : Int), out.length = i → 0 ≤ n → n ≤ i → Ev (fun k => spec_NestOf.l0 k l out n (i : Nat)) (nestR out n (l.drop i))) ?_ ?_ 0 (by omega) [] 0 rfl (by omega) (by omega)
    · simpa using h
    · intro out n ho h0 h1
      rw [ev_succ]
      simp [spec_NestOf.l0, ev_some, ev_ite, nestR]
    · intro i hi ih out n ho h0 h1
      have ih2 : ∀ m : Int, 0 ≤ m → m ≤ i + 1 → Ev (fun k => spec_NestOf.l0 k l (out ++ [n]) m ((i + 1 : Nat) : Int)) (nestR (out ++ [n]) m (l.drop (i + 1))) := fun m hm hm' => ih (out ++ [n]) m (by simp [ho]) hm (by omega)
      have hj : ∀ m : Int, 0 ≤ m → m ≤ i + 1 → ((rd_T73 l i).f0 = -3 → m = n) → Ev (fun k => spec_NestOf.j1 k l (out ++ [n]) m (i : Nat)) (if (rd_T73 l i).f0 = -3 then (if m - 1 < 0 then ([], false) else nestR (out ++ [n]) (m - 1) (l.drop (i + 1))) else nestR (out ++ [n]) m (l.drop (i + 1))) := by
        intro m hm hm' hmn
        rw [ev_succ]
        simp only [spec_NestOf.j1, ev_ite, ev_some]
        rw [if_pos (by omega), if_pos (by omega), wrap_succ hi (by omega), wrap_id (x := m - 1) (by omega) (by omega)]
        split
        · split
          · rfl
          · exact ih2 (m - 1) (by omega) (by omega)
        · rw [if_neg (by omega)]
          exact ih2 m hm hm'
      rw [ev_succ, drop_cons l z73 i hi]
      have hr : l.getD i z73 = rd_T73 l i := by simp [rd_T73]
      rw [hr]
      simp only [spec_NestOf.l0, ev_ite, Option.bind_some, ev_some]
      rw [if_pos (by omega), if_pos (by omega), if_pos (by omega), wrap_id (x := n + 1) (by omega) (by omega)]
      unfold nestR
      by_cases k2 : (rd_T73 l i).f0 = -2
      · rw [if_pos k2, if_neg (by simp [turn, k2]; omega)]
        have := hj (n + 1) (by omega) (by omega) (by omega)
        rw [if_neg (by omega)] at this
        simpa [turn, k2] using this
      · rw [if_neg k2]
        have := hj n (by omega) (by omega) (fun _ => rfl)
        by_cases k3 : (rd_T73 l i).f0 = -3
        · rw [if_pos k3] at this
          simpa [turn, k3, Int.sub_eq_add_neg] using this
        · rw [if_neg k3] at this
          rw [if_neg (by simp [turn, k2, k3]; omega)]
          simpa [turn, k2, k3] using this
end Go.Proofs.Ytimdoghlnegpgaa.P
/- What nests are: they begin with 0, and change by one at an indent and a dedent alone; and the draws of items end. -/
namespace Go.Proofs.Ytimdoghlnegpgaa.P
open Go.RowKit Go.Proofs.YtimdoghlnegpgaaW.PrintWords Go.Proofs.YtimdoghlnegpgaaW.PrintLast Go.Proofs.YtimdoghlnegpgaaW.PrintMore Go.Proofs.YtimdoghlnegpgaaEv
set_option linter.unusedVariables false
set_option linter.unusedSimpArgs false
/-- The nests of items from a nest on. -/
def lev : Int → List S73 → List Int
  | _, [] => []
  | n, x :: xs => n :: lev (n + turn x.f0) xs
/-- The nest ahead of item i. -/
def nestAt (l : List S73) : Nat → Int
  | 0 => 0
  | i + 1 => nestAt l i + turn (rd_T73 l (i : Int)).f0
theorem nestR_ok (xs : List S73) : ∀ (out : List Int) (n : Int) (r : List Int), nestR out n xs = (r, true) → r = out ++ lev n xs := by
  induction xs with
  | nil =>
    intro out n r h
    unfold nestR at h
    split at h
    · simpa [lev] using (Prod.mk.inj h).1.symm
    · simp at h
  | cons x xs ih =>
    intro out n r h
    unfold nestR at h
    split at h
    · simp at h
    · have := ih _ _ _ h
      simpa [lev] using this
/-- From place i on: all is right. -/
theorem nestR_at (l : List S73) (r : List Int) : ∀ i, i ≤ l.length → ∀ out : List Int, out.length = i → nestR out (nestAt l i) (l.drop i) = (r, true) → r.length = l.length ∧ (∀ j, i ≤ j → j < l.length → rd r (j : Int) = nestAt l j ∧ 0 ≤ nestAt l (j + 1)) ∧ nestAt l l.length = 0 := by
  refine down l.length _ ?_ ?_
  · intro out ho h
    rw [List.drop_length] at h
    unfold nestR at h
    split at h
    · obtain rfl := (Prod.mk.inj h).1
      exact ⟨ho, fun j h1 h2 => by omega, ‹_›⟩
    · simp at h
  · intro i hi ih out ho h
    have hd := drop_cons l z73 i hi
    have hr : l.getD i z73 = rd_T73 l i := by simp [rd_T73]
    have hall := nestR_ok _ _ _ _ h
    rw [hd, hr] at h hall
    unfold nestR at h
    split at h
    · simp at h
    · rename_i hn
      obtain ⟨a, b, c⟩ := ih (out ++ [nestAt l i]) (by simp [ho]) h
      refine ⟨a, fun j h1 h2 => ?_, c⟩
      by_cases e : j = i
      · subst e
        refine ⟨?_, by have := Int.not_lt.mp hn; simpa [nestAt] using this⟩
        rw [hall]
        unfold rd
        rw [List.getD_eq_getElem?_getD, Int.toNat_natCast, List.getElem?_append_right (by omega)]
        simp [ho, lev]
      · exact b j (by omega) h2
theorem nestB_at {l : List S73} {r : List Int} (h : nestB l = (r, true)) : l.length ≤ 5000 ∧ r.length = l.length ∧ (∀ j, j < l.length → rd r (j : Int) = nestAt l j ∧ 0 ≤ nestAt l (j + 1)) ∧ nestAt l l.length = 0 := by
  unfold nestB at h
  split at h
  · simp at h
  · rename_i h5
    obtain ⟨a, b, c⟩ := nestR_at l r 0 (by omega) [] rfl (by simpa [nestAt] using h)
    exact ⟨by omega, a, fun j hj => b j (by omega) hj, c⟩
theorem turn_bound (x : Int) : -1 ≤ turn x ∧ turn x ≤ 1 := by
  unfold turn
  split
  · omega
  · split <;> omega
theorem nestAt_bound (l : List S73) : ∀ i : Nat, -(i : Int) ≤ nestAt l i ∧ nestAt l i ≤ i := by
  intro i
  induction i with
  | zero => simp [nestAt]
  | succ i ih =>
    have := turn_bound (rd_T73 l (i : Int)).f0
    simp only [nestAt]
    omega
theorem nestAt_pos {l : List S73} (h : ∀ j, j < l.length → 0 ≤ nestAt l (j + 1)) : ∀ i, i ≤ l.length → 0 ≤ nestAt l i := by
  intro i hi
  cases i with
  | zero => simp [nestAt]
  | succ i => exact h i (by omega)
theorem sameInts_self (l : List Int) (hl : l.length ≤ 9223372036854775807) : Ev (fun k => laws_sameInts.f k l l) true := by
  unfold laws_sameInts.f
  simp only [ev_ite, if_true]
  have key := ev_loop l.length (fun k i => laws_sameInts.l0 k l l (i : Nat)) (fun _ => true) ?_ ?_ 0 (by omega)
  · exact key
  · rw [ev_succ]
    simp [laws_sameInts.l0, ev_some]
  · intro i hi ih
    rw [ev_succ]
    simp only [laws_sameInts.l0, ev_ite, ev_some]
    rw [if_pos (by omega), if_pos (by omega), if_pos (by omega), if_pos trivial, wrap_succ hi (by omega)]
    exact ih
theorem drawPlain_ok {b : List Int} (hb : ∀ x ∈ b, 0 ≤ x ∧ x ≤ 255) (hl : b.length ≤ 1048576) : ∃ o, Ev (fun k => spec_DrawPlain.f k b) o ∧ o.length ≤ 20002 := by
  have h0 : Dr b 0 := ⟨hb, by omega, by omega, hl⟩
  obtain ⟨o, q, e, hq, ho⟩ := items_ok h0
  unfold spec_DrawPlain.f spec_l1Open.f
  simp only [Option.bind_some]
  have hL := spec_Layout_ev o [3] [4] (by simp) (by simp)
  have hf := layB_few o [3] [4]
  by_cases hc : (layB o [3] [4]).2.1 = 0
  · refine ⟨(layB o [3] [4]).1, ?_, hf⟩
    rw [ev_bind e, ev_bind hL, ev_ite, if_pos hc]
    exact ev_some.2 rfl
  · obtain ⟨o2, q2, e2, hq2, ho2⟩ := items_ok hq
    refine ⟨o2, ?_, by omega⟩
    rw [ev_bind e, ev_bind hL, ev_ite, if_neg hc, ev_bind e2]
    exact ev_some.2 rfl
theorem drawNestOf_ok {b : List Int} (hb : ∀ x ∈ b, 0 ≤ x ∧ x ≤ 255) (hl : b.length ≤ 1048576) : ∃ o, Ev (fun k => spec_DrawNestOf.f k b) o ∧ o.length ≤ 20002 := by
  have h0 : Dr b 0 := ⟨hb, by omega, by omega, hl⟩
  obtain ⟨o, e, ho⟩ := drawPlain_ok hb hl
  unfold spec_DrawNestOf.f spec_l1Open.f
  simp only [Option.bind_some]
  have fin : ∀ q, Ev (fun k => spec_DrawNestOf.j0 k o false b q) o := by
    intro q
    rw [ev_succ]
    simp only [spec_DrawNestOf.j0, Bool.false_eq_true, if_false]
    exact ev_some.2 rfl
  by_cases hz : (o.length : Int) > 0
  · obtain ⟨v, q, e1, hq⟩ := once_ok h0 4
    cases v
    · refine ⟨o, ?_, ho⟩
      rw [ev_bind e, ev_ite, if_pos hz, e1]
      exact fin q
    · obtain ⟨v2, q2, e2, g0, g1, hq2⟩ := below_ok hq (o.length : Int)
      obtain ⟨v3, q3, e3, _, _, hq3⟩ := below_ok hq2 5
      have := g1 (by omega)
      refine ⟨o.set v2.toNat ⟨wrap64 (v3 - 3), (rd_T73 o v2).f1, (rd_T73 o v2).f2⟩, ?_, ?_⟩
      · rw [ev_bind e, ev_ite, if_pos hz, e1]
        simp only [Option.bind_some]
        rw [ev_succ]
        simp only [spec_DrawNestOf.j0, if_true, e2, e3, Option.bind_some]
        rw [if_pos g0, if_pos this]
        exact ev_some.2 rfl
      · simpa using ho
  · refine ⟨o, ?_, ho⟩
    rw [ev_bind e, ev_ite, if_neg hz]
    exact fin 0
end Go.Proofs.Ytimdoghlnegpgaa.P
/- The pure statement of the law FnNested: over numbers and lists alone, the law's printed function answers true for every list of bytes. -/
namespace Go.Proofs.Ytimdoghlnegpgaa.fnNested.Pure
open Go.RowKit Go.Proofs.YtimdoghlnegpgaaW.PrintWords Go.Proofs.YtimdoghlnegpgaaW.PrintLast Go.Proofs.Ytimdoghlnegpgaa.P Go.Proofs.YtimdoghlnegpgaaEv
set_option linter.unusedVariables false
set_option linter.unusedSimpArgs false
theorem wf8 {n : Int} (h : (Lit.int .u8 n).wf = true) : 0 ≤ n ∧ n ≤ 255 := by
  simp [Lit.wf, IntKind.min, IntKind.max, IntKind.signed, IntKind.bits] at h
  omega
theorem nested_loop (l : List S73) (r : List Int) (h5 : l.length ≤ 5000) (hr : r.length = l.length) (hat : ∀ j, j < l.length → rd r (j : Int) = nestAt l j ∧ 0 ≤ nestAt l (j + 1)) (hend : nestAt l l.length = 0) : Ev (fun k => laws_FnNested.l0 k l r true 0) true := by
  have hpos := nestAt_pos fun j hj => (hat j hj).2
  have key := ev_loop l.length (fun k i => laws_FnNested.l0 k l r true (i : Nat)) (fun _ => true) ?_ ?_ 0 (by omega)
  · exact key
  · rw [ev_succ]
    simp only [laws_FnNested.l0, if_true]
    rw [ev_succ]
    simp only [laws_FnNested.j2, ev_ite]
    rw [if_neg (by simp; omega)]
    exact ev_some.2 rfl
  · intro i hi ih
    obtain ⟨a, b⟩ := hat i hi
    have c := hpos i (by omega)
    have hb := nestAt_bound l i
    have hb2 := nestAt_bound l (i + 1)
    have hs : nestAt l (i + 1) = nestAt l i + turn (rd_T73 l (i : Int)).f0 := rfl
    rw [ev_succ]
    simp only [laws_FnNested.l0, if_true]
    rw [ev_succ]
    simp only [laws_FnNested.j2, ev_ite]
    rw [if_pos (by simp; omega), if_pos (by omega), if_pos (by omega)]
    have hz : i = 0 → rd r (i : Int) = 0 := by
      intro h
      rw [a, h]
      rfl
    have hlast : i + 1 = l.length → nestAt l (i + 1) = 0 := fun h => by rw [h]; exact hend
    have hnext : i + 1 < l.length → rd r ((i + 1 : Nat) : Int) = nestAt l (i + 1) := fun h => (hat (i + 1) h).1
    have j3 : ∀ d : Int, ((rd_T73 l (i : Int)).f0 = -3 → turn (rd_T73 l (i : Int)).f0 = -1) → ((rd_T73 l (i : Int)).f0 ≠ -3 → d = turn (rd_T73 l (i : Int)).f0) → Ev (fun k => laws_FnNested.j3 k l r true i d) true := by
      intro d h1 h2
      rw [ev_succ]
      simp only [laws_FnNested.j3, ev_ite, ev_some]
      rw [wrap_succ hi (by omega), hr, a]
      rw [if_pos (by omega), if_pos (by omega)]
      by_cases h3 : (rd_T73 l (i : Int)).f0 = -3
      · have h1 := h1 h3
        rw [if_pos h3, if_pos (by omega), if_neg (by omega), wrap_id (x := nestAt l i + -1) (by omega) (by omega), if_neg (by omega)]
        by_cases h4 : i + 1 < l.length
        · rw [if_pos (by omega), if_pos (by omega), if_pos (by rw [hnext h4]; omega), if_neg (by omega)]
          by_cases h5 : i = 0
          · rw [if_pos (by omega), if_pos (by rw [← a]; exact hz h5)]
            exact ih
          · rw [if_neg (by omega)]
            exact ih
        · have h6 := hlast (by omega)
          rw [if_neg (by omega), if_pos (by omega), if_pos (by omega)]
          by_cases h5 : i = 0
          · rw [if_pos (by omega), if_pos (by rw [← a]; exact hz h5)]
            exact ih
          · rw [if_neg (by omega)]
            exact ih
      · obtain rfl := h2 h3
        rw [if_neg h3, if_pos (by omega), if_neg (by omega), wrap_id (x := nestAt l i + turn (rd_T73 l (i : Int)).f0) (by omega) (by omega), if_neg (by omega)]
        by_cases h4 : i + 1 < l.length
        · rw [if_pos (by omega), if_pos (by omega), if_pos (by rw [hnext h4]; omega), if_neg (by omega)]
          by_cases h5 : i = 0
          · rw [if_pos (by omega), if_pos (by rw [← a]; exact hz h5)]
            exact ih
          · rw [if_neg (by omega)]
            exact ih
        · have h6 := hlast (by omega)
          rw [if_neg (by omega), if_pos (by omega), if_pos (by omega)]
          by_cases h5 : i = 0
          · rw [if_pos (by omega), if_pos (by rw [← a]; exact hz h5)]
            exact ih
          · rw [if_neg (by omega)]
            exact ih
    by_cases h2 : (rd_T73 l (i : Int)).f0 = -2
    · rw [if_pos h2]
      exact j3 1 (fun h => by omega) (fun _ => by simp [turn, h2])
    · rw [if_neg h2]
      exact j3 0 (fun h => by simp [turn, h]) (fun h => by simp [turn, h, h2])
theorem pure_FnNested : ∀ (l0 : List Int), (l0.length ≤ maxLen ∧ ∀ y ∈ l0, (Lit.int .u8 y).wf = true) → ∃ k, laws_FnNested.f k l0 = some true := by
  rintro l ⟨hm, hg⟩
  refine ev_get (g := fun k => laws_FnNested.f k l) ?_
  unfold laws_FnNested.f laws_big.f
  simp only [Option.bind_some, ev_ite]
  by_cases hl : l.length ≤ 1048576
  · rw [if_neg (by simp; omega)]
    obtain ⟨o, e, ho⟩ := drawNestOf_ok (fun x hx => wf8 (hg x hx)) hl
    rw [ev_bind e, ev_bind (spec_NestOf_ev o), ev_bind (impl_NestOf_ev o), ev_ite, if_neg (by simp), ev_bind (sameInts_self _ (by have := nestB_length o; omega)), ev_succ]
    simp only [laws_FnNested.j0, Bool.not_true, Bool.false_eq_true, if_false]
    rcases hn : nestB o with ⟨r, ok⟩
    cases ok
    · rw [ev_succ]
      simp only [laws_FnNested.l0, Bool.false_eq_true, if_false]
      rw [ev_succ]
      simp only [laws_FnNested.j2, Bool.false_eq_true, if_false]
      exact ev_some.2 rfl
    · obtain ⟨a, b, c, d⟩ := nestB_at hn
      exact nested_loop o r a b c d
  · rw [if_pos (by simp; omega)]
    exact ev_some.2 rfl
end Go.Proofs.Ytimdoghlnegpgaa.fnNested.Pure
-- The kit's printed words WSized, cut down by wip/gen/pack.py to what this proof reaches.
/- The law FnNested holds: every call returns true and leaves its arguments as they were. Conditions: none beyond what the given row says. This text: the row, out of the walk's contract and the pure statement. -/
namespace Go.Proofs.Ytimdoghlnegpgaa.fnNested
open Go.ChangeShapes Go.WideShapes Go.ChangeAt Go.RowKit Go.Proofs.YtimdoghlnegpgaaW.PrintWords Go.Proofs.YtimdoghlnegpgaaOpen Go.Proofs.Ytimdoghlnegpgaa.P
open Go.ChangeMaps (open_string shut_string)
set_option linter.unusedVariables false
set_option linter.unusedSimpArgs false
theorem own : ownKnob Try.prog.godebug = none := by kernel_rfl
theorem laidOut : laidOutB Try.prog = true := by kernel_rfl
set_option maxRecDepth 100000 in
theorem lifted (os : Os) (started : os.Started) (H : Type) (enc : TypeId × Value → H) :
    ReturnsInHanded {} Try.checked os 12 .any (Rows.fnNestedSpec.pre6 enc Try.prog Try.f12 Rows.fnNestedRow.domain false) (Rows.fnNestedSpec.post enc Try.prog Try.f12 false true false false) := by
  refine returnsInHanded_of_change_sized (C := Try.checked) own started (by kernel_rfl) Try.func12
    (ChangeSpec.witness6 (enc := enc) (C := Try.checked) false ⟨#[], #[.slice none 0 0], []⟩ 8 (by kernel_rfl) (by kernel_rfl) (by kernel_rfl) (by kernel_rfl)) ?_
  intro W base args ds gs before hval0 hW hcnd hsz0 _
  have hsz : (DataW.weightsEach Try.prog (Try.f12.params.toList ++ Rows.fnNestedSpec.plain.varTypes Try.prog) (ds ++ gs)).all (· ≤ reachBytes) = true := hsz0
  have hval : ∀ (j : Nat) t v, Try.f12.params[j]? = some t → args[j]? = some v → Value.okWide Try.prog W .any base t v := hval0
  have hW' := hW
  obtain ⟨p, q, hA0, hV, rfl, hfz, hnd⟩ := hW
  have hA : DataW.TrodAll enc Try.prog W 0 (fun _ => true) true Try.f12.params.toList args.toList ds p := hA0
  rw [Try.params12] at hA hval hsz
  obtain ⟨v0, vs0, d0, ds0, p0, q0, hargs, rfl, rfl, h0, r0⟩ := trodAll_cons hA
  obtain ⟨rfl, rfl, rfl⟩ := trodAll_nil r0
  obtain rfl : args = #[v0] := by cases args; simp_all
  obtain ⟨rfl, rfl⟩ := trodVars_none hV
  have k0' := h0
  have lt0 : ∀ x ∈ p0, x.block < W.heap.size := by obtain ⟨m, hm⟩ := k0'; exact DataW.trod_lt m _ _ _ hm
  obtain ⟨a0, len0, cap0, rfl⟩ := okWide_slice Try.underlying69 (hval 0 69 v0 rfl rfl)
  obtain ⟨fuel0, hf0⟩ := h0
  have hf0' : DataW.trod enc Try.prog W 0 (fun _ => true) true fuel0 69 [.slice a0 len0 cap0] = some (d0, p0) := hf0
  obtain ⟨x0, ⟨A0, c0, he0, hl0, hC0⟩, hG0⟩ := (opens_slice Try.underlying69 (by kernel_rfl) (opens_int Try.underlying5 (by kernel_rfl))).op enc W 0 (fun _ => true) true fuel0 _ _ hf0'
  obtain ⟨rfl, rfl, rfl⟩ : a0 = A0 ∧ len0 = x0.length ∧ cap0 = c0 := by simpa using he0
  clear hA0 hval0 hsz0 hsz
  obtain ⟨k, hk⟩ := Pure.pure_FnNested x0 hG0
  refine (laws_FnNested.calls k _ _ x0 true W hC0 hl0 hk).mono fun e W' ⟨he, bel0⟩ => ?_
  have bel : Below W.heap.size W W' := bel0
  subst he
  exact ⟨_, rfl, _, _, _, [], _, [], hW', trodAll_mk1 (shut_bool Try.underlying4 _), (trodAll_cons_mk (Below.trod laidOut (by kernel_rfl) (of_decide_eq_true (by kernel_rfl)) k0' bel lt0) trodAll_mk0), rfl, bel.frame _, fun h => by cases h⟩
theorem over : Rows.fnNestedRow.holds Try.pinned (OpenSpec.ofChange Rows.fnNestedSpec) :=
  OpenClaim.holds_of_wide 12 Try.f12 rfl rfl rfl rfl rfl rfl rfl ⟨rfl, rfl, rfl, rfl, rfl⟩ rfl rfl rfl rfl rfl (by kernel_rfl) Try.func12 (by kernel_rfl)
    (of_decide_eq_true (by kernel_rfl)) (by unfold Func.isWrapper; first | (rw [if_pos (by decide +kernel)]; kernel_rfl) | (rw [if_neg (by decide +kernel)]; exact ⟨rfl, rfl⟩))
    (fun os started H enc _ => lifted os started H enc)
theorem proved : Rows.FnNestedSaid := over
#print axioms proved
end Go.Proofs.Ytimdoghlnegpgaa.fnNested
namespace Go.Proofs.Ytimdoghlnegpgaa
/-- The row, under a short name, for the claim. -/
theorem fnNested_holds : Rows.FnNestedSaid := fnNested.proved
end Go.Proofs.Ytimdoghlnegpgaa
