/- The law FnExactFirstOf holds for every call: part 3 of 6 of the proof (walks of functions, and what they answer). Conditions: none beyond what the given row says. -/
import Derived.Test.YtijmhelacmjggaaMFnExactFirstOf1
import Derived.Test.YtijmhelacmjggaaMFnExactFirstOf0
import Derived.Shelf.Abstract
import Derived.Lib.Hide
set_option maxHeartbeats 16000000
set_option maxRecDepth 100000
namespace Go.Proofs.Ytijmhelacmjggaa.P
open Go.RowKit Go.Shelf Go.Proofs.YtijmhelacmjggaaW.PrintWords Go.Proofs.YtijmhelacmjggaaW.PrintLast Go.Proofs.YtijmhelacmjggaaW.PrintMore Go.Proofs.YtijmhelacmjggaaEv
set_option linter.unusedVariables false
set_option linter.unusedSimpArgs false
theorem nodeOk_1_calls (place : Int) (h0 : -9223372036854775807 ≤ place) (h1 : place ≤ 9223372036854775807) (B : Nat) (w : World) (n : Nat) (hcell : w.cell? ⟨B, 0, none⟩ = some (.int .i64 place)) (x : Int) :
    Calls Try.prog 154 #[.int .i64 x, .pointer (some ⟨B, 0, none⟩)] (w.drewN n) fun e w' => e = .returned (.bool (!decide (0 ≤ x ∧ x ≤ place - 1))) ∧ ∃ m, w' = (w.drewN n).drewN m := by
  have hw1 := q_ (impl_within_eq x 0 (place - 1))
  generalize decide (0 ≤ x ∧ x ≤ place - 1) = b at hw1 ⊢
  go_enter Try.func154, Try.ntmps154
  go_wp2_with fail
  refine (impl_within.calls _ _ _ _ _ hw1.o).mono ?_
  rintro e w' ⟨rfl, ⟨nd, rfl⟩⟩
  go_wp2_with fail
  go_ret
  exact ⟨rfl, nd, by first | rfl | simp⟩
theorem kids_calls (place : Int) (h0 : -9223372036854775807 ≤ place) (h1 : place ≤ 9223372036854775807) (B : Nat) (w : World) (hcell : w.cell? ⟨B, 0, none⟩ = some (.int .i64 place)) (A2 : Option Addr) (c2 : Nat) (l2 : List Int) (hr2 : Kd.C (Kd.int .i64) w A2 l2.length l2) (b : Bool) (hb : J0 (l2.any (fun x => !decide (0 ≤ x ∧ x ≤ place - 1)) = b)) :
    Calls Try.prog 153 #[.slice A2 l2.length c2, .func (.func 154) #[] #[.pointer (some ⟨B, 0, none⟩)]] w fun e w' => e = .returned (.bool b) ∧ Drawn0 w w' := by
  have eg : ∀ args w, (callFunc 154 args).run Try.prog w = .ok (.enter 154 args) w := enters_of Try.func154 (by kernel_rfl) rfl
  have := ContainsFunc_int 154 #[.pointer (some ⟨B, 0, none⟩)] eg (fun x => !decide (0 ≤ x ∧ x ≤ place - 1)) A2 c2 l2 w hr2 (fun n x _ => nodeOk_1_calls place h0 h1 B w n hcell x)
  rw [hb.o] at this
  exact this
theorem nodeOk_kids (op : Int) (A1 : Option Addr) (c1 : Nat) (l1 : List S103) (A2 : Option Addr) (c2 : Nat) (l2 : List Int) (mi ma place : Int) (w : World) (hp0 : 0 ≤ place) (hp1 : place ≤ 1000000) (hr1 : Kd.C k103 w A1 l1.length l1) (hc1 : l1.length ≤ c1) (hr2 : Kd.C (Kd.int .i64) w A2 l2.length l2) (hc2 : l2.length ≤ c2) (hk : (l2.length : Int) ≠ kidsN op) :
    Calls Try.prog 119 #[.agg #[.int .i64 op, .slice A1 l1.length c1, .slice A2 l2.length c2, .int .i64 mi, .int .i64 ma], .int .i64 place] w fun e w' => e = .returned (.bool false) ∧ Below w.heap.size w w' := by
  obtain ⟨kk, hkk⟩ := ev_get (impl_kidsOf_ev op)
  have HK := q_ hkk
  have HR1 := q_ hr1
  have HC1 := q_ hc1
  have HR2 := q_ hr2
  have HC2 := q_ hc2
  clear hkk hr1 hc1 hr2 hc2
  generalize kidsN op = ko at HK hk
  have hb0 : Below w.heap.size w ((w.alloc (.cells #[.int .i64 op, .slice A1 l1.length c1, .slice A2 l2.length c2, .int .i64 mi, .int .i64 ma] 156)).alloc (.cells #[.int .i64 place] 2)) := below_alloc (below_alloc (Below.refl _ _) _) _
  have hne : ((l2.length : Int) != ko) = true := bne_iff_ne.2 hk
  clear hk
  go_enter Try.func119, Try.ntmps119
  go_wp2_with fail
  go_quiet (first | (go_at_call 152; refine (impl_kidsOf.calls _ _ _ _ HK.o).mono ?_; rintro e w' ⟨rfl, ⟨nd, rfl⟩⟩; first | exact ⟨rfl, _, World.drewN_drewN _ _ _⟩ | exact ⟨rfl, _, Eq.trans (World.drewN_drewN _ _ _) (congrArg (World.drewN _) (Nat.add_assoc _ _ _))⟩))
  go_wp2_with fail
  go_ret
  exact ⟨rfl, by repeat (first | exact hb0 | apply pw_below_drewN | apply below_drew1)⟩
theorem nodeOk_any (op : Int) (A1 : Option Addr) (c1 : Nat) (l1 : List S103) (A2 : Option Addr) (c2 : Nat) (l2 : List Int) (mi ma place : Int) (w : World) (hp0 : 0 ≤ place) (hp1 : place ≤ 1000000) (hr1 : Kd.C k103 w A1 l1.length l1) (hc1 : l1.length ≤ c1) (hr2 : Kd.C (Kd.int .i64) w A2 l2.length l2) (hc2 : l2.length ≤ c2) (hk : (l2.length : Int) = kidsN op) (hany : J0 (l2.any (fun x => !decide (0 ≤ x ∧ x ≤ place - 1)) = true)) :
    Calls Try.prog 119 #[.agg #[.int .i64 op, .slice A1 l1.length c1, .slice A2 l2.length c2, .int .i64 mi, .int .i64 ma], .int .i64 place] w fun e w' => e = .returned (.bool false) ∧ Below w.heap.size w w' := by
  obtain ⟨kk, hkk⟩ := ev_get (impl_kidsOf_ev op)
  have HK := q_ hkk
  have HR1 := q_ hr1
  have HC1 := q_ hc1
  have HR2 := q_ hr2
  have HC2 := q_ hc2
  clear hkk hr1 hc1 hr2 hc2
  generalize kidsN op = ko at HK hk
  have hb0 : Below w.heap.size w ((w.alloc (.cells #[.int .i64 op, .slice A1 l1.length c1, .slice A2 l2.length c2, .int .i64 mi, .int .i64 ma] 156)).alloc (.cells #[.int .i64 place] 2)) := below_alloc (below_alloc (Below.refl _ _) _) _
  have hne : ((l2.length : Int) != ko) = false := bne_eq_false_iff_eq.2 hk
  clear hk
  go_enter Try.func119, Try.ntmps119
  go_wp2_with fail
  go_quiet (first | (go_at_call 152; refine (impl_kidsOf.calls _ _ _ _ HK.o).mono ?_; rintro e w' ⟨rfl, ⟨nd, rfl⟩⟩; first | exact ⟨rfl, _, World.drewN_drewN _ _ _⟩ | exact ⟨rfl, _, Eq.trans (World.drewN_drewN _ _ _) (congrArg (World.drewN _) (Nat.add_assoc _ _ _))⟩) | (go_at_call 153; refine (kids_calls place (by omega) (by omega) (w.heap.size + 1) _ ?hcl _ _ l2 ?hr _ hany).mono ?_; (case hcl => (go_simp; done)); (case hr => exact Kd.C_below HR2.o (by repeat (first | exact hb0 | apply pw_below_drewN | apply below_drew1))); rintro e w' ⟨rfl, ⟨nd, rfl⟩⟩; first | exact ⟨rfl, _, World.drewN_drewN _ _ _⟩ | exact ⟨rfl, _, Eq.trans (World.drewN_drewN _ _ _) (congrArg (World.drewN _) (Nat.add_assoc _ _ _))⟩))
  go_wp2_with fail
  go_ret
  exact ⟨rfl, by repeat (first | exact hb0 | apply pw_below_drewN | apply below_drew1)⟩
theorem nodeOk_class (op : Int) (A1 : Option Addr) (c1 : Nat) (l1 : List S103) (A2 : Option Addr) (c2 : Nat) (l2 : List Int) (mi ma place : Int) (w : World) (hp0 : 0 ≤ place) (hp1 : place ≤ 1000000) (hr1 : Kd.C k103 w A1 l1.length l1) (hc1 : l1.length ≤ c1) (hr2 : Kd.C (Kd.int .i64) w A2 l2.length l2) (hc2 : l2.length ≤ c2) (hk : (l2.length : Int) = kidsN op) (hany : J0 (l2.any (fun x => !decide (0 ≤ x ∧ x ≤ place - 1)) = false)) (h2 : (op == 2) = true) (h2' : (op != 2) = false) (kc : Nat) (hcl : impl_ClassOk.f kc l1 = some false) :
    Calls Try.prog 119 #[.agg #[.int .i64 op, .slice A1 l1.length c1, .slice A2 l2.length c2, .int .i64 mi, .int .i64 ma], .int .i64 place] w fun e w' => e = .returned (.bool false) ∧ Below w.heap.size w w' := by
  obtain ⟨kk, hkk⟩ := ev_get (impl_kidsOf_ev op)
  have HK := q_ hkk
  have HR1 := q_ hr1
  have HC1 := q_ hc1
  have HR2 := q_ hr2
  have HC2 := q_ hc2
  clear hkk hr1 hc1 hr2 hc2
  generalize kidsN op = ko at HK hk
  have hb0 : Below w.heap.size w ((w.alloc (.cells #[.int .i64 op, .slice A1 l1.length c1, .slice A2 l2.length c2, .int .i64 mi, .int .i64 ma] 156)).alloc (.cells #[.int .i64 place] 2)) := below_alloc (below_alloc (Below.refl _ _) _) _
  have hne : ((l2.length : Int) != ko) = false := bne_eq_false_iff_eq.2 hk
  clear hk
  have HCl := q_ hcl
  clear hcl
  go_enter Try.func119, Try.ntmps119
  go_wp2_with fail
  go_quiet (first | (go_at_call 152; refine (impl_kidsOf.calls _ _ _ _ HK.o).mono ?_; rintro e w' ⟨rfl, ⟨nd, rfl⟩⟩; first | exact ⟨rfl, _, World.drewN_drewN _ _ _⟩ | exact ⟨rfl, _, Eq.trans (World.drewN_drewN _ _ _) (congrArg (World.drewN _) (Nat.add_assoc _ _ _))⟩) | (go_at_call 153; refine (kids_calls place (by omega) (by omega) (w.heap.size + 1) _ ?hcl _ _ l2 ?hr _ hany).mono ?_; (case hcl => (go_simp; done)); (case hr => exact Kd.C_below HR2.o (by repeat (first | exact hb0 | apply pw_below_drewN | apply below_drew1))); rintro e w' ⟨rfl, ⟨nd, rfl⟩⟩; first | exact ⟨rfl, _, World.drewN_drewN _ _ _⟩ | exact ⟨rfl, _, Eq.trans (World.drewN_drewN _ _ _) (congrArg (World.drewN _) (Nat.add_assoc _ _ _))⟩))
  go_wp2_with fail
  refine (impl_ClassOk.calls kc _ _ l1 false _ ?side1 HC1.o HCl.o).mono ?_
  case side1 => exact Kd.C_below HR1.o (by repeat (first | exact hb0 | apply pw_below_drewN | apply below_drew1))
  rintro e w1 ⟨rfl, hb1⟩
  have hbb : Below w.heap.size w w1 := below_then (by repeat (first | exact hb0 | apply pw_below_drewN | apply below_drew1)) (by simp; omega) hb1
  have hg0 : w1.cell? ⟨w.heap.size, 0, none⟩ = some (.int .i64 op) := (hb1.cell (p := ⟨w.heap.size, 0, none⟩) (by simp; omega)).trans (by go_simp)
  have hg1 : w1.cell? ⟨w.heap.size, 1, none⟩ = some (.slice A1 l1.length c1) := (hb1.cell (p := ⟨w.heap.size, 1, none⟩) (by simp; omega)).trans (by go_simp)
  have hg3 : w1.cell? ⟨w.heap.size, 3, none⟩ = some (.int .i64 mi) := (hb1.cell (p := ⟨w.heap.size, 3, none⟩) (by simp; omega)).trans (by go_simp)
  have hg4 : w1.cell? ⟨w.heap.size, 4, none⟩ = some (.int .i64 ma) := (hb1.cell (p := ⟨w.heap.size, 4, none⟩) (by simp; omega)).trans (by go_simp)
  clear hb1
  go_wp2_with fail
  go_ret
  exact ⟨rfl, by repeat (first | exact hbb | apply pw_below_drewN | apply below_drew1)⟩
theorem nodeOk_bare (op : Int) (A1 : Option Addr) (c1 : Nat) (l1 : List S103) (A2 : Option Addr) (c2 : Nat) (l2 : List Int) (mi ma place : Int) (w : World) (hp0 : 0 ≤ place) (hp1 : place ≤ 1000000) (hr1 : Kd.C k103 w A1 l1.length l1) (hc1 : l1.length ≤ c1) (hr2 : Kd.C (Kd.int .i64) w A2 l2.length l2) (hc2 : l2.length ≤ c2) (hk : (l2.length : Int) = kidsN op) (hany : J0 (l2.any (fun x => !decide (0 ≤ x ∧ x ≤ place - 1)) = false)) (h2 : (op == 2) = true) (h2' : (op != 2) = false) (kc : Nat) (hcl : impl_ClassOk.f kc l1 = some true) (he : ((l1.length : Int) == 0) = true) :
    Calls Try.prog 119 #[.agg #[.int .i64 op, .slice A1 l1.length c1, .slice A2 l2.length c2, .int .i64 mi, .int .i64 ma], .int .i64 place] w fun e w' => e = .returned (.bool false) ∧ Below w.heap.size w w' := by
  obtain ⟨kk, hkk⟩ := ev_get (impl_kidsOf_ev op)
  have HK := q_ hkk
  have HR1 := q_ hr1
  have HC1 := q_ hc1
  have HR2 := q_ hr2
  have HC2 := q_ hc2
  clear hkk hr1 hc1 hr2 hc2
  generalize kidsN op = ko at HK hk
  have hb0 : Below w.heap.size w ((w.alloc (.cells #[.int .i64 op, .slice A1 l1.length c1, .slice A2 l2.length c2, .int .i64 mi, .int .i64 ma] 156)).alloc (.cells #[.int .i64 place] 2)) := below_alloc (below_alloc (Below.refl _ _) _) _
  have hne : ((l2.length : Int) != ko) = false := bne_eq_false_iff_eq.2 hk
  clear hk
  have HCl := q_ hcl
  clear hcl
  go_enter Try.func119, Try.ntmps119
  go_wp2_with fail
  go_quiet (first | (go_at_call 152; refine (impl_kidsOf.calls _ _ _ _ HK.o).mono ?_; rintro e w' ⟨rfl, ⟨nd, rfl⟩⟩; first | exact ⟨rfl, _, World.drewN_drewN _ _ _⟩ | exact ⟨rfl, _, Eq.trans (World.drewN_drewN _ _ _) (congrArg (World.drewN _) (Nat.add_assoc _ _ _))⟩) | (go_at_call 153; refine (kids_calls place (by omega) (by omega) (w.heap.size + 1) _ ?hcl _ _ l2 ?hr _ hany).mono ?_; (case hcl => (go_simp; done)); (case hr => exact Kd.C_below HR2.o (by repeat (first | exact hb0 | apply pw_below_drewN | apply below_drew1))); rintro e w' ⟨rfl, ⟨nd, rfl⟩⟩; first | exact ⟨rfl, _, World.drewN_drewN _ _ _⟩ | exact ⟨rfl, _, Eq.trans (World.drewN_drewN _ _ _) (congrArg (World.drewN _) (Nat.add_assoc _ _ _))⟩))
  go_wp2_with fail
  refine (impl_ClassOk.calls kc _ _ l1 true _ ?side1 HC1.o HCl.o).mono ?_
  case side1 => exact Kd.C_below HR1.o (by repeat (first | exact hb0 | apply pw_below_drewN | apply below_drew1))
  rintro e w1 ⟨rfl, hb1⟩
  have hbb : Below w.heap.size w w1 := below_then (by repeat (first | exact hb0 | apply pw_below_drewN | apply below_drew1)) (by simp; omega) hb1
  have hg0 : w1.cell? ⟨w.heap.size, 0, none⟩ = some (.int .i64 op) := (hb1.cell (p := ⟨w.heap.size, 0, none⟩) (by simp; omega)).trans (by go_simp)
  have hg1 : w1.cell? ⟨w.heap.size, 1, none⟩ = some (.slice A1 l1.length c1) := (hb1.cell (p := ⟨w.heap.size, 1, none⟩) (by simp; omega)).trans (by go_simp)
  have hg3 : w1.cell? ⟨w.heap.size, 3, none⟩ = some (.int .i64 mi) := (hb1.cell (p := ⟨w.heap.size, 3, none⟩) (by simp; omega)).trans (by go_simp)
  have hg4 : w1.cell? ⟨w.heap.size, 4, none⟩ = some (.int .i64 ma) := (hb1.cell (p := ⟨w.heap.size, 4, none⟩) (by simp; omega)).trans (by go_simp)
  clear hb1
  go_wp2_with fail
  go_ret
  exact ⟨rfl, by repeat (first | exact hbb | apply pw_below_drewN | apply below_drew1)⟩
theorem nodeOk_set0 (op : Int) (A1 : Option Addr) (c1 : Nat) (l1 : List S103) (A2 : Option Addr) (c2 : Nat) (l2 : List Int) (mi ma place : Int) (w : World) (hp0 : 0 ≤ place) (hp1 : place ≤ 1000000) (hr1 : Kd.C k103 w A1 l1.length l1) (hc1 : l1.length ≤ c1) (hr2 : Kd.C (Kd.int .i64) w A2 l2.length l2) (hc2 : l2.length ≤ c2) (hk : (l2.length : Int) = kidsN op) (hany : J0 (l2.any (fun x => !decide (0 ≤ x ∧ x ≤ place - 1)) = false)) (h2 : (op == 2) = true) (h2' : (op != 2) = false) (kc : Nat) (hcl : impl_ClassOk.f kc l1 = some true) (he : ((l1.length : Int) == 0) = false) (h8 : (op == 8) = false) (hmi : (mi == 0) = false) :
    Calls Try.prog 119 #[.agg #[.int .i64 op, .slice A1 l1.length c1, .slice A2 l2.length c2, .int .i64 mi, .int .i64 ma], .int .i64 place] w fun e w' => e = .returned (.bool false) ∧ Below w.heap.size w w' := by
  obtain ⟨kk, hkk⟩ := ev_get (impl_kidsOf_ev op)
  have HK := q_ hkk
  have HR1 := q_ hr1
  have HC1 := q_ hc1
  have HR2 := q_ hr2
  have HC2 := q_ hc2
  clear hkk hr1 hc1 hr2 hc2
  generalize kidsN op = ko at HK hk
  have hb0 : Below w.heap.size w ((w.alloc (.cells #[.int .i64 op, .slice A1 l1.length c1, .slice A2 l2.length c2, .int .i64 mi, .int .i64 ma] 156)).alloc (.cells #[.int .i64 place] 2)) := below_alloc (below_alloc (Below.refl _ _) _) _
  have hne : ((l2.length : Int) != ko) = false := bne_eq_false_iff_eq.2 hk
  clear hk
  have HCl := q_ hcl
  clear hcl
  go_enter Try.func119, Try.ntmps119
  go_wp2_with fail
  go_quiet (first | (go_at_call 152; refine (impl_kidsOf.calls _ _ _ _ HK.o).mono ?_; rintro e w' ⟨rfl, ⟨nd, rfl⟩⟩; first | exact ⟨rfl, _, World.drewN_drewN _ _ _⟩ | exact ⟨rfl, _, Eq.trans (World.drewN_drewN _ _ _) (congrArg (World.drewN _) (Nat.add_assoc _ _ _))⟩) | (go_at_call 153; refine (kids_calls place (by omega) (by omega) (w.heap.size + 1) _ ?hcl _ _ l2 ?hr _ hany).mono ?_; (case hcl => (go_simp; done)); (case hr => exact Kd.C_below HR2.o (by repeat (first | exact hb0 | apply pw_below_drewN | apply below_drew1))); rintro e w' ⟨rfl, ⟨nd, rfl⟩⟩; first | exact ⟨rfl, _, World.drewN_drewN _ _ _⟩ | exact ⟨rfl, _, Eq.trans (World.drewN_drewN _ _ _) (congrArg (World.drewN _) (Nat.add_assoc _ _ _))⟩))
  go_wp2_with fail
  refine (impl_ClassOk.calls kc _ _ l1 true _ ?side1 HC1.o HCl.o).mono ?_
  case side1 => exact Kd.C_below HR1.o (by repeat (first | exact hb0 | apply pw_below_drewN | apply below_drew1))
  rintro e w1 ⟨rfl, hb1⟩
  have hbb : Below w.heap.size w w1 := below_then (by repeat (first | exact hb0 | apply pw_below_drewN | apply below_drew1)) (by simp; omega) hb1
  have hg0 : w1.cell? ⟨w.heap.size, 0, none⟩ = some (.int .i64 op) := (hb1.cell (p := ⟨w.heap.size, 0, none⟩) (by simp; omega)).trans (by go_simp)
  have hg1 : w1.cell? ⟨w.heap.size, 1, none⟩ = some (.slice A1 l1.length c1) := (hb1.cell (p := ⟨w.heap.size, 1, none⟩) (by simp; omega)).trans (by go_simp)
  have hg3 : w1.cell? ⟨w.heap.size, 3, none⟩ = some (.int .i64 mi) := (hb1.cell (p := ⟨w.heap.size, 3, none⟩) (by simp; omega)).trans (by go_simp)
  have hg4 : w1.cell? ⟨w.heap.size, 4, none⟩ = some (.int .i64 ma) := (hb1.cell (p := ⟨w.heap.size, 4, none⟩) (by simp; omega)).trans (by go_simp)
  clear hb1
  go_wp2_with fail
  go_ret
  exact ⟨rfl, by repeat (first | exact hbb | apply pw_below_drewN | apply below_drew1)⟩
theorem nodeOk_set1 (op : Int) (A1 : Option Addr) (c1 : Nat) (l1 : List S103) (A2 : Option Addr) (c2 : Nat) (l2 : List Int) (mi ma place : Int) (w : World) (hp0 : 0 ≤ place) (hp1 : place ≤ 1000000) (hr1 : Kd.C k103 w A1 l1.length l1) (hc1 : l1.length ≤ c1) (hr2 : Kd.C (Kd.int .i64) w A2 l2.length l2) (hc2 : l2.length ≤ c2) (hk : (l2.length : Int) = kidsN op) (hany : J0 (l2.any (fun x => !decide (0 ≤ x ∧ x ≤ place - 1)) = false)) (h2 : (op == 2) = true) (h2' : (op != 2) = false) (kc : Nat) (hcl : impl_ClassOk.f kc l1 = some true) (he : ((l1.length : Int) == 0) = false) (h8 : (op == 8) = false) (hmi : (mi == 0) = true) :
    Calls Try.prog 119 #[.agg #[.int .i64 op, .slice A1 l1.length c1, .slice A2 l2.length c2, .int .i64 mi, .int .i64 ma], .int .i64 place] w fun e w' => e = .returned (.bool (ma == 0)) ∧ Below w.heap.size w w' := by
  obtain ⟨kk, hkk⟩ := ev_get (impl_kidsOf_ev op)
  have HK := q_ hkk
  have HR1 := q_ hr1
  have HC1 := q_ hc1
  have HR2 := q_ hr2
  have HC2 := q_ hc2
  clear hkk hr1 hc1 hr2 hc2
  generalize kidsN op = ko at HK hk
  have hb0 : Below w.heap.size w ((w.alloc (.cells #[.int .i64 op, .slice A1 l1.length c1, .slice A2 l2.length c2, .int .i64 mi, .int .i64 ma] 156)).alloc (.cells #[.int .i64 place] 2)) := below_alloc (below_alloc (Below.refl _ _) _) _
  have hne : ((l2.length : Int) != ko) = false := bne_eq_false_iff_eq.2 hk
  clear hk
  have HCl := q_ hcl
  clear hcl
  go_enter Try.func119, Try.ntmps119
  go_wp2_with fail
  go_quiet (first | (go_at_call 152; refine (impl_kidsOf.calls _ _ _ _ HK.o).mono ?_; rintro e w' ⟨rfl, ⟨nd, rfl⟩⟩; first | exact ⟨rfl, _, World.drewN_drewN _ _ _⟩ | exact ⟨rfl, _, Eq.trans (World.drewN_drewN _ _ _) (congrArg (World.drewN _) (Nat.add_assoc _ _ _))⟩) | (go_at_call 153; refine (kids_calls place (by omega) (by omega) (w.heap.size + 1) _ ?hcl _ _ l2 ?hr _ hany).mono ?_; (case hcl => (go_simp; done)); (case hr => exact Kd.C_below HR2.o (by repeat (first | exact hb0 | apply pw_below_drewN | apply below_drew1))); rintro e w' ⟨rfl, ⟨nd, rfl⟩⟩; first | exact ⟨rfl, _, World.drewN_drewN _ _ _⟩ | exact ⟨rfl, _, Eq.trans (World.drewN_drewN _ _ _) (congrArg (World.drewN _) (Nat.add_assoc _ _ _))⟩))
  go_wp2_with fail
  refine (impl_ClassOk.calls kc _ _ l1 true _ ?side1 HC1.o HCl.o).mono ?_
  case side1 => exact Kd.C_below HR1.o (by repeat (first | exact hb0 | apply pw_below_drewN | apply below_drew1))
  rintro e w1 ⟨rfl, hb1⟩
  have hbb : Below w.heap.size w w1 := below_then (by repeat (first | exact hb0 | apply pw_below_drewN | apply below_drew1)) (by simp; omega) hb1
  have hg0 : w1.cell? ⟨w.heap.size, 0, none⟩ = some (.int .i64 op) := (hb1.cell (p := ⟨w.heap.size, 0, none⟩) (by simp; omega)).trans (by go_simp)
  have hg1 : w1.cell? ⟨w.heap.size, 1, none⟩ = some (.slice A1 l1.length c1) := (hb1.cell (p := ⟨w.heap.size, 1, none⟩) (by simp; omega)).trans (by go_simp)
  have hg3 : w1.cell? ⟨w.heap.size, 3, none⟩ = some (.int .i64 mi) := (hb1.cell (p := ⟨w.heap.size, 3, none⟩) (by simp; omega)).trans (by go_simp)
  have hg4 : w1.cell? ⟨w.heap.size, 4, none⟩ = some (.int .i64 ma) := (hb1.cell (p := ⟨w.heap.size, 4, none⟩) (by simp; omega)).trans (by go_simp)
  clear hb1
  go_wp2_with fail
  go_ret
  exact ⟨rfl, by repeat (first | exact hbb | apply pw_below_drewN | apply below_drew1)⟩
theorem nodeOk_full (op : Int) (A1 : Option Addr) (c1 : Nat) (l1 : List S103) (A2 : Option Addr) (c2 : Nat) (l2 : List Int) (mi ma place : Int) (w : World) (hp0 : 0 ≤ place) (hp1 : place ≤ 1000000) (hr1 : Kd.C k103 w A1 l1.length l1) (hc1 : l1.length ≤ c1) (hr2 : Kd.C (Kd.int .i64) w A2 l2.length l2) (hc2 : l2.length ≤ c2) (hk : (l2.length : Int) = kidsN op) (hany : J0 (l2.any (fun x => !decide (0 ≤ x ∧ x ≤ place - 1)) = false)) (h2 : (op == 2) = false) (h2' : (op != 2) = true) (he : decide (0 < l1.length) = true) (he' : decide (0 < (l1.length : Int)) = true) :
    Calls Try.prog 119 #[.agg #[.int .i64 op, .slice A1 l1.length c1, .slice A2 l2.length c2, .int .i64 mi, .int .i64 ma], .int .i64 place] w fun e w' => e = .returned (.bool false) ∧ Below w.heap.size w w' := by
  obtain ⟨kk, hkk⟩ := ev_get (impl_kidsOf_ev op)
  have HK := q_ hkk
  have HR1 := q_ hr1
  have HC1 := q_ hc1
  have HR2 := q_ hr2
  have HC2 := q_ hc2
  clear hkk hr1 hc1 hr2 hc2
  generalize kidsN op = ko at HK hk
  have hb0 : Below w.heap.size w ((w.alloc (.cells #[.int .i64 op, .slice A1 l1.length c1, .slice A2 l2.length c2, .int .i64 mi, .int .i64 ma] 156)).alloc (.cells #[.int .i64 place] 2)) := below_alloc (below_alloc (Below.refl _ _) _) _
  have hne : ((l2.length : Int) != ko) = false := bne_eq_false_iff_eq.2 hk
  clear hk
  go_enter Try.func119, Try.ntmps119
  go_wp2_with fail
  go_quiet (first | (go_at_call 152; refine (impl_kidsOf.calls _ _ _ _ HK.o).mono ?_; rintro e w' ⟨rfl, ⟨nd, rfl⟩⟩; first | exact ⟨rfl, _, World.drewN_drewN _ _ _⟩ | exact ⟨rfl, _, Eq.trans (World.drewN_drewN _ _ _) (congrArg (World.drewN _) (Nat.add_assoc _ _ _))⟩) | (go_at_call 153; refine (kids_calls place (by omega) (by omega) (w.heap.size + 1) _ ?hcl _ _ l2 ?hr _ hany).mono ?_; (case hcl => (go_simp; done)); (case hr => exact Kd.C_below HR2.o (by repeat (first | exact hb0 | apply pw_below_drewN | apply below_drew1))); rintro e w' ⟨rfl, ⟨nd, rfl⟩⟩; first | exact ⟨rfl, _, World.drewN_drewN _ _ _⟩ | exact ⟨rfl, _, Eq.trans (World.drewN_drewN _ _ _) (congrArg (World.drewN _) (Nat.add_assoc _ _ _))⟩))
  go_wp2_with fail
  go_ret
  exact ⟨rfl, by repeat (first | exact hb0 | apply pw_below_drewN | apply below_drew1)⟩
theorem nodeOk_times (op : Int) (A1 : Option Addr) (c1 : Nat) (l1 : List S103) (A2 : Option Addr) (c2 : Nat) (l2 : List Int) (mi ma place : Int) (w : World) (hp0 : 0 ≤ place) (hp1 : place ≤ 1000000) (hr1 : Kd.C k103 w A1 l1.length l1) (hc1 : l1.length ≤ c1) (hr2 : Kd.C (Kd.int .i64) w A2 l2.length l2) (hc2 : l2.length ≤ c2) (hk : (l2.length : Int) = kidsN op) (hany : J0 (l2.any (fun x => !decide (0 ≤ x ∧ x ≤ place - 1)) = false)) (h2 : (op == 2) = false) (h2' : (op != 2) = true) (he : decide (0 < l1.length) = false) (he' : decide (0 < (l1.length : Int)) = false) (h8 : (op == 8) = true) (r : Bool) (ht : impl_timesOk.f mi ma = some r) :
    Calls Try.prog 119 #[.agg #[.int .i64 op, .slice A1 l1.length c1, .slice A2 l2.length c2, .int .i64 mi, .int .i64 ma], .int .i64 place] w fun e w' => e = .returned (.bool r) ∧ Below w.heap.size w w' := by
  obtain ⟨kk, hkk⟩ := ev_get (impl_kidsOf_ev op)
  have HK := q_ hkk
  have HR1 := q_ hr1
  have HC1 := q_ hc1
  have HR2 := q_ hr2
  have HC2 := q_ hc2
  clear hkk hr1 hc1 hr2 hc2
  generalize kidsN op = ko at HK hk
  have hb0 : Below w.heap.size w ((w.alloc (.cells #[.int .i64 op, .slice A1 l1.length c1, .slice A2 l2.length c2, .int .i64 mi, .int .i64 ma] 156)).alloc (.cells #[.int .i64 place] 2)) := below_alloc (below_alloc (Below.refl _ _) _) _
  have hne : ((l2.length : Int) != ko) = false := bne_eq_false_iff_eq.2 hk
  clear hk
  have HT := q_ ht
  clear ht
  go_enter Try.func119, Try.ntmps119
  go_wp2_with fail
  go_quiet (first | (go_at_call 152; refine (impl_kidsOf.calls _ _ _ _ HK.o).mono ?_; rintro e w' ⟨rfl, ⟨nd, rfl⟩⟩; first | exact ⟨rfl, _, World.drewN_drewN _ _ _⟩ | exact ⟨rfl, _, Eq.trans (World.drewN_drewN _ _ _) (congrArg (World.drewN _) (Nat.add_assoc _ _ _))⟩) | (go_at_call 153; refine (kids_calls place (by omega) (by omega) (w.heap.size + 1) _ ?hcl _ _ l2 ?hr _ hany).mono ?_; (case hcl => (go_simp; done)); (case hr => exact Kd.C_below HR2.o (by repeat (first | exact hb0 | apply pw_below_drewN | apply below_drew1))); rintro e w' ⟨rfl, ⟨nd, rfl⟩⟩; first | exact ⟨rfl, _, World.drewN_drewN _ _ _⟩ | exact ⟨rfl, _, Eq.trans (World.drewN_drewN _ _ _) (congrArg (World.drewN _) (Nat.add_assoc _ _ _))⟩))
  go_wp2_with fail
  refine (impl_timesOk.calls mi ma r _ HT.o).mono ?_
  rintro e w' ⟨rfl, ⟨nd, rfl⟩⟩
  go_wp2_with fail
  go_ret
  exact ⟨rfl, by repeat (first | exact hb0 | apply pw_below_drewN | apply below_drew1)⟩
theorem nodeOk_rest0 (op : Int) (A1 : Option Addr) (c1 : Nat) (l1 : List S103) (A2 : Option Addr) (c2 : Nat) (l2 : List Int) (mi ma place : Int) (w : World) (hp0 : 0 ≤ place) (hp1 : place ≤ 1000000) (hr1 : Kd.C k103 w A1 l1.length l1) (hc1 : l1.length ≤ c1) (hr2 : Kd.C (Kd.int .i64) w A2 l2.length l2) (hc2 : l2.length ≤ c2) (hk : (l2.length : Int) = kidsN op) (hany : J0 (l2.any (fun x => !decide (0 ≤ x ∧ x ≤ place - 1)) = false)) (h2 : (op == 2) = false) (h2' : (op != 2) = true) (he : decide (0 < l1.length) = false) (he' : decide (0 < (l1.length : Int)) = false) (h8 : (op == 8) = false) (hmi : (mi == 0) = false) :
    Calls Try.prog 119 #[.agg #[.int .i64 op, .slice A1 l1.length c1, .slice A2 l2.length c2, .int .i64 mi, .int .i64 ma], .int .i64 place] w fun e w' => e = .returned (.bool false) ∧ Below w.heap.size w w' := by
  obtain ⟨kk, hkk⟩ := ev_get (impl_kidsOf_ev op)
  have HK := q_ hkk
  have HR1 := q_ hr1
  have HC1 := q_ hc1
  have HR2 := q_ hr2
  have HC2 := q_ hc2
  clear hkk hr1 hc1 hr2 hc2
  generalize kidsN op = ko at HK hk
  have hb0 : Below w.heap.size w ((w.alloc (.cells #[.int .i64 op, .slice A1 l1.length c1, .slice A2 l2.length c2, .int .i64 mi, .int .i64 ma] 156)).alloc (.cells #[.int .i64 place] 2)) := below_alloc (below_alloc (Below.refl _ _) _) _
  have hne : ((l2.length : Int) != ko) = false := bne_eq_false_iff_eq.2 hk
  clear hk
  go_enter Try.func119, Try.ntmps119
  go_wp2_with fail
  go_quiet (first | (go_at_call 152; refine (impl_kidsOf.calls _ _ _ _ HK.o).mono ?_; rintro e w' ⟨rfl, ⟨nd, rfl⟩⟩; first | exact ⟨rfl, _, World.drewN_drewN _ _ _⟩ | exact ⟨rfl, _, Eq.trans (World.drewN_drewN _ _ _) (congrArg (World.drewN _) (Nat.add_assoc _ _ _))⟩) | (go_at_call 153; refine (kids_calls place (by omega) (by omega) (w.heap.size + 1) _ ?hcl _ _ l2 ?hr _ hany).mono ?_; (case hcl => (go_simp; done)); (case hr => exact Kd.C_below HR2.o (by repeat (first | exact hb0 | apply pw_below_drewN | apply below_drew1))); rintro e w' ⟨rfl, ⟨nd, rfl⟩⟩; first | exact ⟨rfl, _, World.drewN_drewN _ _ _⟩ | exact ⟨rfl, _, Eq.trans (World.drewN_drewN _ _ _) (congrArg (World.drewN _) (Nat.add_assoc _ _ _))⟩))
  go_wp2_with fail
  go_ret
  exact ⟨rfl, by repeat (first | exact hb0 | apply pw_below_drewN | apply below_drew1)⟩
theorem nodeOk_rest1 (op : Int) (A1 : Option Addr) (c1 : Nat) (l1 : List S103) (A2 : Option Addr) (c2 : Nat) (l2 : List Int) (mi ma place : Int) (w : World) (hp0 : 0 ≤ place) (hp1 : place ≤ 1000000) (hr1 : Kd.C k103 w A1 l1.length l1) (hc1 : l1.length ≤ c1) (hr2 : Kd.C (Kd.int .i64) w A2 l2.length l2) (hc2 : l2.length ≤ c2) (hk : (l2.length : Int) = kidsN op) (hany : J0 (l2.any (fun x => !decide (0 ≤ x ∧ x ≤ place - 1)) = false)) (h2 : (op == 2) = false) (h2' : (op != 2) = true) (he : decide (0 < l1.length) = false) (he' : decide (0 < (l1.length : Int)) = false) (h8 : (op == 8) = false) (hmi : (mi == 0) = true) :
    Calls Try.prog 119 #[.agg #[.int .i64 op, .slice A1 l1.length c1, .slice A2 l2.length c2, .int .i64 mi, .int .i64 ma], .int .i64 place] w fun e w' => e = .returned (.bool (ma == 0)) ∧ Below w.heap.size w w' := by
  obtain ⟨kk, hkk⟩ := ev_get (impl_kidsOf_ev op)
  have HK := q_ hkk
  have HR1 := q_ hr1
  have HC1 := q_ hc1
  have HR2 := q_ hr2
  have HC2 := q_ hc2
  clear hkk hr1 hc1 hr2 hc2
  generalize kidsN op = ko at HK hk
  have hb0 : Below w.heap.size w ((w.alloc (.cells #[.int .i64 op, .slice A1 l1.length c1, .slice A2 l2.length c2, .int .i64 mi, .int .i64 ma] 156)).alloc (.cells #[.int .i64 place] 2)) := below_alloc (below_alloc (Below.refl _ _) _) _
  have hne : ((l2.length : Int) != ko) = false := bne_eq_false_iff_eq.2 hk
  clear hk
  go_enter Try.func119, Try.ntmps119
  go_wp2_with fail
  go_quiet (first | (go_at_call 152; refine (impl_kidsOf.calls _ _ _ _ HK.o).mono ?_; rintro e w' ⟨rfl, ⟨nd, rfl⟩⟩; first | exact ⟨rfl, _, World.drewN_drewN _ _ _⟩ | exact ⟨rfl, _, Eq.trans (World.drewN_drewN _ _ _) (congrArg (World.drewN _) (Nat.add_assoc _ _ _))⟩) | (go_at_call 153; refine (kids_calls place (by omega) (by omega) (w.heap.size + 1) _ ?hcl _ _ l2 ?hr _ hany).mono ?_; (case hcl => (go_simp; done)); (case hr => exact Kd.C_below HR2.o (by repeat (first | exact hb0 | apply pw_below_drewN | apply below_drew1))); rintro e w' ⟨rfl, ⟨nd, rfl⟩⟩; first | exact ⟨rfl, _, World.drewN_drewN _ _ _⟩ | exact ⟨rfl, _, Eq.trans (World.drewN_drewN _ _ _) (congrArg (World.drewN _) (Nat.add_assoc _ _ _))⟩))
  go_wp2_with fail
  go_ret
  exact ⟨rfl, by repeat (first | exact hb0 | apply pw_below_drewN | apply below_drew1)⟩
theorem nodeOk_hand (op : Int) (A1 : Option Addr) (c1 : Nat) (l1 : List S103) (A2 : Option Addr) (c2 : Nat) (l2 : List Int) (mi ma place : Int) (w : World) (hp0 : 0 ≤ place) (hp1 : place ≤ 1000000) (hr1 : Kd.C k103 w A1 l1.length l1) (hc1 : l1.length ≤ c1) (hr2 : Kd.C (Kd.int .i64) w A2 l2.length l2) (hc2 : l2.length ≤ c2) :
    Calls Try.prog 119 #[.agg #[.int .i64 op, .slice A1 l1.length c1, .slice A2 l2.length c2, .int .i64 mi, .int .i64 ma], .int .i64 place] w fun e w' => e = .returned (.bool (nodeB op l1 l2 mi ma place)) ∧ Below w.heap.size w w' := by
  unfold nodeB
  by_cases hk : (l2.length : Int) = kidsN op
  · rw [decide_eq_true hk, Bool.true_and]
    cases hany : l2.any (fun x => !decide (0 ≤ x ∧ x ≤ place - 1)) with
    | true => simpa using nodeOk_any op A1 c1 l1 A2 c2 l2 mi ma place w hp0 hp1 hr1 hc1 hr2 hc2 hk ⟨hany⟩
    | false =>
      rw [Bool.not_false, Bool.true_and]
      have HA := q_ hany
      by_cases h2 : op = 2
      · rw [if_pos h2, if_neg (by omega)]
        obtain ⟨kc, hkc⟩ := ev_get (impl_ClassOk_ev l1 hr1.2.1)
        cases hcl : classB l1 with
        | false =>
          rw [hcl] at hkc
          simpa using nodeOk_class op A1 c1 l1 A2 c2 l2 mi ma place w hp0 hp1 hr1 hc1 hr2 hc2 hk HA (beq_iff_eq.2 h2) (bne_eq_false_iff_eq.2 h2) kc hkc
        | true =>
          rw [hcl] at hkc
          by_cases he : l1.length = 0
          · rw [decide_eq_true he]
            simpa using nodeOk_bare op A1 c1 l1 A2 c2 l2 mi ma place w hp0 hp1 hr1 hc1 hr2 hc2 hk HA (beq_iff_eq.2 h2) (bne_eq_false_iff_eq.2 h2) kc hkc (beq_iff_eq.2 (by omega))
          · rw [decide_eq_false he]
            by_cases hmi : mi = 0
            · have := nodeOk_set1 op A1 c1 l1 A2 c2 l2 mi ma place w hp0 hp1 hr1 hc1 hr2 hc2 hk HA (beq_iff_eq.2 h2) (bne_eq_false_iff_eq.2 h2) kc hkc (beq_eq_false_iff_ne.2 (by omega)) (beq_eq_false_iff_ne.2 (by omega)) (beq_iff_eq.2 hmi)
              rw [show (ma == 0) = decide (ma = 0) from rfl] at this
              simpa [hmi] using this
            · have := nodeOk_set0 op A1 c1 l1 A2 c2 l2 mi ma place w hp0 hp1 hr1 hc1 hr2 hc2 hk HA (beq_iff_eq.2 h2) (bne_eq_false_iff_eq.2 h2) kc hkc (beq_eq_false_iff_ne.2 (by omega)) (beq_eq_false_iff_ne.2 (by omega)) (beq_eq_false_iff_ne.2 hmi)
              simpa [hmi] using this
      · rw [if_neg h2]
        have e2 := beq_eq_false_iff_ne.2 h2
        have n2 := bne_iff_ne.2 h2
        by_cases he : l1.length = 0
        · rw [decide_eq_true he, Bool.true_and]
          have d1 : decide (0 < l1.length) = false := decide_eq_false (by omega)
          have d2 : decide (0 < (l1.length : Int)) = false := decide_eq_false (by omega)
          by_cases h8 : op = 8
          · rw [if_pos h8]
            exact nodeOk_times op A1 c1 l1 A2 c2 l2 mi ma place w hp0 hp1 hr1 hc1 hr2 hc2 hk HA e2 n2 d1 d2 (beq_iff_eq.2 h8) _ (impl_timesOk_eq mi ma)
          · rw [if_neg h8]
            by_cases hmi : mi = 0
            · have := nodeOk_rest1 op A1 c1 l1 A2 c2 l2 mi ma place w hp0 hp1 hr1 hc1 hr2 hc2 hk HA e2 n2 d1 d2 (beq_eq_false_iff_ne.2 h8) (beq_iff_eq.2 hmi)
              rw [show (ma == 0) = decide (ma = 0) from rfl] at this
              simpa [hmi] using this
            · have := nodeOk_rest0 op A1 c1 l1 A2 c2 l2 mi ma place w hp0 hp1 hr1 hc1 hr2 hc2 hk HA e2 n2 d1 d2 (beq_eq_false_iff_ne.2 h8) (beq_eq_false_iff_ne.2 hmi)
              simpa [hmi] using this
        · rw [decide_eq_false he]
          simpa using nodeOk_full op A1 c1 l1 A2 c2 l2 mi ma place w hp0 hp1 hr1 hc1 hr2 hc2 hk HA e2 n2 (decide_eq_true (by omega)) (decide_eq_true (by omega))
  · rw [decide_eq_false hk]
    simpa using nodeOk_kids op A1 c1 l1 A2 c2 l2 mi ma place w hp0 hp1 hr1 hc1 hr2 hc2 hk
end Go.Proofs.Ytijmhelacmjggaa.P
namespace Go.Proofs.Ytijmhelacmjggaa.P
open Go.RowKit Go.Proofs.YtijmhelacmjggaaW.PrintWords Go.Proofs.YtijmhelacmjggaaW.PrintLast Go.Proofs.YtijmhelacmjggaaW.PrintMore
attribute [local go_sem] max2_int min2_int max_two min_two max_three min_three max_four min_four
set_option linter.unusedVariables false
set_option linter.unusedSimpArgs false
/-! ### impl_nodeOk: function 119 -/
def impl_nodeOk.f (a0_0 : Int) (l0_1 : List (S103)) (l0_2 : List Int) (a0_3 : Int) (a0_4 : Int) (a1 : Int) : Option (Bool) := if 0 ≤ a1 ∧ a1 ≤ 1000000 then some (nodeB a0_0 l0_1 l0_2 a0_3 a0_4 a1) else none
theorem impl_nodeOk.calls (a0_0 : Int) (A0_1 : Option Addr) (c0_1 : Nat) (l0_1 : List (S103)) (A0_2 : Option Addr) (c0_2 : Nat) (l0_2 : List Int) (a0_3 : Int) (a0_4 : Int) (a1 : Int) (r : Bool) (w : World) (hr0_1 : Kd.C k103 w A0_1 l0_1.length l0_1) (hc0_1 : l0_1.length ≤ c0_1) (hr0_2 : Kd.C (Kd.int .i64) w A0_2 l0_2.length l0_2) (hc0_2 : l0_2.length ≤ c0_2) (h : impl_nodeOk.f a0_0 l0_1 l0_2 a0_3 a0_4 a1 = some r) :
    Calls Try.prog 119 #[.agg #[.int .i64 a0_0, .slice A0_1 l0_1.length c0_1, .slice A0_2 l0_2.length c0_2, .int .i64 a0_3, .int .i64 a0_4], .int .i64 a1] w fun e w' => e = .returned (.bool r) ∧ Below w.heap.size w w' := by
  unfold impl_nodeOk.f at h
  by_cases hp : 0 ≤ a1 ∧ a1 ≤ 1000000
  · rw [if_pos hp] at h
    obtain rfl := Option.some.inj h
    exact nodeOk_hand a0_0 A0_1 c0_1 l0_1 A0_2 c0_2 l0_2 a0_3 a0_4 a1 w hp.1 hp.2 hr0_1 hc0_1 hr0_2 hc0_2
  · rw [if_neg hp] at h
    exact absurd h (by simp)
/-! ### impl_RxOk: function 62 -/
mutual
def impl_RxOk.l0 : Nat → Int → List Int → List Int → Int → List (S156) → Option (Bool)
 | 0, _, _, _, _, _ => none
 | k + 1, x3, x4, x5, x6, x102000 => if x6 ≥ 0 then (if 0 ≤ x6 then (if x6 < (x102000.length : Int) then ((impl_nodeOk.f ((rd_T156 x102000 x6).f0) ((rd_T156 x102000 x6).f1) ((rd_T156 x102000 x6).f2) ((rd_T156 x102000 x6).f3) ((rd_T156 x102000 x6).f4) x6).bind fun t113 => (if t113 = true then (if x6 < x3 then (if x6 < (x4.length : Int) then (if (rd x4 x6) = 1 then (if x6 < (x5.length : Int) then (impl_RxOk.j1 k x3 x4 x5 x6 (decide ((rd x5 x6) > 150)) x102000 ((rd_T156 x102000 x6).f0) ((rd_T156 x102000 x6).f1) ((rd_T156 x102000 x6).f2) ((rd_T156 x102000 x6).f3) ((rd_T156 x102000 x6).f4)) else (none)) else (impl_RxOk.j1 k x3 x4 x5 x6 true x102000 ((rd_T156 x102000 x6).f0) ((rd_T156 x102000 x6).f1) ((rd_T156 x102000 x6).f2) ((rd_T156 x102000 x6).f3) ((rd_T156 x102000 x6).f4))) else (none)) else (if x6 < (x5.length : Int) then (impl_RxOk.j1 k x3 x4 x5 x6 (decide ((rd x5 x6) > 150)) x102000 ((rd_T156 x102000 x6).f0) ((rd_T156 x102000 x6).f1) ((rd_T156 x102000 x6).f2) ((rd_T156 x102000 x6).f3) ((rd_T156 x102000 x6).f4)) else (none))) else (impl_RxOk.j1 k x3 x4 x5 x6 true x102000 ((rd_T156 x102000 x6).f0) ((rd_T156 x102000 x6).f1) ((rd_T156 x102000 x6).f2) ((rd_T156 x102000 x6).f3) ((rd_T156 x102000 x6).f4)))) else (none)) else (none)) else (if 0 ≤ x3 then (if x3 < (x4.length : Int) then (some ((rd x4 x3) == 0)) else (none)) else (none))
def impl_RxOk.j1 : Nat → Int → List Int → List Int → Int → Bool → List (S156) → Int → List (S103) → List Int → Int → Int → Option (Bool)
 | 0, _, _, _, _, _, _, _, _, _, _, _ => none
 | k + 1, x3, x4, x5, x6, x59, x102000, x113000, x113001, x113002, x113003, x113004 => if x59 = true then (some false) else (impl_RxOk.l1 k x3 x4 x5 x6 x113002 (x113002.length : Int) 0 x102000)
def impl_RxOk.l1 : Nat → Int → List Int → List Int → Int → List Int → Int → Int → List (S156) → Option (Bool)
 | 0, _, _, _, _, _, _, _, _ => none
 | k + 1, x3, x4, x5, x6, x61, x62, x63, x102000 => if x63 < x62 then (if 0 ≤ x63 then (if x63 < (x61.length : Int) then (if 0 ≤ (rd x61 x63) then (if (rd x61 x63) < (x4.length : Int) then (if 0 ≤ x6 then (if x6 < (x5.length : Int) then (if (rd x61 x63) < (x5.length : Int) then (impl_RxOk.l1 k x3 (x4.set ((rd x61 x63) : Int).toNat (wrap64 ((rd x4 (rd x61 x63)) + 1))) (x5.set ((rd x61 x63) : Int).toNat (wrap64 ((rd x5 x6) + 1))) x6 x61 x62 (wrap64 (x63 + 1)) x102000) else (none)) else (none)) else (none)) else (none)) else (none)) else (none)) else (none)) else (impl_RxOk.l0 k x3 x4 x5 (wrap64 (x6 - 1)) x102000)
end
def impl_RxOk.f (k : Nat) (l0_0 : List (S156)) : Option (Bool) := (impl_RNode.f l0_0).bind fun t102 => ((impl_within.f t102 1 300).bind fun t103 => (if t103 = true then (if 0 ≤ (l0_0.length : Int) then (if ((l0_0.length : Int) : Int).toNat ≤ 35184372088832 then (impl_RxOk.l0 k (wrap64 ((l0_0.length : Int) - 1)) (List.replicate ((l0_0.length : Int) : Int).toNat 0) (List.replicate ((l0_0.length : Int) : Int).toNat 0) (wrap64 ((l0_0.length : Int) - 1)) l0_0) else (none)) else (none)) else (some false)))
def impl_RxOk.T4 : Bool × List (List Nat × List Nat) := (true, [([], []), ([0], [0]), ([1], [1]), ([2, 2], [2]), ([], []), ([4], [4]), ([5], [5]), ([6, 6], [6]), ([3, 0, 1, 2, 3], [3]), ([7, 8, 0, 1, 2, 3, 4, 5, 6, 7, 8], [7])])
def impl_RxOk.B4 : List Nat := [0, 1, 3, 7, 0, 16, 48, 112, 15, 511]
theorem impl_RxOk.tab4 : rtab .any (opsOf Try.f62 4) = impl_RxOk.T4 := by kernel_rfl
theorem impl_RxOk.bits4 : waitsOk impl_RxOk.T4.2 impl_RxOk.B4 = true := by kernel_rfl
theorem impl_RxOk.calls (k : Nat) (A0_0 : Option Addr) (c0_0 : Nat) (l0_0 : List (S156)) (r : Bool) (w : World) (hr0_0 : Kd.C k156 w A0_0 l0_0.length l0_0) (hc0_0 : l0_0.length ≤ c0_0) (h : impl_RxOk.f k l0_0 = some r) :
  Calls Try.prog 62 #[.agg #[.slice A0_0 l0_0.length c0_0]] w fun e w' => e = .returned (.bool r) ∧ Below w.heap.size w w' := by
 have hu29 := Try.underlying29; have hu156 := Try.underlying156; have HR0_0 := q_ hr0_0; have HC0_0 := q_ hc0_0; clear hr0_0 hc0_0; have HB := q_ (Below.refl w.heap.size w)
 have H : ((impl_RNode.f l0_0).bind fun t102 => ((impl_within.f t102 1 300).bind fun t103 => (if t103 = true then (if 0 ≤ (l0_0.length : Int) then (if ((l0_0.length : Int) : Int).toNat ≤ 35184372088832 then (impl_RxOk.l0 k (wrap64 ((l0_0.length : Int) - 1)) (List.replicate ((l0_0.length : Int) : Int).toNat 0) (List.replicate ((l0_0.length : Int) : Int).toNat 0) (wrap64 ((l0_0.length : Int) - 1)) l0_0) else (none)) else (none)) else (some false)))) = some r := h
 clear h; obtain ⟨t102, A2, H⟩ := ob_ H; obtain ⟨t103, A3, H⟩ := ob_ H
 by_cases c4 : t103 = true
 ·subst c4; rw [if_pos rfl] at H
  by_cases c5 : 0 ≤ (l0_0.length : Int)
  ·rw [if_pos c5] at H; have c5b0 := eq_true c5; have c5b1 := dt_ c5; clear c5
   by_cases c6 : ((l0_0.length : Int) : Int).toNat ≤ 35184372088832
   ·rw [if_pos c6] at H; have c6b0 := eq_true c6; have c6b1 := dt_ c6; clear c6
    obtain ⟨y104, hy104⟩ : ∃ y_ : List Int, y_ = (List.replicate ((l0_0.length : Int) : Int).toNat 0) := ⟨_, rfl⟩
    replace H : (impl_RxOk.l0 k (wrap64 ((l0_0.length : Int) - 1)) y104 (List.replicate ((l0_0.length : Int) : Int).toNat 0) (wrap64 ((l0_0.length : Int) - 1)) l0_0) = some r := by first | (rw [hy104]; with_reducible exact H) | (have H2_ := (Option.bind_some _ _).symm.trans H; rw [hy104]; with_reducible exact H2_) | (have H2_ := (Option.bind_some _ _).symm.trans H; with_reducible exact H2_) | with_reducible exact H | (rw [hy104]; exact H) | exact H
    have Ny104 := q_ hy104; clear hy104
    obtain ⟨y107, hy107⟩ : ∃ y_ : List Int, y_ = (List.replicate ((l0_0.length : Int) : Int).toNat 0) := ⟨_, rfl⟩
    replace H : (impl_RxOk.l0 k (wrap64 ((l0_0.length : Int) - 1)) y104 y107 (wrap64 ((l0_0.length : Int) - 1)) l0_0) = some r := by first | (rw [hy107]; with_reducible exact H) | (have H2_ := (Option.bind_some _ _).symm.trans H; rw [hy107]; with_reducible exact H2_) | (have H2_ := (Option.bind_some _ _).symm.trans H; with_reducible exact H2_) | with_reducible exact H | (rw [hy107]; exact H) | exact H
    have Ny107 := q_ hy107; clear hy107
    have H' := q_ H
    clear H
    go_enter Try.func62, Try.ntmps62
    try go_wp2_with (first | ((with_reducible refine gate_dst (N := 1) rfl ?_); refine bx_ 1 #[.slice A0_0 l0_0.length c0_0] 29 ?_; intro gb101 hg w7 hbox hb; have BK101 := q_ (hbox); have GE101 := ge_ hg HB; replace HB := sb_ HB hb; clear hb hbox hg; obtain ⟨hcz8_0, hfz8_0⟩ := d1_ BK101) | ((with_reducible refine gate_callee (f := 118) rfl ?_); refine gl_ (some 12) rfl rfl Try.func118 #[.slice A0_0 l0_0.length c0_0] ?_; (with_reducible refine (impl_RNode.calls _ _ l0_0 t102 _ ?side1 ?side2 A2.o).mono ?_); (case side1 => exact Kd.C_below HR0_0.o (be_ HB.o)); (case side2 => exact HC0_0.o); rintro e w' ⟨rfl, ⟨nd, rfl⟩⟩; refine ⟨_, rfl, ?_⟩) | ((with_reducible refine gate_callee (f := 79) rfl ?_); refine gl_ (some 13) rfl rfl Try.func79 #[.int .i64 t102, .int .i64 1, .int .i64 300] ?_; (with_reducible refine (impl_within.calls t102 1 300 true _ A3.o).mono ?_); rintro e w' ⟨rfl, ⟨nd, rfl⟩⟩; refine ⟨_, rfl, ?_⟩))
    (try (rw [drewN_self w7]; generalize hq_ : World.drewN w7 _ = w7; have n0_ : J0 (w7.heap[gb101]? = some (.cells #[.slice A0_0 l0_0.length c0_0] 29 (0, 0))) := ⟨by rw [← hq_]; exact (bk_ BK101.o)⟩; have n1_ : J0 (Below w.heap.size w w7) := ⟨by rw [← hq_]; exact (be1_ HB.o GE101.o)⟩; clear BK101 HB hq_; have BK101 := n0_; have HB := n1_; clear n0_ n1_))
    replace BK101 := q_ (blk_drew BK101.o); replace HB := q_ (below_drew1 HB.o)
    refine start_ (n := 10) (S := fun w' => w'.cell? ⟨gb101, 0, none⟩ = some (.slice A0_0 l0_0.length c0_0)) (ds := []) (bb 10 0) (by kernel_rfl) rfl rfl ((blk_cell BK101.o 0).trans rfl) (fun hHeld => ?_); refine with_tabW impl_RxOk.tab4 impl_RxOk.bits4 (fun HT_ HW_ => ?_)
    generalize w7.drew = w9 at BK101 HB hHeld ⊢
    refine pv_ 0 19 1 HT_.o ?_; refine pv_ 4 23 17 HT_.o ?_; refine tv_ 1 20 19 HT_.o HW_.o hHeld ?_; refine pv_ 2 21 23 HT_.o ?_; refine tv_ 5 24 55 HT_.o HW_.o hHeld ?_; refine pv_ 6 25 119 HT_.o ?_
    refine join_ (σ := Value × Value) 1 (bb 10 511) (fun s_ => [(22, s_.1), (26, s_.2), (4, s_.1)]) (fun s_ w' => (w'.cell? ⟨gb101, 0, none⟩ = some (.slice A0_0 l0_0.length c0_0)) ∧ (Kd.R (Kd.int .i64) 3 w' w.heap.size (fun k_ => some k_ ≠ (s_.2 : Value).ownBlock) s_.1 y104) ∧ (Kd.R (Kd.int .i64) 3 w' w.heap.size (fun k_ => some k_ ≠ (s_.1 : Value).ownBlock) s_.2 y107) ∧ (w'.heap[gb101]? = some (.cells #[.slice A0_0 l0_0.length c0_0] 29 (0, 0))) ∧ (Below w.heap.size w w')) ?_ ?_
    rotate_left
    ·intro hCont
     refine two_ (i := 3) (j := 7) (Ni := some 22) (Nj := some 26) (bb 10 127) (bb 10 247) rfl rfl rfl rfl (two_of HT_.o (by kernel_rfl)) (by decide) (by decide) (fun K hK => ?_) (fun K hK => ?_)
     ·skip
      refine Kd.R_make_step (Kd.int .i64) _ 3 (by rfl) (N := 22) rfl 153 _ _ rfl (l0_0.length : Int) rfl rfl Try.underlying153 (.int .i64 0) 8 info3 rfl (by decide) (by omega) 0 (ok := fun _ => True) (okp := fun _ => True) rfl (fun _ hk => hk) trivial (of_decide_eq_true as_) (Nat.le_trans (Nat.mul_le_mul_right _ (of_decide_eq_true as_ : (l0_0.length : Int).toNat ≤ 35184372088832)) (by omega)) (Below.refl _ _) (Nat.le_refl _) ?_
      intro v105 w10 ho11 hb hg_ hnew_
      clear hg_ hnew_
      (first | rw [← Ny104.o] at ho11 | (simp only [Int.reduceToNat] at ho11; rw [← Ny104.o] at ho11))
      have HO106 := q_ (Kd.R_lower ho11 (below_size (be1_ HB.o GE101.o))); replace BK101 := lb_ BK101 hb; replace HB := sb1_ HB GE101 hb; clear hb ho11
      refine hK.out _ _ ((blk_cell BK101.o 0).trans rfl) (fun hHeld => ?_)
      clear hK K; refine no_ (some 22) ?_; refine pv_ 8 4 383 HT_.o ?_
      refine one_ (i := 7) (N := some 26) (bb 10 511) rfl rfl (one_of HT_.o (by kernel_rfl)) (by decide) (fun K hK => ?_)
      refine Kd.R_make_step (Kd.int .i64) _ 3 (by rfl) (N := 26) rfl 153 _ _ rfl (l0_0.length : Int) rfl rfl Try.underlying153 (.int .i64 0) 8 info3 rfl (by decide) (by omega) 0 (ok := fun _ => True) (okp := fun _ => True) rfl (fun _ hk => hk) trivial (of_decide_eq_true as_) (Nat.le_trans (Nat.mul_le_mul_right _ (of_decide_eq_true as_ : (l0_0.length : Int).toNat ≤ 35184372088832)) (by omega)) (Below.refl _ _) (Nat.le_refl _) ?_
      intro v108 w12 ho13 hb hg_ hnew_
      clear hg_ hnew_
      (first | rw [← Ny107.o] at ho13 | (simp only [Int.reduceToNat] at ho13; rw [← Ny107.o] at ho13))
      have HO109 := q_ (Kd.R_lower (Kd.R_new' ho13 (Kd.R_lt (ra_ HO106.o))) (below_size (be1_ HB.o GE101.o))); replace HO106 := q_ (Kd.R_elder' (ra_ HO106.o) (Kd.R_base ho13) hb); replace BK101 := lb_ BK101 hb; replace HB := sb1_ HB GE101 hb; clear hb ho13
      refine hK.out _ _ ((blk_cell BK101.o 0).trans rfl) (fun hHeld => ?_)
      clear hK K; refine no_ (some 26) ?_
      exact norm_ (by simp only [putAll, Act.put, List.setIfInBounds_toArray, List.set_cons_zero, List.set_cons_succ]) (hCont (v105, v108) _ ⟨hHeld, (by (with_reducible repeat (first | apply Kd.R_alloc | apply Kd.R_drewN | apply Kd.R_drew)); exact Kd.R_mono HO106.o (fun _ hk => hk.2)), (by (with_reducible repeat (first | apply Kd.R_alloc | apply Kd.R_drewN | apply Kd.R_drew)); exact Kd.R_mono HO109.o (fun _ hk => hk.2)), (bk_ BK101.o), (be1_ HB.o GE101.o)⟩)
     ·skip
      refine Kd.R_make_step (Kd.int .i64) _ 3 (by rfl) (N := 26) rfl 153 _ _ rfl (l0_0.length : Int) rfl rfl Try.underlying153 (.int .i64 0) 8 info3 rfl (by decide) (by omega) 0 (ok := fun _ => True) (okp := fun _ => True) rfl (fun _ hk => hk) trivial (of_decide_eq_true as_) (Nat.le_trans (Nat.mul_le_mul_right _ (of_decide_eq_true as_ : (l0_0.length : Int).toNat ≤ 35184372088832)) (by omega)) (Below.refl _ _) (Nat.le_refl _) ?_
      intro v108 w10 ho11 hb hg_ hnew_
      clear hg_ hnew_
      (first | rw [← Ny107.o] at ho11 | (simp only [Int.reduceToNat] at ho11; rw [← Ny107.o] at ho11))
      have HO109 := q_ (Kd.R_lower ho11 (below_size (be1_ HB.o GE101.o))); replace BK101 := lb_ BK101 hb; replace HB := sb1_ HB GE101 hb; clear hb ho11
      refine hK.out _ _ ((blk_cell BK101.o 0).trans rfl) (fun hHeld => ?_)
      clear hK K; refine no_ (some 26) ?_
      refine one_ (i := 3) (N := some 22) (bb 10 255) rfl rfl (one_of HT_.o (by kernel_rfl)) (by decide) (fun K hK => ?_)
      refine Kd.R_make_step (Kd.int .i64) _ 3 (by rfl) (N := 22) rfl 153 _ _ rfl (l0_0.length : Int) rfl rfl Try.underlying153 (.int .i64 0) 8 info3 rfl (by decide) (by omega) 0 (ok := fun _ => True) (okp := fun _ => True) rfl (fun _ hk => hk) trivial (of_decide_eq_true as_) (Nat.le_trans (Nat.mul_le_mul_right _ (of_decide_eq_true as_ : (l0_0.length : Int).toNat ≤ 35184372088832)) (by omega)) (Below.refl _ _) (Nat.le_refl _) ?_
      intro v105 w12 ho13 hb hg_ hnew_
      clear hg_ hnew_
      (first | rw [← Ny104.o] at ho13 | (simp only [Int.reduceToNat] at ho13; rw [← Ny104.o] at ho13))
      have HO106 := q_ (Kd.R_lower (Kd.R_new' ho13 (Kd.R_lt (ra_ HO109.o))) (below_size (be1_ HB.o GE101.o))); replace HO109 := q_ (Kd.R_elder' (ra_ HO109.o) (Kd.R_base ho13) hb); replace BK101 := lb_ BK101 hb; replace HB := sb1_ HB GE101 hb; clear hb ho13
      refine hK.out _ _ ((blk_cell BK101.o 0).trans rfl) (fun hHeld => ?_)
      clear hK K; refine no_ (some 22) ?_; refine pv_ 8 4 511 HT_.o ?_
      exact norm_ (by simp only [putAll, Act.put, List.setIfInBounds_toArray, List.set_cons_zero, List.set_cons_succ]) (hCont (v105, v108) _ ⟨hHeld, (by (with_reducible repeat (first | apply Kd.R_alloc | apply Kd.R_drewN | apply Kd.R_drew)); exact Kd.R_mono HO106.o (fun _ hk => hk.2)), (by (with_reducible repeat (first | apply Kd.R_alloc | apply Kd.R_drewN | apply Kd.R_drew)); exact Kd.R_mono HO109.o (fun _ hk => hk.2)), (bk_ BK101.o), (be1_ HB.o GE101.o)⟩)
    rintro ⟨v105, v108⟩ w14 ⟨hS_, h0_, h1_, h2_, h3_⟩
    have n0_ : J0 (Kd.R (Kd.int .i64) 3 w14 w.heap.size (fun k_ => some k_ ≠ (v108 : Value).ownBlock) v105 y104) := ⟨h0_⟩
    have n1_ : J0 (Kd.R (Kd.int .i64) 3 w14 w.heap.size (fun k_ => some k_ ≠ (v105 : Value).ownBlock) v108 y107) := ⟨h1_⟩
    have n2_ : J0 (w14.heap[gb101]? = some (.cells #[.slice A0_0 l0_0.length c0_0] 29 (0, 0))) := ⟨h2_⟩
    have n3_ : J0 (Below w.heap.size w w14) := ⟨h3_⟩
    clear BK101; clear HB; clear h0_ h1_ h2_ h3_; have HO106 := n0_; have HO109 := n1_; have BK101 := n2_; have HB := n3_; clear n0_ n1_ n2_ n3_
    have hHeld : w14.cell? ⟨gb101, 0, none⟩ = some (.slice A0_0 l0_0.length c0_0) := hS_
    refine norm_ (a' := ?_) ?_ ?_
    rotate_left
    ·simp only [putAll, Act.put, List.setIfInBounds_toArray, List.set_cons_zero, List.set_cons_succ]
     rfl
    refine pv_ 9 5 1023 HT_.o ?_
    refine done_ (done_of HT_.o (by kernel_rfl)) ?_
    try go_wp2
    go_loopg [6] k (fun kq v6 w' => ∃ (x4_1 : List Int) (x5_1 : List Int) (x6_1 : Int), v6 = .int .i64 x6_1 ∧ J0 (impl_RxOk.l0 kq (wrap64 ((l0_0.length : Int) - 1)) x4_1 x5_1 x6_1 l0_0 = some r) ∧ J0 (kq ≤ k) ∧ J0 (Kd.R (Kd.int .i64) 3 w' w.heap.size (fun k_ => some k_ ≠ (v108 : Value).ownBlock) v105 x4_1) ∧ J0 (Kd.R (Kd.int .i64) 3 w' w.heap.size (fun k_ => some k_ ≠ (v105 : Value).ownBlock) v108 x5_1) ∧ J0 (w'.heap[gb101]? = some (.cells #[(.slice A0_0 l0_0.length c0_0)] 29 (0, 0))) ∧ J0 (Below w.heap.size w w'))
    case atStart => exact ⟨(y104), (y107), (wrap64 ((l0_0.length : Int) - 1)), rs_, H', ⟨Nat.le_refl _⟩, ⟨ra_ HO106.o⟩, ⟨ra_ HO109.o⟩, ⟨bk_ BK101.o⟩, ⟨be1_ HB.o GE101.o⟩⟩
    case round =>
     clear H'; (try clear c4); (try clear c5); (try clear c5b0); (try clear c5b1); (try clear c6); (try clear c6b0); (try clear c6b1); (try clear hcz8_0); (try clear hfz8_0); obtain ⟨x4_1, x5_1, x6_1, rfl, HA, HK1, HO_4, HO_5, BK101, HB⟩ := hrel
     cases gk with
     | zero => exact absurd HA.o (by simp [impl_RxOk.l0])
     | succ k1 =>
      have H := HA.o; clear HA
      simp only [impl_RxOk.l0] at H
      by_cases c15 : x6_1 ≥ 0
      ·rw [if_pos c15] at H
       have c15b0 : decide (0 ≤ x6_1) = true := dt_ c15
       clear c15
       by_cases c16 : 0 ≤ x6_1
       ·rw [if_pos c16] at H; have c16b0 := dt_ c16; clear c16
        by_cases c17 : x6_1 < (l0_0.length : Int)
        ·rw [if_pos c17] at H; have c17b0 := dt_ c17; clear c17; have HC18 := q_ H; clear H; obtain ⟨hcz19_0, hfz19_0⟩ := d1_ BK101
         have p111 : 0 ≤ (x6_1 : Int) := of_decide_eq_true as_
         have q111 : x6_1 < (l0_0.length : Int) := of_decide_eq_true as_
         obtain ⟨ad111, A111_1, c111_1, A111_2, c111_2, e111, hx111_0, hx111_1, hx111_2, hx111_3, hx111_4, hl111_1, hi111_1, hl111_2, hi111_2⟩ := at_T156 HR0_0.o x6_1 p111 q111
         cases e111
         replace hx111_0 := mv_ HB.o hx111_0; replace hx111_1 := mv_ HB.o hx111_1; replace hx111_2 := mv_ HB.o hx111_2; replace hx111_3 := mv_ HB.o hx111_3; replace hx111_4 := mv_ HB.o hx111_4; have HR111_1 := q_ hi111_1; have HC111_1 := q_ hl111_1; clear hi111_1 hl111_1; have HR111_2 := q_ hi111_2; have HC111_2 := q_ hl111_2; clear hi111_2 hl111_2; replace p111 := eq_true p111; replace q111 := eq_true q111
         go_upto_region 9 with (((with_reducible refine gate_dst (N := 7) rfl ?_); refine bx_ 7 #[.int .i64 0, .slice none 0 0, .slice none 0 0, .int .i64 0, .int .i64 0] 156 ?_; intro gb112 hg w20 hbox hb; have BK112 := q_ (hbox); have GE112 := ge1_ hg HB GE101; have NB101_112 := nl_ hg BK101; have NB112_101 := ng_ hg BK101; replace HO_4 := q_ (Kd.R_below (ra_ HO_4.o) hb); replace HO_5 := q_ (Kd.R_below (ra_ HO_5.o) hb); replace BK101 := lb_ BK101 hb; replace HB := sb1_ HB GE101 hb; clear hb hbox hg; have hnb21 := NB112_101.o; have hnc21 := NB101_112.o; obtain ⟨hcz22_0, hcz22_1, hcz22_2, hcz22_3, hcz22_4, hfz22_0, hfz22_1, hfz22_2, hfz22_3, hfz22_4⟩ := d5_ BK112))
         (try simp only [Act.put, List.setIfInBounds_toArray, List.set_cons_zero, List.set_cons_succ])
         go_cut [59] (fun v59 wc => ∃ (kq : Nat) (x59_17 : Bool), v59 = .bool x59_17 ∧ J0 (impl_RxOk.j1 kq (wrap64 ((l0_0.length : Int) - 1)) x4_1 x5_1 x6_1 x59_17 l0_0 ((rd_T156 l0_0 x6_1).f0) ((rd_T156 l0_0 x6_1).f1) ((rd_T156 l0_0 x6_1).f2) ((rd_T156 l0_0 x6_1).f3) ((rd_T156 l0_0 x6_1).f4) = some r) ∧ J0 (kq ≤ k1) ∧ J0 (Kd.R (Kd.int .i64) 3 wc w.heap.size (fun k_ => some k_ ≠ (v108 : Value).ownBlock) v105 x4_1) ∧ J0 (Kd.R (Kd.int .i64) 3 wc w.heap.size (fun k_ => some k_ ≠ (v105 : Value).ownBlock) v108 x5_1) ∧ J0 (wc.heap[gb101]? = some (.cells #[(.slice (some ad111) l0_0.length c0_0)] 29 (0, 0))) ∧ J0 (wc.heap[gb112]? = some (.cells #[.int .i64 ((rd_T156 l0_0 x6_1).f0), (.slice A111_1 ((rd_T156 l0_0 x6_1).f1).length c111_1), (.slice A111_2 ((rd_T156 l0_0 x6_1).f2).length c111_2), .int .i64 ((rd_T156 l0_0 x6_1).f3), .int .i64 ((rd_T156 l0_0 x6_1).f4)] 156 (0, 0))) ∧ J0 (Below w.heap.size w wc))
         case first =>
          have H := HC18.o; clear HC18; obtain ⟨t113, A23, H⟩ := ob_ H
          by_cases c24 : t113 = true
          ·subst c24; rw [if_pos rfl] at H
           by_cases c25 : x6_1 < (wrap64 ((l0_0.length : Int) - 1))
           ·rw [if_pos c25] at H; have c25b0 := dt_ c25; clear c25
            (first | rw [c25b0] | (simp only [i64_w, i32_w]; rw [c25b0]) | skip)
            by_cases c26 : x6_1 < (x4_1.length : Int)
            ·rw [if_pos c26] at H; have c26b0 := dt_ c26; clear c26
             by_cases c27 : (rd x4_1 x6_1) = 1
             ·rw [if_pos c27] at H
              have c27b0 : ((rd x4_1 x6_1) == 1) = true := beq_iff_eq.mpr c27
              have c27b1 : ((rd x4_1 x6_1) != 1) = false := bne_eq_false_iff_eq.mpr c27
              clear c27
              by_cases c28 : x6_1 < (x5_1.length : Int)
              ·rw [if_pos c28] at H; have c28b0 := dt_ c28; clear c28
               have H' := q_ H
               clear H; have hnb29 := NB112_101.o; have hnc29 := NB101_112.o; obtain ⟨hcz30_0, hcz30_1, hcz30_2, hcz30_3, hcz30_4, hfz30_0, hfz30_1, hfz30_2, hfz30_3, hfz30_4⟩ := d5_ BK112
               go_wp2_with (((with_reducible refine gate_callee (f := 119) rfl ?_); refine gl_ (some 39) rfl rfl Try.func119 #[.agg #[.int .i64 ((rd_T156 l0_0 x6_1).f0), .slice A111_1 ((rd_T156 l0_0 x6_1).f1).length c111_1, .slice A111_2 ((rd_T156 l0_0 x6_1).f2).length c111_2, .int .i64 ((rd_T156 l0_0 x6_1).f3), .int .i64 ((rd_T156 l0_0 x6_1).f4)], .int .i64 x6_1] ?_; (with_reducible refine (impl_nodeOk.calls ((rd_T156 l0_0 x6_1).f0) _ _ ((rd_T156 l0_0 x6_1).f1) _ _ ((rd_T156 l0_0 x6_1).f2) ((rd_T156 l0_0 x6_1).f3) ((rd_T156 l0_0 x6_1).f4) x6_1 true _ ?side1 ?side2 ?side3 ?side4 A23.o).mono ?_); (case side1 => exact Kd.C_below HR111_1.o (be2_ HB.o GE101.o GE112.o)); (case side2 => exact HC111_1.o); (case side3 => exact Kd.C_below HR111_2.o (be2_ HB.o GE101.o GE112.o)); (case side4 => exact HC111_2.o); rintro e w31 ⟨rfl, hb⟩; refine ⟨_, rfl, ?_⟩; replace HO_4 := q_ (Kd.R_below (by (with_reducible repeat (first | apply Kd.R_alloc | apply Kd.R_drewN | apply Kd.R_drew)); exact (Kd.R_mono (Kd.R_far (p := ⟨gb112, 4, none⟩) (Kd.R_far (p := ⟨gb112, 3, none⟩) (Kd.R_far (p := ⟨gb112, 2, none⟩) (Kd.R_far (p := ⟨gb112, 1, none⟩) (Kd.R_far (p := ⟨gb112, 0, none⟩) (Kd.R_types HO_4.o BK112.o (by decide)) (fun _ hk => hk.2) (.int .i64 ((rd_T156 l0_0 x6_1).f0))) (fun _ hk => hk.2) (.slice A111_1 ((rd_T156 l0_0 x6_1).f1).length c111_1)) (fun _ hk => hk.2) (.slice A111_2 ((rd_T156 l0_0 x6_1).f2).length c111_2)) (fun _ hk => hk.2) (.int .i64 ((rd_T156 l0_0 x6_1).f3))) (fun _ hk => hk.2) (.int .i64 ((rd_T156 l0_0 x6_1).f4))) (fun _ h_ => h_.1))) hb); replace HO_5 := q_ (Kd.R_below (by (with_reducible repeat (first | apply Kd.R_alloc | apply Kd.R_drewN | apply Kd.R_drew)); exact (Kd.R_mono (Kd.R_far (p := ⟨gb112, 4, none⟩) (Kd.R_far (p := ⟨gb112, 3, none⟩) (Kd.R_far (p := ⟨gb112, 2, none⟩) (Kd.R_far (p := ⟨gb112, 1, none⟩) (Kd.R_far (p := ⟨gb112, 0, none⟩) (Kd.R_types HO_5.o BK112.o (by decide)) (fun _ hk => hk.2) (.int .i64 ((rd_T156 l0_0 x6_1).f0))) (fun _ hk => hk.2) (.slice A111_1 ((rd_T156 l0_0 x6_1).f1).length c111_1)) (fun _ hk => hk.2) (.slice A111_2 ((rd_T156 l0_0 x6_1).f2).length c111_2)) (fun _ hk => hk.2) (.int .i64 ((rd_T156 l0_0 x6_1).f3))) (fun _ hk => hk.2) (.int .i64 ((rd_T156 l0_0 x6_1).f4))) (fun _ h_ => h_.1))) hb); replace BK101 := q_ (blk_below (g := gb101) (o := .cells #[.slice (some ad111) l0_0.length c0_0] 29 (0, 0)) (by (with_reducible repeat (first | refine blk_drewN ?_ _ | refine blk_drew ?_ | refine blk_alloc ?_ _)); refine blk_far ?_ NB101_112.o _; (with_reducible repeat (first | refine blk_drewN ?_ _ | refine blk_drew ?_ | refine blk_alloc ?_ _)); refine blk_far ?_ NB101_112.o _; (with_reducible repeat (first | refine blk_drewN ?_ _ | refine blk_drew ?_ | refine blk_alloc ?_ _)); refine blk_far ?_ NB101_112.o _; (with_reducible repeat (first | refine blk_drewN ?_ _ | refine blk_drew ?_ | refine blk_alloc ?_ _)); refine blk_far ?_ NB101_112.o _; (with_reducible repeat (first | refine blk_drewN ?_ _ | refine blk_drew ?_ | refine blk_alloc ?_ _)); refine blk_far ?_ NB101_112.o _; (with_reducible repeat (first | refine blk_drewN ?_ _ | refine blk_drew ?_ | refine blk_alloc ?_ _)); exact BK101.o) hb); replace BK112 := q_ (blk_below (g := gb112) (o := .cells #[.int .i64 ((rd_T156 l0_0 x6_1).f0), .slice A111_1 ((rd_T156 l0_0 x6_1).f1).length c111_1, .slice A111_2 ((rd_T156 l0_0 x6_1).f2).length c111_2, .int .i64 ((rd_T156 l0_0 x6_1).f3), .int .i64 ((rd_T156 l0_0 x6_1).f4)] 156 (0, 0)) (by (with_reducible repeat (first | refine blk_drewN ?_ _ | refine blk_drew ?_ | refine blk_alloc ?_ _)); refine blk_put (cs := #[.int .i64 ((rd_T156 l0_0 x6_1).f0), .slice A111_1 ((rd_T156 l0_0 x6_1).f1).length c111_1, .slice A111_2 ((rd_T156 l0_0 x6_1).f2).length c111_2, .int .i64 ((rd_T156 l0_0 x6_1).f3), .int .i64 0]) ?_ 4 _ rfl; (with_reducible repeat (first | refine blk_drewN ?_ _ | refine blk_drew ?_ | refine blk_alloc ?_ _)); refine blk_put (cs := #[.int .i64 ((rd_T156 l0_0 x6_1).f0), .slice A111_1 ((rd_T156 l0_0 x6_1).f1).length c111_1, .slice A111_2 ((rd_T156 l0_0 x6_1).f2).length c111_2, .int .i64 0, .int .i64 0]) ?_ 3 _ rfl; (with_reducible repeat (first | refine blk_drewN ?_ _ | refine blk_drew ?_ | refine blk_alloc ?_ _)); refine blk_put (cs := #[.int .i64 ((rd_T156 l0_0 x6_1).f0), .slice A111_1 ((rd_T156 l0_0 x6_1).f1).length c111_1, .slice none 0 0, .int .i64 0, .int .i64 0]) ?_ 2 _ rfl; (with_reducible repeat (first | refine blk_drewN ?_ _ | refine blk_drew ?_ | refine blk_alloc ?_ _)); refine blk_put (cs := #[.int .i64 ((rd_T156 l0_0 x6_1).f0), .slice none 0 0, .slice none 0 0, .int .i64 0, .int .i64 0]) ?_ 1 _ rfl; (with_reducible repeat (first | refine blk_drewN ?_ _ | refine blk_drew ?_ | refine blk_alloc ?_ _)); refine blk_put (cs := #[.int .i64 0, .slice none 0 0, .slice none 0 0, .int .i64 0, .int .i64 0]) ?_ 0 _ rfl; (with_reducible repeat (first | refine blk_drewN ?_ _ | refine blk_drew ?_ | refine blk_alloc ?_ _)); exact BK112.o) hb); replace HB := sb2_ HB GE101 GE112 hb; (try clear hb); obtain ⟨Ao32, co32, eo32⟩ := Kd.R_slice HO_4.o; subst eo32; have p114 : 0 ≤ (x6_1 : Int) := of_decide_eq_true as_; have q114 : x6_1 < (x4_1.length : Int) := of_decide_eq_true as_; obtain ⟨ad114, e114, hx114_0⟩ := Kd.at_int (Kd.R_reads' HO_4.o).2.2 x6_1 p114 q114; cases e114; replace p114 := eq_true p114; replace q114 := eq_true q114; obtain ⟨Ao33, co33, eo33⟩ := Kd.R_slice HO_5.o; subst eo33; have p115 : 0 ≤ (x6_1 : Int) := of_decide_eq_true as_; have q115 : x6_1 < (x5_1.length : Int) := of_decide_eq_true as_; obtain ⟨ad115, e115, hx115_0⟩ := Kd.at_int (Kd.R_reads' HO_5.o).2.2 x6_1 p115 q115; cases e115; replace p115 := eq_true p115; replace q115 := eq_true q115))
               go_meet
               case rel => exact ⟨_, (decide ((rd x5_1 x6_1) > 150)), rs_, H', ⟨by have := HK1.o; first | omega | exact Nat.le_refl _⟩, ⟨ra_ HO_4.o⟩, ⟨ra_ HO_5.o⟩, ⟨bk_ BK101.o⟩, ⟨bk_ BK112.o⟩, ⟨be2_ HB.o GE101.o GE112.o⟩⟩
              ·rw [if_neg c28] at H
               exact absurd H (by simp)
             ·rw [if_neg c27] at H
              have c27b0 : ((rd x4_1 x6_1) == 1) = false := beq_eq_false_iff_ne.mpr c27
              have c27b1 : ((rd x4_1 x6_1) != 1) = true := bne_iff_ne.mpr c27
              have H' := q_ H
              clear H; have hnb34 := NB112_101.o; have hnc34 := NB101_112.o; obtain ⟨hcz35_0, hcz35_1, hcz35_2, hcz35_3, hcz35_4, hfz35_0, hfz35_1, hfz35_2, hfz35_3, hfz35_4⟩ := d5_ BK112
              go_wp2_with (((with_reducible refine gate_callee (f := 119) rfl ?_); refine gl_ (some 39) rfl rfl Try.func119 #[.agg #[.int .i64 ((rd_T156 l0_0 x6_1).f0), .slice A111_1 ((rd_T156 l0_0 x6_1).f1).length c111_1, .slice A111_2 ((rd_T156 l0_0 x6_1).f2).length c111_2, .int .i64 ((rd_T156 l0_0 x6_1).f3), .int .i64 ((rd_T156 l0_0 x6_1).f4)], .int .i64 x6_1] ?_; (with_reducible refine (impl_nodeOk.calls ((rd_T156 l0_0 x6_1).f0) _ _ ((rd_T156 l0_0 x6_1).f1) _ _ ((rd_T156 l0_0 x6_1).f2) ((rd_T156 l0_0 x6_1).f3) ((rd_T156 l0_0 x6_1).f4) x6_1 true _ ?side1 ?side2 ?side3 ?side4 A23.o).mono ?_); (case side1 => exact Kd.C_below HR111_1.o (be2_ HB.o GE101.o GE112.o)); (case side2 => exact HC111_1.o); (case side3 => exact Kd.C_below HR111_2.o (be2_ HB.o GE101.o GE112.o)); (case side4 => exact HC111_2.o); rintro e w36 ⟨rfl, hb⟩; refine ⟨_, rfl, ?_⟩; replace HO_4 := q_ (Kd.R_below (by (with_reducible repeat (first | apply Kd.R_alloc | apply Kd.R_drewN | apply Kd.R_drew)); exact (Kd.R_mono (Kd.R_far (p := ⟨gb112, 4, none⟩) (Kd.R_far (p := ⟨gb112, 3, none⟩) (Kd.R_far (p := ⟨gb112, 2, none⟩) (Kd.R_far (p := ⟨gb112, 1, none⟩) (Kd.R_far (p := ⟨gb112, 0, none⟩) (Kd.R_types HO_4.o BK112.o (by decide)) (fun _ hk => hk.2) (.int .i64 ((rd_T156 l0_0 x6_1).f0))) (fun _ hk => hk.2) (.slice A111_1 ((rd_T156 l0_0 x6_1).f1).length c111_1)) (fun _ hk => hk.2) (.slice A111_2 ((rd_T156 l0_0 x6_1).f2).length c111_2)) (fun _ hk => hk.2) (.int .i64 ((rd_T156 l0_0 x6_1).f3))) (fun _ hk => hk.2) (.int .i64 ((rd_T156 l0_0 x6_1).f4))) (fun _ h_ => h_.1))) hb); replace HO_5 := q_ (Kd.R_below (by (with_reducible repeat (first | apply Kd.R_alloc | apply Kd.R_drewN | apply Kd.R_drew)); exact (Kd.R_mono (Kd.R_far (p := ⟨gb112, 4, none⟩) (Kd.R_far (p := ⟨gb112, 3, none⟩) (Kd.R_far (p := ⟨gb112, 2, none⟩) (Kd.R_far (p := ⟨gb112, 1, none⟩) (Kd.R_far (p := ⟨gb112, 0, none⟩) (Kd.R_types HO_5.o BK112.o (by decide)) (fun _ hk => hk.2) (.int .i64 ((rd_T156 l0_0 x6_1).f0))) (fun _ hk => hk.2) (.slice A111_1 ((rd_T156 l0_0 x6_1).f1).length c111_1)) (fun _ hk => hk.2) (.slice A111_2 ((rd_T156 l0_0 x6_1).f2).length c111_2)) (fun _ hk => hk.2) (.int .i64 ((rd_T156 l0_0 x6_1).f3))) (fun _ hk => hk.2) (.int .i64 ((rd_T156 l0_0 x6_1).f4))) (fun _ h_ => h_.1))) hb); replace BK101 := q_ (blk_below (g := gb101) (o := .cells #[.slice (some ad111) l0_0.length c0_0] 29 (0, 0)) (by (with_reducible repeat (first | refine blk_drewN ?_ _ | refine blk_drew ?_ | refine blk_alloc ?_ _)); refine blk_far ?_ NB101_112.o _; (with_reducible repeat (first | refine blk_drewN ?_ _ | refine blk_drew ?_ | refine blk_alloc ?_ _)); refine blk_far ?_ NB101_112.o _; (with_reducible repeat (first | refine blk_drewN ?_ _ | refine blk_drew ?_ | refine blk_alloc ?_ _)); refine blk_far ?_ NB101_112.o _; (with_reducible repeat (first | refine blk_drewN ?_ _ | refine blk_drew ?_ | refine blk_alloc ?_ _)); refine blk_far ?_ NB101_112.o _; (with_reducible repeat (first | refine blk_drewN ?_ _ | refine blk_drew ?_ | refine blk_alloc ?_ _)); refine blk_far ?_ NB101_112.o _; (with_reducible repeat (first | refine blk_drewN ?_ _ | refine blk_drew ?_ | refine blk_alloc ?_ _)); exact BK101.o) hb); replace BK112 := q_ (blk_below (g := gb112) (o := .cells #[.int .i64 ((rd_T156 l0_0 x6_1).f0), .slice A111_1 ((rd_T156 l0_0 x6_1).f1).length c111_1, .slice A111_2 ((rd_T156 l0_0 x6_1).f2).length c111_2, .int .i64 ((rd_T156 l0_0 x6_1).f3), .int .i64 ((rd_T156 l0_0 x6_1).f4)] 156 (0, 0)) (by (with_reducible repeat (first | refine blk_drewN ?_ _ | refine blk_drew ?_ | refine blk_alloc ?_ _)); refine blk_put (cs := #[.int .i64 ((rd_T156 l0_0 x6_1).f0), .slice A111_1 ((rd_T156 l0_0 x6_1).f1).length c111_1, .slice A111_2 ((rd_T156 l0_0 x6_1).f2).length c111_2, .int .i64 ((rd_T156 l0_0 x6_1).f3), .int .i64 0]) ?_ 4 _ rfl; (with_reducible repeat (first | refine blk_drewN ?_ _ | refine blk_drew ?_ | refine blk_alloc ?_ _)); refine blk_put (cs := #[.int .i64 ((rd_T156 l0_0 x6_1).f0), .slice A111_1 ((rd_T156 l0_0 x6_1).f1).length c111_1, .slice A111_2 ((rd_T156 l0_0 x6_1).f2).length c111_2, .int .i64 0, .int .i64 0]) ?_ 3 _ rfl; (with_reducible repeat (first | refine blk_drewN ?_ _ | refine blk_drew ?_ | refine blk_alloc ?_ _)); refine blk_put (cs := #[.int .i64 ((rd_T156 l0_0 x6_1).f0), .slice A111_1 ((rd_T156 l0_0 x6_1).f1).length c111_1, .slice none 0 0, .int .i64 0, .int .i64 0]) ?_ 2 _ rfl; (with_reducible repeat (first | refine blk_drewN ?_ _ | refine blk_drew ?_ | refine blk_alloc ?_ _)); refine blk_put (cs := #[.int .i64 ((rd_T156 l0_0 x6_1).f0), .slice none 0 0, .slice none 0 0, .int .i64 0, .int .i64 0]) ?_ 1 _ rfl; (with_reducible repeat (first | refine blk_drewN ?_ _ | refine blk_drew ?_ | refine blk_alloc ?_ _)); refine blk_put (cs := #[.int .i64 0, .slice none 0 0, .slice none 0 0, .int .i64 0, .int .i64 0]) ?_ 0 _ rfl; (with_reducible repeat (first | refine blk_drewN ?_ _ | refine blk_drew ?_ | refine blk_alloc ?_ _)); exact BK112.o) hb); replace HB := sb2_ HB GE101 GE112 hb; (try clear hb); obtain ⟨Ao37, co37, eo37⟩ := Kd.R_slice HO_4.o; subst eo37; have p114 : 0 ≤ (x6_1 : Int) := of_decide_eq_true as_; have q114 : x6_1 < (x4_1.length : Int) := of_decide_eq_true as_; obtain ⟨ad114, e114, hx114_0⟩ := Kd.at_int (Kd.R_reads' HO_4.o).2.2 x6_1 p114 q114; cases e114; replace p114 := eq_true p114; replace q114 := eq_true q114))
              go_meet
              case rel => exact ⟨_, (true), rs_, H', ⟨by have := HK1.o; first | omega | exact Nat.le_refl _⟩, ⟨ra_ HO_4.o⟩, ⟨ra_ HO_5.o⟩, ⟨bk_ BK101.o⟩, ⟨bk_ BK112.o⟩, ⟨be2_ HB.o GE101.o GE112.o⟩⟩
            ·rw [if_neg c26] at H
             exact absurd H (by simp)
           ·rw [if_neg c25] at H; have c25b0 := df_ c25; clear c25
            (first | rw [c25b0] | (simp only [i64_w, i32_w]; rw [c25b0]) | skip)
            by_cases c38 : x6_1 < (x5_1.length : Int)
            ·rw [if_pos c38] at H; have c38b0 := dt_ c38; clear c38
             have H' := q_ H
             clear H; have hnb39 := NB112_101.o; have hnc39 := NB101_112.o; obtain ⟨hcz40_0, hcz40_1, hcz40_2, hcz40_3, hcz40_4, hfz40_0, hfz40_1, hfz40_2, hfz40_3, hfz40_4⟩ := d5_ BK112
             go_wp2_with (((with_reducible refine gate_callee (f := 119) rfl ?_); refine gl_ (some 39) rfl rfl Try.func119 #[.agg #[.int .i64 ((rd_T156 l0_0 x6_1).f0), .slice A111_1 ((rd_T156 l0_0 x6_1).f1).length c111_1, .slice A111_2 ((rd_T156 l0_0 x6_1).f2).length c111_2, .int .i64 ((rd_T156 l0_0 x6_1).f3), .int .i64 ((rd_T156 l0_0 x6_1).f4)], .int .i64 x6_1] ?_; (with_reducible refine (impl_nodeOk.calls ((rd_T156 l0_0 x6_1).f0) _ _ ((rd_T156 l0_0 x6_1).f1) _ _ ((rd_T156 l0_0 x6_1).f2) ((rd_T156 l0_0 x6_1).f3) ((rd_T156 l0_0 x6_1).f4) x6_1 true _ ?side1 ?side2 ?side3 ?side4 A23.o).mono ?_); (case side1 => exact Kd.C_below HR111_1.o (be2_ HB.o GE101.o GE112.o)); (case side2 => exact HC111_1.o); (case side3 => exact Kd.C_below HR111_2.o (be2_ HB.o GE101.o GE112.o)); (case side4 => exact HC111_2.o); rintro e w41 ⟨rfl, hb⟩; refine ⟨_, rfl, ?_⟩; replace HO_4 := q_ (Kd.R_below (by (with_reducible repeat (first | apply Kd.R_alloc | apply Kd.R_drewN | apply Kd.R_drew)); exact (Kd.R_mono (Kd.R_far (p := ⟨gb112, 4, none⟩) (Kd.R_far (p := ⟨gb112, 3, none⟩) (Kd.R_far (p := ⟨gb112, 2, none⟩) (Kd.R_far (p := ⟨gb112, 1, none⟩) (Kd.R_far (p := ⟨gb112, 0, none⟩) (Kd.R_types HO_4.o BK112.o (by decide)) (fun _ hk => hk.2) (.int .i64 ((rd_T156 l0_0 x6_1).f0))) (fun _ hk => hk.2) (.slice A111_1 ((rd_T156 l0_0 x6_1).f1).length c111_1)) (fun _ hk => hk.2) (.slice A111_2 ((rd_T156 l0_0 x6_1).f2).length c111_2)) (fun _ hk => hk.2) (.int .i64 ((rd_T156 l0_0 x6_1).f3))) (fun _ hk => hk.2) (.int .i64 ((rd_T156 l0_0 x6_1).f4))) (fun _ h_ => h_.1))) hb); replace HO_5 := q_ (Kd.R_below (by (with_reducible repeat (first | apply Kd.R_alloc | apply Kd.R_drewN | apply Kd.R_drew)); exact (Kd.R_mono (Kd.R_far (p := ⟨gb112, 4, none⟩) (Kd.R_far (p := ⟨gb112, 3, none⟩) (Kd.R_far (p := ⟨gb112, 2, none⟩) (Kd.R_far (p := ⟨gb112, 1, none⟩) (Kd.R_far (p := ⟨gb112, 0, none⟩) (Kd.R_types HO_5.o BK112.o (by decide)) (fun _ hk => hk.2) (.int .i64 ((rd_T156 l0_0 x6_1).f0))) (fun _ hk => hk.2) (.slice A111_1 ((rd_T156 l0_0 x6_1).f1).length c111_1)) (fun _ hk => hk.2) (.slice A111_2 ((rd_T156 l0_0 x6_1).f2).length c111_2)) (fun _ hk => hk.2) (.int .i64 ((rd_T156 l0_0 x6_1).f3))) (fun _ hk => hk.2) (.int .i64 ((rd_T156 l0_0 x6_1).f4))) (fun _ h_ => h_.1))) hb); replace BK101 := q_ (blk_below (g := gb101) (o := .cells #[.slice (some ad111) l0_0.length c0_0] 29 (0, 0)) (by (with_reducible repeat (first | refine blk_drewN ?_ _ | refine blk_drew ?_ | refine blk_alloc ?_ _)); refine blk_far ?_ NB101_112.o _; (with_reducible repeat (first | refine blk_drewN ?_ _ | refine blk_drew ?_ | refine blk_alloc ?_ _)); refine blk_far ?_ NB101_112.o _; (with_reducible repeat (first | refine blk_drewN ?_ _ | refine blk_drew ?_ | refine blk_alloc ?_ _)); refine blk_far ?_ NB101_112.o _; (with_reducible repeat (first | refine blk_drewN ?_ _ | refine blk_drew ?_ | refine blk_alloc ?_ _)); refine blk_far ?_ NB101_112.o _; (with_reducible repeat (first | refine blk_drewN ?_ _ | refine blk_drew ?_ | refine blk_alloc ?_ _)); refine blk_far ?_ NB101_112.o _; (with_reducible repeat (first | refine blk_drewN ?_ _ | refine blk_drew ?_ | refine blk_alloc ?_ _)); exact BK101.o) hb); replace BK112 := q_ (blk_below (g := gb112) (o := .cells #[.int .i64 ((rd_T156 l0_0 x6_1).f0), .slice A111_1 ((rd_T156 l0_0 x6_1).f1).length c111_1, .slice A111_2 ((rd_T156 l0_0 x6_1).f2).length c111_2, .int .i64 ((rd_T156 l0_0 x6_1).f3), .int .i64 ((rd_T156 l0_0 x6_1).f4)] 156 (0, 0)) (by (with_reducible repeat (first | refine blk_drewN ?_ _ | refine blk_drew ?_ | refine blk_alloc ?_ _)); refine blk_put (cs := #[.int .i64 ((rd_T156 l0_0 x6_1).f0), .slice A111_1 ((rd_T156 l0_0 x6_1).f1).length c111_1, .slice A111_2 ((rd_T156 l0_0 x6_1).f2).length c111_2, .int .i64 ((rd_T156 l0_0 x6_1).f3), .int .i64 0]) ?_ 4 _ rfl; (with_reducible repeat (first | refine blk_drewN ?_ _ | refine blk_drew ?_ | refine blk_alloc ?_ _)); refine blk_put (cs := #[.int .i64 ((rd_T156 l0_0 x6_1).f0), .slice A111_1 ((rd_T156 l0_0 x6_1).f1).length c111_1, .slice A111_2 ((rd_T156 l0_0 x6_1).f2).length c111_2, .int .i64 0, .int .i64 0]) ?_ 3 _ rfl; (with_reducible repeat (first | refine blk_drewN ?_ _ | refine blk_drew ?_ | refine blk_alloc ?_ _)); refine blk_put (cs := #[.int .i64 ((rd_T156 l0_0 x6_1).f0), .slice A111_1 ((rd_T156 l0_0 x6_1).f1).length c111_1, .slice none 0 0, .int .i64 0, .int .i64 0]) ?_ 2 _ rfl; (with_reducible repeat (first | refine blk_drewN ?_ _ | refine blk_drew ?_ | refine blk_alloc ?_ _)); refine blk_put (cs := #[.int .i64 ((rd_T156 l0_0 x6_1).f0), .slice none 0 0, .slice none 0 0, .int .i64 0, .int .i64 0]) ?_ 1 _ rfl; (with_reducible repeat (first | refine blk_drewN ?_ _ | refine blk_drew ?_ | refine blk_alloc ?_ _)); refine blk_put (cs := #[.int .i64 0, .slice none 0 0, .slice none 0 0, .int .i64 0, .int .i64 0]) ?_ 0 _ rfl; (with_reducible repeat (first | refine blk_drewN ?_ _ | refine blk_drew ?_ | refine blk_alloc ?_ _)); exact BK112.o) hb); replace HB := sb2_ HB GE101 GE112 hb; (try clear hb); obtain ⟨Ao42, co42, eo42⟩ := Kd.R_slice HO_5.o; subst eo42; have p116 : 0 ≤ (x6_1 : Int) := of_decide_eq_true as_; have q116 : x6_1 < (x5_1.length : Int) := of_decide_eq_true as_; obtain ⟨ad116, e116, hx116_0⟩ := Kd.at_int (Kd.R_reads' HO_5.o).2.2 x6_1 p116 q116; cases e116; replace p116 := eq_true p116; replace q116 := eq_true q116))
             go_meet
             case rel => exact ⟨_, (decide ((rd x5_1 x6_1) > 150)), rs_, H', ⟨by have := HK1.o; first | omega | exact Nat.le_refl _⟩, ⟨ra_ HO_4.o⟩, ⟨ra_ HO_5.o⟩, ⟨bk_ BK101.o⟩, ⟨bk_ BK112.o⟩, ⟨be2_ HB.o GE101.o GE112.o⟩⟩
            ·rw [if_neg c38] at H
             exact absurd H (by simp)
          ·replace c24 := Bool.eq_false_iff.mpr c24; subst c24; rw [if_neg nft_] at H
           have H' := q_ H
           clear H; have hnb43 := NB112_101.o; have hnc43 := NB101_112.o; obtain ⟨hcz44_0, hcz44_1, hcz44_2, hcz44_3, hcz44_4, hfz44_0, hfz44_1, hfz44_2, hfz44_3, hfz44_4⟩ := d5_ BK112
           go_wp2_with (((with_reducible refine gate_callee (f := 119) rfl ?_); refine gl_ (some 39) rfl rfl Try.func119 #[.agg #[.int .i64 ((rd_T156 l0_0 x6_1).f0), .slice A111_1 ((rd_T156 l0_0 x6_1).f1).length c111_1, .slice A111_2 ((rd_T156 l0_0 x6_1).f2).length c111_2, .int .i64 ((rd_T156 l0_0 x6_1).f3), .int .i64 ((rd_T156 l0_0 x6_1).f4)], .int .i64 x6_1] ?_; (with_reducible refine (impl_nodeOk.calls ((rd_T156 l0_0 x6_1).f0) _ _ ((rd_T156 l0_0 x6_1).f1) _ _ ((rd_T156 l0_0 x6_1).f2) ((rd_T156 l0_0 x6_1).f3) ((rd_T156 l0_0 x6_1).f4) x6_1 false _ ?side1 ?side2 ?side3 ?side4 A23.o).mono ?_); (case side1 => exact Kd.C_below HR111_1.o (be2_ HB.o GE101.o GE112.o)); (case side2 => exact HC111_1.o); (case side3 => exact Kd.C_below HR111_2.o (be2_ HB.o GE101.o GE112.o)); (case side4 => exact HC111_2.o); rintro e w45 ⟨rfl, hb⟩; refine ⟨_, rfl, ?_⟩; replace HO_4 := q_ (Kd.R_below (by (with_reducible repeat (first | apply Kd.R_alloc | apply Kd.R_drewN | apply Kd.R_drew)); exact (Kd.R_mono (Kd.R_far (p := ⟨gb112, 4, none⟩) (Kd.R_far (p := ⟨gb112, 3, none⟩) (Kd.R_far (p := ⟨gb112, 2, none⟩) (Kd.R_far (p := ⟨gb112, 1, none⟩) (Kd.R_far (p := ⟨gb112, 0, none⟩) (Kd.R_types HO_4.o BK112.o (by decide)) (fun _ hk => hk.2) (.int .i64 ((rd_T156 l0_0 x6_1).f0))) (fun _ hk => hk.2) (.slice A111_1 ((rd_T156 l0_0 x6_1).f1).length c111_1)) (fun _ hk => hk.2) (.slice A111_2 ((rd_T156 l0_0 x6_1).f2).length c111_2)) (fun _ hk => hk.2) (.int .i64 ((rd_T156 l0_0 x6_1).f3))) (fun _ hk => hk.2) (.int .i64 ((rd_T156 l0_0 x6_1).f4))) (fun _ h_ => h_.1))) hb); replace HO_5 := q_ (Kd.R_below (by (with_reducible repeat (first | apply Kd.R_alloc | apply Kd.R_drewN | apply Kd.R_drew)); exact (Kd.R_mono (Kd.R_far (p := ⟨gb112, 4, none⟩) (Kd.R_far (p := ⟨gb112, 3, none⟩) (Kd.R_far (p := ⟨gb112, 2, none⟩) (Kd.R_far (p := ⟨gb112, 1, none⟩) (Kd.R_far (p := ⟨gb112, 0, none⟩) (Kd.R_types HO_5.o BK112.o (by decide)) (fun _ hk => hk.2) (.int .i64 ((rd_T156 l0_0 x6_1).f0))) (fun _ hk => hk.2) (.slice A111_1 ((rd_T156 l0_0 x6_1).f1).length c111_1)) (fun _ hk => hk.2) (.slice A111_2 ((rd_T156 l0_0 x6_1).f2).length c111_2)) (fun _ hk => hk.2) (.int .i64 ((rd_T156 l0_0 x6_1).f3))) (fun _ hk => hk.2) (.int .i64 ((rd_T156 l0_0 x6_1).f4))) (fun _ h_ => h_.1))) hb); replace BK101 := q_ (blk_below (g := gb101) (o := .cells #[.slice (some ad111) l0_0.length c0_0] 29 (0, 0)) (by (with_reducible repeat (first | refine blk_drewN ?_ _ | refine blk_drew ?_ | refine blk_alloc ?_ _)); refine blk_far ?_ NB101_112.o _; (with_reducible repeat (first | refine blk_drewN ?_ _ | refine blk_drew ?_ | refine blk_alloc ?_ _)); refine blk_far ?_ NB101_112.o _; (with_reducible repeat (first | refine blk_drewN ?_ _ | refine blk_drew ?_ | refine blk_alloc ?_ _)); refine blk_far ?_ NB101_112.o _; (with_reducible repeat (first | refine blk_drewN ?_ _ | refine blk_drew ?_ | refine blk_alloc ?_ _)); refine blk_far ?_ NB101_112.o _; (with_reducible repeat (first | refine blk_drewN ?_ _ | refine blk_drew ?_ | refine blk_alloc ?_ _)); refine blk_far ?_ NB101_112.o _; (with_reducible repeat (first | refine blk_drewN ?_ _ | refine blk_drew ?_ | refine blk_alloc ?_ _)); exact BK101.o) hb); replace BK112 := q_ (blk_below (g := gb112) (o := .cells #[.int .i64 ((rd_T156 l0_0 x6_1).f0), .slice A111_1 ((rd_T156 l0_0 x6_1).f1).length c111_1, .slice A111_2 ((rd_T156 l0_0 x6_1).f2).length c111_2, .int .i64 ((rd_T156 l0_0 x6_1).f3), .int .i64 ((rd_T156 l0_0 x6_1).f4)] 156 (0, 0)) (by (with_reducible repeat (first | refine blk_drewN ?_ _ | refine blk_drew ?_ | refine blk_alloc ?_ _)); refine blk_put (cs := #[.int .i64 ((rd_T156 l0_0 x6_1).f0), .slice A111_1 ((rd_T156 l0_0 x6_1).f1).length c111_1, .slice A111_2 ((rd_T156 l0_0 x6_1).f2).length c111_2, .int .i64 ((rd_T156 l0_0 x6_1).f3), .int .i64 0]) ?_ 4 _ rfl; (with_reducible repeat (first | refine blk_drewN ?_ _ | refine blk_drew ?_ | refine blk_alloc ?_ _)); refine blk_put (cs := #[.int .i64 ((rd_T156 l0_0 x6_1).f0), .slice A111_1 ((rd_T156 l0_0 x6_1).f1).length c111_1, .slice A111_2 ((rd_T156 l0_0 x6_1).f2).length c111_2, .int .i64 0, .int .i64 0]) ?_ 3 _ rfl; (with_reducible repeat (first | refine blk_drewN ?_ _ | refine blk_drew ?_ | refine blk_alloc ?_ _)); refine blk_put (cs := #[.int .i64 ((rd_T156 l0_0 x6_1).f0), .slice A111_1 ((rd_T156 l0_0 x6_1).f1).length c111_1, .slice none 0 0, .int .i64 0, .int .i64 0]) ?_ 2 _ rfl; (with_reducible repeat (first | refine blk_drewN ?_ _ | refine blk_drew ?_ | refine blk_alloc ?_ _)); refine blk_put (cs := #[.int .i64 ((rd_T156 l0_0 x6_1).f0), .slice none 0 0, .slice none 0 0, .int .i64 0, .int .i64 0]) ?_ 1 _ rfl; (with_reducible repeat (first | refine blk_drewN ?_ _ | refine blk_drew ?_ | refine blk_alloc ?_ _)); refine blk_put (cs := #[.int .i64 0, .slice none 0 0, .slice none 0 0, .int .i64 0, .int .i64 0]) ?_ 0 _ rfl; (with_reducible repeat (first | refine blk_drewN ?_ _ | refine blk_drew ?_ | refine blk_alloc ?_ _)); exact BK112.o) hb); replace HB := sb2_ HB GE101 GE112 hb; (try clear hb)))
           go_meet
           case rel => exact ⟨_, (true), rs_, H', ⟨by have := HK1.o; first | omega | exact Nat.le_refl _⟩, ⟨ra_ HO_4.o⟩, ⟨ra_ HO_5.o⟩, ⟨bk_ BK101.o⟩, ⟨bk_ BK112.o⟩, ⟨be2_ HB.o GE101.o GE112.o⟩⟩
         case rest =>
          clear HC18; (try clear c4); (try clear c5); (try clear c5b0); (try clear c5b1); (try clear c6); (try clear c6b0); (try clear c6b1); (try clear c15); (try clear c15b0); (try clear c16); (try clear c16b0); (try clear c17); (try clear c17b0); (try clear c24); (try clear c25); (try clear c25b0); (try clear c26); (try clear c26b0); (try clear c27); (try clear c27b0); (try clear c27b1); (try clear c28); (try clear c28b0); (try clear c38); (try clear c38b0); (try clear hcz19_0); (try clear hcz22_0); (try clear hcz22_1); (try clear hcz22_2); (try clear hcz22_3); (try clear hcz22_4); (try clear hcz30_0); (try clear hcz30_1); (try clear hcz30_2); (try clear hcz30_3); (try clear hcz30_4); (try clear hcz35_0); (try clear hcz35_1); (try clear hcz35_2); (try clear hcz35_3); (try clear hcz35_4); (try clear hcz40_0); (try clear hcz40_1); (try clear hcz40_2); (try clear hcz40_3); (try clear hcz40_4); (try clear hcz44_0); (try clear hcz44_1); (try clear hcz44_2); (try clear hcz44_3); (try clear hcz44_4); (try clear hcz8_0); (try clear hfz19_0); (try clear hfz22_0); (try clear hfz22_1); (try clear hfz22_2); (try clear hfz22_3); (try clear hfz22_4); (try clear hfz30_0); (try clear hfz30_1); (try clear hfz30_2); (try clear hfz30_3); (try clear hfz30_4); (try clear hfz35_0); (try clear hfz35_1); (try clear hfz35_2); (try clear hfz35_3); (try clear hfz35_4); (try clear hfz40_0); (try clear hfz40_1); (try clear hfz40_2); (try clear hfz40_3); (try clear hfz40_4); (try clear hfz44_0); (try clear hfz44_1); (try clear hfz44_2); (try clear hfz44_3); (try clear hfz44_4); (try clear hfz8_0); (try clear hx111_0); (try clear hx111_1); (try clear hx111_2); (try clear hx111_3); (try clear hx111_4); (try clear hx114_0); (try clear hx115_0); (try clear hx116_0); (try clear p111); (try clear p114); (try clear p115); (try clear p116); (try clear q111); (try clear q114); (try clear q115); (try clear q116); obtain ⟨kq, x59_17, rfl, HA, HJ17, HO_4, HO_5, BK101, BK112, HB⟩ := hcut
          cases kq with
          | zero => exact absurd HA.o (by simp [impl_RxOk.j1])
          | succ kj17 =>
           have H := HA.o; clear HA
           simp only [impl_RxOk.j1] at H
           by_cases c46 : x59_17 = true
           ·subst c46; rw [if_pos rfl] at H; obtain rfl := Option.some.inj H
            go_wp2
            go_ret
            exact ⟨rt_, be2_ HB.o GE101.o GE112.o⟩
           ·replace c46 := Bool.eq_false_iff.mpr c46; subst c46; rw [if_neg nft_] at H
            have H' := q_ H
            clear H; have hnb47 := NB112_101.o; have hnc47 := NB101_112.o; obtain ⟨hcz48_0, hcz48_1, hcz48_2, hcz48_3, hcz48_4, hfz48_0, hfz48_1, hfz48_2, hfz48_3, hfz48_4⟩ := d5_ BK112
            go_wp2
            go_loopg [63] kj17 (fun kq v63 w' => ∃ (x4_3 : List Int) (x5_3 : List Int) (x63_3 : Int), v63 = .int .i64 x63_3 ∧ J0 (impl_RxOk.l1 kq (wrap64 ((l0_0.length : Int) - 1)) x4_3 x5_3 x6_1 ((rd_T156 l0_0 x6_1).f2) (((rd_T156 l0_0 x6_1).f2).length : Int) x63_3 l0_0 = some r) ∧ J0 (kq ≤ kj17) ∧ J0 (Kd.R (Kd.int .i64) 3 w' w.heap.size (fun k_ => some k_ ≠ (v108 : Value).ownBlock) v105 x4_3) ∧ J0 (Kd.R (Kd.int .i64) 3 w' w.heap.size (fun k_ => some k_ ≠ (v105 : Value).ownBlock) v108 x5_3) ∧ J0 (w'.heap[gb101]? = some (.cells #[(.slice (some ad111) l0_0.length c0_0)] 29 (0, 0))) ∧ J0 (w'.heap[gb112]? = some (.cells #[.int .i64 ((rd_T156 l0_0 x6_1).f0), (.slice A111_1 ((rd_T156 l0_0 x6_1).f1).length c111_1), (.slice A111_2 ((rd_T156 l0_0 x6_1).f2).length c111_2), .int .i64 ((rd_T156 l0_0 x6_1).f3), .int .i64 ((rd_T156 l0_0 x6_1).f4)] 156 (0, 0))) ∧ J0 (Below w.heap.size w w'))
            case atStart => exact ⟨(x4_1), (x5_1), (0), rs_, H', ⟨Nat.le_refl _⟩, ⟨ra_ HO_4.o⟩, ⟨ra_ HO_5.o⟩, ⟨bk_ BK101.o⟩, ⟨bk_ BK112.o⟩, ⟨be2_ HB.o GE101.o GE112.o⟩⟩
            case round =>
             clear H'; (try clear c4); (try clear c5); (try clear c5b0); (try clear c5b1); (try clear c6); (try clear c6b0); (try clear c6b1); (try clear c15); (try clear c15b0); (try clear c16); (try clear c16b0); (try clear c17); (try clear c17b0); (try clear c24); (try clear c25); (try clear c25b0); (try clear c26); (try clear c26b0); (try clear c27); (try clear c27b0); (try clear c27b1); (try clear c28); (try clear c28b0); (try clear c38); (try clear c38b0); (try clear c46); (try clear hcz19_0); (try clear hcz22_0); (try clear hcz22_1); (try clear hcz22_2); (try clear hcz22_3); (try clear hcz22_4); (try clear hcz30_0); (try clear hcz30_1); (try clear hcz30_2); (try clear hcz30_3); (try clear hcz30_4); (try clear hcz35_0); (try clear hcz35_1); (try clear hcz35_2); (try clear hcz35_3); (try clear hcz35_4); (try clear hcz40_0); (try clear hcz40_1); (try clear hcz40_2); (try clear hcz40_3); (try clear hcz40_4); (try clear hcz44_0); (try clear hcz44_1); (try clear hcz44_2); (try clear hcz44_3); (try clear hcz44_4); (try clear hcz48_0); (try clear hcz48_1); (try clear hcz48_2); (try clear hcz48_3); (try clear hcz48_4); (try clear hcz8_0); (try clear hfz19_0); (try clear hfz22_0); (try clear hfz22_1); (try clear hfz22_2); (try clear hfz22_3); (try clear hfz22_4); (try clear hfz30_0); (try clear hfz30_1); (try clear hfz30_2); (try clear hfz30_3); (try clear hfz30_4); (try clear hfz35_0); (try clear hfz35_1); (try clear hfz35_2); (try clear hfz35_3); (try clear hfz35_4); (try clear hfz40_0); (try clear hfz40_1); (try clear hfz40_2); (try clear hfz40_3); (try clear hfz40_4); (try clear hfz44_0); (try clear hfz44_1); (try clear hfz44_2); (try clear hfz44_3); (try clear hfz44_4); (try clear hfz48_0); (try clear hfz48_1); (try clear hfz48_2); (try clear hfz48_3); (try clear hfz48_4); (try clear hfz8_0); (try clear hx111_0); (try clear hx111_1); (try clear hx111_2); (try clear hx111_3); (try clear hx111_4); (try clear hx114_0); (try clear hx115_0); (try clear hx116_0); (try clear p111); (try clear p114); (try clear p115); (try clear p116); (try clear q111); (try clear q114); (try clear q115); (try clear q116); obtain ⟨x4_3, x5_3, x63_3, rfl, HA, HK3, HO_4, HO_5, BK101, BK112, HB⟩ := hrel
             cases gk with
             | zero => exact absurd HA.o (by simp [impl_RxOk.l1])
             | succ k3 =>
              have H := HA.o; clear HA
              simp only [impl_RxOk.l1] at H
              by_cases c49 : x63_3 < (((rd_T156 l0_0 x6_1).f2).length : Int)
              ·rw [if_pos c49] at H; have c49b0 := dt_ c49; clear c49
               by_cases c50 : 0 ≤ x63_3
               ·rw [if_pos c50] at H; have c50b0 := dt_ c50; clear c50
                by_cases c51 : x63_3 < (((rd_T156 l0_0 x6_1).f2).length : Int)
                ·rw [if_pos c51] at H; have c51b0 := dt_ c51; clear c51
                 by_cases c52 : 0 ≤ (rd ((rd_T156 l0_0 x6_1).f2) x63_3)
                 ·rw [if_pos c52] at H; have c52b0 := dt_ c52; clear c52
                  by_cases c53 : (rd ((rd_T156 l0_0 x6_1).f2) x63_3) < (x4_3.length : Int)
                  ·rw [if_pos c53] at H; have c53b0 := dt_ c53; clear c53
                   obtain ⟨y119, hy119⟩ : ∃ y_ : List Int, y_ = (x4_3.set ((rd ((rd_T156 l0_0 x6_1).f2) x63_3) : Int).toNat (wrap64 ((rd x4_3 (rd ((rd_T156 l0_0 x6_1).f2) x63_3)) + 1))) := ⟨_, rfl⟩
                   replace H : (if 0 ≤ x6_1 then (if x6_1 < (x5_3.length : Int) then (if (rd ((rd_T156 l0_0 x6_1).f2) x63_3) < (x5_3.length : Int) then (impl_RxOk.l1 k3 (wrap64 ((l0_0.length : Int) - 1)) y119 (x5_3.set ((rd ((rd_T156 l0_0 x6_1).f2) x63_3) : Int).toNat (wrap64 ((rd x5_3 x6_1) + 1))) x6_1 ((rd_T156 l0_0 x6_1).f2) (((rd_T156 l0_0 x6_1).f2).length : Int) (wrap64 (x63_3 + 1)) l0_0) else (none)) else (none)) else (none)) = some r := by first | (rw [hy119]; with_reducible exact H) | (have H2_ := (Option.bind_some _ _).symm.trans H; rw [hy119]; with_reducible exact H2_) | (have H2_ := (Option.bind_some _ _).symm.trans H; with_reducible exact H2_) | with_reducible exact H | (rw [hy119]; exact H) | exact H
                   have Ny119 := q_ hy119; clear hy119
                   by_cases c55 : 0 ≤ x6_1
                   ·rw [if_pos c55] at H; have c55b0 := dt_ c55; clear c55
                    by_cases c56 : x6_1 < (x5_3.length : Int)
                    ·rw [if_pos c56] at H; have c56b0 := dt_ c56; clear c56
                     by_cases c57 : (rd ((rd_T156 l0_0 x6_1).f2) x63_3) < (x5_3.length : Int)
                     ·rw [if_pos c57] at H; have c57b0 := dt_ c57; clear c57
                      obtain ⟨y121, hy121⟩ : ∃ y_ : List Int, y_ = (x5_3.set ((rd ((rd_T156 l0_0 x6_1).f2) x63_3) : Int).toNat (wrap64 ((rd x5_3 x6_1) + 1))) := ⟨_, rfl⟩
                      replace H : (impl_RxOk.l1 k3 (wrap64 ((l0_0.length : Int) - 1)) y119 y121 x6_1 ((rd_T156 l0_0 x6_1).f2) (((rd_T156 l0_0 x6_1).f2).length : Int) (wrap64 (x63_3 + 1)) l0_0) = some r := by first | (rw [hy121]; with_reducible exact H) | (have H2_ := (Option.bind_some _ _).symm.trans H; rw [hy121]; with_reducible exact H2_) | (have H2_ := (Option.bind_some _ _).symm.trans H; with_reducible exact H2_) | with_reducible exact H | (rw [hy121]; exact H) | exact H
                      have Ny121 := q_ hy121; clear hy121
                      have H' := q_ H
                      clear H
                      have p117 : 0 ≤ (x63_3 : Int) := of_decide_eq_true as_
                      have q117 : x63_3 < (((rd_T156 l0_0 x6_1).f2).length : Int) := of_decide_eq_true as_
                      obtain ⟨ad117, e117, hx117_0⟩ := Kd.at_int HR111_2.o x63_3 p117 q117
                      cases e117
                      replace hx117_0 := mv_ HB.o hx117_0; replace p117 := eq_true p117; replace q117 := eq_true q117; obtain ⟨Ao59, co59, eo59⟩ := Kd.R_slice HO_4.o; subst eo59
                      have p118 : 0 ≤ ((rd ((rd_T156 l0_0 x6_1).f2) x63_3) : Int) := of_decide_eq_true as_
                      have q118 : (rd ((rd_T156 l0_0 x6_1).f2) x63_3) < (x4_3.length : Int) := of_decide_eq_true as_
                      obtain ⟨ad118, e118, hx118_0⟩ := Kd.at_int (Kd.R_reads' HO_4.o).2.2 (rd ((rd_T156 l0_0 x6_1).f2) x63_3) p118 q118
                      cases e118
                      replace p118 := eq_true p118; replace q118 := eq_true q118
                      have p54 : 0 ≤ ((rd ((rd_T156 l0_0 x6_1).f2) x63_3) : Int) := of_decide_eq_true as_
                      have q54 : ((rd ((rd_T156 l0_0 x6_1).f2) x63_3) : Int) < ((x4_3.length : Int) : Int) := of_decide_eq_true as_
                      obtain ⟨go54, co54, eo54, gb54, gl54, cl54, HG54⟩ := Kd.R_form HO_4.o (by omega)
                      (first | cases eo54 | (injection eo54 with ea_ en_ ec_; (first | subst ea_ | (injection ea_ with ea_; subst ea_)); subst ec_; clear en_))
                      have GB54 := q_ gb54; have GG54 := q_ HG54; clear gb54 gl54 HG54
                      (first | simp only [add_plain] at hx118_0 | skip)
                      obtain ⟨hx54_0, hf54_0⟩ := Kd.R_celln 0 HO_4.o ((rd ((rd_T156 l0_0 x6_1).f2) x63_3) : Int) p54 q54; replace p54 := eq_true p54; replace q54 := eq_true q54; have HP60 := Kd.R_putg HO_4.o ((rd ((rd_T156 l0_0 x6_1).f2) x63_3) : Int) (wrap64 ((rd x4_3 (rd ((rd_T156 l0_0 x6_1).f2) x63_3)) + 1))
                      go_wp2_with (first | ((with_reducible refine gate_store (t := 3) (p := 72) rfl ?_); refine store_event (t := 3) (p := 72) (v := ?vo_w61) (w1 := (wr.setCell ⟨go54, ((rd ((rd_T156 l0_0 x6_1).f2) x63_3) : Int).toNat, none⟩ (.int .i64 (wrap64 ((rd x4_3 (rd ((rd_T156 l0_0 x6_1).f2) x63_3)) + 1))))) ?hg ?ho ?hn ?hr ?_; (case ho => rfl); (case hg => rfl); (case hn => rfl); (case hr => first | (go_simp; done) | (go_simp; rfl)); intro w61 hw; have hg : wr.grownBy w61 (some go54) := (by rw [hw]; exact HP60.2); have hp_ : Kd.R (Kd.int .i64) 3 w61 w.heap.size (fun k_ => some k_ ≠ (v108 : Value).ownBlock) (.slice (some ⟨go54, 0, none⟩) x4_3.length co59) y119 := (by rw [hw, Ny119.o]; exact HP60.1); clear HP60; replace HO_5 := q_ (Kd.R_after (v := (.slice (some ⟨go54, 0, none⟩) x4_3.length co59)) (v1 := (.slice (some ⟨go54, 0, none⟩) x4_3.length co59)) (ok := (fun _ => True)) (by (with_reducible repeat (first | apply Kd.R_alloc | apply Kd.R_drewN | apply Kd.R_drew)); exact Kd.R_mono HO_5.o (fun _ hk => ⟨trivial, hk⟩)) hg (.inl rfl)); replace BK101 := q_ (blk_grown (g := gb101) (o := .cells #[.slice (some ad111) l0_0.length c0_0] 29 (0, 0)) (bk_ BK101.o) hg (Kd.R_ne HO_4.o BK101.o (by decide))); replace BK112 := q_ (blk_grown (g := gb112) (o := .cells #[.int .i64 ((rd_T156 l0_0 x6_1).f0), .slice A111_1 ((rd_T156 l0_0 x6_1).f1).length c111_1, .slice (some ad117) ((rd_T156 l0_0 x6_1).f2).length c111_2, .int .i64 ((rd_T156 l0_0 x6_1).f3), .int .i64 ((rd_T156 l0_0 x6_1).f4)] 156 (0, 0)) (bk_ BK112.o) hg (Kd.R_ne HO_4.o BK112.o (by decide))); replace HO_4 := q_ (hp_); replace HB := q_ ((by rw [hw]; exact below_set (HB.o) GB54.out : Below w.heap.size w w61)); clear hg hw hp_; obtain ⟨Ao62, co62, eo62⟩ := Kd.R_slice HO_5.o; subst eo62; have p120 : 0 ≤ (x6_1 : Int) := of_decide_eq_true as_; have q120 : x6_1 < (x5_3.length : Int) := of_decide_eq_true as_; obtain ⟨ad120, e120, hx120_0⟩ := Kd.at_int (Kd.R_reads' HO_5.o).2.2 x6_1 p120 q120; cases e120; replace p120 := eq_true p120; replace q120 := eq_true q120; have p58 : 0 ≤ ((rd ((rd_T156 l0_0 x6_1).f2) x63_3) : Int) := of_decide_eq_true as_; have q58 : ((rd ((rd_T156 l0_0 x6_1).f2) x63_3) : Int) < ((x5_3.length : Int) : Int) := of_decide_eq_true as_; obtain ⟨go58, co58, eo58, gb58, gl58, cl58, HG58⟩ := Kd.R_form HO_5.o (by omega); (first | cases eo58 | (injection eo58 with ea_ en_ ec_; (first | subst ea_ | (injection ea_ with ea_; subst ea_)); subst ec_; clear en_)); have GB58 := q_ gb58; have GG58 := q_ HG58; clear gb58 gl58 HG58; (first | simp only [add_plain] at hx120_0 | skip); obtain ⟨hx58_0, hf58_0⟩ := Kd.R_celln 0 HO_5.o ((rd ((rd_T156 l0_0 x6_1).f2) x63_3) : Int) p58 q58; replace p58 := eq_true p58; replace q58 := eq_true q58; have n_ := q_ (Kd.R_mono (ok' := (fun k_ => some k_ ≠ (.slice (some ⟨go54, 0, none⟩) x4_3.length co59 : Value).ownBlock)) HO_5.o (fun k_ hk => hk.2)); clear HO_5; have HO_5 := n_; clear n_; obtain ⟨hy63_, hz63_⟩ := Kd.R_celln 0 HO_5.o ((rd ((rd_T156 l0_0 x6_1).f2) x63_3) : Int) (of_decide_eq_true as_) (of_decide_eq_true as_); have HP63 := Kd.R_putg HO_5.o ((rd ((rd_T156 l0_0 x6_1).f2) x63_3) : Int) (wrap64 ((rd x5_3 x6_1) + 1))) | ((with_reducible refine gate_store (t := 3) (p := 80) rfl ?_); refine store_event (t := 3) (p := 80) (v := ?vo_w64) (w1 := (w61.setCell ⟨go58, ((rd ((rd_T156 l0_0 x6_1).f2) x63_3) : Int).toNat, none⟩ (.int .i64 (wrap64 ((rd x5_3 x6_1) + 1))))) ?hg ?ho ?hn ?hr ?_; (case ho => rfl); (case hg => rfl); (case hn => rfl); (case hr => first | (go_simp; done) | (go_simp; rfl)); intro w64 hw; have hg : w61.grownBy w64 (some go58) := (by rw [hw]; exact HP63.2); have hp_ : Kd.R (Kd.int .i64) 3 w64 w.heap.size (fun k_ => some k_ ≠ (.slice (some ⟨go54, 0, none⟩) x4_3.length co59 : Value).ownBlock) (.slice (some ⟨go58, 0, none⟩) x5_3.length co62) y121 := (by rw [hw, Ny121.o]; exact HP63.1); clear HP63; replace HO_4 := q_ (Kd.R_after (v := (.slice (some ⟨go58, 0, none⟩) x5_3.length co62)) (v1 := (.slice (some ⟨go58, 0, none⟩) x5_3.length co62)) (ok := (fun _ => True)) (by (with_reducible repeat (first | apply Kd.R_alloc | apply Kd.R_drewN | apply Kd.R_drew)); exact Kd.R_mono HO_4.o (fun _ hk => ⟨trivial, hk⟩)) hg (.inl rfl)); replace BK101 := q_ (blk_grown (g := gb101) (o := .cells #[.slice (some ad111) l0_0.length c0_0] 29 (0, 0)) (bk_ BK101.o) hg (Kd.R_ne HO_5.o BK101.o (by decide))); replace BK112 := q_ (blk_grown (g := gb112) (o := .cells #[.int .i64 ((rd_T156 l0_0 x6_1).f0), .slice A111_1 ((rd_T156 l0_0 x6_1).f1).length c111_1, .slice (some ad117) ((rd_T156 l0_0 x6_1).f2).length c111_2, .int .i64 ((rd_T156 l0_0 x6_1).f3), .int .i64 ((rd_T156 l0_0 x6_1).f4)] 156 (0, 0)) (bk_ BK112.o) hg (Kd.R_ne HO_5.o BK112.o (by decide))); replace HO_5 := q_ (hp_); replace HB := q_ ((by rw [hw]; exact below_set (HB.o) GB58.out : Below w.heap.size w w64)); clear hg hw hp_))
                      go_roundg k3
                      case measure => have := HK1.o; have := HJ17.o; have := HK3.o; omega
                      case rel => exact ⟨(y119), (y121), (wrap64 (x63_3 + 1)), rs_, H', ⟨by have := HK1.o; have := HJ17.o; have := HK3.o; omega⟩, ⟨by (with_reducible repeat (first | apply Kd.R_alloc | apply Kd.R_drewN | apply Kd.R_drew)); exact Kd.R_mono HO_4.o (fun _ hk => hk.2)⟩, ⟨ra_ HO_5.o⟩, ⟨bk_ BK101.o⟩, ⟨bk_ BK112.o⟩, ⟨be2_ HB.o GE101.o GE112.o⟩⟩
                     ·rw [if_neg c57] at H
                      exact absurd H (by simp)
                    ·rw [if_neg c56] at H
                     exact absurd H (by simp)
                   ·rw [if_neg c55] at H
                    exact absurd H (by simp)
                  ·rw [if_neg c53] at H
                   exact absurd H (by simp)
                 ·rw [if_neg c52] at H
                  exact absurd H (by simp)
                ·rw [if_neg c51] at H
                 exact absurd H (by simp)
               ·rw [if_neg c50] at H
                exact absurd H (by simp)
              ·rw [if_neg c49] at H; have c49b0 := df_ c49; clear c49
               have H' := q_ H
               clear H
               go_wp2
               go_roundg k3
               case measure => have := HK1.o; have := HJ17.o; have := HK3.o; omega
               case rel => exact ⟨(x4_3), (x5_3), (wrap64 (x6_1 - 1)), rs_, H', ⟨by have := HK1.o; have := HJ17.o; have := HK3.o; omega⟩, ⟨ra_ HO_4.o⟩, ⟨ra_ HO_5.o⟩, ⟨bk_ BK101.o⟩, ⟨be2_ HB.o GE101.o GE112.o⟩⟩
        ·rw [if_neg c17] at H
         exact absurd H (by simp)
       ·rw [if_neg c16] at H
        exact absurd H (by simp)
      ·rw [if_neg c15] at H
       have c15b0 : decide (0 ≤ x6_1) = false := df_ c15
       clear c15
       obtain ⟨ji65, hji65⟩ : ∃ j_ : Int, (wrap64 ((l0_0.length : Int) - 1)) = j_ := ⟨_, rfl⟩
       replace H : (if 0 ≤ (ji65) then (if (ji65) < (x4_1.length : Int) then (some ((rd x4_1 (ji65)) == 0)) else (none)) else (none)) = some r := by first | (rw [hji65] at H; exact H) | (simp only [hji65] at H ⊢; exact H)
       have hji65w : (IntKind.i64.wrap ((l0_0.length : Int) - 1)) = ji65 := (i64_w _).trans hji65
       by_cases c66 : 0 ≤ (ji65)
       ·rw [if_pos c66] at H; have c66b0 := dt_ c66; clear c66
        by_cases c67 : (ji65) < (x4_1.length : Int)
        ·rw [if_pos c67] at H; have c67b0 := dt_ c67; clear c67; obtain rfl := Option.some.inj H; obtain ⟨Ao68, co68, eo68⟩ := Kd.R_slice HO_4.o; subst eo68
         have p110 : 0 ≤ ((ji65) : Int) := of_decide_eq_true as_
         have q110 : (ji65) < (x4_1.length : Int) := of_decide_eq_true as_
         obtain ⟨ad110, e110, hx110_0⟩ := Kd.at_int (Kd.R_reads' HO_4.o).2.2 (ji65) p110 q110
         cases e110
         replace p110 := eq_true p110; replace q110 := eq_true q110
         go_wp2
         go_ret
         exact ⟨by first | rfl | (simp [errW_none, errW_some] <;> rfl) | (simp only [← hji65]; first | rfl | (simp [errW_none, errW_some] <;> rfl)) | (simp [*, errW_none, errW_some] <;> rfl), be1_ HB.o GE101.o⟩
        ·rw [if_neg c67] at H
         exact absurd H (by simp)
       ·rw [if_neg c66] at H
        exact absurd H (by simp)
   ·rw [if_neg c6] at H
    exact absurd H (by simp)
  ·rw [if_neg c5] at H
   exact absurd H (by simp)
 ·replace c4 := Bool.eq_false_iff.mpr c4; subst c4; rw [if_neg nft_] at H; obtain rfl := Option.some.inj H
  go_enter Try.func62, Try.ntmps62
  go_wp2_with (first | ((with_reducible refine gate_dst (N := 1) rfl ?_); refine bx_ 1 #[.slice A0_0 l0_0.length c0_0] 29 ?_; intro gb101 hg w69 hbox hb; have BK101 := q_ (hbox); have GE101 := ge_ hg HB; replace HB := sb_ HB hb; clear hb hbox hg; obtain ⟨hcz70_0, hfz70_0⟩ := d1_ BK101) | ((with_reducible refine gate_callee (f := 118) rfl ?_); refine gl_ (some 12) rfl rfl Try.func118 #[.slice A0_0 l0_0.length c0_0] ?_; (with_reducible refine (impl_RNode.calls _ _ l0_0 t102 _ ?side1 ?side2 A2.o).mono ?_); (case side1 => exact Kd.C_below HR0_0.o (be_ HB.o)); (case side2 => exact HC0_0.o); rintro e w' ⟨rfl, ⟨nd, rfl⟩⟩; refine ⟨_, rfl, ?_⟩) | ((with_reducible refine gate_callee (f := 79) rfl ?_); refine gl_ (some 13) rfl rfl Try.func79 #[.int .i64 t102, .int .i64 1, .int .i64 300] ?_; (with_reducible refine (impl_within.calls t102 1 300 false _ A3.o).mono ?_); rintro e w' ⟨rfl, ⟨nd, rfl⟩⟩; refine ⟨_, rfl, ?_⟩))
  go_ret
  exact ⟨rt_, be1_ HB.o GE101.o⟩
end Go.Proofs.Ytijmhelacmjggaa.P
namespace Go.Proofs.Ytijmhelacmjggaa.P
open Go.RowKit Go.Proofs.YtijmhelacmjggaaW.PrintWords Go.Proofs.YtijmhelacmjggaaW.PrintLast Go.Proofs.YtijmhelacmjggaaW.PrintMore Go.Proofs.YtijmhelacmjggaaEv
set_option linter.unusedVariables false
set_option linter.unusedSimpArgs false
theorem rd_set (l : List Int) (x v p : Int) (h0 : 0 ≤ x) (hx : x < l.length) (hp : 0 ≤ p) : rd (l.set x.toNat v) p = if p = x then v else rd l p := by
  unfold rd
  simp only [List.getD_eq_getElem?_getD, List.getElem?_set]
  by_cases h : p = x
  · subst h
    rw [if_pos rfl, if_pos rfl, if_pos (by omega)]
    rfl
  · rw [if_neg (by omega), if_neg h]
def addKids (K kids : List Int) : List Int := kids.foldl (fun K x => K.set x.toNat (rd K x + 1)) K
def setKids (D kids : List Int) (v : Int) : List Int := kids.foldl (fun D x => D.set x.toNat v) D
theorem addKids_length (kids : List Int) : ∀ K : List Int, (addKids K kids).length = K.length := by
  induction kids with
  | nil => intro K; rfl
  | cons x kids ih => intro K; simp only [addKids, List.foldl_cons] at ih ⊢; rw [ih]; simp
theorem setKids_length (kids : List Int) (v : Int) : ∀ D : List Int, (setKids D kids v).length = D.length := by
  induction kids with
  | nil => intro K; rfl
  | cons x kids ih => intro K; simp only [setKids, List.foldl_cons] at ih ⊢; rw [ih]; simp
theorem addKids_rd (kids : List Int) : ∀ K : List Int, (∀ x ∈ kids, 0 ≤ x ∧ x < K.length) → ∀ p : Int, 0 ≤ p → rd (addKids K kids) p = rd K p + (kids.count p : Nat) := by
  induction kids with
  | nil => intro K _ p _; simp [addKids]
  | cons x kids ih =>
    intro K hk p hp
    have hx := hk x (by simp)
    have := ih (K.set x.toNat (rd K x + 1)) (fun y hy => by simpa using hk y (by simp [hy])) p hp
    simp only [addKids, List.foldl_cons] at this ⊢
    rw [this, rd_set _ _ _ _ hx.1 hx.2 hp, List.count_cons]
    by_cases h : p = x
    · subst h; simp; omega
    · rw [if_neg h]
      have : (x == p) = false := beq_eq_false_iff_ne.2 (fun e => h e.symm)
      simp [this]
theorem setKids_le (kids : List Int) (v : Int) (h0 : 0 ≤ v) (h1 : v ≤ 151) : ∀ D : List Int, (∀ p : Int, 0 ≤ p → 0 ≤ rd D p ∧ rd D p ≤ 151) → (∀ x ∈ kids, 0 ≤ x ∧ x < D.length) → ∀ p : Int, 0 ≤ p → 0 ≤ rd (setKids D kids v) p ∧ rd (setKids D kids v) p ≤ 151 := by
  induction kids with
  | nil => intro D hD _; exact hD
  | cons x kids ih =>
    intro D hD hk
    simp only [setKids, List.foldl_cons] at ih ⊢
    refine ih _ (fun p hp => ?_) (fun y hy => by simpa using hk y (by simp [hy]))
    rw [rd_set _ _ _ _ (hk x (by simp)).1 (hk x (by simp)).2 hp]
    split
    · exact ⟨h0, h1⟩
    · exact hD p hp
def cntFrom (l : List S156) (j : Nat) (p : Int) : Nat := ((l.drop j).map fun s => s.f2.count p).sum
theorem cntFrom_step (l : List S156) (j : Nat) (p : Int) (h : j < l.length) : cntFrom l j p = (rd_T156 l j).f2.count p + cntFrom l (j + 1) p := by
  unfold cntFrom
  rw [drop_cons l z156 j h]
  have hr : l.getD j z156 = rd_T156 l j := by simp [rd_T156]
  rw [hr]
  simp
theorem cntFrom_end (l : List S156) (p : Int) : cntFrom l l.length p = 0 := by simp [cntFrom]
def nodeAt (l : List S156) (j : Nat) : Bool := nodeB (rd_T156 l j).f0 (rd_T156 l j).f1 (rd_T156 l j).f2 (rd_T156 l j).f3 (rd_T156 l j).f4 j
def nodesB (l : List S156) : Nat → Bool
  | 0 => true
  | j + 1 => nodeAt l j && nodesB l j
theorem kidsN_le (op : Int) : kidsN op ≤ 2 := by
  unfold kidsN
  split
  · omega
  · split
    · omega
    · split <;> omega
theorem node_kids {l : List S156} {j : Nat} (h : nodeAt l j = true) : (rd_T156 l j).f2.length ≤ 2 ∧ ((rd_T156 l j).f2.length : Int) = kidsN (rd_T156 l j).f0 ∧ ∀ x ∈ (rd_T156 l j).f2, 0 ≤ x ∧ x < j := by
  unfold nodeAt nodeB at h
  simp only [Bool.and_eq_true, decide_eq_true_eq, Bool.not_eq_true', List.any_eq_false, Bool.not_eq_true] at h
  obtain ⟨⟨⟨h1, h2⟩, _⟩, _⟩ := h
  refine ⟨by have := kidsN_le (rd_T156 l j).f0; omega, h1, fun x hx => ?_⟩
  have := h2 x hx
  simp at this
  omega
theorem nodesB_at {l : List S156} {n : Nat} (h : nodesB l n = true) : ∀ j, j < n → nodeAt l j = true := by
  induction n with
  | zero => intro j hj; omega
  | succ n ih =>
    simp only [nodesB, Bool.and_eq_true] at h
    intro j hj
    by_cases e : j = n
    · subst e; exact h.1
    · exact ih h.2 j (by omega)
theorem nodesB_of {l : List S156} {n : Nat} (h : ∀ j, j < n → nodeAt l j = true) : nodesB l n = true := by
  induction n with
  | zero => rfl
  | succ n ih =>
    simp only [nodesB, Bool.and_eq_true]
    exact ⟨h n (by omega), ih fun j hj => h j (by omega)⟩
def treeR (l : List S156) : Nat → List Int → Bool
  | 0, _ => true
  | j + 1, D => (decide (j + 1 = l.length) || decide (cntFrom l (j + 1) j = 1)) && decide (rd D j ≤ 150) && treeR l j (setKids D (rd_T156 l j).f2 (rd D j + 1))
def rxB (l : List S156) : Bool := decide (1 ≤ l.length) && decide (l.length ≤ 300) && nodesB l l.length && treeR l l.length (List.replicate l.length 0)
theorem rxB_parts {l : List S156} (h : rxB l = true) : 1 ≤ l.length ∧ l.length ≤ 300 ∧ ∀ j, j < l.length → nodeAt l j = true := by
  simp only [rxB, Bool.and_eq_true, decide_eq_true_eq] at h
  exact ⟨h.1.1.1, h.1.1.2, nodesB_at h.1.2⟩
theorem rd_replicate (n : Nat) (p : Int) : rd (List.replicate n 0) p = 0 := by
  unfold rd
  rw [List.getD_eq_getElem?_getD, List.getElem?_replicate]
  split <;> rfl
theorem count_le_two {kids : List Int} (h : kids.length ≤ 2) (p : Int) : kids.count p ≤ 2 := Nat.le_trans List.count_le_length h
theorem impl_RxOk_l1 (l : List S156) (last : Int) (j : Nat) (kids : List Int) (r : Bool) (hk : ∀ x ∈ kids, 0 ≤ x ∧ x < j) (hn : l.length ≤ 300) (hj : j < l.length) (d : Int) (hd0 : 0 ≤ d) (hd : d ≤ 150) (hl2 : kids.length ≤ 2) :
    ∀ m, m ≤ kids.length → ∀ K D : List Int, K.length = l.length → D.length = l.length → rd D j = d → (∀ p : Int, 0 ≤ p → 0 ≤ rd K p ∧ rd K p + (kids.length - m : Nat) ≤ 100000) →
      Ev (fun k => impl_RxOk.l0 k last (addKids K (kids.drop m)) (setKids D (kids.drop m) (d + 1)) ((j : Int) - 1) l) r → Ev (fun k => impl_RxOk.l1 k last K D j kids kids.length (m : Nat) l) r := by
  intro m hm
  have key := down kids.length (fun m => ∀ K D : List Int, K.length = l.length → D.length = l.length → rd D j = d → (∀ p : Int, 0 ≤ p → 0 ≤ rd K p ∧ rd K p + (kids.length - m : Nat) ≤ 100000) →
      Ev (fun k => impl_RxOk.l0 k last (addKids K (kids.drop m)) (setKids D (kids.drop m) (d + 1)) ((j : Int) - 1) l) r → Ev (fun k => impl_RxOk.l1 k last K D j kids kids.length (m : Nat) l) r) ?_ ?_ m hm
  · exact key
  · intro K D _ _ _ _ h
    rw [ev_succ]
    simp only [impl_RxOk.l1, ev_ite]
    rw [if_neg (by omega), wrap_id (x := (j : Int) - 1) (by omega) (by omega)]
    rw [List.drop_length] at h
    exact h
  · intro m hm ih K D hK hD hDj hb h
    have hx : 0 ≤ rd kids m ∧ rd kids m < j := by
      have e : rd kids m = kids[m] := by unfold rd; rw [List.getD_eq_getElem?_getD, Int.toNat_natCast, List.getElem?_eq_getElem hm]; rfl
      rw [e]
      exact hk _ (List.getElem_mem _)
    rw [drop_cons kids 0 m hm] at h
    have hr : kids.getD m 0 = rd kids m := by simp [rd]
    rw [hr] at h
    simp only [addKids, setKids, List.foldl_cons] at h
    rw [ev_succ]
    simp only [impl_RxOk.l1, ev_ite]
    have hbx := hb (rd kids m) hx.1
    rw [if_pos (by omega), if_pos (by omega), if_pos (by omega), if_pos hx.1, if_pos (by omega), if_pos (by omega), if_pos (by omega), if_pos (by omega), wrap_succ hm (by omega), hDj, wrap_id (x := rd K (rd kids m) + 1) (by omega) (by omega), wrap_id (x := d + 1) (by omega) (by omega)]
    refine ih _ _ (by simpa using hK) (by simpa using hD) ?_ ?_ h
    · rw [rd_set _ _ _ _ hx.1 (by omega) (by omega), if_neg (by omega)]
      exact hDj
    · intro p hp
      have := hb p hp
      rw [rd_set _ _ _ _ hx.1 (by omega) hp]
      split
      · subst p; omega
      · omega
theorem impl_RxOk_l0 (l : List S156) (h1 : 1 ≤ l.length) (hn : l.length ≤ 300) :
    ∀ j, j ≤ l.length → ∀ K D : List Int, K.length = l.length → D.length = l.length → (∀ i, j ≤ i → i < l.length → nodeAt l i = true) → (∀ p : Int, 0 ≤ p → rd K p = cntFrom l j p) → (∀ p : Int, 0 ≤ p → 0 ≤ rd D p ∧ rd D p ≤ 151) → (∀ p : Int, 0 ≤ p → cntFrom l j p ≤ 2 * (l.length - j)) →
      Ev (fun k => impl_RxOk.l0 k ((l.length : Int) - 1) K D ((j : Int) - 1) l) (nodesB l j && treeR l j D) := by
  intro j
  induction j with
  | zero =>
    intro _ K D hK hD hok hc _ _
    rw [ev_succ]
    simp only [impl_RxOk.l0, ev_ite, ev_some, nodesB, treeR]
    rw [if_neg (by omega), if_pos (by omega), if_pos (by omega)]
    have hz : cntFrom l 0 ((l.length : Int) - 1) = 0 := by
      have : ∀ m, m ≤ l.length → cntFrom l m ((l.length : Int) - 1) = 0 := by
        refine down l.length _ (cntFrom_end l _) ?_
        intro i hi ih
        rw [cntFrom_step l i _ hi, ih, Nat.add_zero]
        refine List.count_eq_zero.2 (fun hmem => ?_)
        have := (node_kids (hok i (by omega) hi)).2.2 _ hmem
        omega
      exact this 0 (by omega)
    rw [hc _ (by omega), hz]
    rfl
  | succ j ih =>
    intro hj K D hK hD hok hc hDb hcb
    rw [ev_succ]
    have e : ((j + 1 : Nat) : Int) - 1 = (j : Int) := by omega
    simp only [impl_RxOk.l0, ev_ite, e, nodesB, treeR]
    rw [if_pos (by omega), if_pos (by omega), if_pos (by omega)]
    simp only [impl_nodeOk.f]
    rw [if_pos (by omega)]
    simp only [Option.bind_some, ev_ite]
    have hnode : nodeB (rd_T156 l j).f0 (rd_T156 l j).f1 (rd_T156 l j).f2 (rd_T156 l j).f3 (rd_T156 l j).f4 j = nodeAt l j := rfl
    rw [hnode]
    have hbad : Ev (fun k => impl_RxOk.j1 k ((l.length : Int) - 1) K D j true l (rd_T156 l j).f0 (rd_T156 l j).f1 (rd_T156 l j).f2 (rd_T156 l j).f3 (rd_T156 l j).f4) false := by
      rw [ev_succ]
      simp only [impl_RxOk.j1, if_true]
      exact ev_some.2 rfl
    cases hnd : nodeAt l j
    · rw [if_neg (by simp)]
      simpa using hbad
    rw [if_pos rfl, Bool.true_and]
    obtain ⟨hk2, _, hkl⟩ := node_kids hnd
    have hD' := hDb (j : Int) (by omega)
    -- the way on, where D is not too great
    have hgo : ∀ b : Bool, b = decide (rd D j > 150) → Ev (fun k => impl_RxOk.j1 k ((l.length : Int) - 1) K D j b l (rd_T156 l j).f0 (rd_T156 l j).f1 (rd_T156 l j).f2 (rd_T156 l j).f3 (rd_T156 l j).f4) (decide (rd D j ≤ 150) && (nodesB l j && treeR l j (setKids D (rd_T156 l j).f2 (rd D j + 1)))) := by
      intro b hb
      by_cases h15 : rd D j ≤ 150
      · rw [decide_eq_false (by omega)] at hb
        subst hb
        rw [decide_eq_true h15, Bool.true_and, ev_succ]
        simp only [impl_RxOk.j1, Bool.false_eq_true, if_false]
        have hl1 := impl_RxOk_l1 l ((l.length : Int) - 1) j (rd_T156 l j).f2 (nodesB l j && treeR l j (setKids D (rd_T156 l j).f2 (rd D j + 1))) hkl hn (by omega) (rd D j) hD'.1 h15 hk2 0 (by omega) K D hK hD rfl ?_ ?_
        · exact hl1
        · intro p hp
          have := hc p hp
          have := hcb p hp
          omega
        · rw [List.drop_zero]
          refine ih (by omega) _ _ (by rw [addKids_length]; exact hK) (by rw [setKids_length]; exact hD) ?_ ?_ ?_ ?_
          · intro i hi hi2
            by_cases e2 : i = j
            · subst e2; exact hnd
            · exact hok i (by omega) hi2
          · intro p hp
            rw [addKids_rd _ _ (fun x hx => by have := hkl x hx; omega) p hp, hc p hp, cntFrom_step l j p (by omega)]
            omega
          · exact setKids_le _ _ (by omega) (by omega) D hDb (fun x hx => by have := hkl x hx; omega)
          · intro p hp
            rw [cntFrom_step l j p (by omega)]
            have := hcb p hp
            have := count_le_two hk2 p
            omega
      · rw [decide_eq_true (by omega)] at hb
        subst hb
        rw [decide_eq_false h15, Bool.false_and]
        exact hbad
    by_cases hlast : j + 1 = l.length
    · rw [if_neg (by omega), if_pos (by omega), decide_eq_true hlast, Bool.true_or, Bool.true_and]
      refine ev_congr (hgo _ rfl) ?_
      cases nodesB l j <;> simp
    · rw [if_pos (by omega), if_pos (by omega), decide_eq_false hlast, Bool.false_or, hc _ (by omega)]
      by_cases h1c : cntFrom l (j + 1) j = 1
      · rw [if_pos (by omega), if_pos (by omega), decide_eq_true h1c, Bool.true_and]
        refine ev_congr (hgo _ rfl) ?_
        cases nodesB l j <;> simp
      · rw [if_neg (by omega), decide_eq_false h1c, Bool.false_and, Bool.false_and, Bool.and_false]
        exact hbad
theorem impl_RxOk_ev (l : List S156) (hl : l.length ≤ 1048576) : Ev (fun k => impl_RxOk.f k l) (rxB l) := by
  unfold impl_RxOk.f rxB
  simp only [impl_RNode.f, impl_within_eq, Option.bind_some, ev_ite]
  by_cases h : 1 ≤ l.length ∧ l.length ≤ 300
  · rw [if_pos (by simp; omega), if_pos (by omega), if_pos (by omega), wrap_id (x := (l.length : Int) - 1) (by omega) (by omega), decide_eq_true h.1, decide_eq_true h.2, Bool.true_and, Bool.true_and, Int.toNat_natCast]
    exact impl_RxOk_l0 l h.1 h.2 l.length (Nat.le_refl _) _ _ (by simp) (by simp) (fun i h1 h2 => by omega) (fun p _ => by rw [rd_replicate, cntFrom_end]; rfl) (fun p _ => by rw [rd_replicate]; omega) (fun p _ => by rw [cntFrom_end]; omega)
  · rw [if_neg (by simp; omega)]
    refine ev_some.2 ?_
    by_cases h1 : 1 ≤ l.length
    · rw [decide_eq_false (show ¬ l.length ≤ 300 by omega)]; simp
    · rw [decide_eq_false h1]; simp
theorem spec_l3Kids_ev (op : Int) (h : 1 ≤ op ∧ op ≤ 8) : Ev (fun k => spec_l3Kids.f k op) (kidsN op) := by
  have h0 : ∀ b, Ev (fun k => spec_l3Kids.j0 k op b) (if b then 2 else if op = 5 ∨ op = 6 ∨ op = 7 ∨ op = 8 then 1 else 0) := by
    intro b
    rw [ev_succ]
    simp only [spec_l3Kids.j0, ev_ite, ev_some]
    cases b <;> grind
  unfold spec_l3Kids.f kidsN
  simp only [ev_ite]
  by_cases e1 : op = 3
  · rw [if_pos e1]
    exact ev_congr (h0 _) (by grind)
  · rw [if_neg e1]
    exact ev_congr (h0 _) (by grind)
theorem spec_l3Node_ev (op : Int) (set : List S103) (kids : List Int) (mi ma place : Int) (hp0 : 0 ≤ place) (hp1 : place ≤ 1000000) (hk : kids.length ≤ 9223372036854775807) : Ev (fun k => spec_l3Node.f k op set kids mi ma place) (nodeB op set kids mi ma place) := by
  have hbad : Ev (fun k => spec_l3Node.j0 k place true op set kids mi ma) false := by
    rw [ev_succ]
    simp only [spec_l3Node.j0, if_true]
    exact ev_some.2 rfl
  have hj2 : ∀ b : Bool, Ev (fun k => spec_l3Node.j2 k b op set kids mi ma) (!b && (if op = 8 then timesB mi ma else decide (mi = 0) && decide (ma = 0))) := by
    intro b
    rw [ev_succ]
    simp only [spec_l3Node.j2, spec_l1In_eq, Option.bind_some, ev_ite, ev_some]
    cases b
    · rw [if_neg (by simp), Bool.not_false, Bool.true_and]
      by_cases h8 : op = 8
      · rw [if_pos h8, if_pos h8]
        unfold timesB mx
        by_cases c1 : 0 ≤ mi ∧ mi ≤ 30
        · rw [if_pos (by simpa using c1)]
          by_cases c2 : ma = -1
          · rw [if_pos c2]; simp [c1, c2]
          · rw [if_neg c2]
            by_cases c3 : 1 < mi
            · rw [if_pos c3, Bool.eq_iff_iff]; simp [c1, c2]; omega
            · rw [if_neg c3, Bool.eq_iff_iff]; simp [c1, c2]; omega
        · rw [if_neg (by simpa using c1)]
          simp [c1]
      · rw [if_neg h8, if_neg h8]
        by_cases c1 : mi = 0
        · rw [if_pos c1]; simp [c1]; rfl
        · rw [if_neg c1]; simp [c1]
    · rw [if_pos rfl]
      rfl
  unfold spec_l3Node.f nodeB
  simp only [spec_l1In_eq, Option.bind_some, ev_ite]
  by_cases h18 : 1 ≤ op ∧ op ≤ 8
  · rw [if_pos (by simpa using h18), ev_bind (spec_l3Kids_ev op h18)]
    by_cases hkk : (kids.length : Int) = kidsN op
    · rw [bne_eq_false_iff_eq.2 hkk, decide_eq_true hkk, Bool.true_and, ev_succ]
      simp only [spec_l3Node.j0, Bool.false_eq_true, if_false]
      have key := ev_loop kids.length (fun k i => spec_l3Node.l0 k place (i : Nat) op set kids mi ma) (fun i => !((kids.drop i).any fun x => !decide (0 ≤ x ∧ x ≤ place - 1)) && (if op = 2 then classB set && !decide (set.length = 0) else decide (set.length = 0)) && (if op = 8 then timesB mi ma else decide (mi = 0) && decide (ma = 0))) ?_ ?_ 0 (by omega)
      · exact key
      · rw [ev_succ]
        simp only [spec_l3Node.l0, ev_ite]
        rw [if_neg (by omega), List.drop_length]
        simp only [List.any_nil, Bool.not_false, Bool.true_and]
        by_cases h2 : op = 2
        · rw [if_pos h2, ev_bind (spec_ClassOk_ev set), if_pos h2]
          simp only [ev_ite]
          cases hc : classB set
          · rw [if_neg (by simp)]
            simpa using hj2 true
          · rw [if_pos rfl]
            by_cases hs : set.length = 0
            · rw [if_pos (by omega), decide_eq_true hs]
              simpa using hj2 true
            · rw [if_neg (by omega), decide_eq_false hs]
              simpa using hj2 false
        · rw [if_neg h2, if_neg h2]
          refine ev_congr (hj2 _) ?_
          by_cases hs : set.length = 0
          · rw [decide_eq_false (show ¬ (set.length : Int) > 0 by omega), decide_eq_true hs]; rfl
          · rw [decide_eq_true (show (set.length : Int) > 0 by omega), decide_eq_false hs]; rfl
      · intro i hi ih
        rw [ev_succ, drop_cons kids 0 i hi]
        have hr : kids.getD i 0 = rd kids i := by simp [rd]
        rw [hr]
        simp only [spec_l3Node.l0, spec_l1In_eq, Option.bind_some, ev_ite, List.any_cons]
        rw [if_pos (by omega), if_pos (by omega), wrap_succ hi (by omega), wrap_id (x := place - 1) (by omega) (by omega)]
        by_cases c : 0 ≤ rd kids i ∧ rd kids i ≤ place - 1
        · rw [if_pos (by simpa using c)]
          refine ev_congr ih ?_
          simp [c]
        · rw [if_neg (by simpa using c)]
          refine ev_some.2 ?_
          rw [decide_eq_false c]
          simp
    · rw [bne_iff_ne.2 hkk, decide_eq_false hkk]
      simpa using hbad
  · rw [if_neg (by simpa using h18)]
    refine ev_congr hbad ?_
    have : kidsN op = -1 := by
      unfold kidsN
      rw [if_neg (by omega), if_neg (by omega), if_neg (by omega)]
    rw [this, decide_eq_false (by omega)]
    simp
def cntTo (l : List S156) (j : Nat) (p : Int) : Nat := ((l.take j).map fun s => s.f2.count p).sum
theorem cntTo_step (l : List S156) (j : Nat) (p : Int) (h : j < l.length) : cntTo l (j + 1) p = cntTo l j p + (rd_T156 l j).f2.count p := by
  have hr : rd_T156 l (j : Int) = l[j] := by unfold rd_T156; rw [List.getD_eq_getElem?_getD, Int.toNat_natCast, List.getElem?_eq_getElem h]; rfl
  unfold cntTo
  rw [hr, List.take_succ_eq_append_getElem h, List.map_append, List.sum_append]
  simp only [List.map_cons, List.map_nil, List.sum_cons, List.sum_nil, Nat.add_zero]
theorem cntTo_all (l : List S156) (p : Int) : cntTo l l.length p = cntFrom l 0 p := by simp [cntTo, cntFrom]
theorem cntFrom_own (l : List S156) (hok : ∀ i, i < l.length → nodeAt l i = true) (j : Nat) (hj : j < l.length) : cntFrom l 0 j = cntFrom l (j + 1) j := by
  have : ∀ m, m ≤ j + 1 → cntFrom l m j = cntFrom l (j + 1) j := by
    refine down (j + 1) _ rfl ?_
    intro i hi ih
    rw [cntFrom_step l i _ (by omega), ih]
    have : (rd_T156 l i).f2.count (j : Int) = 0 := List.count_eq_zero.2 (fun hmem => by
      have := (node_kids (hok i (by omega))).2.2 _ hmem
      omega)
    omega
  exact this 0 (by omega)
theorem spec_RxOk_l3 (l : List S156) (n : Int) (U : List Int) (j : Nat) (kids : List Int) (hkk : kids = (rd_T156 l j).f2) (r : Bool) (hk : ∀ x ∈ kids, 0 ≤ x ∧ x < j) (hn : l.length ≤ 300) (hj : j < l.length) (d : Int) (hd0 : 0 ≤ d) (hd : d ≤ 150) (hl2 : kids.length ≤ 2) :
    ∀ m, m ≤ kids.length → ∀ D : List Int, D.length = l.length → rd D j = d →
      Ev (fun k => spec_RxOk.l2 k n U (setKids D (kids.drop m) (d + 1)) ((j : Int) - 1) l) r → Ev (fun k => spec_RxOk.l3 k n U D j (m : Nat) l) r := by
  subst hkk
  refine down _ _ ?_ ?_
  · intro D _ _ h
    rw [ev_succ]
    simp only [spec_RxOk.l3, ev_ite]
    rw [if_pos (by omega), if_pos (by omega), if_neg (by omega), wrap_id (x := (j : Int) - 1) (by omega) (by omega)]
    rw [List.drop_length] at h
    exact h
  · intro m hm ih D hD hDj h
    have hx : 0 ≤ rd (rd_T156 l j).f2 m ∧ rd (rd_T156 l j).f2 m < j := by
      have e : rd (rd_T156 l j).f2 m = (rd_T156 l j).f2[m] := by unfold rd; rw [List.getD_eq_getElem?_getD, Int.toNat_natCast, List.getElem?_eq_getElem hm]; rfl
      rw [e]
      exact hk _ (List.getElem_mem _)
    rw [drop_cons _ 0 m hm] at h
    have hr : (rd_T156 l j).f2.getD m 0 = rd (rd_T156 l j).f2 m := by simp [rd]
    rw [hr] at h
    simp only [setKids, List.foldl_cons] at h
    rw [ev_succ]
    simp only [spec_RxOk.l3, ev_ite]
    rw [if_pos (by omega), if_pos (by omega), if_pos (by omega), if_pos (by omega), if_pos (by omega), if_pos hx.1, if_pos (by omega), wrap_succ hm (by omega), hDj, wrap_id (x := d + 1) (by omega) (by omega)]
    refine ih _ (by simpa using hD) ?_ h
    rw [rd_set _ _ _ _ hx.1 (by omega) (by omega), if_neg (by omega)]
    exact hDj
theorem spec_RxOk_l2 (l : List S156) (h1 : 1 ≤ l.length) (hn : l.length ≤ 300) (U : List Int) (hU : U.length = l.length) (hok : ∀ i, i < l.length → nodeAt l i = true) (hUc : ∀ p : Int, 0 ≤ p → rd U p = cntFrom l 0 p) :
    ∀ j, j ≤ l.length → ∀ D : List Int, D.length = l.length → (∀ p : Int, 0 ≤ p → 0 ≤ rd D p ∧ rd D p ≤ 151) → Ev (fun k => spec_RxOk.l2 k l.length U D ((j : Int) - 1) l) (treeR l j D) := by
  intro j
  induction j with
  | zero =>
    intro _ D hD _
    rw [ev_succ]
    simp only [spec_RxOk.l2, ev_ite, ev_some, treeR]
    rw [if_neg (by omega)]
    trivial
  | succ j ih =>
    intro hj D hD hDb
    rw [ev_succ]
    have e : ((j + 1 : Nat) : Int) - 1 = (j : Int) := by omega
    simp only [spec_RxOk.l2, ev_ite, e, treeR]
    rw [if_pos (by omega), wrap_id (x := (l.length : Int) - 1) (by omega) (by omega)]
    have hbad : Ev (fun k => spec_RxOk.j4 k l.length U D j true l) false := by
      rw [ev_succ]
      simp only [spec_RxOk.j4, if_true]
      exact ev_some.2 rfl
    obtain ⟨hk2, _, hkl⟩ := node_kids (hok j (by omega))
    have hD' := hDb (j : Int) (by omega)
    have hgo : Ev (fun k => spec_RxOk.j4 k l.length U D j (decide (rd D j > 150)) l) (decide (rd D j ≤ 150) && treeR l j (setKids D (rd_T156 l j).f2 (rd D j + 1))) := by
      by_cases h15 : rd D j ≤ 150
      · rw [decide_eq_false (show ¬ rd D j > 150 by omega), decide_eq_true h15, Bool.true_and, ev_succ]
        simp only [spec_RxOk.j4, Bool.false_eq_true, if_false]
        refine spec_RxOk_l3 l l.length U j _ rfl _ hkl hn (by omega) (rd D j) hD'.1 h15 hk2 0 (by omega) D hD rfl ?_
        rw [List.drop_zero]
        exact ih (by omega) _ (by rw [setKids_length]; exact hD) (setKids_le _ _ (by omega) (by omega) D hDb (fun x hx => by have := hkl x hx; omega))
      · rw [decide_eq_true (show rd D j > 150 by omega), decide_eq_false h15, Bool.false_and]
        exact hbad
    by_cases hlast : j + 1 = l.length
    · rw [if_neg (by omega), if_pos (by omega), if_pos (by omega), decide_eq_true hlast, Bool.true_or, Bool.true_and]
      exact hgo
    · rw [if_pos (by omega), if_pos (by omega), if_pos (by omega), decide_eq_false hlast, Bool.false_or, hUc _ (by omega), cntFrom_own l hok j (by omega)]
      by_cases h1c : cntFrom l (j + 1) j = 1
      · rw [if_pos (by omega), if_pos (by omega), decide_eq_true h1c, Bool.true_and]
        exact hgo
      · rw [if_neg (by omega), decide_eq_false h1c, Bool.false_and, Bool.false_and]
        exact hbad
theorem spec_RxOk_l1 (l : List S156) (n : Int) (j : Nat) (kids : List Int) (hkk : kids = (rd_T156 l j).f2) (r : Bool) (hk : ∀ x ∈ kids, 0 ≤ x ∧ x < j) (hn : l.length ≤ 300) (hj : j < l.length) (hl2 : kids.length ≤ 2) :
    ∀ m, m ≤ kids.length → ∀ K : List Int, K.length = l.length → (∀ p : Int, 0 ≤ p → 0 ≤ rd K p ∧ rd K p + (kids.length - m : Nat) ≤ 100000) →
      Ev (fun k => spec_RxOk.l0 k n (addKids K (kids.drop m)) ((j + 1 : Nat) : Int) l) r → Ev (fun k => spec_RxOk.l1 k n K j (m : Nat) l) r := by
  subst hkk
  refine down _ _ ?_ ?_
  · intro K _ _ h
    rw [ev_succ]
    simp only [spec_RxOk.l1, ev_ite]
    rw [if_pos (by omega), if_pos (by omega), if_neg (by omega), wrap_succ hj (by omega)]
    rw [List.drop_length] at h
    exact h
  · intro m hm ih K hK hb h
    have hx : 0 ≤ rd (rd_T156 l j).f2 m ∧ rd (rd_T156 l j).f2 m < j := by
      have e : rd (rd_T156 l j).f2 m = (rd_T156 l j).f2[m] := by unfold rd; rw [List.getD_eq_getElem?_getD, Int.toNat_natCast, List.getElem?_eq_getElem hm]; rfl
      rw [e]
      exact hk _ (List.getElem_mem _)
    rw [drop_cons _ 0 m hm] at h
    have hr : (rd_T156 l j).f2.getD m 0 = rd (rd_T156 l j).f2 m := by simp [rd]
    rw [hr] at h
    simp only [addKids, List.foldl_cons] at h
    rw [ev_succ]
    simp only [spec_RxOk.l1, ev_ite]
    have hbx := hb _ hx.1
    rw [if_pos (by omega), if_pos (by omega), if_pos (by omega), if_pos (by omega), if_pos hx.1, if_pos (by omega), wrap_succ hm (by omega), wrap_id (x := rd K (rd (rd_T156 l j).f2 m) + 1) (by omega) (by omega)]
    refine ih _ (by simpa using hK) ?_ h
    intro p hp
    have := hb p hp
    rw [rd_set _ _ _ _ hx.1 (by omega) hp]
    split
    · subst p; omega
    · omega
theorem spec_RxOk_ev (l : List S156) (hl : l.length ≤ 1048576) (hkl : ∀ x ∈ l, x.f2.length ≤ 9223372036854775807) : Ev (fun k => spec_RxOk.f k l) (rxB l) := by
  have hbad : ∀ n, Ev (fun k => spec_RxOk.j0 k n true l) false := by
    intro n
    rw [ev_succ]
    simp only [spec_RxOk.j0, if_true]
    exact ev_some.2 rfl
  unfold spec_RxOk.f rxB
  simp only [ev_ite]
  by_cases h1 : 1 ≤ l.length
  · rw [if_neg (by omega)]
    by_cases hn : l.length ≤ 300
    · rw [decide_eq_false (show ¬ (l.length : Int) > 300 by omega), decide_eq_true h1, decide_eq_true hn, Bool.true_and, Bool.true_and, ev_succ]
      simp only [spec_RxOk.j0, Bool.false_eq_true, if_false, ev_ite]
      rw [if_pos (by omega), if_pos (by omega), Int.toNat_natCast]
      have key := down l.length (fun i => (∀ m, m < i → nodeAt l m = true) → ∀ U : List Int, U.length = l.length → (∀ p : Int, 0 ≤ p → rd U p = cntTo l i p) → (∀ p : Int, 0 ≤ p → cntTo l i p ≤ 2 * i) → Ev (fun k => spec_RxOk.l0 k l.length U (i : Nat) l) (nodesB l l.length && treeR l l.length (List.replicate l.length 0))) ?_ ?_ 0 (by omega) (fun m hm => by omega) (List.replicate l.length 0) (by simp) (fun p _ => by rw [rd_replicate]; rfl) (fun p _ => by simp [cntTo])
      · exact key
      · intro hok U hU hUc _
        rw [ev_succ]
        simp only [spec_RxOk.l0, ev_ite]
        rw [if_neg (by omega), if_pos (by omega), if_pos (by omega), Int.toNat_natCast, wrap_id (x := (l.length : Int) - 1) (by omega) (by omega), nodesB_of hok, Bool.true_and]
        exact spec_RxOk_l2 l h1 hn U hU hok (fun p hp => by rw [hUc p hp, cntTo_all]) l.length (Nat.le_refl _) _ (by simp) (fun p _ => by rw [rd_replicate]; omega)
      · intro i hi ih hok U hU hUc hUb
        rw [ev_succ]
        simp only [spec_RxOk.l0, ev_ite]
        have hmem : (rd_T156 l i) ∈ l := by
          unfold rd_T156
          rw [List.getD_eq_getElem?_getD, Int.toNat_natCast, List.getElem?_eq_getElem hi]
          exact List.getElem_mem _
        rw [if_pos (by omega), if_pos (by omega), if_pos (by omega), ev_bind (spec_l3Node_ev _ _ _ _ _ _ (by omega) (by omega) (hkl _ hmem)), ev_ite]
        have hnode : nodeB (rd_T156 l i).f0 (rd_T156 l i).f1 (rd_T156 l i).f2 (rd_T156 l i).f3 (rd_T156 l i).f4 i = nodeAt l i := rfl
        rw [hnode]
        cases hnd : nodeAt l i
        · rw [if_neg (by simp)]
          refine ev_some.2 ?_
          cases hall : nodesB l l.length
          · rfl
          · rw [nodesB_at hall i hi] at hnd
            exact absurd hnd (by simp)
        · rw [if_pos rfl]
          obtain ⟨hk2, _, hkl2⟩ := node_kids hnd
          refine spec_RxOk_l1 l l.length i _ rfl _ hkl2 hn hi hk2 0 (by omega) U hU (fun p hp => by have := hUc p hp; have := hUb p hp; omega) ?_
          rw [List.drop_zero]
          refine ih (fun m hm => ?_) _ (by rw [addKids_length]; exact hU) (fun p hp => ?_) (fun p hp => ?_)
          · by_cases e : m = i
            · subst e; exact hnd
            · exact hok m (by omega)
          · rw [addKids_rd _ _ (fun x hx => by have := hkl2 x hx; omega) p hp, hUc p hp, cntTo_step l i p hi]
            omega
          · rw [cntTo_step l i p hi]
            have := hUb p hp
            have := count_le_two hk2 p
            omega
    · rw [decide_eq_true (show (l.length : Int) > 300 by omega), decide_eq_false hn]
      simpa using hbad _
  · rw [if_pos (by omega), decide_eq_false h1]
    simpa using hbad _
end Go.Proofs.Ytijmhelacmjggaa.P
namespace Go.Proofs.Ytijmhelacmjggaa.P
open Go.RowKit Go.Shelf Go.Proofs.YtijmhelacmjggaaW.PrintWords Go.Proofs.YtijmhelacmjggaaW.PrintLast Go.Proofs.YtijmhelacmjggaaW.PrintMore Go.Proofs.YtijmhelacmjggaaEv
set_option linter.unusedVariables false
set_option linter.unusedSimpArgs false
theorem goesT_ {P : Program} {ops : Array Oper} {Q : Exit → Act → World → Prop} {oi : Oper} {N : Option Tmp} {a : Act} {w : World} {K : Act → World → Prop} {f : FuncId} {fn : Func} {x : Operand} {as_ : Array Operand} {ts : Array TypeId} (hf : P.funcs[f]? = some fn) (hname : (fn.name == "runtime.NumGoroutine") = false) (hb : fn.body.isSome = true) (args : Array Value)
    (hw : Region.wanted oi (yielded ops a.tmps) = true) (hN : oi.dst = N) (hop : oi.op = .call { callee := .value x, args := as_, argTypes := ts }) (hx : a.eval x = .func (.func f) #[] #[]) (hargs : as_.map a.eval = args)
    (h : Calls P f args w fun e w' => ∃ v, e = .returned v ∧ K (a.put N v) w') : if Region.wanted oi (yielded ops a.tmps) = true then Oper.wp P oi a w K Q else K (a.put N undef) w := by
  refine call_ f args hw hN ?_ h
  have he := enters_ hf hname hb args w
  unfold execOp
  simp [hop, resolve, Deferred.ofValue, invoke, hx, hargs, he]
theorem spansR_bounds : ∀ (l : List S103) (last : Int), spansR last l = true → ∀ x ∈ l, 0 ≤ x.f0 ∧ x.f1 ≤ 255
  | [], _, _ => fun x hx => by simp at hx
  | s :: rest, last, h => fun x hx => by
    simp only [spansR, Bool.and_eq_true, decide_eq_true_eq] at h
    rcases List.mem_cons.1 hx with rfl | hx
    · exact ⟨h.1.1.1.1, h.1.1.2⟩
    · exact spansR_bounds rest s.f1 h.2 x hx
theorem class_bounds (l : List S103) (h : classB l = true) : ∀ x ∈ l, 0 ≤ x.f0 ∧ x.f1 ≤ 255 := spansR_bounds l (-2) h
theorem both_step (q : Nat → Bool) (i k : Nat) (h : i = k → q k = q i) : (if i = k then q k else (decide (i < k) && q i)) = (decide (i < k + 1) && q i) := by
  by_cases e : i = k
  · rw [if_pos e, h e, decide_eq_true (by omega), Bool.true_and]
  · rw [if_neg e]
    congr 1
    exact decide_eq_decide.2 (by omega)
def bothB (op : Bool → Bool → Bool) (a b : List S103) : List S103 := if (classB a && classB b) = true then classTo (fun i => op (inAny a i) (inAny b i)) 256 else []
theorem Joined_1_calls (W : World) (x y : Bool) : Calls Try.prog 124 #[.bool x, .bool y] W fun e w' => e = .returned (.bool (x || y)) ∧ Drawn0 W w' := by
  cases x
  · go_enter Try.func124, Try.ntmps124
    go_wp2
    go_ret
    exact ⟨by simp, by repeat (first | exact Drawn0.refl _ | apply Drawn0.step)⟩
  · go_enter Try.func124, Try.ntmps124
    go_wp2
    go_ret
    exact ⟨by simp, by repeat (first | exact Drawn0.refl _ | apply Drawn0.step)⟩
theorem combined_hand (op : Bool → Bool → Bool) (g : Nat) (fn : Func) (hgf : Try.prog.funcs[g]? = some fn) (hgn : (fn.name == "runtime.NumGoroutine") = false) (hgb : fn.body.isSome = true) (hq : ∀ (W : World) (x y : Bool), Calls Try.prog g #[.bool x, .bool y] W fun e w' => e = .returned (.bool (op x y)) ∧ Drawn0 W w')
    (A1 A2 : Option Addr) (c1 c2 : Nat) (a b : List S103) (w : World) (hr1 : Kd.C k103 w A1 a.length a) (hc1 : a.length ≤ c1) (hr2 : Kd.C k103 w A2 b.length b) (hc2 : b.length ≤ c2) (res : List S103) (hres : bothB op a b = res) :
    Calls Try.prog 123 #[.slice A1 a.length c1, .slice A2 b.length c2, .func (.func g) #[] #[]] w fun e w' => ∃ v : Value, e = .returned v ∧ Kd.R k103 103 w' w.heap.size (fun _ => True) v res ∧ Below w.heap.size w w' := by
  obtain ⟨k1, hk1⟩ := ev_get (impl_ClassOk_ev a hr1.2.1)
  obtain ⟨k2, hk2⟩ := ev_get (impl_ClassOk_ev b hr2.2.1)
  have HK1 := q_ hk1
  have HK2 := q_ hk2
  have HR1 := q_ hr1
  have HR2 := q_ hr2
  have HC1 := q_ hc1
  have HC2 := q_ hc2
  have HQ := Lib.hid hq
  have HB := q_ (Below.refl w.heap.size w)
  have HRS := q_ hres
  clear hk1 hk2 hr1 hr2 hc1 hc2 hq hres
  cases ha : classB a with
  | false =>
    rw [ha] at HK1
    have hr0 : J0 (res = []) := ⟨by rw [← HRS.o]; unfold bothB; rw [ha]; rfl⟩
    clear HRS ha
    go_enter Try.func123, Try.ntmps123
    go_wp2_with (go_at_call 155; refine (impl_ClassOk.calls k1 A1 c1 a false _ (Kd.C_below HR1.o HB.o) HC1.o HK1.o).mono ?_; rintro e w1 ⟨rfl, hb⟩; replace HB := sb_ HB hb; clear hb)
    go_ret
    exact ⟨_, rfl, by rw [hr0.o]; exact Kd.R_nil _ _ _ _ _, HB.o⟩
  | true =>
    rw [ha] at HK1
    have oka := q_ (class_bounds a ha)
    cases hb : classB b with
    | false =>
      rw [hb] at HK2
      have hr0 : J0 (res = []) := ⟨by rw [← HRS.o]; unfold bothB; rw [ha, hb]; rfl⟩
      clear HRS ha hb
      go_enter Try.func123, Try.ntmps123
      go_wp2_with (first | (go_at_call 155; with_reducible refine (impl_ClassOk.calls k1 A1 c1 a true _ ?h1 HC1.o HK1.o).mono ?_; (case h1 => exact Kd.C_below HR1.o HB.o); rintro e w1 ⟨rfl, hb⟩; replace HB := sb_ HB hb; clear hb) | (go_at_call 155; with_reducible refine (impl_ClassOk.calls k2 A2 c2 b false _ ?h2 HC2.o HK2.o).mono ?_; (case h2 => exact Kd.C_below HR2.o HB.o); rintro e w1 ⟨rfl, hb⟩; replace HB := sb_ HB hb; clear hb))
      go_ret
      exact ⟨_, rfl, by rw [hr0.o]; exact Kd.R_nil _ _ _ _ _, HB.o⟩
    | true =>
      rw [hb] at HK2
      have okb := q_ (class_bounds b hb)
      have hr0 : J0 (classTo (fun i => op (inAny a i) (inAny b i)) 256 = res) := ⟨by rw [← HRS.o]; unfold bothB; rw [ha, hb]; rfl⟩
      clear HRS ha hb
      obtain ⟨pa, hpa⟩ : ∃ q : Nat → Bool, q = inAny a := ⟨_, rfl⟩
      obtain ⟨pb, hpb⟩ : ∃ q : Nat → Bool, q = inAny b := ⟨_, rfl⟩
      have hBA := Lib.hid fun W h => bytesOf_hand A1 c1 a W h oka.o
      have hBB := Lib.hid fun W h => bytesOf_hand A2 c2 b W h okb.o
      rw [← hpa] at hr0 hBA
      rw [← hpb] at hr0 hBB
      clear hpa hpb oka okb
      have T1 : J0 True := ⟨trivial⟩
      have T2 : J0 True := ⟨trivial⟩
      have T7 : J0 True := ⟨trivial⟩
      have T8 : J0 True := ⟨trivial⟩
      have T9 : J0 True := ⟨trivial⟩
      go_enter Try.func123, Try.ntmps123
      go_wp2_with (first | (go_at_call 155; with_reducible refine (impl_ClassOk.calls k1 A1 c1 a true _ ?h1 HC1.o HK1.o).mono ?_; (case h1 => exact Kd.C_below HR1.o HB.o); rintro e w1 ⟨rfl, hb⟩; replace HB := sb_ HB hb; clear hb) | (go_at_call 155; with_reducible refine (impl_ClassOk.calls k2 A2 c2 b true _ ?h2 HC2.o HK2.o).mono ?_; (case h2 => exact Kd.C_below HR2.o HB.o); rintro e w1 ⟨rfl, hb⟩; replace HB := sb_ HB hb; clear hb) | (go_at_call 159; clear T1; refine (hBA.out _ (Kd.C_below HR1.o HB.o)).mono ?_; rintro e w1 ⟨rfl, hb⟩; replace HB := sb_ HB hb; clear hb) | (go_at_call 159; clear T2; refine (hBB.out _ (Kd.C_below HR2.o HB.o)).mono ?_; rintro e w1 ⟨rfl, hb⟩; replace HB := sb_ HB hb; clear hb) | ((with_reducible refine gate_dst (N := 7) rfl ?_); refine bx_ 7 Try.zeroCells202 202 ?_; intro g7 hg w7 hbox hb; have B7 := q_ hbox; have GE7 := ge_ hg HB; replace HB := sb_ HB hb; clear hbox hb hg) | ((with_reducible refine gate_dst (N := 8) rfl ?_); refine bx_ 8 Try.zeroCells202 202 ?_; intro g8 hg w8 hbox hb; have B8 := q_ hbox; have GE8 := ge_ hg HB; have N78 := nl_ hg B7; replace B7 := lb_ B7 hb; replace HB := sb_ HB hb; clear hbox hb hg) | ((with_reducible refine gate_dst (N := 9) rfl ?_); refine bx_ 9 Try.zeroCells202 202 ?_; intro g9 hg w9 hbox hb; have B9 := q_ hbox; have GE9 := ge_ hg HB; have N79 := nl_ hg B7; have N89 := nl_ hg B8; replace B7 := lb_ B7 hb; replace B8 := lb_ B8 hb; replace HB := sb_ HB hb; clear hbox hb hg) | ((with_reducible refine gate_store (t := 202) (p := 7) rfl ?_); clear T7; refine wpList_store_row rfl 202 _ _ rfl g7 (arrF pa) rfl rfl 202 Try.zeroCells202 B7.o (arr_infoF _) (by rw [arr_zero, arrF_size, arrF_size]) (arrF_one _) ?_; generalize hW7 : World.setRow _ g7 (arrF pa) = w17; have n7_ := q_ (show w17.heap[g7]? = some (.cells (arrF pa) 202 (0, 0)) by rw [← hW7]; exact setRow_heap _ _ _ _ _ _ B7.o); have n8_ := q_ (show w17.heap[g8]? = some (.cells Try.zeroCells202 202 (0, 0)) by rw [← hW7]; exact (setRow_other _ _ _ _ N78.o.symm).trans B8.o); have n9_ := q_ (show w17.heap[g9]? = some (.cells Try.zeroCells202 202 (0, 0)) by rw [← hW7]; exact (setRow_other _ _ _ _ N79.o.symm).trans B9.o); have nB_ := q_ (show Below w.heap.size w w17 by rw [← hW7]; exact below_setRow HB.o GE7.o _); clear B7 B8 B9 HB hW7; have B7 := n7_; have B8 := n8_; have B9 := n9_; have HB := nB_; clear n7_ n8_ n9_ nB_) | ((with_reducible refine gate_store (t := 202) (p := 8) rfl ?_); clear T8; refine wpList_store_row rfl 202 _ _ rfl g8 (arrF pb) rfl rfl 202 Try.zeroCells202 B8.o (arr_infoF _) (by rw [arr_zero, arrF_size, arrF_size]) (arrF_one _) ?_; generalize hW8 : World.setRow _ g8 (arrF pb) = w18; have n7_ := q_ (show w18.heap[g7]? = some (.cells (arrF pa) 202 (0, 0)) by rw [← hW8]; exact (setRow_other _ _ _ _ N78.o).trans B7.o); have n8_ := q_ (show w18.heap[g8]? = some (.cells (arrF pb) 202 (0, 0)) by rw [← hW8]; exact setRow_heap _ _ _ _ _ _ B8.o); have n9_ := q_ (show w18.heap[g9]? = some (.cells Try.zeroCells202 202 (0, 0)) by rw [← hW8]; exact (setRow_other _ _ _ _ N89.o.symm).trans B9.o); have nB_ := q_ (show Below w.heap.size w w18 by rw [← hW8]; exact below_setRow HB.o GE8.o _); clear B7 B8 B9 HB hW8; have B7 := n7_; have B8 := n8_; have B9 := n9_; have HB := nB_; clear n7_ n8_ n9_ nB_) | ((with_reducible refine gate_store (t := 202) (p := 9) rfl ?_); clear T9; refine wpList_store_row rfl 202 _ _ rfl g9 Try.zeroCells202 rfl rfl 202 Try.zeroCells202 B9.o arr_infoZ rfl arr_oneZ ?_; rw [setRow_self _ _ _ _ _ B9.o]))
      go_loopg [24] 256 (fun gg s24 wr => ∃ kk : Nat, kk ≤ 256 ∧ 256 - kk ≤ gg ∧ s24 = .int .i64 kk ∧ J0 (wr.heap[g7]? = some (.cells (arrF pa) 202 (0, 0))) ∧ J0 (wr.heap[g8]? = some (.cells (arrF pb) 202 (0, 0))) ∧ J0 (wr.heap[g9]? = some (.cells (arrF fun i => decide (i < kk) && op (pa i) (pb i)) 202 (0, 0))) ∧ J0 (Below w.heap.size w wr))
      case atStart => exact ⟨0, by omega, by omega, rfl, B7, B8, ⟨by rw [B9.o, arr_zero]; congr 2⟩, HB⟩
      case round =>
        clear B7 B8 B9 HB
        obtain ⟨kk, hkk, hgg, rfl, B7, B8, B9, HB⟩ := hrel
        by_cases hlt : kk < 256
        · have hz : ((kk : Int) < 256) = True := eq_true (by omega)
          have hzb : decide ((kk : Int) < 256) = true := decide_eq_true (by omega)
          go_wp2
          have hc7 : wr.drew.cell? ⟨g7, kk, none⟩ = some (.bool (pa kk)) := arr_cell B7.o kk hlt
          have hc8 : wr.drew.cell? ⟨g8, kk, none⟩ = some (.bool (pb kk)) := arr_cell B8.o kk hlt
          replace B7 := q_ (blk_drew B7.o)
          replace B8 := q_ (blk_drew B8.o)
          replace B9 := q_ (blk_drew B9.o)
          replace HB := q_ (below_drew1 HB.o)
          refine start_ (n := 11) (S := fun w' => w'.cell? ⟨g7, kk, none⟩ = some (.bool (pa kk)) ∧ w'.cell? ⟨g8, kk, none⟩ = some (.bool (pb kk))) (ds := [10]) (bb 11 0) (by kernel_rfl) rfl rfl ⟨hc7, hc8⟩ (fun hHeld => ?_)
          generalize wr.drew = w14 at B7 B8 B9 HB hc7 hc8 hHeld ⊢
          refine pk_ 0 27 1 ?_
          refine pk_ 1 28 3 ?_
          refine pk_ 2 29 7 ?_
          refine pk_ 3 30 15 ?_
          refine pk_ 5 32 47 ?_
          refine pk_ 6 33 111 ?_
          refine tk_ 4 31 127 hHeld ?_
          refine tk_ 7 34 255 hHeld ?_
          refine one_ (i := 8) (N := some 35) (bb 11 511) rfl rfl (by kernel_rfl) (by decide) (fun K hK => ?_)
          refine goesT_ hgf hgn hgb #[.bool (pa kk), .bool (pb kk)] (by rfl) rfl rfl rfl (by (try simp only [List.map_toArray, List.map_cons, List.map_nil]); first | done | rfl) ?_
          refine (HQ.out w14 (pa kk) (pb kk)).mono ?_
          rintro e w' ⟨rfl, ⟨nd, rfl⟩⟩
          refine ⟨_, rfl, ?_⟩
          refine hK.out _ _ ⟨hc7, hc8⟩ (fun hHeld => ?_)
          clear hK K
          refine no_ (some 35) ?_
          refine pk_ 9 36 1023 ?_
          have hc9 : (w14.drewN nd).cell? ⟨g9, kk, none⟩ = some (.bool (decide (kk < kk) && op (pa kk) (pb kk))) := arr_cell B9.o kk hlt
          have hf9 : (w14.drewN nd).frozen? ⟨g9, kk, none⟩ = false := blk_frozen B9.o kk
          refine last_ (i := 10) (N := none) (bb 11 2047) rfl rfl (by kernel_rfl) (by decide) (fun K hK => ?_)
          refine skip_ (w1 := ((w14.drewN nd).setCell ⟨g9, kk, none⟩ (.bool (op (pa kk) (pb kk))))) (by rfl) rfl ?_ ?_
          · first | (go_simp; done) | (go_simp; rfl)
          refine hK.out _ _ ?_
          clear hK K
          refine done_ (by kernel_rfl) ?_
          have n7_ := q_ (show ((w14.drewN nd).setCell ⟨g9, kk, none⟩ (.bool (op (pa kk) (pb kk)))).heap[g7]? = some (.cells (arrF pa) 202 (0, 0)) from blk_far (blk_drewN B7.o nd) N79.o _)
          have n8_ := q_ (show ((w14.drewN nd).setCell ⟨g9, kk, none⟩ (.bool (op (pa kk) (pb kk)))).heap[g8]? = some (.cells (arrF pb) 202 (0, 0)) from blk_far (blk_drewN B8.o nd) N89.o _)
          have n9_ := q_ (show ((w14.drewN nd).setCell ⟨g9, kk, none⟩ (.bool (op (pa kk) (pb kk)))).heap[g9]? = some (.cells (arrF fun i => decide (i < kk + 1) && op (pa i) (pb i)) 202 (0, 0)) by rw [arr_put (blk_drewN B9.o nd) kk _]; congr 2; exact arrF_congr _ _ fun i _ => both_step (fun i => op (pa i) (pb i)) i kk (fun e => by rw [e]))
          have nB_ := q_ (show Below w.heap.size w ((w14.drewN nd).setCell ⟨g9, kk, none⟩ (.bool (op (pa kk) (pb kk)))) from below_set (pw_below_drewN HB.o nd) GE9.o)
          clear B7 B8 B9 HB hc7 hc8 hc9 hf9 hHeld
          generalize (w14.drewN nd).setCell ⟨g9, kk, none⟩ (.bool (op (pa kk) (pb kk))) = w15 at *
          go_wp2
          go_roundg (256 - (kk + 1))
          case measure => omega
          case rel => exact ⟨kk + 1, by omega, Nat.le_refl _, by go_num, n7_, n8_, n9_, nB_⟩
        · have hz : ((kk : Int) < 256) = False := eq_false (by omega)
          have hzb : decide ((kk : Int) < 256) = false := decide_eq_false (by omega)
          have hk : kk = 256 := by omega
          subst hk
          have B9' := q_ (show wr.heap[g9]? = some (.cells (arrF fun i => op (pa i) (pb i)) 202 (0, 0)) by rw [B9.o, arrF_congr (fun i => decide (i < 256) && op (pa i) (pb i)) (fun i => op (pa i) (pb i)) (fun i hi => by simp only [decide_eq_true hi, Bool.true_and])])
          have T4 : J0 True := ⟨trivial⟩
          go_wp2_with (first | ((with_reducible refine gate_dst (N := 38) rfl ?_); clear T4; refine wpList_load_row rfl 202 _ rfl g9 rfl 202 (arrF fun i => op (pa i) (pb i)) (0, 0) _ B9'.out Try.underlying202 rfl (arr_infoF _) ?_) | (go_at_call 160; refine (class_hand (fun i => op (pa i) (pb i)) _ res hr0.o).mono ?_; rintro e w1 ⟨v, rfl, ho, hb⟩; have HO := q_ (Kd.R_lower ho (below_size HB.o)); replace HB := sb_ HB hb; clear ho hb))
          go_ret
          exact ⟨_, rfl, HO.o, HB.o⟩
def joinI (a b : List S103) : List S103 := bothB (fun x y => x || y) a b
theorem Joined_hand (A1 A2 : Option Addr) (c1 c2 : Nat) (a b : List S103) (w : World) (hr1 : Kd.C k103 w A1 a.length a) (hc1 : a.length ≤ c1) (hr2 : Kd.C k103 w A2 b.length b) (hc2 : b.length ≤ c2) (res : List S103) (hres : joinI a b = res) :
    Calls Try.prog 70 #[.slice A1 a.length c1, .slice A2 b.length c2] w fun e w' => ∃ v : Value, e = .returned v ∧ Kd.R k103 103 w' w.heap.size (fun _ => True) v res ∧ Below w.heap.size w w' := by
  unfold joinI at hres
  have hn_ : (Try.f124.name == "runtime.NumGoroutine") = false := by kernel_rfl
  have hb_ : Try.f124.body.isSome = true := rfl
  have HC := q_ (combined_hand (fun x y => x || y) 124 Try.f124 Try.func124 hn_ hb_ (fun W x y => Joined_1_calls W x y) A1 A2 c1 c2 a b w hr1 hc1 hr2 hc2 res hres)
  clear hr1 hc1 hr2 hc2 hres hn_ hb_
  go_enter Try.func70, Try.ntmps70
  go_wp2_with (go_at_call 123; refine HC.o.mono ?_; rintro e w1 ⟨v, rfl, ho, hb⟩; have HO := q_ ho; have HB := q_ hb; clear ho hb)
  go_ret
  exact ⟨_, rfl, HO.o, HB.o⟩
end Go.Proofs.Ytijmhelacmjggaa.P
namespace Go.Proofs.Ytijmhelacmjggaa.P
open Go.RowKit Go.Proofs.YtijmhelacmjggaaW.PrintWords Go.Proofs.YtijmhelacmjggaaW.PrintLast Go.Proofs.YtijmhelacmjggaaW.PrintMore Go.Proofs.YtijmhelacmjggaaEv
set_option linter.unusedVariables false
set_option linter.unusedSimpArgs false
def endR : Int → List S103 → Int
  | last, [] => last
  | _, s :: rest => endR s.f1 rest
theorem spansR_snoc (y : S103) : ∀ (l : List S103) (last : Int), spansR last (l ++ [y]) = (spansR last l && spansR (endR last l) [y])
  | [], last => rfl
  | s :: l, last => by
    have h := spansR_snoc y l s.f1
    show (_ && spansR s.f1 (l ++ [y])) = ((_ && spansR s.f1 l) && spansR (endR s.f1 l) [y])
    rw [h, ← Bool.and_assoc]
theorem endR_snoc (y : S103) : ∀ (l : List S103) (last : Int), endR last (l ++ [y]) = y.f1
  | [], _ => rfl
  | s :: l, _ => by simp only [List.cons_append, endR, endR_snoc y l s.f1]
theorem inAny_snoc (y : S103) (l : List S103) (i : Nat) : inAny (l ++ [y]) i = (inAny l i || decide (y.f0 ≤ (i : Int) ∧ (i : Int) ≤ y.f1)) := by
  simp [inAny]
theorem rd_snoc (y : S103) (l : List S103) (J : Int) (h : J = (l.length : Int)) : rd_T103 (l ++ [y]) J = y := by
  subst h
  simp [rd_T103]
theorem set_snoc (y z : S103) (l : List S103) (J : Int) (h : J = (l.length : Int)) : (l ++ [y]).set J.toNat z = l ++ [z] := by
  subst h
  simp
theorem addRun_right (xs : List S103) (b : Nat) (hb : b ≤ 255) (h : spansR (-2) xs = true) (he : endR (-2) xs < (b : Int)) (hq : -2 ≤ endR (-2) xs) :
    spansR (-2) (addRun xs (b : Int)) = true ∧ endR (-2) (addRun xs (b : Int)) = (b : Int) ∧ ∀ i : Nat, inAny (addRun xs (b : Int)) i = (inAny xs i || decide (i = b)) := by
  rcases List.eq_nil_or_concat xs with h0 | ⟨l, y, h0⟩
  · subst h0
    refine ⟨?_, ?_, ?_⟩
    · simp [addRun, spansR]; omega
    · simp [addRun, endR]
    · intro i
      simp only [addRun, inAny, List.length_nil, List.any_nil, Bool.false_or, List.nil_append, List.any_cons, Bool.or_false]
      rw [if_neg (by omega)]
      simp only [List.any_cons, List.any_nil, Bool.or_false]
      exact decide_eq_decide.2 (by omega)
  · rw [List.concat_eq_append] at h0
    subst h0
    rw [endR_snoc] at he hq
    have hs := h
    rw [spansR_snoc] at hs
    simp only [spansR, Bool.and_eq_true, decide_eq_true_eq, and_true] at hs
    obtain ⟨hl, ⟨⟨hy0, hy1⟩, hy2⟩, hy3⟩ := hs
    unfold addRun
    rw [if_pos (by simp), rd_snoc y l _ (by simp), set_snoc y _ l _ (by simp)]
    by_cases hj : y.f1 = (b : Int) - 1
    · rw [if_pos hj]
      refine ⟨?_, endR_snoc _ _ _, ?_⟩
      · rw [spansR_snoc, hl]
        simp only [spansR, Bool.true_and, Bool.and_eq_true, decide_eq_true_eq, and_true]
        omega
      · intro i
        rw [inAny_snoc, inAny_snoc, Bool.or_assoc]
        congr 1
        rw [← Bool.decide_or]
        refine decide_eq_decide.2 ?_
        dsimp only
        omega
    · rw [if_neg hj]
      refine ⟨?_, endR_snoc _ _ _, ?_⟩
      · rw [spansR_snoc, h, endR_snoc]
        simp only [spansR, Bool.true_and, Bool.and_eq_true, decide_eq_true_eq, and_true]
        omega
      · intro i
        rw [inAny_snoc]
        congr 1
        refine decide_eq_decide.2 ?_
        dsimp only
        omega
theorem classTo_right (p : Nat → Bool) : ∀ n : Nat, n ≤ 256 → spansR (-2) (classTo p n) = true ∧ (-2 ≤ endR (-2) (classTo p n) ∧ endR (-2) (classTo p n) < (n : Int)) ∧ ∀ i : Nat, inAny (classTo p n) i = (decide (i < n) && p i)
  | 0, _ => ⟨rfl, by simp [classTo, endR], fun i => by simp [classTo, inAny]⟩
  | n + 1, hn => by
    obtain ⟨h1, ⟨h2, h2'⟩, h3⟩ := classTo_right p n (by omega)
    unfold classTo
    cases hp : p n
    · rw [if_neg (by simp)]
      refine ⟨h1, ⟨h2, by omega⟩, fun i => ?_⟩
      rw [h3]
      by_cases hi : i = n
      · subst hi; simp [hp]
      · rw [decide_eq_decide.2 (show (i < n) ↔ (i < n + 1) by omega)]
    · rw [if_pos rfl]
      obtain ⟨g1, g2, g3⟩ := addRun_right (classTo p n) n (by omega) h1 h2' h2
      refine ⟨g1, ⟨by omega, by omega⟩, fun i => ?_⟩
      rw [g3, h3]
      by_cases hi : i = n
      · subst hi; simp [hp]
      · rw [decide_eq_decide.2 (show (i < n) ↔ (i < n + 1) by omega), decide_eq_false hi, Bool.or_false]
theorem inAny_low : ∀ (l : List S103) (last : Int), spansR last l = true → ∀ i : Nat, (i : Int) ≤ last + 1 → inAny l i = false
  | [], _, _, _, _ => rfl
  | s :: l, last, h, i, hi => by
    simp only [spansR, Bool.and_eq_true, decide_eq_true_eq] at h
    have := inAny_low l s.f1 h.2 i (by omega)
    simp only [inAny, List.any_cons] at this ⊢
    rw [this, decide_eq_false (by omega)]
    rfl
theorem inAny_cons (s : S103) (l : List S103) (i : Nat) : inAny (s :: l) i = (decide (s.f0 ≤ (i : Int) ∧ (i : Int) ≤ s.f1) || inAny l i) := rfl
theorem class_one : ∀ (a b : List S103) (last last' : Int), spansR last a = true → spansR last' b = true → (∀ i : Nat, i < 256 → inAny a i = inAny b i) → a = b
  | [], [], _, _, _, _, _ => rfl
  | [], s :: b, _, last, _, h, hi => by
    simp only [spansR, Bool.and_eq_true, decide_eq_true_eq] at h
    have := hi s.f0.toNat (by omega)
    rw [inAny_cons, decide_eq_true (by omega)] at this
    simp [inAny] at this
  | s :: a, [], last, _, h, _, hi => by
    simp only [spansR, Bool.and_eq_true, decide_eq_true_eq] at h
    have := hi s.f0.toNat (by omega)
    rw [inAny_cons, decide_eq_true (by omega)] at this
    simp [inAny] at this
  | s :: a, t :: b, last, last', h, h', hi => by
    simp only [spansR, Bool.and_eq_true, decide_eq_true_eq] at h h'
    have la := inAny_low a s.f1 h.2
    have lb := inAny_low b t.f1 h'.2
    have e0 : s.f0 = t.f0 := by
      have i1 := hi s.f0.toNat (by omega)
      have i2 := hi t.f0.toNat (by omega)
      rw [inAny_cons, inAny_cons, decide_eq_true (by omega), Bool.true_or] at i1
      rw [inAny_cons, inAny_cons, Bool.or_comm, decide_eq_true (p := t.f0 ≤ _ ∧ _) (by omega), Bool.true_or] at i2
      by_cases hlt : s.f0 < t.f0
      · rw [decide_eq_false (by omega), lb _ (by omega)] at i1
        simp at i1
      · by_cases hgt : t.f0 < s.f0
        · rw [decide_eq_false (by omega), la _ (by omega)] at i2
          simp at i2
        · omega
    have e1 : s.f1 = t.f1 := by
      by_cases hlt : s.f1 < t.f1
      · have i1 := hi (s.f1 + 1).toNat (by omega)
        rw [inAny_cons, inAny_cons, decide_eq_false (by omega), la _ (by omega), decide_eq_true (by omega)] at i1
        simp at i1
      · by_cases hgt : t.f1 < s.f1
        · have i1 := hi (t.f1 + 1).toNat (by omega)
          rw [inAny_cons, inAny_cons, decide_eq_true (by omega), decide_eq_false (by omega), lb _ (by omega)] at i1
          simp at i1
        · omega
    obtain ⟨s0, s1⟩ := s
    obtain ⟨t0, t1⟩ := t
    dsimp only at e0 e1 h h' la lb
    subst e0 e1
    congr 1
    refine class_one a b s1 s1 h.2 h'.2 fun i h256 => ?_
    by_cases hi1 : (i : Int) ≤ s1 + 1
    · rw [la i hi1, lb i hi1]
    · have := hi i h256
      rw [inAny_cons, inAny_cons, decide_eq_false (by show ¬ (s0 ≤ (i : Int) ∧ (i : Int) ≤ s1); omega)] at this
      exact this
theorem classTo_back (l : List S103) (h : classB l = true) (n : Nat) (hn : n = 256) : classTo (inAny l) n = l := by
  obtain ⟨h1, _, h2⟩ := classTo_right (inAny l) n (by omega)
  refine class_one _ _ (-2) (-2) h1 h fun i hi => ?_
  rw [h2, decide_eq_true (by omega)]
  rfl
theorem classB_to (p : Nat → Bool) (n : Nat) (hn : n = 256) : classB (classTo p n) = true := (classTo_right p n (by omega)).1
theorem joinI_right (a b : List S103) : classB (joinI a b) = true := by
  unfold joinI bothB
  split
  · exact classB_to _ _ rfl
  · rfl
theorem joinI_nil (a : List S103) (h : classB a = true) : joinI a [] = a := by
  unfold joinI bothB
  rw [h, if_pos (by rfl)]
  refine Eq.trans ?_ (classTo_back a h 256 rfl)
  refine classTo_congr _ _ (fun i _ => ?_) 256 (Nat.le_refl _)
  simp [inAny]
end Go.Proofs.Ytijmhelacmjggaa.P
namespace Go.Proofs.Ytijmhelacmjggaa.P
open Go.RowKit Go.Shelf Go.Proofs.YtijmhelacmjggaaW.PrintWords Go.Proofs.YtijmhelacmjggaaW.PrintLast Go.Proofs.YtijmhelacmjggaaW.PrintMore Go.Proofs.YtijmhelacmjggaaEv
set_option linter.unusedVariables false
set_option linter.unusedSimpArgs false
def Row (w0 w : World) (gg : Nat) (v : Value) (b : Bool) : Prop := Kd.R Kd.bool 4 w w0.heap.size (fun k => k ≠ gg) v [b]
def MK (gg : Nat) (w w' : World) : Prop := w.heap.size ≤ w'.heap.size ∧ ∀ k, k < w.heap.size → k ≠ gg → w'.heap[k]? = w.heap[k]?
def Memo (w0 : World) (gm gg : Nat) (An : Option Addr) (cn : Nat) (nodes : List S156) (tx : ByteArray) (E : Nat → Bool) (w : World) : Prop :=
  ∃ cg cs, w.heap[gm]? = some (.cells #[.slice An nodes.length cn, .string tx, .slice (some ⟨gg, 0, none⟩) nodes.length cg] 164 (0, 0)) ∧ nodes.length ≤ cg ∧ w0.heap.size ≤ gm ∧ w0.heap.size ≤ gg ∧ w.heap[gg]? = some (.cells cs 124 (0, 0)) ∧ ∀ k, k < nodes.length → ∃ v, cs[k]? = some v ∧ (v = .slice none 0 0 ∨ Row w0 w gg v (E k))
section
variable {w0 w w1 w2 : World} {gm gg cn : Nat} {An : Option Addr} {nodes : List S156} {tx : ByteArray} {E : Nat → Bool} {v : Value} {b : Bool}
theorem MK.refl (gg : Nat) (w : World) : MK gg w w := ⟨Nat.le_refl _, fun _ _ _ => rfl⟩
theorem MK.trans (h : MK gg w w1) (h2 : MK gg w1 w2) : MK gg w w2 := ⟨Nat.le_trans h.1 h2.1, fun k hk hg => (h2.2 k (Nat.lt_of_lt_of_le hk h.1) hg).trans (h.2 k hk hg)⟩
theorem MK.below (h : Below w.heap.size w w1) : MK gg w w1 := ⟨h.size, fun k hk _ => h.block k hk⟩
theorem MK.drewN (gg : Nat) (w : World) (n : Nat) : MK gg w (w.drewN n) := ⟨Nat.le_refl _, fun _ _ _ => rfl⟩
theorem Row.keep (h : Row w0 w gg v b) (hk : MK gg w w1) : Row w0 w1 gg v b := Kd.R_step h fun k ho hlt => hk.2 k hlt ho
theorem Memo.below (h : Memo w0 gm gg An cn nodes tx E w) (hb : Below w.heap.size w w1) : Memo w0 gm gg An cn nodes tx E w1 := by
  obtain ⟨cg, cs, h1, h2, h3, h4, h5, h6⟩ := h
  refine ⟨cg, cs, blk_below h1 hb, h2, h3, h4, blk_below h5 hb, fun k hk => ?_⟩
  obtain ⟨v, hv, hr⟩ := h6 k hk
  exact ⟨v, hv, hr.imp id fun h => Row.keep h (MK.below hb)⟩
theorem Memo.ne (h : Memo w0 gm gg An cn nodes tx E w) : gm ≠ gg := by
  obtain ⟨cg, cs, h1, _, _, _, h5, _⟩ := h
  exact blk_ne h1 h5 (by decide)
theorem Memo.head (h : Memo w0 gm gg An cn nodes tx E w) : ∃ cg, w.heap[gm]? = some (.cells #[.slice An nodes.length cn, .string tx, .slice (some ⟨gg, 0, none⟩) nodes.length cg] 164 (0, 0)) ∧ nodes.length ≤ cg ∧ w0.heap.size ≤ gm := by
  obtain ⟨cg, cs, h1, h2, h3, _⟩ := h
  exact ⟨cg, h1, h2, h3⟩
theorem Row.form (h : Row w0 w gg v b) : ∃ g c, v = .slice (some ⟨g, 0, none⟩) 1 c ∧ 1 ≤ c := by
  obtain ⟨g, c, h1, _⟩ := Kd.R_form h (by simp)
  obtain ⟨A, c2, h2, h3, _⟩ := Kd.R_reads h; subst h1
  injection h2 with _ _ e
  subst e
  exact ⟨g, c, rfl, h3⟩
theorem Row.C {A : Option Addr} {n c : Nat} (h : Row w0 w gg (.slice A n c) b) : Kd.C Kd.bool w A [b].length [b] := (Kd.R_reads' h).2.2
end
def EOK (w0 : World) (gm gg : Nat) (An : Option Addr) (cn : Nat) (nodes : List S156) (tx : ByteArray) (E : Nat → Bool) (at_ : Nat) : Prop := ∀ w, Memo w0 gm gg An cn nodes tx E w → Below w0.heap.size w0 w →
  Calls Try.prog 121 #[.pointer (some ⟨gm, 0, none⟩), .int .i64 (at_ : Int), .int .i64 0] w fun e w' => ∃ v, e = .returned v ∧ Row w0 w' gg v (E at_) ∧ Memo w0 gm gg An cn nodes tx E w' ∧ MK gg w w' ∧ Below w0.heap.size w0 w'
def FOK (w0 : World) (gm gg : Nat) (An : Option Addr) (cn : Nat) (nodes : List S156) (tx : ByteArray) (E : Nat → Bool) (at_ : Nat) : Prop := ∀ w, Memo w0 gm gg An cn nodes tx E w → Below w0.heap.size w0 w →
  Calls Try.prog 157 #[.pointer (some ⟨gm, 0, none⟩), .int .i64 (at_ : Int), .int .i64 0] w fun e w' => ∃ v, e = .returned v ∧ Row w0 w' gg v (E at_) ∧ Memo w0 gm gg An cn nodes tx E w' ∧ MK gg w w' ∧ Below w0.heap.size w0 w'
theorem ends_of {w0 : World} {gm gg cn : Nat} {An : Option Addr} {nodes : List S156} {tx : ByteArray} {E : Nat → Bool} (ht : tx.size = 0) (hn : nodes.length ≤ 100000) (k : Nat) (hk1 : k < nodes.length) (hf : FOK w0 gm gg An cn nodes tx E k) : EOK w0 gm gg An cn nodes tx E k := by
  intro w hM hB
  have HF := q_ hf; have HM := q_ hM; have HB := q_ hB; have HNE := q_ (Memo.ne hM); obtain ⟨cg, cs, hG, hcg, hgm, hgg, hC, hrow⟩ := hM; obtain ⟨v, hv, hvr⟩ := hrow k hk1
  have hm1 : w.cell? ⟨gm, 1, none⟩ = some (.string tx) := (blk_cell hG 1).trans rfl
  have hm2 : w.cell? ⟨gm, 2, none⟩ = some (.slice (some ⟨gg, 0, none⟩) nodes.length cg) := (blk_cell hG 2).trans rfl
  have hgk : w.cell? ⟨gg, k, none⟩ = some v := (blk_cell hC k).trans hv
  have hkz : (k : Int) < (nodes.length : Int) := by omega
  have hk0 : (0 : Int) ≤ (k : Int) := by omega
  have HG1 := q_ hG; clear hf hB hrow hv
  rcases hvr with rfl | hR
  · clear hC hgm hgg hG
    go_enter Try.func121, Try.ntmps121
    go_wp2_with fail
    have HG2 := q_ (blk_drew HG1.o); have HM1 := q_ (Memo.below HM.o (below_drew1 (Below.refl _ _)) : Memo w0 gm gg An cn nodes tx E w.drew); have HB1 := q_ (below_drew1 HB.o)
    have HK1 : J0 (MK gg w w.drew) := ⟨⟨Nat.le_refl _, fun _ _ _ => rfl⟩⟩
    clear HG1 HM HB hm1 hm2 hgk
    refine start_ (n := 11) (S := fun w' => w'.cell? ⟨gm, 2, none⟩ = some (.slice (some ⟨gg, 0, none⟩) nodes.length cg)) (ds := [10]) (bb 11 0) (by kernel_rfl) rfl rfl (by exact (blk_cell HG2.o 2).trans rfl) (fun hHeld => ?_)
    generalize hW1 : w.drew = W1 at HG2 HM1 HB1 HK1 hHeld ⊢
    refine pk_ 0 27 1 ?_; refine pk_ 1 28 3 ?_; refine pk_ 2 29 7 ?_; refine pk_ 4 31 23 ?_; refine pk_ 5 32 55 ?_; refine pk_ 6 33 119 ?_; refine pk_ 7 34 247 ?_; refine tk_ 3 30 255 hHeld ?_
    refine one_ (i := 8) (N := (some 35)) (bb 11 511) rfl rfl (by kernel_rfl) (by decide) (fun K hK => ?_)
    refine goes_ Try.func157 (by kernel_rfl) rfl #[.pointer (some ⟨gm, 0, none⟩), .int .i64 (k : Int), .int .i64 0] (by rfl) rfl rfl (by (try simp only [List.map_toArray, List.map_cons, List.map_nil]); first | done | rfl) ?_
    refine (HF.o _ HM1.o HB1.o).mono ?_
    rintro e w2 ⟨v2, rfl, hR2, hM2, hK2, hB2⟩
    refine ⟨_, rfl, ?_⟩; obtain ⟨g2, c2, rfl, hc2⟩ := Row.form hR2; have hgm2 := (hK2.2 gm (blk_lt HG2.o) HNE.o).trans HG2.o
    refine hK.out _ _ (by exact (blk_cell hgm2 2).trans rfl) (fun hHeld => ?_)
    obtain ⟨cg2, cs2, hG2, hcg2, hgm0, hgg0, hC2, hrow2⟩ := hM2; obtain ⟨vo, hvo, _⟩ := hrow2 k hk1
    have hx0 : w2.cell? ⟨gg, k, none⟩ = some vo := (blk_cell hC2 k).trans hvo
    have hf0 := blk_frozen hC2 k; clear hK K; refine no_ (some 35) ?_; refine pk_ 9 36 1023 ?_
    refine last_ (i := 10) (N := none) (bb 11 2047) rfl rfl (by kernel_rfl) (by decide) (fun K hK => ?_)
    refine skip_ (w1 := ?_) (by rfl) rfl ?_ ?_
    rotate_left
    · go_simp
      rfl
    refine hK.out _ _ ?_
    clear hK K
    refine done_ (by kernel_rfl) ?_
    have hne := HNE.o
    have hM3 : MK gg w2 (w2.setCell ⟨gg, k, none⟩ (.slice (some ⟨g2, 0, none⟩) 1 c2)) := ⟨by simp, fun j _ hj => Below.heap_setCell w2 _ _ j hj⟩
    have hC3 := blk_set hC2 k (.slice (some ⟨g2, 0, none⟩) 1 c2); have hG3 := blk_far hG2 (p := ⟨gg, k, none⟩) hne (.slice (some ⟨g2, 0, none⟩) 1 c2); have hR3 := Row.keep hR2 hM3
    have hMM : Memo w0 gm gg An cn nodes tx E (w2.setCell ⟨gg, k, none⟩ (.slice (some ⟨g2, 0, none⟩) 1 c2)) := by
      refine ⟨cg2, _, hG3, hcg2, hgm0, hgg0, hC3, fun j hj => ?_⟩
      by_cases e : j = k
      · subst e
        exact ⟨_, by rw [Array.getElem?_setIfInBounds_self_of_lt ((Array.getElem?_eq_some_iff.1 hvo).1)], .inr hR3⟩
      · obtain ⟨v, hv, hr⟩ := hrow2 j hj
        exact ⟨v, by rw [Array.getElem?_setIfInBounds_ne (Ne.symm e)]; exact hv, hr.imp id fun h => Row.keep h hM3⟩
    have hB3 := below_set hB2 hgg0 (j := k) (v := (.slice (some ⟨g2, 0, none⟩) 1 c2)); have hK3 := HK1.o.trans (hK2.trans hM3)
    have hx2 : (w2.setCell ⟨gg, k, none⟩ (.slice (some ⟨g2, 0, none⟩) 1 c2)).cell? ⟨gm, 2, none⟩ = some (.slice (some ⟨gg, 0, none⟩) nodes.length cg2) := (blk_cell hG3 2).trans rfl
    have hxk : (w2.setCell ⟨gg, k, none⟩ (.slice (some ⟨g2, 0, none⟩) 1 c2)).cell? ⟨gg, k, none⟩ = some (.slice (some ⟨g2, 0, none⟩) 1 c2) := (blk_cell hC3 k).trans (by rw [Array.getElem?_setIfInBounds_self_of_lt ((Array.getElem?_eq_some_iff.1 hvo).1)])
    have HMM := q_ hMM; have HR3 := q_ hR3; have HB3 := q_ hB3; have HK3 := q_ hK3; clear hMM hR3 hB3 hK3 hM3 hC3 hG3 hrow2 hC2 hG2 hx0 hf0 hHeld HM1 HB1 HK1 HG2 hgm2 hR2 hK2 hB2 hvo hW1
    generalize w2.setCell ⟨gg, k, none⟩ (.slice (some ⟨g2, 0, none⟩) 1 c2) = w3 at *
    go_wp2_with fail
    go_ret
    exact ⟨_, rfl, HR3.o, HMM.o, HK3.o, HB3.o⟩
  · obtain ⟨g2, c2, rfl, hc2⟩ := Row.form hR
    have HR := q_ hR; clear hC hgm hgg hG hR
    go_enter Try.func121, Try.ntmps121
    go_wp2_with fail
    go_ret
    exact ⟨_, rfl, HR.o, HM.o, MK.refl _ _, HB.o⟩
end Go.Proofs.Ytijmhelacmjggaa.P
namespace Go.Proofs.Ytijmhelacmjggaa.P
open Go.RowKit Go.Proofs.YtijmhelacmjggaaW.PrintWords Go.Proofs.YtijmhelacmjggaaW.PrintLast Go.Proofs.YtijmhelacmjggaaW.PrintMore
attribute [local go_sem] max2_int min2_int max_two min_two max_three min_three max_four min_four
set_option linter.unusedVariables false
set_option linter.unusedSimpArgs false
/-! ### spec_l4Or: function 171 -/
def spec_l4Or.l0 : Nat → List Bool → List Bool → List Bool → Int → Option (List Bool)
 | 0, _, _, _, _ => none
 | k + 1, x0, x1, x5, x6 => if x6 < (x0.length : Int) then (if 0 ≤ x6 then (if rdOf false x0 x6 = true then (if x5.length < 140737488355328 then (spec_l4Or.l0 k x0 x1 (x5 ++ [true]) (wrap64 (x6 + 1))) else (none)) else (if x6 < (x1.length : Int) then (if x5.length < 140737488355328 then (spec_l4Or.l0 k x0 x1 (x5 ++ [rdOf false x1 x6]) (wrap64 (x6 + 1))) else (none)) else (none))) else (none)) else (some x5)
def spec_l4Or.f (k : Nat) (l0 : List Bool) (l1 : List Bool) : Option (List Bool) := spec_l4Or.l0 k l0 l1 (([] : List Bool)) 0
theorem spec_l4Or.calls (k : Nat) (A0 : Option Addr) (c0 : Nat) (l0 : List Bool) (A1 : Option Addr) (c1 : Nat) (l1 : List Bool) (r : List Bool) (w : World) (hr0 : Kd.C Kd.bool w A0 l0.length l0) (hc0 : l0.length ≤ c0) (hr1 : Kd.C Kd.bool w A1 l1.length l1) (hc1 : l1.length ≤ c1) (h : spec_l4Or.f k l0 l1 = some r) :
  Calls Try.prog 171 #[.slice A0 l0.length c0, .slice A1 l1.length c1] w fun e w' => ∃ v0_ : Value, e = .returned (v0_) ∧ Kd.R Kd.bool 4 w' w.heap.size (fun _ => True) v0_ r ∧ Below w.heap.size w w' := by
 have HR0 := q_ hr0; have HC0 := q_ hc0; clear hr0 hc0; have HR1 := q_ hr1; have HC1 := q_ hc1; clear hr1 hc1; have HB := q_ (Below.refl w.heap.size w)
 have H : (spec_l4Or.l0 k l0 l1 (([] : List Bool)) 0) = some r := h
 clear h
 obtain ⟨y101, hy101⟩ : ∃ y_ : List Bool, y_ = (([] : List Bool)) := ⟨_, rfl⟩
 replace H : (spec_l4Or.l0 k l0 l1 y101 0) = some r := by first | (rw [hy101]; with_reducible exact H) | (have H2_ := (Option.bind_some _ _).symm.trans H; rw [hy101]; with_reducible exact H2_) | (have H2_ := (Option.bind_some _ _).symm.trans H; with_reducible exact H2_) | with_reducible exact H | (rw [hy101]; exact H) | exact H
 have Ny101 := q_ hy101; clear hy101
 have H' := q_ H
 clear H
 go_enter Try.func171, Try.ntmps171
 go_wp2_with (((with_reducible refine gate_dst (N := 7) rfl ?_); refine Kd.R_lit Kd.bool _ 4 ?hg (N := 7) ?hd (xs := ([] : List Bool)) (inner := []) (ok := fun _ => True) (okp := fun _ => True) ?hr ?hp (fun _ hk => hk) trivial (Below.refl _ _) (Nat.le_refl _) (by simp) ?_; (case hd => rfl); (case hg => rfl); (case hr => first | (go_simp; done) | (go_simp; rfl)); (case hp => exact (Reps.none _ _)); intro v102 w3 ho4 hb hg_ hnew_; clear hg_ hnew_; (first | rw [← Ny101.o] at ho4 | (simp only [Int.reduceToNat] at ho4; rw [← Ny101.o] at ho4)); have HO103 := q_ (Kd.R_lower ho4 (below_size (be_ HB.o))); replace HB := sb_ HB hb; clear hb ho4))
 go_loopg [5, 6] k (fun kq v5 v6 w' => ∃ (x5_1 : List Bool) (x6_1 : Int), v6 = .int .i64 x6_1 ∧ J0 (spec_l4Or.l0 kq l0 l1 x5_1 x6_1 = some r) ∧ J0 (kq ≤ k) ∧ J0 (Kd.R Kd.bool 4 w' w.heap.size (fun _ => True) v5 x5_1) ∧ J0 (Below w.heap.size w w'))
 case atStart => exact ⟨(y101), (0), rs_, H', ⟨Nat.le_refl _⟩, ⟨ra_ HO103.o⟩, ⟨be_ HB.o⟩⟩
 case round =>
  clear H'; (try clear c1); obtain ⟨x5_1, x6_1, rfl, HA, HK1, HO_5, HB⟩ := hrel
  cases gk with
  | zero => exact absurd HA.o (by simp [spec_l4Or.l0])
  | succ k1 =>
   have H := HA.o; clear HA
   simp only [spec_l4Or.l0] at H
   by_cases c5 : x6_1 < (l0.length : Int)
   ·rw [if_pos c5] at H; have c5b0 := dt_ c5; clear c5
    by_cases c6 : 0 ≤ x6_1
    ·rw [if_pos c6] at H; have c6b0 := dt_ c6; clear c6
     obtain ⟨bq7, hbq7⟩ : ∃ b_ : Bool, b_ = (rdOf false l0 x6_1) := ⟨_, rfl⟩
     replace H : (if bq7 = true then (if x5_1.length < 140737488355328 then (spec_l4Or.l0 k1 l0 l1 (x5_1 ++ [true]) (wrap64 (x6_1 + 1))) else (none)) else (if x6_1 < (l1.length : Int) then (if x5_1.length < 140737488355328 then (spec_l4Or.l0 k1 l0 l1 (x5_1 ++ [rdOf false l1 x6_1]) (wrap64 (x6_1 + 1))) else (none)) else (none))) = some r := by rw [← hbq7] at H; exact H
     have Nbq7 := q_ hbq7; clear hbq7
     by_cases c8 : bq7 = true
     ·subst c8; rw [if_pos rfl] at H
      by_cases c9 : x5_1.length < 140737488355328
      ·rw [if_pos c9] at H; have LMc9 := q_ c9; clear c9
       obtain ⟨y105, hy105⟩ : ∃ y_ : List Bool, y_ = (x5_1 ++ [true]) := ⟨_, rfl⟩
       replace H : (spec_l4Or.l0 k1 l0 l1 y105 (wrap64 (x6_1 + 1))) = some r := by first | (rw [hy105]; with_reducible exact H) | (have H2_ := (Option.bind_some _ _).symm.trans H; rw [hy105]; with_reducible exact H2_) | (have H2_ := (Option.bind_some _ _).symm.trans H; with_reducible exact H2_) | with_reducible exact H | (rw [hy105]; exact H) | exact H
       have Ny105 := q_ hy105; clear hy105
       have H' := q_ H
       clear H
       have p104 : 0 ≤ (x6_1 : Int) := of_decide_eq_true as_
       have q104 : x6_1 < (l0.length : Int) := of_decide_eq_true as_
       obtain ⟨ad104, e104, hx104_0⟩ := Kd.at_bool HR0.o x6_1 p104 q104
       (try rw [← Nbq7.o] at hx104_0)
       cases e104
       replace hx104_0 := mv_ HB.o hx104_0; replace p104 := eq_true p104; replace q104 := eq_true q104
       go_wp2_with (((with_reducible refine gate_builtin (b := .append) (xs := #[.tmp 14, .tmp 25]) rfl ?_); at_builtin; refine Kd.R_append Kd.bool (w0 := w) w.heap.size rfl (.tmp 14) (.tmp 25) 124 4 (.bool false) 1 rfl Try.underlying124 info4 rfl (by decide) (by omega) u5 x5_1 true [.bool true] (fun _ => True) (fun _ => False) rfl rfl ?aP (fun _ hk => hk.elim) ?aF ?aO ?aB ?aS ?aL ?_; (case aP => exact rfl); (case aB => exact (be_ HB.o)); (case aF => exact (fun _ _ => trivial)); (case aO => exact (ra_ HO_5.o)); (case aS => exact (below_size (be_ HB.o))); (case aL => have := LMc9.o; omega); intro v106 w10 ho hb hg hat; rw [← Ny105.o] at ho; have HO107 := q_ (ho); replace HB := q_ (hb); clear HO_5; clear ho hb hg hat))
       go_roundg k1
       case measure => have := HK1.o; omega
       case rel => exact ⟨(y105), (wrap64 (x6_1 + 1)), rs_, H', ⟨by have := HK1.o; omega⟩, ⟨ra_ HO107.o⟩, ⟨be_ HB.o⟩⟩
      ·rw [if_neg c9] at H
       exact absurd H (by simp)
     ·replace c8 := Bool.eq_false_iff.mpr c8; subst c8; rw [if_neg nft_] at H
      by_cases c11 : x6_1 < (l1.length : Int)
      ·rw [if_pos c11] at H; have c11b0 := dt_ c11; clear c11
       by_cases c12 : x5_1.length < 140737488355328
       ·rw [if_pos c12] at H; have LMc12 := q_ c12; clear c12
        obtain ⟨y109, hy109⟩ : ∃ y_ : List Bool, y_ = (x5_1 ++ [rdOf false l1 x6_1]) := ⟨_, rfl⟩
        replace H : (spec_l4Or.l0 k1 l0 l1 y109 (wrap64 (x6_1 + 1))) = some r := by first | (rw [hy109]; with_reducible exact H) | (have H2_ := (Option.bind_some _ _).symm.trans H; rw [hy109]; with_reducible exact H2_) | (have H2_ := (Option.bind_some _ _).symm.trans H; with_reducible exact H2_) | with_reducible exact H | (rw [hy109]; exact H) | exact H
        have Ny109 := q_ hy109; clear hy109
        have H' := q_ H
        clear H
        have p104 : 0 ≤ (x6_1 : Int) := of_decide_eq_true as_
        have q104 : x6_1 < (l0.length : Int) := of_decide_eq_true as_
        obtain ⟨ad104, e104, hx104_0⟩ := Kd.at_bool HR0.o x6_1 p104 q104
        (try rw [← Nbq7.o] at hx104_0)
        cases e104
        replace hx104_0 := mv_ HB.o hx104_0; replace p104 := eq_true p104; replace q104 := eq_true q104
        have p108 : 0 ≤ (x6_1 : Int) := of_decide_eq_true as_
        have q108 : x6_1 < (l1.length : Int) := of_decide_eq_true as_
        obtain ⟨ad108, e108, hx108_0⟩ := Kd.at_bool HR1.o x6_1 p108 q108
        (try rw [← Nbq7.o] at hx108_0)
        cases e108
        replace hx108_0 := mv_ HB.o hx108_0; replace p108 := eq_true p108; replace q108 := eq_true q108
        go_wp2_with (((with_reducible refine gate_builtin (b := .append) (xs := #[.tmp 14, .tmp 25]) rfl ?_); at_builtin; refine Kd.R_append Kd.bool (w0 := w) w.heap.size rfl (.tmp 14) (.tmp 25) 124 4 (.bool false) 1 rfl Try.underlying124 info4 rfl (by decide) (by omega) u5 x5_1 (rdOf false l1 x6_1) [.bool (rdOf false l1 x6_1)] (fun _ => True) (fun _ => False) rfl rfl ?aP (fun _ hk => hk.elim) ?aF ?aO ?aB ?aS ?aL ?_; (case aP => exact rfl); (case aB => exact (be_ HB.o)); (case aF => exact (fun _ _ => trivial)); (case aO => exact (ra_ HO_5.o)); (case aS => exact (below_size (be_ HB.o))); (case aL => have := LMc12.o; omega); intro v110 w13 ho hb hg hat; rw [← Ny109.o] at ho; have HO111 := q_ (ho); replace HB := q_ (hb); clear HO_5; clear ho hb hg hat))
        go_roundg k1
        case measure => have := HK1.o; omega
        case rel => exact ⟨(y109), (wrap64 (x6_1 + 1)), rs_, H', ⟨by have := HK1.o; omega⟩, ⟨ra_ HO111.o⟩, ⟨be_ HB.o⟩⟩
       ·rw [if_neg c12] at H
        exact absurd H (by simp)
      ·rw [if_neg c11] at H
       exact absurd H (by simp)
    ·rw [if_neg c6] at H
     exact absurd H (by simp)
   ·rw [if_neg c5] at H; have c5b0 := df_ c5; clear c5; obtain rfl := Option.some.inj H
    go_wp2
    go_ret
    exact ⟨_, rt_, ra_ HO_5.o, be_ HB.o⟩
end Go.Proofs.Ytijmhelacmjggaa.P
namespace Go.Proofs.Ytijmhelacmjggaa.P
open Go.RowKit Go.Shelf Go.Proofs.YtijmhelacmjggaaW.PrintWords Go.Proofs.YtijmhelacmjggaaW.PrintLast Go.Proofs.YtijmhelacmjggaaW.PrintMore Go.Proofs.YtijmhelacmjggaaEv
set_option linter.unusedVariables false
set_option linter.unusedSimpArgs false
theorem Row.new {w0 W w1 : World} {gg : Nat} {v : Value} {b : Bool} (h : Kd.R Kd.bool 4 w1 W.heap.size (fun _ => True) v [b]) (hB : Below w0.heap.size w0 W) (hg : gg < W.heap.size) : Row w0 w1 gg v b :=
  Kd.R_lower (Kd.R_mono (Kd.R_bound h) fun k hk => by have := hk.2.1; omega) hB.size
theorem Row.cell {w0 w : World} {gg g c : Nat} {b : Bool} (h : Row w0 w gg (.slice (some ⟨g, 0, none⟩) 1 c) b) : w.cell? ⟨g, 0, none⟩ = some (.bool b) := by
  obtain ⟨ad, e, hc⟩ := Kd.at_bool (Row.C h) 0 (by omega) (by simp)
  cases e
  exact hc
theorem Row.frozen {w0 w : World} {gg g c : Nat} {b : Bool} (h : Row w0 w gg (.slice (some ⟨g, 0, none⟩) 1 c) b) : w.frozen? ⟨g, 0, none⟩ = false := by
  obtain ⟨cells, hc⟩ := Kd.R_typed h g rfl
  exact blk_frozen hc 0
theorem Memo.gg_lt {w0 w : World} {gm gg cn : Nat} {An : Option Addr} {nodes : List S156} {tx : ByteArray} {E : Nat → Bool} (h : Memo w0 gm gg An cn nodes tx E w) : gg < w.heap.size := by
  obtain ⟨cg, cs, _, _, _, _, h5, _⟩ := h
  exact blk_lt h5
theorem or_one (a b : Bool) : ∃ k, spec_l4Or.f k [a] [b] = some [a || b] := by
  refine ⟨4, ?_⟩
  cases a <;> cases b <;> simp [spec_l4Or.f, spec_l4Or.l0, rdOf, wrap_id]
theorem step_of {w0 : World} {gm gg cn : Nat} {An : Option Addr} {nodes : List S156} {tx : ByteArray} {E : Nat → Bool} (kid : Nat) (he : EOK w0 gm gg An cn nodes tx E kid) (v : Value) (b : Bool) (w : World) (hM : Memo w0 gm gg An cn nodes tx E w) (hB : Below w0.heap.size w0 w) (hv : Row w0 w gg v b) :
    Calls Try.prog 170 #[.pointer (some ⟨gm, 0, none⟩), .int .i64 (kid : Int), v] w fun e w' => ∃ v', e = .returned v' ∧ Row w0 w' gg v' (b && E kid) ∧ Memo w0 gm gg An cn nodes tx E w' ∧ MK gg w w' ∧ Below w0.heap.size w0 w' := by
  have HE := q_ he; have HM := q_ hM; have HB := q_ hB; have HK := q_ (MK.refl gg w); obtain ⟨g, c, rfl, hc⟩ := Row.form hv; have HV := q_ hv; clear he hM hB hv
  go_enter Try.func170, Try.ntmps170
  go_wp2_with ((with_reducible refine gate_dst (N := 11) rfl ?_); refine Kd.R_make Kd.bool _ 4 rfl (N := 11) rfl 124 _ _ rfl (1 : Int) rfl rfl Try.underlying124 (.bool false) 1 info4 rfl (by decide) (by omega) false (ok := fun _ => True) (okp := fun _ => True) rfl (fun _ hk => hk) trivial (by omega) (by decide) (Below.refl _ _) (Nat.le_refl _) ?_; intro H7v w_ ho hb hg_ hnew_; clear hg_; replace ho : Kd.R Kd.bool 4 w_ _ (fun _ => True) H7v [false] := ho; have H7 := q_ (Row.new ho HB.o (Memo.gg_lt HM.o)); have nHV := q_ (Row.keep HV.o (MK.below hb)); clear HV; have HV := nHV; clear nHV; have nM := q_ (Memo.below HM.o hb); have nB := q_ (below_step HB.o hb); have nK := q_ (HK.o.trans (MK.below hb)); clear HM HB HK ho hb hnew_; have HM := nM; have HB := nB; have HK := nK; clear nM nB nK)
  obtain ⟨g7, c7, rfl, hc7⟩ := Row.form H7.o
  go_loopg [7, 8] 2 (fun gk_ v7 v8 wr => ∃ (kk : Nat), v8 = .int .i64 (kk : Int) ∧ kk ≤ 1 ∧ 2 - kk ≤ gk_ ∧ J0 (Row w0 wr gg v7 (if kk = 0 then false else b && E kid)) ∧ J0 (Row w0 wr gg (.slice (some ⟨g, 0, none⟩) 1 c) b) ∧ J0 (Memo w0 gm gg An cn nodes tx E wr) ∧ J0 (Below w0.heap.size w0 wr) ∧ J0 (MK gg w wr))
  case atStart => exact ⟨0, rfl, by omega, by omega, H7, HV, HM, HB, HK⟩
  case round =>
    clear H7 HV HM HB HK; obtain ⟨kk, rfl, hkk, hgk, H7, HV, HM, HB, HK⟩ := hrel; obtain ⟨g8, c8, rfl, hc8⟩ := Row.form H7.o; have hx0 := Row.cell HV.o
    obtain rfl | rfl : kk = 0 ∨ kk = 1 := by omega
    · cases b with
      | false =>
        go_wp2_with fail
        go_roundg 1
        case measure => omega
        case rel => exact ⟨1, rfl, by omega, by omega, H7, HV, HM, HB, HK⟩
      | true =>
        go_wp2_with (first | (go_at_call 121; refine (HE.o _ HM.o HB.o).mono ?_; rintro e w_ ⟨v_, rfl, hR_, hM_, hK_, hB_⟩; have nH7 := q_ (Row.keep H7.o hK_); have nHV := q_ (Row.keep HV.o hK_); clear H7; have H7 := nH7; clear nH7; clear HV; have HV := nHV; clear nHV; obtain ⟨g_, c_, rfl, hc_⟩ := Row.form hR_; have H9 := q_ hR_; have nK := q_ (HK.o.trans hK_); clear HM HB HK hR_ hK_; have HM := q_ hM_; have HB := q_ hB_; have HK := nK; clear nK hM_ hB_) | (go_at_call 171; obtain ⟨k_, hk_⟩ := or_one false (E kid); refine (spec_l4Or.calls k_ _ _ [false] _ _ [(E kid)] _ _ (Row.C H7.o) (Kd.R_reads' H7.o).2.1 (Row.C H9.o) (Kd.R_reads' H9.o).2.1 hk_).mono ?_; rintro e w_ ⟨H10v, rfl, ho, hb⟩; have H10 := q_ (Row.new ho HB.o (Memo.gg_lt HM.o)); have nHV := q_ (Row.keep HV.o (MK.below hb)); clear HV; have HV := nHV; clear nHV; have nM := q_ (Memo.below HM.o hb); have nB := q_ (below_step HB.o hb); have nK := q_ (HK.o.trans (MK.below hb)); clear HM HB HK ho hb hk_; have HM := nM; have HB := nB; have HK := nK; clear nM nB nK))
        go_roundg 1
        case measure => omega
        case rel => exact ⟨1, rfl, by omega, by omega, ⟨by have h := H10.o; simpa using h⟩, HV, HM, HB, HK⟩
    · go_wp2_with fail
      go_ret
      exact ⟨_, rfl, by have h := H7.o; simpa using h, HM.o, HK.o, HB.o⟩
theorem again_of {w0 : World} {gm gg cn : Nat} {An : Option Addr} {nodes : List S156} {tx : ByteArray} {E : Nat → Bool} (kid : Nat) (he : EOK w0 gm gg An cn nodes tx E kid) (v : Value) (b : Bool) (w : World) (hM : Memo w0 gm gg An cn nodes tx E w) (hB : Below w0.heap.size w0 w) (hv : Row w0 w gg v b) :
    Calls Try.prog 172 #[.pointer (some ⟨gm, 0, none⟩), .int .i64 (kid : Int), v] w fun e w' => ∃ v', e = .returned v' ∧ Row w0 w' gg v' b ∧ Memo w0 gm gg An cn nodes tx E w' ∧ MK gg w w' ∧ Below w0.heap.size w0 w' := by
  have HE := q_ he; have HM := q_ hM; have HB := q_ hB; have HK := q_ (MK.refl gg w); obtain ⟨g, c, rfl, hc⟩ := Row.form hv; have HV := q_ hv; clear he hM hB hv
  go_enter Try.func172, Try.ntmps172
  go_wp2_with (first | (go_at_call 171; obtain ⟨k_, hk_⟩ := or_one b b; refine (spec_l4Or.calls k_ _ _ [b] _ _ [b] _ _ (Row.C HV.o) (Kd.R_reads' HV.o).2.1 (Row.C HV.o) (Kd.R_reads' HV.o).2.1 hk_).mono ?_; rintro e w_ ⟨H7v, rfl, ho, hb⟩; have H7 := q_ (Row.new ho HB.o (Memo.gg_lt HM.o)); have nHV := q_ (Row.keep HV.o (MK.below hb)); clear HV; have HV := nHV; clear nHV; (try rw [Bool.or_self] at H7); have nM := q_ (Memo.below HM.o hb); have nB := q_ (below_step HB.o hb); have nK := q_ (HK.o.trans (MK.below hb)); clear HM HB HK ho hb hk_; have HM := nM; have HB := nB; have HK := nK; clear nM nB nK) | ((with_reducible refine gate_dst (N := 15) rfl ?_); refine Kd.R_make Kd.bool _ 4 rfl (N := 15) rfl 124 _ _ rfl (1 : Int) rfl rfl Try.underlying124 (.bool false) 1 info4 rfl (by decide) (by omega) false (ok := fun _ => True) (okp := fun _ => True) rfl (fun _ hk => hk) trivial (by omega) (by decide) (Below.refl _ _) (Nat.le_refl _) ?_; intro H8v w_ ho hb hg_ hnew_; clear hg_; replace ho : Kd.R Kd.bool 4 w_ _ (fun _ => True) H8v [false] := ho; have H8 := q_ (Row.new ho HB.o (Memo.gg_lt HM.o)); have H1 : ∃ W1 : World, Memo w0 gm gg An cn nodes tx E W1 ∧ Row w0 W1 gg (.slice (some ⟨g, 0, none⟩) 1 c) b ∧ Row w0 W1 gg H7v b ∧ Below W1.heap.size W1 w_ ∧ (∃ b_, H8v.ownBlock = some b_ ∧ W1.heap.size ≤ b_) ∧ Below w0.heap.size w0 W1 ∧ MK gg w W1 := ⟨_, HM.o, HV.o, H7.o, hb, hnew_, HB.o, HK.o⟩; have nHV := q_ (Row.keep HV.o (MK.below hb)); have nH7 := q_ (Row.keep H7.o (MK.below hb)); clear HV; have HV := nHV; clear nHV; clear H7; have H7 := nH7; clear nH7; have nM := q_ (Memo.below HM.o hb); have nB := q_ (below_step HB.o hb); have nK := q_ (HK.o.trans (MK.below hb)); clear HM HB HK ho hb hnew_; have HM := nM; have HB := nB; have HK := nK; clear nM nB nK))
  obtain ⟨W1, hM1, hV1, h71, hb1, ⟨g8', e8, hg8⟩, hB1, hK1⟩ := H1
  obtain ⟨g7, c7, rfl, hc7⟩ := Row.form H7.o; obtain ⟨g8, c8, rfl, hc8⟩ := Row.form H8.o
  obtain rfl : g8 = g8' := by simpa [Value.ownBlock] using e8
  have HM1 := q_ hM1; have HV1 := q_ hV1; have H71 := q_ h71; have HB1 := q_ hB1; have HK1 := q_ hK1; have Hb1 := q_ hb1; have HG8 := q_ hg8; clear hM1 hV1 h71 hB1 hb1 hg8 e8 hK1
  go_loopg [7, 9] 2 (fun gk_ v7 v9 wr => ∃ (kk : Nat), v9 = .int .i64 (kk : Int) ∧ kk ≤ 1 ∧ 2 - kk ≤ gk_ ∧ J0 (kk = 0 → v7 = .slice (some ⟨g7, 0, none⟩) 1 c7 ∧ Below W1.heap.size W1 wr ∧ Row w0 wr gg (.slice (some ⟨g8, 0, none⟩) 1 c8) false) ∧ J0 (Row w0 wr gg v7 b) ∧ J0 (Memo w0 gm gg An cn nodes tx E wr) ∧ J0 (Below w0.heap.size w0 wr) ∧ J0 (MK gg w wr))
  case atStart => exact ⟨0, rfl, by omega, by omega, ⟨fun _ => ⟨rfl, Hb1.o, H8.o⟩⟩, H7, HM, HB, HK⟩
  case round =>
    clear H7 H8 HV HM HB HK Hb1; obtain ⟨kk, rfl, hkk, hgk, HZ, H7, HM, HB, HK⟩ := hrel
    obtain rfl | rfl : kk = 0 ∨ kk = 1 := by omega
    · obtain ⟨rfl, hbw, h8⟩ := HZ.o rfl
      have hx7 := Row.cell H7.o; have hx8 := Row.cell h8; have hf8 := Row.frozen h8; have Hbw := q_ hbw; have H8 := q_ h8; clear HZ hbw h8
      cases b with
      | false =>
        go_wp2_with fail
        go_roundg 1
        case measure => omega
        case rel => exact ⟨1, rfl, by omega, by omega, ⟨fun h => absurd h (by omega)⟩, H7, HM, HB, HK⟩
      | true =>
        go_upto_region 8 with (fail)
        have Hbs := below_set Hbw.o HG8.o (j := 0) (v := .bool true); clear H7 HM HB HK Hbw H8 hx7 hx8 hf8; have HM := q_ (Memo.below HM1.o Hbs); have H7 := q_ (Row.keep H71.o (MK.below (gg := gg) Hbs)); have HK := q_ (HK1.o.trans (MK.below (gg := gg) Hbs)); have HB := q_ (below_step HB1.o Hbs); clear Hbs
        generalize wr.setCell ⟨g8, 0, none⟩ (.bool true) = w9 at *
        go_wp2_with (first | (go_at_call 121; refine (HE.o _ HM.o HB.o).mono ?_; rintro e w_ ⟨v_, rfl, hR_, hM_, hK_, hB_⟩; have nH7 := q_ (Row.keep H7.o hK_); clear H7; have H7 := nH7; clear nH7; obtain ⟨g_, c_, rfl, hc_⟩ := Row.form hR_; have H9 := q_ hR_; have nK := q_ (HK.o.trans hK_); clear HM HB HK hR_ hK_; have HM := q_ hM_; have HB := q_ hB_; have HK := nK; clear nK hM_ hB_) | (go_at_call 171; obtain ⟨k_, hk_⟩ := or_one true (E kid); refine (spec_l4Or.calls k_ _ _ [true] _ _ [(E kid)] _ _ (Row.C H7.o) (Kd.R_reads' H7.o).2.1 (Row.C H9.o) (Kd.R_reads' H9.o).2.1 hk_).mono ?_; rintro e w_ ⟨H10v, rfl, ho, hb⟩; have H10 := q_ (Row.new ho HB.o (Memo.gg_lt HM.o)); have nM := q_ (Memo.below HM.o hb); have nB := q_ (below_step HB.o hb); have nK := q_ (HK.o.trans (MK.below hb)); clear HM HB HK ho hb hk_; have HM := nM; have HB := nB; have HK := nK; clear nM nB nK))
        go_roundg 1
        case measure => omega
        case rel => exact ⟨1, rfl, by omega, by omega, ⟨fun h => absurd h (by omega)⟩, ⟨by have h := H10.o; simpa using h⟩, HM, HB, HK⟩
    · have hfm := Row.form H7.o
      obtain ⟨g9, c9, rfl, hc9⟩ := hfm; clear HZ
      go_wp2_with fail
      go_ret
      exact ⟨_, rfl, H7.o, HM.o, HK.o, HB.o⟩
theorem find_empty {w0 : World} {gm gg cn : Nat} {An : Option Addr} {nodes : List S156} {tx : ByteArray} {E : Nat → Bool} (ht : tx.size = 0) (hn : nodes.length ≤ 100000) (k : Nat) (hk1 : k < nodes.length) (hN : Kd.C k156 w0 An nodes.length nodes) (hop : (rd_T156 nodes (k : Int)).f0 = 1) (hE : E k = true) : FOK w0 gm gg An cn nodes tx E k := by
  intro w hM hB
  obtain ⟨ad, A1, c1, A2, c2, rfl, hx0, hx1, hx2, hx3, hx4, _, _, hc2, hC2⟩ := at_T156 hN (k : Int) (by omega) (by omega)
  rw [Int.toNat_natCast] at hx0 hx1 hx2 hx3 hx4
  replace hx0 := (hB.cell (World.block_lt_of_cell? w0 _ hx0)).trans hx0; replace hx1 := (hB.cell (World.block_lt_of_cell? w0 _ hx1)).trans hx1; replace hx2 := (hB.cell (World.block_lt_of_cell? w0 _ hx2)).trans hx2; replace hx3 := (hB.cell (World.block_lt_of_cell? w0 _ hx3)).trans hx3; replace hx4 := (hB.cell (World.block_lt_of_cell? w0 _ hx4)).trans hx4
  obtain ⟨x, hxd⟩ : ∃ x, rd_T156 nodes (k : Int) = x := ⟨_, rfl⟩
  rw [hxd] at hx0 hx1 hx2 hx3 hx4 hc2 hC2 hop
  rw [hop] at hx0
  clear hxd
  skip
  obtain ⟨cg, hG, hcg, hgm⟩ := Memo.head hM
  have hm0 : w.cell? ⟨gm, 0, none⟩ = some (.slice (some ad) nodes.length cn) := (blk_cell hG 0).trans rfl
  have hm1 : w.cell? ⟨gm, 1, none⟩ = some (.string tx) := (blk_cell hG 1).trans rfl
  have ha1 : (w.alloc (.cells #[.int .i64 1, .slice A1 x.f1.length c1, .slice A2 x.f2.length c2, .int .i64 x.f3, .int .i64 x.f4] 156)).cell? ⟨gm, 1, none⟩ = some (.string tx) := (blk_cell (blk_alloc hG _) 1).trans rfl
  have hkz : (k : Int) < (nodes.length : Int) := by omega
  have hk0 : (0 : Int) ≤ (k : Int) := by omega
  obtain ⟨gn, hgn⟩ : ∃ gn, w.heap.size = gn := ⟨_, rfl⟩
  have HGN : J0 (gn ≠ gg) := ⟨by have := Memo.gg_lt hM; omega⟩
  have BN : J0 ((w.alloc (.cells #[.int .i64 1, .slice A1 x.f1.length c1, .slice A2 x.f2.length c2, .int .i64 x.f3, .int .i64 x.f4] 156)).heap[gn]? = some (.cells #[.int .i64 1, .slice A1 x.f1.length c1, .slice A2 x.f2.length c2, .int .i64 x.f3, .int .i64 x.f4] 156 (0, 0))) := ⟨by rw [← hgn]; exact blk_new w _⟩
  have HK := q_ (MK.below (gg := gg) (below_alloc (Below.refl w.heap.size w) (.cells #[.int .i64 1, .slice A1 x.f1.length c1, .slice A2 x.f2.length c2, .int .i64 x.f3, .int .i64 x.f4] 156))); have HB := q_ (below_alloc hB (.cells #[.int .i64 1, .slice A1 x.f1.length c1, .slice A2 x.f2.length c2, .int .i64 x.f3, .int .i64 x.f4] 156)); have HM := q_ (Memo.below hM (below_alloc (Below.refl w.heap.size w) (.cells #[.int .i64 1, .slice A1 x.f1.length c1, .slice A2 x.f2.length c2, .int .i64 x.f3, .int .i64 x.f4] 156))); have HE := q_ hE; clear hG hM hB hE
  go_enter Try.func157, Try.ntmps157
  go_upto_region 5 with (first | ((with_reducible refine gate_dst (N := 26) rfl ?_); refine Kd.R_make Kd.bool _ 4 rfl (N := 26) rfl 124 _ _ rfl (1 : Int) rfl rfl Try.underlying124 (.bool false) 1 info4 rfl (by decide) (by omega) false (ok := fun _ => True) (okp := fun _ => True) rfl (fun _ hk => hk) trivial (by omega) (by decide) (Below.refl _ _) (Nat.le_refl _) ?_; intro H8v w_ ho hb hg_ hnew_; clear hg_; replace ho : Kd.R Kd.bool 4 w_ _ (fun _ => True) H8v [false] := ho; have H8 := q_ (Row.new ho HB.o (Memo.gg_lt HM.o)); have nBN := q_ (blk_below BN.o hb); clear BN; have BN := nBN; clear nBN; have nM := q_ (Memo.below HM.o hb); have nB := q_ (below_step HB.o hb); have nK := q_ (HK.o.trans (MK.below hb)); clear HM HB HK ho hb hnew_; have HM := nM; have HB := nB; have HK := nK; clear nM nB nK; obtain ⟨cg_, hG_, _, _⟩ := Memo.head HM.o; have ha2 : w_.cell? ⟨gm, 1, none⟩ = some (.string tx) := (blk_cell hG_ 1).trans rfl; clear hG_) | ((with_reducible refine gate_dst (N := 33) rfl ?_); refine Kd.R_make Kd.bool _ 4 rfl (N := 33) rfl 124 _ _ rfl (1 : Int) rfl rfl Try.underlying124 (.bool false) 1 info4 rfl (by decide) (by omega) false (ok := fun _ => True) (okp := fun _ => True) rfl (fun _ hk => hk) trivial (by omega) (by decide) (Below.refl _ _) (Nat.le_refl _) ?_; intro H9v w_ ho hb hg_ hnew_; clear hg_; replace ho : Kd.R Kd.bool 4 w_ _ (fun _ => True) H9v [false] := ho; have H9 := q_ (Row.new ho HB.o (Memo.gg_lt HM.o)); have HX1 : ∃ W1 : World, Memo w0 gm gg (some ad) cn nodes tx E W1 ∧ Row w0 W1 gg H8v false ∧ W1.heap[gn]? = some (.cells #[.int .i64 1, .slice A1 x.f1.length c1, .slice A2 x.f2.length c2, .int .i64 x.f3, .int .i64 x.f4] 156 (0, 0)) ∧ Below W1.heap.size W1 w_ ∧ (∃ b_, H9v.ownBlock = some b_ ∧ W1.heap.size ≤ b_) ∧ Below w0.heap.size w0 W1 ∧ MK gg w W1 := ⟨_, HM.o, H8.o, BN.o, hb, hnew_, HB.o, HK.o⟩; have nH8 := q_ (Row.keep H8.o (MK.below hb)); clear H8; have H8 := nH8; clear nH8; have nBN := q_ (blk_below BN.o hb); clear BN; have BN := nBN; clear nBN; have nM := q_ (Memo.below HM.o hb); have nB := q_ (below_step HB.o hb); have nK := q_ (HK.o.trans (MK.below hb)); clear HM HB HK ho hb hnew_; have HM := nM; have HB := nB; have HK := nK; clear nM nB nK; obtain ⟨H9g, H9c, rfl, H9h⟩ := Row.form H9.o; have hx9 := Row.cell H9.o; have hf9 := Row.frozen H9.o))
  obtain ⟨W1, hM1, h81, hBN1, hb1, ⟨g9', e9, hg9⟩, hB1, hK1⟩ := HX1
  obtain rfl : H9g = g9' := by simpa [Value.ownBlock] using e9
  have Hbs := below_set hb1 hg9 (j := 0) (v := .bool true); have nH9 := q_ ((Kd.R_put H9.o 0 true).1); clear H8 H9 HM HB HK BN; have HM := q_ (Memo.below hM1 Hbs); have H8 := q_ (Row.keep h81 (MK.below (gg := gg) Hbs)); have HK := q_ (hK1.trans (MK.below (gg := gg) Hbs)); have HB := q_ (below_step hB1 Hbs); have BN := q_ (blk_below hBN1 Hbs)
  have H9 : J0 (Row w0 (w_.setCell ⟨H9g, 0, none⟩ (.bool true)) gg (.slice (some ⟨H9g, 0, none⟩) 1 H9c) true) := nH9
  clear nH9 Hbs hM1 h81 hBN1 hb1 hg9 e9 hB1 hK1 hx9 hf9
  generalize w_.setCell ⟨H9g, 0, none⟩ (.bool true) = w9 at *
  obtain ⟨H8g, H8c, rfl, hH8⟩ := Row.form H8.o; obtain ⟨cg_, hG_, _, _⟩ := Memo.head HM.o
  have ht1 : w9.cell? ⟨gm, 1, none⟩ = some (.string tx) := (blk_cell hG_ 1).trans rfl
  clear hG_
  have hn0 : w9.cell? ⟨gn, 0, none⟩ = some (.int .i64 1) := (blk_cell BN.o 0).trans rfl
  have hn2 : w9.cell? ⟨gn, 2, none⟩ = some (.slice A2 x.f2.length c2) := (blk_cell BN.o 2).trans rfl
  have hn3 : w9.cell? ⟨gn, 3, none⟩ = some (.int .i64 x.f3) := (blk_cell BN.o 3).trans rfl
  have hn4 : w9.cell? ⟨gn, 4, none⟩ = some (.int .i64 x.f4) := (blk_cell BN.o 4).trans rfl
  go_wp2_with fail
  go_ret
  exact ⟨_, rfl, by rw [HE.o]; exact H9.o, HM.o, HK.o, HB.o⟩
theorem find_set {w0 : World} {gm gg cn : Nat} {An : Option Addr} {nodes : List S156} {tx : ByteArray} {E : Nat → Bool} (ht : tx.size = 0) (hn : nodes.length ≤ 100000) (k : Nat) (hk1 : k < nodes.length) (hN : Kd.C k156 w0 An nodes.length nodes) (hop : (rd_T156 nodes (k : Int)).f0 = 2) (hE : E k = false) : FOK w0 gm gg An cn nodes tx E k := by
  intro w hM hB
  obtain ⟨ad, A1, c1, A2, c2, rfl, hx0, hx1, hx2, hx3, hx4, _, _, hc2, hC2⟩ := at_T156 hN (k : Int) (by omega) (by omega)
  rw [Int.toNat_natCast] at hx0 hx1 hx2 hx3 hx4
  replace hx0 := (hB.cell (World.block_lt_of_cell? w0 _ hx0)).trans hx0; replace hx1 := (hB.cell (World.block_lt_of_cell? w0 _ hx1)).trans hx1; replace hx2 := (hB.cell (World.block_lt_of_cell? w0 _ hx2)).trans hx2; replace hx3 := (hB.cell (World.block_lt_of_cell? w0 _ hx3)).trans hx3; replace hx4 := (hB.cell (World.block_lt_of_cell? w0 _ hx4)).trans hx4
  obtain ⟨x, hxd⟩ : ∃ x, rd_T156 nodes (k : Int) = x := ⟨_, rfl⟩
  rw [hxd] at hx0 hx1 hx2 hx3 hx4 hc2 hC2 hop
  rw [hop] at hx0
  clear hxd
  skip
  obtain ⟨cg, hG, hcg, hgm⟩ := Memo.head hM
  have hm0 : w.cell? ⟨gm, 0, none⟩ = some (.slice (some ad) nodes.length cn) := (blk_cell hG 0).trans rfl
  have hm1 : w.cell? ⟨gm, 1, none⟩ = some (.string tx) := (blk_cell hG 1).trans rfl
  have ha1 : (w.alloc (.cells #[.int .i64 2, .slice A1 x.f1.length c1, .slice A2 x.f2.length c2, .int .i64 x.f3, .int .i64 x.f4] 156)).cell? ⟨gm, 1, none⟩ = some (.string tx) := (blk_cell (blk_alloc hG _) 1).trans rfl
  have hkz : (k : Int) < (nodes.length : Int) := by omega
  have hk0 : (0 : Int) ≤ (k : Int) := by omega
  obtain ⟨gn, hgn⟩ : ∃ gn, w.heap.size = gn := ⟨_, rfl⟩
  have HGN : J0 (gn ≠ gg) := ⟨by have := Memo.gg_lt hM; omega⟩
  have BN : J0 ((w.alloc (.cells #[.int .i64 2, .slice A1 x.f1.length c1, .slice A2 x.f2.length c2, .int .i64 x.f3, .int .i64 x.f4] 156)).heap[gn]? = some (.cells #[.int .i64 2, .slice A1 x.f1.length c1, .slice A2 x.f2.length c2, .int .i64 x.f3, .int .i64 x.f4] 156 (0, 0))) := ⟨by rw [← hgn]; exact blk_new w _⟩
  have HK := q_ (MK.below (gg := gg) (below_alloc (Below.refl w.heap.size w) (.cells #[.int .i64 2, .slice A1 x.f1.length c1, .slice A2 x.f2.length c2, .int .i64 x.f3, .int .i64 x.f4] 156))); have HB := q_ (below_alloc hB (.cells #[.int .i64 2, .slice A1 x.f1.length c1, .slice A2 x.f2.length c2, .int .i64 x.f3, .int .i64 x.f4] 156)); have HM := q_ (Memo.below hM (below_alloc (Below.refl w.heap.size w) (.cells #[.int .i64 2, .slice A1 x.f1.length c1, .slice A2 x.f2.length c2, .int .i64 x.f3, .int .i64 x.f4] 156))); have HE := q_ hE; clear hG hM hB hE
  go_enter Try.func157, Try.ntmps157
  go_upto_region 5 with (first | ((with_reducible refine gate_dst (N := 26) rfl ?_); refine Kd.R_make Kd.bool _ 4 rfl (N := 26) rfl 124 _ _ rfl (1 : Int) rfl rfl Try.underlying124 (.bool false) 1 info4 rfl (by decide) (by omega) false (ok := fun _ => True) (okp := fun _ => True) rfl (fun _ hk => hk) trivial (by omega) (by decide) (Below.refl _ _) (Nat.le_refl _) ?_; intro H8v w_ ho hb hg_ hnew_; clear hg_; replace ho : Kd.R Kd.bool 4 w_ _ (fun _ => True) H8v [false] := ho; have H8 := q_ (Row.new ho HB.o (Memo.gg_lt HM.o)); have nBN := q_ (blk_below BN.o hb); clear BN; have BN := nBN; clear nBN; have nM := q_ (Memo.below HM.o hb); have nB := q_ (below_step HB.o hb); have nK := q_ (HK.o.trans (MK.below hb)); clear HM HB HK ho hb hnew_; have HM := nM; have HB := nB; have HK := nK; clear nM nB nK; obtain ⟨cg_, hG_, _, _⟩ := Memo.head HM.o; have ha2 : w_.cell? ⟨gm, 1, none⟩ = some (.string tx) := (blk_cell hG_ 1).trans rfl; clear hG_) | ((with_reducible refine gate_dst (N := 33) rfl ?_); refine Kd.R_make Kd.bool _ 4 rfl (N := 33) rfl 124 _ _ rfl (1 : Int) rfl rfl Try.underlying124 (.bool false) 1 info4 rfl (by decide) (by omega) false (ok := fun _ => True) (okp := fun _ => True) rfl (fun _ hk => hk) trivial (by omega) (by decide) (Below.refl _ _) (Nat.le_refl _) ?_; intro H9v w_ ho hb hg_ hnew_; clear hg_; replace ho : Kd.R Kd.bool 4 w_ _ (fun _ => True) H9v [false] := ho; have H9 := q_ (Row.new ho HB.o (Memo.gg_lt HM.o)); have HX1 : ∃ W1 : World, Memo w0 gm gg (some ad) cn nodes tx E W1 ∧ Row w0 W1 gg H8v false ∧ W1.heap[gn]? = some (.cells #[.int .i64 2, .slice A1 x.f1.length c1, .slice A2 x.f2.length c2, .int .i64 x.f3, .int .i64 x.f4] 156 (0, 0)) ∧ Below W1.heap.size W1 w_ ∧ (∃ b_, H9v.ownBlock = some b_ ∧ W1.heap.size ≤ b_) ∧ Below w0.heap.size w0 W1 ∧ MK gg w W1 := ⟨_, HM.o, H8.o, BN.o, hb, hnew_, HB.o, HK.o⟩; have nH8 := q_ (Row.keep H8.o (MK.below hb)); clear H8; have H8 := nH8; clear nH8; have nBN := q_ (blk_below BN.o hb); clear BN; have BN := nBN; clear nBN; have nM := q_ (Memo.below HM.o hb); have nB := q_ (below_step HB.o hb); have nK := q_ (HK.o.trans (MK.below hb)); clear HM HB HK ho hb hnew_; have HM := nM; have HB := nB; have HK := nK; clear nM nB nK; obtain ⟨H9g, H9c, rfl, H9h⟩ := Row.form H9.o; have hx9 := Row.cell H9.o; have hf9 := Row.frozen H9.o))
  obtain ⟨W1, hM1, h81, hBN1, hb1, ⟨g9', e9, hg9⟩, hB1, hK1⟩ := HX1
  obtain rfl : H9g = g9' := by simpa [Value.ownBlock] using e9
  have Hbs := below_set hb1 hg9 (j := 0) (v := .bool true); have nH9 := q_ ((Kd.R_put H9.o 0 true).1); clear H8 H9 HM HB HK BN; have HM := q_ (Memo.below hM1 Hbs); have H8 := q_ (Row.keep h81 (MK.below (gg := gg) Hbs)); have HK := q_ (hK1.trans (MK.below (gg := gg) Hbs)); have HB := q_ (below_step hB1 Hbs); have BN := q_ (blk_below hBN1 Hbs)
  have H9 : J0 (Row w0 (w_.setCell ⟨H9g, 0, none⟩ (.bool true)) gg (.slice (some ⟨H9g, 0, none⟩) 1 H9c) true) := nH9
  clear nH9 Hbs hM1 h81 hBN1 hb1 hg9 e9 hB1 hK1 hx9 hf9
  generalize w_.setCell ⟨H9g, 0, none⟩ (.bool true) = w9 at *
  obtain ⟨H8g, H8c, rfl, hH8⟩ := Row.form H8.o; obtain ⟨cg_, hG_, _, _⟩ := Memo.head HM.o
  have ht1 : w9.cell? ⟨gm, 1, none⟩ = some (.string tx) := (blk_cell hG_ 1).trans rfl
  clear hG_
  have hn0 : w9.cell? ⟨gn, 0, none⟩ = some (.int .i64 2) := (blk_cell BN.o 0).trans rfl
  have hn2 : w9.cell? ⟨gn, 2, none⟩ = some (.slice A2 x.f2.length c2) := (blk_cell BN.o 2).trans rfl
  have hn3 : w9.cell? ⟨gn, 3, none⟩ = some (.int .i64 x.f3) := (blk_cell BN.o 3).trans rfl
  have hn4 : w9.cell? ⟨gn, 4, none⟩ = some (.int .i64 x.f4) := (blk_cell BN.o 4).trans rfl
  go_wp2_with fail
  go_quiet (fail)
  go_wp2_with fail
  have HM := HM
  go_ret
  exact ⟨_, rfl, by rw [HE.o]; exact Row.keep H8.o (MK.drewN gg w9 _), Memo.below HM.o (pw_below_drewN (Below.refl _ _) _), HK.o.trans (MK.drewN gg w9 _), pw_below_drewN HB.o _⟩
theorem find_star {w0 : World} {gm gg cn : Nat} {An : Option Addr} {nodes : List S156} {tx : ByteArray} {E : Nat → Bool} (ht : tx.size = 0) (hn : nodes.length ≤ 100000) (k : Nat) (hk1 : k < nodes.length) (hN : Kd.C k156 w0 An nodes.length nodes) (hop : (rd_T156 nodes (k : Int)).f0 = 5) (hlen : (rd_T156 nodes (k : Int)).f2.length = 1) (k0 : Nat) (e0 : rd (rd_T156 nodes (k : Int)).f2 0 = (k0 : Int)) (he0 : EOK w0 gm gg An cn nodes tx E k0) (hE : E k = true) : FOK w0 gm gg An cn nodes tx E k := by
  intro w hM hB
  obtain ⟨ad, A1, c1, A2, c2, rfl, hx0, hx1, hx2, hx3, hx4, _, _, hc2, hC2⟩ := at_T156 hN (k : Int) (by omega) (by omega)
  rw [Int.toNat_natCast] at hx0 hx1 hx2 hx3 hx4
  replace hx0 := (hB.cell (World.block_lt_of_cell? w0 _ hx0)).trans hx0; replace hx1 := (hB.cell (World.block_lt_of_cell? w0 _ hx1)).trans hx1; replace hx2 := (hB.cell (World.block_lt_of_cell? w0 _ hx2)).trans hx2; replace hx3 := (hB.cell (World.block_lt_of_cell? w0 _ hx3)).trans hx3; replace hx4 := (hB.cell (World.block_lt_of_cell? w0 _ hx4)).trans hx4
  obtain ⟨x, hxd⟩ : ∃ x, rd_T156 nodes (k : Int) = x := ⟨_, rfl⟩
  rw [hxd] at hx0 hx1 hx2 hx3 hx4 hc2 hC2 hop hlen e0
  rw [hop] at hx0
  clear hxd
  obtain ⟨ad2, rfl, hkc0⟩ := Kd.at_int hC2 0 (by omega) (by rw [hlen]; decide)
  rw [e0] at hkc0
  rw [show (0 : Int).toNat = 0 from rfl] at hkc0
  rw [hlen] at hx2
  clear hC2 hc2 hlen; obtain ⟨cg, hG, hcg, hgm⟩ := Memo.head hM
  have hm0 : w.cell? ⟨gm, 0, none⟩ = some (.slice (some ad) nodes.length cn) := (blk_cell hG 0).trans rfl
  have hm1 : w.cell? ⟨gm, 1, none⟩ = some (.string tx) := (blk_cell hG 1).trans rfl
  have ha1 : (w.alloc (.cells #[.int .i64 5, .slice A1 x.f1.length c1, .slice (some ad2) 1 c2, .int .i64 x.f3, .int .i64 x.f4] 156)).cell? ⟨gm, 1, none⟩ = some (.string tx) := (blk_cell (blk_alloc hG _) 1).trans rfl
  have hkz : (k : Int) < (nodes.length : Int) := by omega
  have hk0 : (0 : Int) ≤ (k : Int) := by omega
  obtain ⟨gn, hgn⟩ : ∃ gn, w.heap.size = gn := ⟨_, rfl⟩
  have HGN : J0 (gn ≠ gg) := ⟨by have := Memo.gg_lt hM; omega⟩
  have BN : J0 ((w.alloc (.cells #[.int .i64 5, .slice A1 x.f1.length c1, .slice (some ad2) 1 c2, .int .i64 x.f3, .int .i64 x.f4] 156)).heap[gn]? = some (.cells #[.int .i64 5, .slice A1 x.f1.length c1, .slice (some ad2) 1 c2, .int .i64 x.f3, .int .i64 x.f4] 156 (0, 0))) := ⟨by rw [← hgn]; exact blk_new w _⟩
  have HK := q_ (MK.below (gg := gg) (below_alloc (Below.refl w.heap.size w) (.cells #[.int .i64 5, .slice A1 x.f1.length c1, .slice (some ad2) 1 c2, .int .i64 x.f3, .int .i64 x.f4] 156))); have HB := q_ (below_alloc hB (.cells #[.int .i64 5, .slice A1 x.f1.length c1, .slice (some ad2) 1 c2, .int .i64 x.f3, .int .i64 x.f4] 156)); have HM := q_ (Memo.below hM (below_alloc (Below.refl w.heap.size w) (.cells #[.int .i64 5, .slice A1 x.f1.length c1, .slice (some ad2) 1 c2, .int .i64 x.f3, .int .i64 x.f4] 156))); have HE := q_ hE; clear hG hM hB hE
  go_enter Try.func157, Try.ntmps157
  go_upto_region 5 with (first | ((with_reducible refine gate_dst (N := 26) rfl ?_); refine Kd.R_make Kd.bool _ 4 rfl (N := 26) rfl 124 _ _ rfl (1 : Int) rfl rfl Try.underlying124 (.bool false) 1 info4 rfl (by decide) (by omega) false (ok := fun _ => True) (okp := fun _ => True) rfl (fun _ hk => hk) trivial (by omega) (by decide) (Below.refl _ _) (Nat.le_refl _) ?_; intro H8v w_ ho hb hg_ hnew_; clear hg_; replace ho : Kd.R Kd.bool 4 w_ _ (fun _ => True) H8v [false] := ho; have H8 := q_ (Row.new ho HB.o (Memo.gg_lt HM.o)); have nBN := q_ (blk_below BN.o hb); clear BN; have BN := nBN; clear nBN; have nM := q_ (Memo.below HM.o hb); have nB := q_ (below_step HB.o hb); have nK := q_ (HK.o.trans (MK.below hb)); clear HM HB HK ho hb hnew_; have HM := nM; have HB := nB; have HK := nK; clear nM nB nK; obtain ⟨cg_, hG_, _, _⟩ := Memo.head HM.o; have ha2 : w_.cell? ⟨gm, 1, none⟩ = some (.string tx) := (blk_cell hG_ 1).trans rfl; clear hG_) | ((with_reducible refine gate_dst (N := 33) rfl ?_); refine Kd.R_make Kd.bool _ 4 rfl (N := 33) rfl 124 _ _ rfl (1 : Int) rfl rfl Try.underlying124 (.bool false) 1 info4 rfl (by decide) (by omega) false (ok := fun _ => True) (okp := fun _ => True) rfl (fun _ hk => hk) trivial (by omega) (by decide) (Below.refl _ _) (Nat.le_refl _) ?_; intro H9v w_ ho hb hg_ hnew_; clear hg_; replace ho : Kd.R Kd.bool 4 w_ _ (fun _ => True) H9v [false] := ho; have H9 := q_ (Row.new ho HB.o (Memo.gg_lt HM.o)); have HX1 : ∃ W1 : World, Memo w0 gm gg (some ad) cn nodes tx E W1 ∧ Row w0 W1 gg H8v false ∧ W1.heap[gn]? = some (.cells #[.int .i64 5, .slice A1 x.f1.length c1, .slice (some ad2) 1 c2, .int .i64 x.f3, .int .i64 x.f4] 156 (0, 0)) ∧ Below W1.heap.size W1 w_ ∧ (∃ b_, H9v.ownBlock = some b_ ∧ W1.heap.size ≤ b_) ∧ Below w0.heap.size w0 W1 ∧ MK gg w W1 := ⟨_, HM.o, H8.o, BN.o, hb, hnew_, HB.o, HK.o⟩; have nH8 := q_ (Row.keep H8.o (MK.below hb)); clear H8; have H8 := nH8; clear nH8; have nBN := q_ (blk_below BN.o hb); clear BN; have BN := nBN; clear nBN; have nM := q_ (Memo.below HM.o hb); have nB := q_ (below_step HB.o hb); have nK := q_ (HK.o.trans (MK.below hb)); clear HM HB HK ho hb hnew_; have HM := nM; have HB := nB; have HK := nK; clear nM nB nK; obtain ⟨H9g, H9c, rfl, H9h⟩ := Row.form H9.o; have hx9 := Row.cell H9.o; have hf9 := Row.frozen H9.o))
  obtain ⟨W1, hM1, h81, hBN1, hb1, ⟨g9', e9, hg9⟩, hB1, hK1⟩ := HX1
  obtain rfl : H9g = g9' := by simpa [Value.ownBlock] using e9
  have Hbs := below_set hb1 hg9 (j := 0) (v := .bool true); have nH9 := q_ ((Kd.R_put H9.o 0 true).1); clear H8 H9 HM HB HK BN; have HM := q_ (Memo.below hM1 Hbs); have H8 := q_ (Row.keep h81 (MK.below (gg := gg) Hbs)); have HK := q_ (hK1.trans (MK.below (gg := gg) Hbs)); have HB := q_ (below_step hB1 Hbs); have BN := q_ (blk_below hBN1 Hbs)
  have H9 : J0 (Row w0 (w_.setCell ⟨H9g, 0, none⟩ (.bool true)) gg (.slice (some ⟨H9g, 0, none⟩) 1 H9c) true) := nH9
  clear nH9 Hbs hM1 h81 hBN1 hb1 hg9 e9 hB1 hK1 hx9 hf9
  generalize w_.setCell ⟨H9g, 0, none⟩ (.bool true) = w9 at *
  obtain ⟨H8g, H8c, rfl, hH8⟩ := Row.form H8.o; obtain ⟨cg_, hG_, _, _⟩ := Memo.head HM.o
  have ht1 : w9.cell? ⟨gm, 1, none⟩ = some (.string tx) := (blk_cell hG_ 1).trans rfl
  clear hG_
  have hn0 : w9.cell? ⟨gn, 0, none⟩ = some (.int .i64 5) := (blk_cell BN.o 0).trans rfl
  have hn2 : w9.cell? ⟨gn, 2, none⟩ = some (.slice (some ad2) 1 c2) := (blk_cell BN.o 2).trans rfl
  have hn3 : w9.cell? ⟨gn, 3, none⟩ = some (.int .i64 x.f3) := (blk_cell BN.o 3).trans rfl
  have hn4 : w9.cell? ⟨gn, 4, none⟩ = some (.int .i64 x.f4) := (blk_cell BN.o 4).trans rfl
  have hq0 := (HB.o.cell (World.block_lt_of_cell? w0 _ hkc0)).trans hkc0; have hz0 := hq0
  rw [show ad2.add 0 = ad2 by cases ad2; rfl] at hz0
  have HE0 := q_ he0; clear hkc0 he0
  go_wp2_with (go_at_call 172; refine (again_of k0 HE0.o _ true _ HM.o HB.o H9.o).mono ?_; rintro e w_ ⟨v_, rfl, hR_, hM_, hK_, hB_⟩; have HA := q_ hR_; have nK := q_ (HK.o.trans hK_); clear HM HB HK hR_ hK_; have HM := q_ hM_; have HB := q_ hB_; have HK := nK; clear nK hM_ hB_)
  go_ret
  exact ⟨_, rfl, by rw [HE.o]; exact HA.o, HM.o, HK.o, HB.o⟩
theorem find_maybe {w0 : World} {gm gg cn : Nat} {An : Option Addr} {nodes : List S156} {tx : ByteArray} {E : Nat → Bool} (ht : tx.size = 0) (hn : nodes.length ≤ 100000) (k : Nat) (hk1 : k < nodes.length) (hN : Kd.C k156 w0 An nodes.length nodes) (hop : (rd_T156 nodes (k : Int)).f0 = 7) (hlen : (rd_T156 nodes (k : Int)).f2.length = 1) (k0 : Nat) (e0 : rd (rd_T156 nodes (k : Int)).f2 0 = (k0 : Int)) (he0 : EOK w0 gm gg An cn nodes tx E k0) (hE : E k = true) : FOK w0 gm gg An cn nodes tx E k := by
  intro w hM hB
  obtain ⟨ad, A1, c1, A2, c2, rfl, hx0, hx1, hx2, hx3, hx4, _, _, hc2, hC2⟩ := at_T156 hN (k : Int) (by omega) (by omega)
  rw [Int.toNat_natCast] at hx0 hx1 hx2 hx3 hx4
  replace hx0 := (hB.cell (World.block_lt_of_cell? w0 _ hx0)).trans hx0; replace hx1 := (hB.cell (World.block_lt_of_cell? w0 _ hx1)).trans hx1; replace hx2 := (hB.cell (World.block_lt_of_cell? w0 _ hx2)).trans hx2; replace hx3 := (hB.cell (World.block_lt_of_cell? w0 _ hx3)).trans hx3; replace hx4 := (hB.cell (World.block_lt_of_cell? w0 _ hx4)).trans hx4
  obtain ⟨x, hxd⟩ : ∃ x, rd_T156 nodes (k : Int) = x := ⟨_, rfl⟩
  rw [hxd] at hx0 hx1 hx2 hx3 hx4 hc2 hC2 hop hlen e0
  rw [hop] at hx0
  clear hxd
  obtain ⟨ad2, rfl, hkc0⟩ := Kd.at_int hC2 0 (by omega) (by rw [hlen]; decide)
  rw [e0] at hkc0
  rw [show (0 : Int).toNat = 0 from rfl] at hkc0
  rw [hlen] at hx2
  clear hC2 hc2 hlen; obtain ⟨cg, hG, hcg, hgm⟩ := Memo.head hM
  have hm0 : w.cell? ⟨gm, 0, none⟩ = some (.slice (some ad) nodes.length cn) := (blk_cell hG 0).trans rfl
  have hm1 : w.cell? ⟨gm, 1, none⟩ = some (.string tx) := (blk_cell hG 1).trans rfl
  have ha1 : (w.alloc (.cells #[.int .i64 7, .slice A1 x.f1.length c1, .slice (some ad2) 1 c2, .int .i64 x.f3, .int .i64 x.f4] 156)).cell? ⟨gm, 1, none⟩ = some (.string tx) := (blk_cell (blk_alloc hG _) 1).trans rfl
  have hkz : (k : Int) < (nodes.length : Int) := by omega
  have hk0 : (0 : Int) ≤ (k : Int) := by omega
  obtain ⟨gn, hgn⟩ : ∃ gn, w.heap.size = gn := ⟨_, rfl⟩
  have HGN : J0 (gn ≠ gg) := ⟨by have := Memo.gg_lt hM; omega⟩
  have BN : J0 ((w.alloc (.cells #[.int .i64 7, .slice A1 x.f1.length c1, .slice (some ad2) 1 c2, .int .i64 x.f3, .int .i64 x.f4] 156)).heap[gn]? = some (.cells #[.int .i64 7, .slice A1 x.f1.length c1, .slice (some ad2) 1 c2, .int .i64 x.f3, .int .i64 x.f4] 156 (0, 0))) := ⟨by rw [← hgn]; exact blk_new w _⟩
  have HK := q_ (MK.below (gg := gg) (below_alloc (Below.refl w.heap.size w) (.cells #[.int .i64 7, .slice A1 x.f1.length c1, .slice (some ad2) 1 c2, .int .i64 x.f3, .int .i64 x.f4] 156))); have HB := q_ (below_alloc hB (.cells #[.int .i64 7, .slice A1 x.f1.length c1, .slice (some ad2) 1 c2, .int .i64 x.f3, .int .i64 x.f4] 156)); have HM := q_ (Memo.below hM (below_alloc (Below.refl w.heap.size w) (.cells #[.int .i64 7, .slice A1 x.f1.length c1, .slice (some ad2) 1 c2, .int .i64 x.f3, .int .i64 x.f4] 156))); have HE := q_ hE; clear hG hM hB hE
  go_enter Try.func157, Try.ntmps157
  go_upto_region 5 with (first | ((with_reducible refine gate_dst (N := 26) rfl ?_); refine Kd.R_make Kd.bool _ 4 rfl (N := 26) rfl 124 _ _ rfl (1 : Int) rfl rfl Try.underlying124 (.bool false) 1 info4 rfl (by decide) (by omega) false (ok := fun _ => True) (okp := fun _ => True) rfl (fun _ hk => hk) trivial (by omega) (by decide) (Below.refl _ _) (Nat.le_refl _) ?_; intro H8v w_ ho hb hg_ hnew_; clear hg_; replace ho : Kd.R Kd.bool 4 w_ _ (fun _ => True) H8v [false] := ho; have H8 := q_ (Row.new ho HB.o (Memo.gg_lt HM.o)); have nBN := q_ (blk_below BN.o hb); clear BN; have BN := nBN; clear nBN; have nM := q_ (Memo.below HM.o hb); have nB := q_ (below_step HB.o hb); have nK := q_ (HK.o.trans (MK.below hb)); clear HM HB HK ho hb hnew_; have HM := nM; have HB := nB; have HK := nK; clear nM nB nK; obtain ⟨cg_, hG_, _, _⟩ := Memo.head HM.o; have ha2 : w_.cell? ⟨gm, 1, none⟩ = some (.string tx) := (blk_cell hG_ 1).trans rfl; clear hG_) | ((with_reducible refine gate_dst (N := 33) rfl ?_); refine Kd.R_make Kd.bool _ 4 rfl (N := 33) rfl 124 _ _ rfl (1 : Int) rfl rfl Try.underlying124 (.bool false) 1 info4 rfl (by decide) (by omega) false (ok := fun _ => True) (okp := fun _ => True) rfl (fun _ hk => hk) trivial (by omega) (by decide) (Below.refl _ _) (Nat.le_refl _) ?_; intro H9v w_ ho hb hg_ hnew_; clear hg_; replace ho : Kd.R Kd.bool 4 w_ _ (fun _ => True) H9v [false] := ho; have H9 := q_ (Row.new ho HB.o (Memo.gg_lt HM.o)); have HX1 : ∃ W1 : World, Memo w0 gm gg (some ad) cn nodes tx E W1 ∧ Row w0 W1 gg H8v false ∧ W1.heap[gn]? = some (.cells #[.int .i64 7, .slice A1 x.f1.length c1, .slice (some ad2) 1 c2, .int .i64 x.f3, .int .i64 x.f4] 156 (0, 0)) ∧ Below W1.heap.size W1 w_ ∧ (∃ b_, H9v.ownBlock = some b_ ∧ W1.heap.size ≤ b_) ∧ Below w0.heap.size w0 W1 ∧ MK gg w W1 := ⟨_, HM.o, H8.o, BN.o, hb, hnew_, HB.o, HK.o⟩; have nH8 := q_ (Row.keep H8.o (MK.below hb)); clear H8; have H8 := nH8; clear nH8; have nBN := q_ (blk_below BN.o hb); clear BN; have BN := nBN; clear nBN; have nM := q_ (Memo.below HM.o hb); have nB := q_ (below_step HB.o hb); have nK := q_ (HK.o.trans (MK.below hb)); clear HM HB HK ho hb hnew_; have HM := nM; have HB := nB; have HK := nK; clear nM nB nK; obtain ⟨H9g, H9c, rfl, H9h⟩ := Row.form H9.o; have hx9 := Row.cell H9.o; have hf9 := Row.frozen H9.o))
  obtain ⟨W1, hM1, h81, hBN1, hb1, ⟨g9', e9, hg9⟩, hB1, hK1⟩ := HX1
  obtain rfl : H9g = g9' := by simpa [Value.ownBlock] using e9
  have Hbs := below_set hb1 hg9 (j := 0) (v := .bool true); have nH9 := q_ ((Kd.R_put H9.o 0 true).1); clear H8 H9 HM HB HK BN; have HM := q_ (Memo.below hM1 Hbs); have H8 := q_ (Row.keep h81 (MK.below (gg := gg) Hbs)); have HK := q_ (hK1.trans (MK.below (gg := gg) Hbs)); have HB := q_ (below_step hB1 Hbs); have BN := q_ (blk_below hBN1 Hbs)
  have H9 : J0 (Row w0 (w_.setCell ⟨H9g, 0, none⟩ (.bool true)) gg (.slice (some ⟨H9g, 0, none⟩) 1 H9c) true) := nH9
  clear nH9 Hbs hM1 h81 hBN1 hb1 hg9 e9 hB1 hK1 hx9 hf9
  generalize w_.setCell ⟨H9g, 0, none⟩ (.bool true) = w9 at *
  obtain ⟨H8g, H8c, rfl, hH8⟩ := Row.form H8.o; obtain ⟨cg_, hG_, _, _⟩ := Memo.head HM.o
  have ht1 : w9.cell? ⟨gm, 1, none⟩ = some (.string tx) := (blk_cell hG_ 1).trans rfl
  clear hG_
  have hn0 : w9.cell? ⟨gn, 0, none⟩ = some (.int .i64 7) := (blk_cell BN.o 0).trans rfl
  have hn2 : w9.cell? ⟨gn, 2, none⟩ = some (.slice (some ad2) 1 c2) := (blk_cell BN.o 2).trans rfl
  have hn3 : w9.cell? ⟨gn, 3, none⟩ = some (.int .i64 x.f3) := (blk_cell BN.o 3).trans rfl
  have hn4 : w9.cell? ⟨gn, 4, none⟩ = some (.int .i64 x.f4) := (blk_cell BN.o 4).trans rfl
  have hq0 := (HB.o.cell (World.block_lt_of_cell? w0 _ hkc0)).trans hkc0; have hz0 := hq0
  rw [show ad2.add 0 = ad2 by cases ad2; rfl] at hz0
  have HE0 := q_ he0; clear hkc0 he0
  go_wp2_with (first | (go_at_call 121; refine (HE0.o _ HM.o HB.o).mono ?_; rintro e w_ ⟨v_, rfl, hR_, hM_, hK_, hB_⟩; have nH9 := q_ (Row.keep H9.o hK_); clear H9; have H9 := nH9; clear nH9; obtain ⟨g_, c_, rfl, hc_⟩ := Row.form hR_; have HA := q_ hR_; have nK := q_ (HK.o.trans hK_); clear HM HB HK hR_ hK_; have HM := q_ hM_; have HB := q_ hB_; have HK := nK; clear nK hM_ hB_) | (go_at_call 171; obtain ⟨k_, hk_⟩ := or_one true (E k0); refine (spec_l4Or.calls k_ _ _ [true] _ _ [(E k0)] _ _ (Row.C H9.o) (Kd.R_reads' H9.o).2.1 (Row.C HA.o) (Kd.R_reads' HA.o).2.1 hk_).mono ?_; rintro e w_ ⟨HOv, rfl, ho, hb⟩; have HO := q_ (Row.new ho HB.o (Memo.gg_lt HM.o)); have nM := q_ (Memo.below HM.o hb); have nB := q_ (below_step HB.o hb); have nK := q_ (HK.o.trans (MK.below hb)); clear HM HB HK ho hb hk_; have HM := nM; have HB := nB; have HK := nK; clear nM nB nK))
  go_ret
  exact ⟨_, rfl, by rw [HE.o]; exact (by have h := HO.o; simpa using h), HM.o, HK.o, HB.o⟩
theorem MK.cell {gg : Nat} {w w1 : World} (h : MK gg w w1) {p : Addr} {v : Value} (hc : w.cell? p = some v) (hne : p.block ≠ gg) : w1.cell? p = some v := by
  have hb := h.2 p.block (World.block_lt_of_cell? w p hc) hne
  exact (World.cell?_of_block hb).trans hc
theorem Memo.gg_ge {w0 w : World} {gm gg cn : Nat} {An : Option Addr} {nodes : List S156} {tx : ByteArray} {E : Nat → Bool} (h : Memo w0 gm gg An cn nodes tx E w) : w0.heap.size ≤ gg := by
  obtain ⟨cg, cs, _, _, _, h4, _⟩ := h
  exact h4
theorem find_cat {w0 : World} {gm gg cn : Nat} {An : Option Addr} {nodes : List S156} {tx : ByteArray} {E : Nat → Bool} (ht : tx.size = 0) (hn : nodes.length ≤ 100000) (k : Nat) (hk1 : k < nodes.length) (hN : Kd.C k156 w0 An nodes.length nodes) (hop : (rd_T156 nodes (k : Int)).f0 = 3) (hlen : (rd_T156 nodes (k : Int)).f2.length = 2) (k0 : Nat) (e0 : rd (rd_T156 nodes (k : Int)).f2 0 = (k0 : Int)) (he0 : EOK w0 gm gg An cn nodes tx E k0) (k1 : Nat) (e1 : rd (rd_T156 nodes (k : Int)).f2 1 = (k1 : Int)) (he1 : EOK w0 gm gg An cn nodes tx E k1) (hE : E k = (E k0 && E k1)) : FOK w0 gm gg An cn nodes tx E k := by
  intro w hM hB
  obtain ⟨ad, A1, c1, A2, c2, rfl, hx0, hx1, hx2, hx3, hx4, _, _, hc2, hC2⟩ := at_T156 hN (k : Int) (by omega) (by omega)
  rw [Int.toNat_natCast] at hx0 hx1 hx2 hx3 hx4
  replace hx0 := (hB.cell (World.block_lt_of_cell? w0 _ hx0)).trans hx0; replace hx1 := (hB.cell (World.block_lt_of_cell? w0 _ hx1)).trans hx1; replace hx2 := (hB.cell (World.block_lt_of_cell? w0 _ hx2)).trans hx2; replace hx3 := (hB.cell (World.block_lt_of_cell? w0 _ hx3)).trans hx3; replace hx4 := (hB.cell (World.block_lt_of_cell? w0 _ hx4)).trans hx4
  obtain ⟨x, hxd⟩ : ∃ x, rd_T156 nodes (k : Int) = x := ⟨_, rfl⟩
  rw [hxd] at hx0 hx1 hx2 hx3 hx4 hc2 hC2 hop hlen e0 e1
  rw [hop] at hx0
  clear hxd
  obtain ⟨ad2, rfl, hkc0⟩ := Kd.at_int hC2 0 (by omega) (by rw [hlen]; decide)
  rw [e0] at hkc0
  rw [show (0 : Int).toNat = 0 from rfl] at hkc0
  obtain ⟨ad3, e3, hkc1⟩ := Kd.at_int hC2 1 (by omega) (by rw [hlen]; decide)
  cases e3
  rw [e1] at hkc1
  rw [show (1 : Int).toNat = 1 from rfl] at hkc1
  rw [hlen] at hx2
  clear hC2 hc2 hlen; obtain ⟨cg, hG, hcg, hgm⟩ := Memo.head hM
  have hm0 : w.cell? ⟨gm, 0, none⟩ = some (.slice (some ad) nodes.length cn) := (blk_cell hG 0).trans rfl
  have hm1 : w.cell? ⟨gm, 1, none⟩ = some (.string tx) := (blk_cell hG 1).trans rfl
  have ha1 : (w.alloc (.cells #[.int .i64 3, .slice A1 x.f1.length c1, .slice (some ad2) 2 c2, .int .i64 x.f3, .int .i64 x.f4] 156)).cell? ⟨gm, 1, none⟩ = some (.string tx) := (blk_cell (blk_alloc hG _) 1).trans rfl
  have hkz : (k : Int) < (nodes.length : Int) := by omega
  have hk0 : (0 : Int) ≤ (k : Int) := by omega
  obtain ⟨gn, hgn⟩ : ∃ gn, w.heap.size = gn := ⟨_, rfl⟩
  have HGN : J0 (gn ≠ gg) := ⟨by have := Memo.gg_lt hM; omega⟩
  have BN : J0 ((w.alloc (.cells #[.int .i64 3, .slice A1 x.f1.length c1, .slice (some ad2) 2 c2, .int .i64 x.f3, .int .i64 x.f4] 156)).heap[gn]? = some (.cells #[.int .i64 3, .slice A1 x.f1.length c1, .slice (some ad2) 2 c2, .int .i64 x.f3, .int .i64 x.f4] 156 (0, 0))) := ⟨by rw [← hgn]; exact blk_new w _⟩
  have HK := q_ (MK.below (gg := gg) (below_alloc (Below.refl w.heap.size w) (.cells #[.int .i64 3, .slice A1 x.f1.length c1, .slice (some ad2) 2 c2, .int .i64 x.f3, .int .i64 x.f4] 156))); have HB := q_ (below_alloc hB (.cells #[.int .i64 3, .slice A1 x.f1.length c1, .slice (some ad2) 2 c2, .int .i64 x.f3, .int .i64 x.f4] 156)); have HM := q_ (Memo.below hM (below_alloc (Below.refl w.heap.size w) (.cells #[.int .i64 3, .slice A1 x.f1.length c1, .slice (some ad2) 2 c2, .int .i64 x.f3, .int .i64 x.f4] 156))); have HE := q_ hE; clear hG hM hB hE
  go_enter Try.func157, Try.ntmps157
  go_upto_region 5 with (first | ((with_reducible refine gate_dst (N := 26) rfl ?_); refine Kd.R_make Kd.bool _ 4 rfl (N := 26) rfl 124 _ _ rfl (1 : Int) rfl rfl Try.underlying124 (.bool false) 1 info4 rfl (by decide) (by omega) false (ok := fun _ => True) (okp := fun _ => True) rfl (fun _ hk => hk) trivial (by omega) (by decide) (Below.refl _ _) (Nat.le_refl _) ?_; intro H8v w_ ho hb hg_ hnew_; clear hg_; replace ho : Kd.R Kd.bool 4 w_ _ (fun _ => True) H8v [false] := ho; have H8 := q_ (Row.new ho HB.o (Memo.gg_lt HM.o)); have nBN := q_ (blk_below BN.o hb); clear BN; have BN := nBN; clear nBN; have nM := q_ (Memo.below HM.o hb); have nB := q_ (below_step HB.o hb); have nK := q_ (HK.o.trans (MK.below hb)); clear HM HB HK ho hb hnew_; have HM := nM; have HB := nB; have HK := nK; clear nM nB nK; obtain ⟨cg_, hG_, _, _⟩ := Memo.head HM.o; have ha2 : w_.cell? ⟨gm, 1, none⟩ = some (.string tx) := (blk_cell hG_ 1).trans rfl; clear hG_) | ((with_reducible refine gate_dst (N := 33) rfl ?_); refine Kd.R_make Kd.bool _ 4 rfl (N := 33) rfl 124 _ _ rfl (1 : Int) rfl rfl Try.underlying124 (.bool false) 1 info4 rfl (by decide) (by omega) false (ok := fun _ => True) (okp := fun _ => True) rfl (fun _ hk => hk) trivial (by omega) (by decide) (Below.refl _ _) (Nat.le_refl _) ?_; intro H9v w_ ho hb hg_ hnew_; clear hg_; replace ho : Kd.R Kd.bool 4 w_ _ (fun _ => True) H9v [false] := ho; have H9 := q_ (Row.new ho HB.o (Memo.gg_lt HM.o)); have HX1 : ∃ W1 : World, Memo w0 gm gg (some ad) cn nodes tx E W1 ∧ Row w0 W1 gg H8v false ∧ W1.heap[gn]? = some (.cells #[.int .i64 3, .slice A1 x.f1.length c1, .slice (some ad2) 2 c2, .int .i64 x.f3, .int .i64 x.f4] 156 (0, 0)) ∧ Below W1.heap.size W1 w_ ∧ (∃ b_, H9v.ownBlock = some b_ ∧ W1.heap.size ≤ b_) ∧ Below w0.heap.size w0 W1 ∧ MK gg w W1 := ⟨_, HM.o, H8.o, BN.o, hb, hnew_, HB.o, HK.o⟩; have nH8 := q_ (Row.keep H8.o (MK.below hb)); clear H8; have H8 := nH8; clear nH8; have nBN := q_ (blk_below BN.o hb); clear BN; have BN := nBN; clear nBN; have nM := q_ (Memo.below HM.o hb); have nB := q_ (below_step HB.o hb); have nK := q_ (HK.o.trans (MK.below hb)); clear HM HB HK ho hb hnew_; have HM := nM; have HB := nB; have HK := nK; clear nM nB nK; obtain ⟨H9g, H9c, rfl, H9h⟩ := Row.form H9.o; have hx9 := Row.cell H9.o; have hf9 := Row.frozen H9.o))
  obtain ⟨W1, hM1, h81, hBN1, hb1, ⟨g9', e9, hg9⟩, hB1, hK1⟩ := HX1
  obtain rfl : H9g = g9' := by simpa [Value.ownBlock] using e9
  have Hbs := below_set hb1 hg9 (j := 0) (v := .bool true); have nH9 := q_ ((Kd.R_put H9.o 0 true).1); clear H8 H9 HM HB HK BN; have HM := q_ (Memo.below hM1 Hbs); have H8 := q_ (Row.keep h81 (MK.below (gg := gg) Hbs)); have HK := q_ (hK1.trans (MK.below (gg := gg) Hbs)); have HB := q_ (below_step hB1 Hbs); have BN := q_ (blk_below hBN1 Hbs)
  have H9 : J0 (Row w0 (w_.setCell ⟨H9g, 0, none⟩ (.bool true)) gg (.slice (some ⟨H9g, 0, none⟩) 1 H9c) true) := nH9
  clear nH9 Hbs hM1 h81 hBN1 hb1 hg9 e9 hB1 hK1 hx9 hf9
  generalize w_.setCell ⟨H9g, 0, none⟩ (.bool true) = w9 at *
  obtain ⟨H8g, H8c, rfl, hH8⟩ := Row.form H8.o; obtain ⟨cg_, hG_, _, _⟩ := Memo.head HM.o
  have ht1 : w9.cell? ⟨gm, 1, none⟩ = some (.string tx) := (blk_cell hG_ 1).trans rfl
  clear hG_
  have hn0 : w9.cell? ⟨gn, 0, none⟩ = some (.int .i64 3) := (blk_cell BN.o 0).trans rfl
  have hn2 : w9.cell? ⟨gn, 2, none⟩ = some (.slice (some ad2) 2 c2) := (blk_cell BN.o 2).trans rfl
  have hn3 : w9.cell? ⟨gn, 3, none⟩ = some (.int .i64 x.f3) := (blk_cell BN.o 3).trans rfl
  have hn4 : w9.cell? ⟨gn, 4, none⟩ = some (.int .i64 x.f4) := (blk_cell BN.o 4).trans rfl
  have hq0 := (HB.o.cell (World.block_lt_of_cell? w0 _ hkc0)).trans hkc0; have hq1 := (HB.o.cell (World.block_lt_of_cell? w0 _ hkc1)).trans hkc1; have hz0 := hq0
  rw [show ad2.add 0 = ad2 by cases ad2; rfl] at hz0
  have HE0 := q_ he0; have HE1 := q_ he1; have hkb := hkc0; clear hkc0 he0 hkc1 he1; have hs_ := World.cell?_spot hz0
  rw [show ad2.add 1 = ⟨ad2.block, ad2.off + 1, none⟩ by (obtain ⟨b_, o_, s_⟩ := ad2; simp only at hs_; subst hs_; rfl)] at hq1
  go_wp2_with fail
  replace HM : J0 (Memo w0 gm gg (some ad) cn nodes tx E w9.drew) := ⟨Memo.below HM.o (below_drew1 (Below.refl _ _))⟩
  replace HB : J0 (Below w0.heap.size w0 w9.drew) := ⟨below_drew1 HB.o⟩
  replace HK : J0 (MK gg w w9.drew) := ⟨HK.o.trans (MK.below (below_drew1 (Below.refl _ _)))⟩
  replace BN := q_ (blk_drew BN.o)
  have HAD : J0 (ad2.block ≠ gg) := ⟨by have h1 := World.block_lt_of_cell? w0 _ hkb; have h2 := Memo.gg_ge HM.o; rw [add_block] at h1; omega⟩
  refine start_ (n := 14) (S := fun w' => w'.cell? ⟨gn, 2, none⟩ = some (.slice (some ad2) 2 c2) ∧ w'.cell? ad2 = some (.int .i64 (k0 : Int)) ∧ w'.cell? ⟨ad2.block, ad2.off + 1, none⟩ = some (.int .i64 (k1 : Int))) (ds := []) (bb 14 0) (by kernel_rfl) rfl rfl ⟨(blk_cell BN.o 2).trans rfl, hz0, hq1⟩ (fun hHeld => ?_)
  generalize hW1 : w9.drew = W1 at HM HB HK BN hHeld ⊢
  refine pk_ 0 70 1 ?_; refine pk_ 1 71 3 ?_; refine pk_ 5 75 35 ?_; refine pk_ 6 76 99 ?_; refine pk_ 10 80 1123 ?_; refine tk_ 2 72 1127 hHeld ?_; refine pk_ 3 73 1135 ?_; refine tk_ 4 74 1151 hHeld ?_; refine tk_ 7 77 1279 hHeld ?_; refine pk_ 8 78 1535 ?_; refine tk_ 9 79 2047 hHeld ?_
  refine one_ (i := 11) (N := (some 81)) (bb 14 4095) rfl rfl (by kernel_rfl) (by decide) (fun K hK => ?_)
  refine goes_ Try.func121 (by kernel_rfl) rfl #[.pointer (some ⟨gm, 0, none⟩), .int .i64 (k0 : Int), .int .i64 0] (by rfl) rfl rfl (by (try simp only [List.map_toArray, List.map_cons, List.map_nil]); first | done | rfl) ?_
  refine (HE0.o _ HM.o HB.o).mono ?_
  rintro e w_ ⟨v_, rfl, hR_, hM_, hK_, hB_⟩
  refine ⟨_, rfl, ?_⟩; obtain ⟨HAg, HAc, rfl, HAh⟩ := Row.form hR_; have HA := q_ hR_; have nK := q_ (HK.o.trans hK_); clear HM HB HK hR_; have HM := q_ hM_; have HB := q_ hB_; have HK := nK; clear nK hM_ hB_
  refine hK.out _ _ ⟨MK.cell hK_ (hHeld.1) HGN.o, MK.cell hK_ (hHeld.2.1) (by have := HAD.o; first | exact this | (show ad2.block ≠ gg; exact this)), MK.cell hK_ (hHeld.2.2) (by have := HAD.o; first | exact this | (show ad2.block ≠ gg; exact this))⟩ (fun hHeld => ?_)
  clear hK_; clear hK K; refine no_ (some 81) ?_
  refine one_ (i := 12) (N := (some 82)) (bb 14 8191) rfl rfl (by kernel_rfl) (by decide) (fun K hK => ?_)
  refine goes_ Try.func170 (by kernel_rfl) rfl #[.pointer (some ⟨gm, 0, none⟩), .int .i64 (k1 : Int), .slice (some ⟨HAg, 0, none⟩) 1 HAc] (by rfl) rfl rfl (by (try simp only [List.map_toArray, List.map_cons, List.map_nil]); first | done | rfl) ?_
  refine (step_of k1 HE1.o _ (E k0) _ HM.o HB.o HA.o).mono ?_
  rintro e w_ ⟨v_, rfl, hR_, hM_, hK_, hB_⟩
  refine ⟨_, rfl, ?_⟩; obtain ⟨HOg, HOc, rfl, HOh⟩ := Row.form hR_; have HO := q_ hR_; have nK := q_ (HK.o.trans hK_); clear HM HB HK hR_; have HM := q_ hM_; have HB := q_ hB_; have HK := nK; clear nK hM_ hB_
  refine hK.out _ _ ⟨MK.cell hK_ (hHeld.1) HGN.o, MK.cell hK_ (hHeld.2.1) (by have := HAD.o; first | exact this | (show ad2.block ≠ gg; exact this)), MK.cell hK_ (hHeld.2.2) (by have := HAD.o; first | exact this | (show ad2.block ≠ gg; exact this))⟩ (fun hHeld => ?_)
  clear hK_; clear hK K; refine no_ (some 82) ?_; refine pk_ 13 6 16383 ?_
  refine done_ (by kernel_rfl) ?_
  go_wp2_with fail
  go_ret
  exact ⟨_, rfl, by rw [HE.o]; exact HO.o, HM.o, HK.o, HB.o⟩
theorem find_alt {w0 : World} {gm gg cn : Nat} {An : Option Addr} {nodes : List S156} {tx : ByteArray} {E : Nat → Bool} (ht : tx.size = 0) (hn : nodes.length ≤ 100000) (k : Nat) (hk1 : k < nodes.length) (hN : Kd.C k156 w0 An nodes.length nodes) (hop : (rd_T156 nodes (k : Int)).f0 = 4) (hlen : (rd_T156 nodes (k : Int)).f2.length = 2) (k0 : Nat) (e0 : rd (rd_T156 nodes (k : Int)).f2 0 = (k0 : Int)) (he0 : EOK w0 gm gg An cn nodes tx E k0) (k1 : Nat) (e1 : rd (rd_T156 nodes (k : Int)).f2 1 = (k1 : Int)) (he1 : EOK w0 gm gg An cn nodes tx E k1) (hE : E k = (E k0 || E k1)) : FOK w0 gm gg An cn nodes tx E k := by
  intro w hM hB
  obtain ⟨ad, A1, c1, A2, c2, rfl, hx0, hx1, hx2, hx3, hx4, _, _, hc2, hC2⟩ := at_T156 hN (k : Int) (by omega) (by omega)
  rw [Int.toNat_natCast] at hx0 hx1 hx2 hx3 hx4
  replace hx0 := (hB.cell (World.block_lt_of_cell? w0 _ hx0)).trans hx0; replace hx1 := (hB.cell (World.block_lt_of_cell? w0 _ hx1)).trans hx1; replace hx2 := (hB.cell (World.block_lt_of_cell? w0 _ hx2)).trans hx2; replace hx3 := (hB.cell (World.block_lt_of_cell? w0 _ hx3)).trans hx3; replace hx4 := (hB.cell (World.block_lt_of_cell? w0 _ hx4)).trans hx4
  obtain ⟨x, hxd⟩ : ∃ x, rd_T156 nodes (k : Int) = x := ⟨_, rfl⟩
  rw [hxd] at hx0 hx1 hx2 hx3 hx4 hc2 hC2 hop hlen e0 e1
  rw [hop] at hx0
  clear hxd
  obtain ⟨ad2, rfl, hkc0⟩ := Kd.at_int hC2 0 (by omega) (by rw [hlen]; decide)
  rw [e0] at hkc0
  rw [show (0 : Int).toNat = 0 from rfl] at hkc0
  obtain ⟨ad3, e3, hkc1⟩ := Kd.at_int hC2 1 (by omega) (by rw [hlen]; decide)
  cases e3
  rw [e1] at hkc1
  rw [show (1 : Int).toNat = 1 from rfl] at hkc1
  rw [hlen] at hx2
  clear hC2 hc2 hlen; obtain ⟨cg, hG, hcg, hgm⟩ := Memo.head hM
  have hm0 : w.cell? ⟨gm, 0, none⟩ = some (.slice (some ad) nodes.length cn) := (blk_cell hG 0).trans rfl
  have hm1 : w.cell? ⟨gm, 1, none⟩ = some (.string tx) := (blk_cell hG 1).trans rfl
  have ha1 : (w.alloc (.cells #[.int .i64 4, .slice A1 x.f1.length c1, .slice (some ad2) 2 c2, .int .i64 x.f3, .int .i64 x.f4] 156)).cell? ⟨gm, 1, none⟩ = some (.string tx) := (blk_cell (blk_alloc hG _) 1).trans rfl
  have hkz : (k : Int) < (nodes.length : Int) := by omega
  have hk0 : (0 : Int) ≤ (k : Int) := by omega
  obtain ⟨gn, hgn⟩ : ∃ gn, w.heap.size = gn := ⟨_, rfl⟩
  have HGN : J0 (gn ≠ gg) := ⟨by have := Memo.gg_lt hM; omega⟩
  have BN : J0 ((w.alloc (.cells #[.int .i64 4, .slice A1 x.f1.length c1, .slice (some ad2) 2 c2, .int .i64 x.f3, .int .i64 x.f4] 156)).heap[gn]? = some (.cells #[.int .i64 4, .slice A1 x.f1.length c1, .slice (some ad2) 2 c2, .int .i64 x.f3, .int .i64 x.f4] 156 (0, 0))) := ⟨by rw [← hgn]; exact blk_new w _⟩
  have HK := q_ (MK.below (gg := gg) (below_alloc (Below.refl w.heap.size w) (.cells #[.int .i64 4, .slice A1 x.f1.length c1, .slice (some ad2) 2 c2, .int .i64 x.f3, .int .i64 x.f4] 156))); have HB := q_ (below_alloc hB (.cells #[.int .i64 4, .slice A1 x.f1.length c1, .slice (some ad2) 2 c2, .int .i64 x.f3, .int .i64 x.f4] 156)); have HM := q_ (Memo.below hM (below_alloc (Below.refl w.heap.size w) (.cells #[.int .i64 4, .slice A1 x.f1.length c1, .slice (some ad2) 2 c2, .int .i64 x.f3, .int .i64 x.f4] 156))); have HE := q_ hE; clear hG hM hB hE
  go_enter Try.func157, Try.ntmps157
  go_upto_region 5 with (first | ((with_reducible refine gate_dst (N := 26) rfl ?_); refine Kd.R_make Kd.bool _ 4 rfl (N := 26) rfl 124 _ _ rfl (1 : Int) rfl rfl Try.underlying124 (.bool false) 1 info4 rfl (by decide) (by omega) false (ok := fun _ => True) (okp := fun _ => True) rfl (fun _ hk => hk) trivial (by omega) (by decide) (Below.refl _ _) (Nat.le_refl _) ?_; intro H8v w_ ho hb hg_ hnew_; clear hg_; replace ho : Kd.R Kd.bool 4 w_ _ (fun _ => True) H8v [false] := ho; have H8 := q_ (Row.new ho HB.o (Memo.gg_lt HM.o)); have nBN := q_ (blk_below BN.o hb); clear BN; have BN := nBN; clear nBN; have nM := q_ (Memo.below HM.o hb); have nB := q_ (below_step HB.o hb); have nK := q_ (HK.o.trans (MK.below hb)); clear HM HB HK ho hb hnew_; have HM := nM; have HB := nB; have HK := nK; clear nM nB nK; obtain ⟨cg_, hG_, _, _⟩ := Memo.head HM.o; have ha2 : w_.cell? ⟨gm, 1, none⟩ = some (.string tx) := (blk_cell hG_ 1).trans rfl; clear hG_) | ((with_reducible refine gate_dst (N := 33) rfl ?_); refine Kd.R_make Kd.bool _ 4 rfl (N := 33) rfl 124 _ _ rfl (1 : Int) rfl rfl Try.underlying124 (.bool false) 1 info4 rfl (by decide) (by omega) false (ok := fun _ => True) (okp := fun _ => True) rfl (fun _ hk => hk) trivial (by omega) (by decide) (Below.refl _ _) (Nat.le_refl _) ?_; intro H9v w_ ho hb hg_ hnew_; clear hg_; replace ho : Kd.R Kd.bool 4 w_ _ (fun _ => True) H9v [false] := ho; have H9 := q_ (Row.new ho HB.o (Memo.gg_lt HM.o)); have HX1 : ∃ W1 : World, Memo w0 gm gg (some ad) cn nodes tx E W1 ∧ Row w0 W1 gg H8v false ∧ W1.heap[gn]? = some (.cells #[.int .i64 4, .slice A1 x.f1.length c1, .slice (some ad2) 2 c2, .int .i64 x.f3, .int .i64 x.f4] 156 (0, 0)) ∧ Below W1.heap.size W1 w_ ∧ (∃ b_, H9v.ownBlock = some b_ ∧ W1.heap.size ≤ b_) ∧ Below w0.heap.size w0 W1 ∧ MK gg w W1 := ⟨_, HM.o, H8.o, BN.o, hb, hnew_, HB.o, HK.o⟩; have nH8 := q_ (Row.keep H8.o (MK.below hb)); clear H8; have H8 := nH8; clear nH8; have nBN := q_ (blk_below BN.o hb); clear BN; have BN := nBN; clear nBN; have nM := q_ (Memo.below HM.o hb); have nB := q_ (below_step HB.o hb); have nK := q_ (HK.o.trans (MK.below hb)); clear HM HB HK ho hb hnew_; have HM := nM; have HB := nB; have HK := nK; clear nM nB nK; obtain ⟨H9g, H9c, rfl, H9h⟩ := Row.form H9.o; have hx9 := Row.cell H9.o; have hf9 := Row.frozen H9.o))
  obtain ⟨W1, hM1, h81, hBN1, hb1, ⟨g9', e9, hg9⟩, hB1, hK1⟩ := HX1
  obtain rfl : H9g = g9' := by simpa [Value.ownBlock] using e9
  have Hbs := below_set hb1 hg9 (j := 0) (v := .bool true); have nH9 := q_ ((Kd.R_put H9.o 0 true).1); clear H8 H9 HM HB HK BN; have HM := q_ (Memo.below hM1 Hbs); have H8 := q_ (Row.keep h81 (MK.below (gg := gg) Hbs)); have HK := q_ (hK1.trans (MK.below (gg := gg) Hbs)); have HB := q_ (below_step hB1 Hbs); have BN := q_ (blk_below hBN1 Hbs)
  have H9 : J0 (Row w0 (w_.setCell ⟨H9g, 0, none⟩ (.bool true)) gg (.slice (some ⟨H9g, 0, none⟩) 1 H9c) true) := nH9
  clear nH9 Hbs hM1 h81 hBN1 hb1 hg9 e9 hB1 hK1 hx9 hf9
  generalize w_.setCell ⟨H9g, 0, none⟩ (.bool true) = w9 at *
  obtain ⟨H8g, H8c, rfl, hH8⟩ := Row.form H8.o; obtain ⟨cg_, hG_, _, _⟩ := Memo.head HM.o
  have ht1 : w9.cell? ⟨gm, 1, none⟩ = some (.string tx) := (blk_cell hG_ 1).trans rfl
  clear hG_
  have hn0 : w9.cell? ⟨gn, 0, none⟩ = some (.int .i64 4) := (blk_cell BN.o 0).trans rfl
  have hn2 : w9.cell? ⟨gn, 2, none⟩ = some (.slice (some ad2) 2 c2) := (blk_cell BN.o 2).trans rfl
  have hn3 : w9.cell? ⟨gn, 3, none⟩ = some (.int .i64 x.f3) := (blk_cell BN.o 3).trans rfl
  have hn4 : w9.cell? ⟨gn, 4, none⟩ = some (.int .i64 x.f4) := (blk_cell BN.o 4).trans rfl
  have hq0 := (HB.o.cell (World.block_lt_of_cell? w0 _ hkc0)).trans hkc0; have hq1 := (HB.o.cell (World.block_lt_of_cell? w0 _ hkc1)).trans hkc1; have hz0 := hq0
  rw [show ad2.add 0 = ad2 by cases ad2; rfl] at hz0
  have HE0 := q_ he0; have HE1 := q_ he1; have hkb := hkc0; clear hkc0 he0 hkc1 he1; have hs_ := World.cell?_spot hz0
  rw [show ad2.add 1 = ⟨ad2.block, ad2.off + 1, none⟩ by (obtain ⟨b_, o_, s_⟩ := ad2; simp only at hs_; subst hs_; rfl)] at hq1
  go_wp2_with fail
  replace HM : J0 (Memo w0 gm gg (some ad) cn nodes tx E w9.drew) := ⟨Memo.below HM.o (below_drew1 (Below.refl _ _))⟩
  replace HB : J0 (Below w0.heap.size w0 w9.drew) := ⟨below_drew1 HB.o⟩
  replace HK : J0 (MK gg w w9.drew) := ⟨HK.o.trans (MK.below (below_drew1 (Below.refl _ _)))⟩
  replace BN := q_ (blk_drew BN.o)
  have HAD : J0 (ad2.block ≠ gg) := ⟨by have h1 := World.block_lt_of_cell? w0 _ hkb; have h2 := Memo.gg_ge HM.o; rw [add_block] at h1; omega⟩
  refine start_ (n := 16) (S := fun w' => w'.cell? ⟨gn, 2, none⟩ = some (.slice (some ad2) 2 c2) ∧ w'.cell? ad2 = some (.int .i64 (k0 : Int)) ∧ w'.cell? ⟨ad2.block, ad2.off + 1, none⟩ = some (.int .i64 (k1 : Int))) (ds := []) (bb 16 0) (by kernel_rfl) rfl rfl ⟨(blk_cell BN.o 2).trans rfl, hz0, hq1⟩ (fun hHeld => ?_)
  generalize hW1 : w9.drew = W1 at HM HB HK BN hHeld ⊢
  refine pk_ 0 85 1 ?_; refine pk_ 1 86 3 ?_; refine pk_ 5 90 35 ?_; refine pk_ 7 92 163 ?_; refine pk_ 8 93 419 ?_; refine pk_ 12 97 4515 ?_; refine tk_ 2 87 4519 hHeld ?_; refine pk_ 3 88 4527 ?_; refine tk_ 4 89 4543 hHeld ?_; refine tk_ 9 94 5055 hHeld ?_; refine pk_ 10 95 6079 ?_; refine tk_ 11 96 8127 hHeld ?_
  refine one_ (i := 6) (N := (some 91)) (bb 16 8191) rfl rfl (by kernel_rfl) (by decide) (fun K hK => ?_)
  refine goes_ Try.func121 (by kernel_rfl) rfl #[.pointer (some ⟨gm, 0, none⟩), .int .i64 (k0 : Int), .int .i64 0] (by rfl) rfl rfl (by (try simp only [List.map_toArray, List.map_cons, List.map_nil]); first | done | rfl) ?_
  refine (HE0.o _ HM.o HB.o).mono ?_
  rintro e w_ ⟨v_, rfl, hR_, hM_, hK_, hB_⟩
  refine ⟨_, rfl, ?_⟩; obtain ⟨HAg, HAc, rfl, HAh⟩ := Row.form hR_; have HA := q_ hR_; have nK := q_ (HK.o.trans hK_); clear HM HB HK hR_; have HM := q_ hM_; have HB := q_ hB_; have HK := nK; clear nK hM_ hB_
  refine hK.out _ _ ⟨MK.cell hK_ (hHeld.1) HGN.o, MK.cell hK_ (hHeld.2.1) (by have := HAD.o; first | exact this | (show ad2.block ≠ gg; exact this)), MK.cell hK_ (hHeld.2.2) (by have := HAD.o; first | exact this | (show ad2.block ≠ gg; exact this))⟩ (fun hHeld => ?_)
  clear hK_; clear hK K; refine no_ (some 91) ?_
  refine one_ (i := 13) (N := (some 98)) (bb 16 16383) rfl rfl (by kernel_rfl) (by decide) (fun K hK => ?_)
  refine goes_ Try.func121 (by kernel_rfl) rfl #[.pointer (some ⟨gm, 0, none⟩), .int .i64 (k1 : Int), .int .i64 0] (by rfl) rfl rfl (by (try simp only [List.map_toArray, List.map_cons, List.map_nil]); first | done | rfl) ?_
  refine (HE1.o _ HM.o HB.o).mono ?_
  rintro e w_ ⟨v_, rfl, hR_, hM_, hK_, hB_⟩
  refine ⟨_, rfl, ?_⟩; obtain ⟨HCg, HCc, rfl, HCh⟩ := Row.form hR_; have HC := q_ hR_; have nHA := q_ (Row.keep HA.o hK_); clear HA; have HA := nHA; clear nHA; have nK := q_ (HK.o.trans hK_); clear HM HB HK hR_; have HM := q_ hM_; have HB := q_ hB_; have HK := nK; clear nK hM_ hB_
  refine hK.out _ _ ⟨MK.cell hK_ (hHeld.1) HGN.o, MK.cell hK_ (hHeld.2.1) (by have := HAD.o; first | exact this | (show ad2.block ≠ gg; exact this)), MK.cell hK_ (hHeld.2.2) (by have := HAD.o; first | exact this | (show ad2.block ≠ gg; exact this))⟩ (fun hHeld => ?_)
  clear hK_; clear hK K; refine no_ (some 98) ?_
  refine one_ (i := 14) (N := (some 99)) (bb 16 32767) rfl rfl (by kernel_rfl) (by decide) (fun K hK => ?_)
  refine goes_ Try.func171 (by kernel_rfl) rfl #[.slice (some ⟨HAg, 0, none⟩) 1 HAc, .slice (some ⟨HCg, 0, none⟩) 1 HCc] (by rfl) rfl rfl (by (try simp only [List.map_toArray, List.map_cons, List.map_nil]); first | done | rfl) ?_
  obtain ⟨k_, hk_⟩ := or_one (E k0) (E k1)
  refine (spec_l4Or.calls k_ _ _ [(E k0)] _ _ [(E k1)] _ _ (Row.C HA.o) (Kd.R_reads' HA.o).2.1 (Row.C HC.o) (Kd.R_reads' HC.o).2.1 hk_).mono ?_
  rintro e w_ ⟨v_, rfl, ho, hb⟩
  have hR_ := Row.new ho HB.o (Memo.gg_lt HM.o); have hM_ := Memo.below HM.o hb; have hB_ := below_step HB.o hb; have hK_ := MK.below (gg := gg) hb; clear ho hb hk_; refine ⟨_, rfl, ?_⟩; obtain ⟨HOg, HOc, rfl, HOh⟩ := Row.form hR_; have HO := q_ hR_; have nK := q_ (HK.o.trans hK_); clear HM HB HK hR_; have HM := q_ hM_; have HB := q_ hB_; have HK := nK; clear nK hM_ hB_
  refine hK.out _ _ ⟨MK.cell hK_ (hHeld.1) HGN.o, MK.cell hK_ (hHeld.2.1) (by have := HAD.o; first | exact this | (show ad2.block ≠ gg; exact this)), MK.cell hK_ (hHeld.2.2) (by have := HAD.o; first | exact this | (show ad2.block ≠ gg; exact this))⟩ (fun hHeld => ?_)
  clear hK_; clear hK K; refine no_ (some 99) ?_; refine pk_ 15 6 65535 ?_
  refine done_ (by kernel_rfl) ?_
  go_wp2_with fail
  go_ret
  exact ⟨_, rfl, by rw [HE.o]; exact HO.o, HM.o, HK.o, HB.o⟩
theorem find_plus {w0 : World} {gm gg cn : Nat} {An : Option Addr} {nodes : List S156} {tx : ByteArray} {E : Nat → Bool} (ht : tx.size = 0) (hn : nodes.length ≤ 100000) (k : Nat) (hk1 : k < nodes.length) (hN : Kd.C k156 w0 An nodes.length nodes) (hop : (rd_T156 nodes (k : Int)).f0 = 6) (hlen : (rd_T156 nodes (k : Int)).f2.length = 1) (k0 : Nat) (e0 : rd (rd_T156 nodes (k : Int)).f2 0 = (k0 : Int)) (he0 : EOK w0 gm gg An cn nodes tx E k0) (hE : E k = E k0) : FOK w0 gm gg An cn nodes tx E k := by
  intro w hM hB
  obtain ⟨ad, A1, c1, A2, c2, rfl, hx0, hx1, hx2, hx3, hx4, _, _, hc2, hC2⟩ := at_T156 hN (k : Int) (by omega) (by omega)
  rw [Int.toNat_natCast] at hx0 hx1 hx2 hx3 hx4
  replace hx0 := (hB.cell (World.block_lt_of_cell? w0 _ hx0)).trans hx0; replace hx1 := (hB.cell (World.block_lt_of_cell? w0 _ hx1)).trans hx1; replace hx2 := (hB.cell (World.block_lt_of_cell? w0 _ hx2)).trans hx2; replace hx3 := (hB.cell (World.block_lt_of_cell? w0 _ hx3)).trans hx3; replace hx4 := (hB.cell (World.block_lt_of_cell? w0 _ hx4)).trans hx4
  obtain ⟨x, hxd⟩ : ∃ x, rd_T156 nodes (k : Int) = x := ⟨_, rfl⟩
  rw [hxd] at hx0 hx1 hx2 hx3 hx4 hc2 hC2 hop hlen e0
  rw [hop] at hx0
  clear hxd
  obtain ⟨ad2, rfl, hkc0⟩ := Kd.at_int hC2 0 (by omega) (by rw [hlen]; decide)
  rw [e0] at hkc0
  rw [show (0 : Int).toNat = 0 from rfl] at hkc0
  rw [hlen] at hx2
  clear hC2 hc2 hlen; obtain ⟨cg, hG, hcg, hgm⟩ := Memo.head hM
  have hm0 : w.cell? ⟨gm, 0, none⟩ = some (.slice (some ad) nodes.length cn) := (blk_cell hG 0).trans rfl
  have hm1 : w.cell? ⟨gm, 1, none⟩ = some (.string tx) := (blk_cell hG 1).trans rfl
  have ha1 : (w.alloc (.cells #[.int .i64 6, .slice A1 x.f1.length c1, .slice (some ad2) 1 c2, .int .i64 x.f3, .int .i64 x.f4] 156)).cell? ⟨gm, 1, none⟩ = some (.string tx) := (blk_cell (blk_alloc hG _) 1).trans rfl
  have hkz : (k : Int) < (nodes.length : Int) := by omega
  have hk0 : (0 : Int) ≤ (k : Int) := by omega
  obtain ⟨gn, hgn⟩ : ∃ gn, w.heap.size = gn := ⟨_, rfl⟩
  have HGN : J0 (gn ≠ gg) := ⟨by have := Memo.gg_lt hM; omega⟩
  have BN : J0 ((w.alloc (.cells #[.int .i64 6, .slice A1 x.f1.length c1, .slice (some ad2) 1 c2, .int .i64 x.f3, .int .i64 x.f4] 156)).heap[gn]? = some (.cells #[.int .i64 6, .slice A1 x.f1.length c1, .slice (some ad2) 1 c2, .int .i64 x.f3, .int .i64 x.f4] 156 (0, 0))) := ⟨by rw [← hgn]; exact blk_new w _⟩
  have HK := q_ (MK.below (gg := gg) (below_alloc (Below.refl w.heap.size w) (.cells #[.int .i64 6, .slice A1 x.f1.length c1, .slice (some ad2) 1 c2, .int .i64 x.f3, .int .i64 x.f4] 156))); have HB := q_ (below_alloc hB (.cells #[.int .i64 6, .slice A1 x.f1.length c1, .slice (some ad2) 1 c2, .int .i64 x.f3, .int .i64 x.f4] 156)); have HM := q_ (Memo.below hM (below_alloc (Below.refl w.heap.size w) (.cells #[.int .i64 6, .slice A1 x.f1.length c1, .slice (some ad2) 1 c2, .int .i64 x.f3, .int .i64 x.f4] 156))); have HE := q_ hE; clear hG hM hB hE
  go_enter Try.func157, Try.ntmps157
  go_upto_region 5 with (first | ((with_reducible refine gate_dst (N := 26) rfl ?_); refine Kd.R_make Kd.bool _ 4 rfl (N := 26) rfl 124 _ _ rfl (1 : Int) rfl rfl Try.underlying124 (.bool false) 1 info4 rfl (by decide) (by omega) false (ok := fun _ => True) (okp := fun _ => True) rfl (fun _ hk => hk) trivial (by omega) (by decide) (Below.refl _ _) (Nat.le_refl _) ?_; intro H8v w_ ho hb hg_ hnew_; clear hg_; replace ho : Kd.R Kd.bool 4 w_ _ (fun _ => True) H8v [false] := ho; have H8 := q_ (Row.new ho HB.o (Memo.gg_lt HM.o)); have nBN := q_ (blk_below BN.o hb); clear BN; have BN := nBN; clear nBN; have nM := q_ (Memo.below HM.o hb); have nB := q_ (below_step HB.o hb); have nK := q_ (HK.o.trans (MK.below hb)); clear HM HB HK ho hb hnew_; have HM := nM; have HB := nB; have HK := nK; clear nM nB nK; obtain ⟨cg_, hG_, _, _⟩ := Memo.head HM.o; have ha2 : w_.cell? ⟨gm, 1, none⟩ = some (.string tx) := (blk_cell hG_ 1).trans rfl; clear hG_) | ((with_reducible refine gate_dst (N := 33) rfl ?_); refine Kd.R_make Kd.bool _ 4 rfl (N := 33) rfl 124 _ _ rfl (1 : Int) rfl rfl Try.underlying124 (.bool false) 1 info4 rfl (by decide) (by omega) false (ok := fun _ => True) (okp := fun _ => True) rfl (fun _ hk => hk) trivial (by omega) (by decide) (Below.refl _ _) (Nat.le_refl _) ?_; intro H9v w_ ho hb hg_ hnew_; clear hg_; replace ho : Kd.R Kd.bool 4 w_ _ (fun _ => True) H9v [false] := ho; have H9 := q_ (Row.new ho HB.o (Memo.gg_lt HM.o)); have HX1 : ∃ W1 : World, Memo w0 gm gg (some ad) cn nodes tx E W1 ∧ Row w0 W1 gg H8v false ∧ W1.heap[gn]? = some (.cells #[.int .i64 6, .slice A1 x.f1.length c1, .slice (some ad2) 1 c2, .int .i64 x.f3, .int .i64 x.f4] 156 (0, 0)) ∧ Below W1.heap.size W1 w_ ∧ (∃ b_, H9v.ownBlock = some b_ ∧ W1.heap.size ≤ b_) ∧ Below w0.heap.size w0 W1 ∧ MK gg w W1 := ⟨_, HM.o, H8.o, BN.o, hb, hnew_, HB.o, HK.o⟩; have nH8 := q_ (Row.keep H8.o (MK.below hb)); clear H8; have H8 := nH8; clear nH8; have nBN := q_ (blk_below BN.o hb); clear BN; have BN := nBN; clear nBN; have nM := q_ (Memo.below HM.o hb); have nB := q_ (below_step HB.o hb); have nK := q_ (HK.o.trans (MK.below hb)); clear HM HB HK ho hb hnew_; have HM := nM; have HB := nB; have HK := nK; clear nM nB nK; obtain ⟨H9g, H9c, rfl, H9h⟩ := Row.form H9.o; have hx9 := Row.cell H9.o; have hf9 := Row.frozen H9.o))
  obtain ⟨W1, hM1, h81, hBN1, hb1, ⟨g9', e9, hg9⟩, hB1, hK1⟩ := HX1
  obtain rfl : H9g = g9' := by simpa [Value.ownBlock] using e9
  have Hbs := below_set hb1 hg9 (j := 0) (v := .bool true); have nH9 := q_ ((Kd.R_put H9.o 0 true).1); clear H8 H9 HM HB HK BN; have HM := q_ (Memo.below hM1 Hbs); have H8 := q_ (Row.keep h81 (MK.below (gg := gg) Hbs)); have HK := q_ (hK1.trans (MK.below (gg := gg) Hbs)); have HB := q_ (below_step hB1 Hbs); have BN := q_ (blk_below hBN1 Hbs)
  have H9 : J0 (Row w0 (w_.setCell ⟨H9g, 0, none⟩ (.bool true)) gg (.slice (some ⟨H9g, 0, none⟩) 1 H9c) true) := nH9
  clear nH9 Hbs hM1 h81 hBN1 hb1 hg9 e9 hB1 hK1 hx9 hf9
  generalize w_.setCell ⟨H9g, 0, none⟩ (.bool true) = w9 at *
  obtain ⟨H8g, H8c, rfl, hH8⟩ := Row.form H8.o; obtain ⟨cg_, hG_, _, _⟩ := Memo.head HM.o
  have ht1 : w9.cell? ⟨gm, 1, none⟩ = some (.string tx) := (blk_cell hG_ 1).trans rfl
  clear hG_
  have hn0 : w9.cell? ⟨gn, 0, none⟩ = some (.int .i64 6) := (blk_cell BN.o 0).trans rfl
  have hn2 : w9.cell? ⟨gn, 2, none⟩ = some (.slice (some ad2) 1 c2) := (blk_cell BN.o 2).trans rfl
  have hn3 : w9.cell? ⟨gn, 3, none⟩ = some (.int .i64 x.f3) := (blk_cell BN.o 3).trans rfl
  have hn4 : w9.cell? ⟨gn, 4, none⟩ = some (.int .i64 x.f4) := (blk_cell BN.o 4).trans rfl
  have hq0 := (HB.o.cell (World.block_lt_of_cell? w0 _ hkc0)).trans hkc0; have hz0 := hq0
  rw [show ad2.add 0 = ad2 by cases ad2; rfl] at hz0
  have HE0 := q_ he0; have hkb := hkc0; clear hkc0 he0
  go_wp2_with fail
  replace HM : J0 (Memo w0 gm gg (some ad) cn nodes tx E w9.drew) := ⟨Memo.below HM.o (below_drew1 (Below.refl _ _))⟩
  replace HB : J0 (Below w0.heap.size w0 w9.drew) := ⟨below_drew1 HB.o⟩
  replace HK : J0 (MK gg w w9.drew) := ⟨HK.o.trans (MK.below (below_drew1 (Below.refl _ _)))⟩
  replace BN := q_ (blk_drew BN.o)
  have HAD : J0 (ad2.block ≠ gg) := ⟨by have h1 := World.block_lt_of_cell? w0 _ hkb; have h2 := Memo.gg_ge HM.o; rw [add_block] at h1; omega⟩
  refine start_ (n := 14) (S := fun w' => w'.cell? ⟨gn, 2, none⟩ = some (.slice (some ad2) 1 c2) ∧ w'.cell? ad2 = some (.int .i64 (k0 : Int))) (ds := []) (bb 14 0) (by kernel_rfl) rfl rfl ⟨(blk_cell BN.o 2).trans rfl, hz0⟩ (fun hHeld => ?_)
  generalize hW1 : w9.drew = W1 at HM HB HK BN hHeld ⊢
  refine pk_ 0 111 1 ?_; refine pk_ 1 112 3 ?_; refine pk_ 5 116 35 ?_; refine pk_ 6 117 99 ?_; refine pk_ 10 121 1123 ?_; refine tk_ 2 113 1127 hHeld ?_; refine pk_ 3 114 1135 ?_; refine tk_ 4 115 1151 hHeld ?_; refine tk_ 7 118 1279 hHeld ?_; refine pk_ 8 119 1535 ?_; refine tk_ 9 120 2047 hHeld ?_
  refine one_ (i := 11) (N := (some 122)) (bb 14 4095) rfl rfl (by kernel_rfl) (by decide) (fun K hK => ?_)
  refine goes_ Try.func121 (by kernel_rfl) rfl #[.pointer (some ⟨gm, 0, none⟩), .int .i64 (k0 : Int), .int .i64 0] (by rfl) rfl rfl (by (try simp only [List.map_toArray, List.map_cons, List.map_nil]); first | done | rfl) ?_
  refine (HE0.o _ HM.o HB.o).mono ?_
  rintro e w_ ⟨v_, rfl, hR_, hM_, hK_, hB_⟩
  refine ⟨_, rfl, ?_⟩; obtain ⟨HAg, HAc, rfl, HAh⟩ := Row.form hR_; have HA := q_ hR_; have nK := q_ (HK.o.trans hK_); clear HM HB HK hR_; have HM := q_ hM_; have HB := q_ hB_; have HK := nK; clear nK hM_ hB_
  refine hK.out _ _ ⟨MK.cell hK_ (hHeld.1) HGN.o, MK.cell hK_ (hHeld.2) (by have := HAD.o; first | exact this | (show ad2.block ≠ gg; exact this))⟩ (fun hHeld => ?_)
  clear hK_; clear hK K; refine no_ (some 122) ?_
  refine one_ (i := 12) (N := (some 123)) (bb 14 8191) rfl rfl (by kernel_rfl) (by decide) (fun K hK => ?_)
  refine goes_ Try.func172 (by kernel_rfl) rfl #[.pointer (some ⟨gm, 0, none⟩), .int .i64 (k0 : Int), .slice (some ⟨HAg, 0, none⟩) 1 HAc] (by rfl) rfl rfl (by (try simp only [List.map_toArray, List.map_cons, List.map_nil]); first | done | rfl) ?_
  refine (again_of k0 HE0.o _ (E k0) _ HM.o HB.o HA.o).mono ?_
  rintro e w_ ⟨v_, rfl, hR_, hM_, hK_, hB_⟩
  refine ⟨_, rfl, ?_⟩; obtain ⟨HOg, HOc, rfl, HOh⟩ := Row.form hR_; have HO := q_ hR_; have nK := q_ (HK.o.trans hK_); clear HM HB HK hR_; have HM := q_ hM_; have HB := q_ hB_; have HK := nK; clear nK hM_ hB_
  refine hK.out _ _ ⟨MK.cell hK_ (hHeld.1) HGN.o, MK.cell hK_ (hHeld.2) (by have := HAD.o; first | exact this | (show ad2.block ≠ gg; exact this))⟩ (fun hHeld => ?_)
  clear hK_; clear hK K; refine no_ (some 123) ?_; refine pk_ 13 6 16383 ?_
  refine done_ (by kernel_rfl) ?_
  go_wp2_with fail
  go_ret
  exact ⟨_, rfl, by rw [HE.o]; exact HO.o, HM.o, HK.o, HB.o⟩
end Go.Proofs.Ytijmhelacmjggaa.P
