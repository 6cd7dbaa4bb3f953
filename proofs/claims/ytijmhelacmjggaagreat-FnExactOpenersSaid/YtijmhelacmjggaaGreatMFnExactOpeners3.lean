/- The law FnExactOpeners holds for every call: part 4 of 6 of the proof (walks of functions, and what they answer). Conditions: none beyond what the given row says. -/
import Derived.Test.YtijmhelacmjggaaGreatMFnExactOpeners2
import Derived.Test.YtijmhelacmjggaaGreatMFnExactOpeners0
import Derived.Shelf.Abstract
import Derived.Lib.Hide
set_option maxHeartbeats 16000000
set_option maxRecDepth 100000
namespace Go.Proofs.YtijmhelacmjggaaGreat.P
open Go.RowKit Go.Shelf Go.Proofs.YtijmhelacmjggaaGreatW.PrintWords Go.Proofs.YtijmhelacmjggaaGreatW.PrintLast Go.Proofs.YtijmhelacmjggaaGreatW.PrintMore Go.Proofs.YtijmhelacmjggaaGreatEv
set_option linter.unusedVariables false
set_option linter.unusedSimpArgs false
theorem nodeOk_1_calls (place : Int) (h0 : -9223372036854775807 ≤ place) (h1 : place ≤ 9223372036854775807) (B : Nat) (w : World) (n : Nat) (hcell : w.cell? ⟨B, 0, none⟩ = some (.int .i64 place)) (x : Int) :
    Calls Tryz.prog 103 #[.int .i64 x, .pointer (some ⟨B, 0, none⟩)] (w.drewN n) fun e w' => e = .returned (.bool (!decide (0 ≤ x ∧ x ≤ place - 1))) ∧ ∃ m, w' = (w.drewN n).drewN m := by
  have hw1 := q_ (impl_within_eq x 0 (place - 1))
  generalize decide (0 ≤ x ∧ x ≤ place - 1) = b at hw1 ⊢
  go_enter Tryz.func103, Tryz.ntmps103
  go_wp2_with fail
  refine (impl_within.calls _ _ _ _ _ hw1.o).mono ?_
  rintro e w' ⟨rfl, ⟨nd, rfl⟩⟩
  go_wp2_with fail
  go_ret
  exact ⟨rfl, nd, by first | rfl | simp⟩
theorem kids_calls (place : Int) (h0 : -9223372036854775807 ≤ place) (h1 : place ≤ 9223372036854775807) (B : Nat) (w : World) (hcell : w.cell? ⟨B, 0, none⟩ = some (.int .i64 place)) (A2 : Option Addr) (c2 : Nat) (l2 : List Int) (hr2 : Kd.C (Kd.int .i64) w A2 l2.length l2) (b : Bool) (hb : J0 (l2.any (fun x => !decide (0 ≤ x ∧ x ≤ place - 1)) = b)) :
    Calls Tryz.prog 102 #[.slice A2 l2.length c2, .func (.func 103) #[] #[.pointer (some ⟨B, 0, none⟩)]] w fun e w' => e = .returned (.bool b) ∧ Drawn0 w w' := by
  have eg : ∀ args w, (callFunc 103 args).run Tryz.prog w = .ok (.enter 103 args) w := enters_of Tryz.func103 (by kernel_rfl) rfl
  have := ContainsFunc_int 103 #[.pointer (some ⟨B, 0, none⟩)] eg (fun x => !decide (0 ≤ x ∧ x ≤ place - 1)) A2 c2 l2 w hr2 (fun n x _ => nodeOk_1_calls place h0 h1 B w n hcell x)
  rw [hb.o] at this
  exact this
theorem nodeOk_kids (op : Int) (A1 : Option Addr) (c1 : Nat) (l1 : List S67) (A2 : Option Addr) (c2 : Nat) (l2 : List Int) (mi ma place : Int) (w : World) (hp0 : 0 ≤ place) (hp1 : place ≤ 1000000) (hr1 : Kd.C k67 w A1 l1.length l1) (hc1 : l1.length ≤ c1) (hr2 : Kd.C (Kd.int .i64) w A2 l2.length l2) (hc2 : l2.length ≤ c2) (hk : (l2.length : Int) ≠ kidsN op) :
    Calls Tryz.prog 86 #[.agg #[.int .i64 op, .slice A1 l1.length c1, .slice A2 l2.length c2, .int .i64 mi, .int .i64 ma], .int .i64 place] w fun e w' => e = .returned (.bool false) ∧ Below w.heap.size w w' := by
  obtain ⟨kk, hkk⟩ := ev_get (impl_kidsOf_ev op)
  have HK := q_ hkk
  have HR1 := q_ hr1
  have HC1 := q_ hc1
  have HR2 := q_ hr2
  have HC2 := q_ hc2
  clear hkk hr1 hc1 hr2 hc2
  generalize kidsN op = ko at HK hk
  have hb0 : Below w.heap.size w ((w.alloc (.cells #[.int .i64 op, .slice A1 l1.length c1, .slice A2 l2.length c2, .int .i64 mi, .int .i64 ma] 121)).alloc (.cells #[.int .i64 place] 2)) := below_alloc (below_alloc (Below.refl _ _) _) _
  have hne : ((l2.length : Int) != ko) = true := bne_iff_ne.2 hk
  clear hk
  go_enter Tryz.func86, Tryz.ntmps86
  go_wp2_with fail
  go_quiet (first | (go_at_call 101; refine (impl_kidsOf.calls _ _ _ _ HK.o).mono ?_; rintro e w' ⟨rfl, ⟨nd, rfl⟩⟩; first | exact ⟨rfl, _, World.drewN_drewN _ _ _⟩ | exact ⟨rfl, _, Eq.trans (World.drewN_drewN _ _ _) (congrArg (World.drewN _) (Nat.add_assoc _ _ _))⟩))
  go_wp2_with fail
  go_ret
  exact ⟨rfl, by repeat (first | exact hb0 | apply pw_below_drewN | apply below_drew1)⟩
theorem nodeOk_any (op : Int) (A1 : Option Addr) (c1 : Nat) (l1 : List S67) (A2 : Option Addr) (c2 : Nat) (l2 : List Int) (mi ma place : Int) (w : World) (hp0 : 0 ≤ place) (hp1 : place ≤ 1000000) (hr1 : Kd.C k67 w A1 l1.length l1) (hc1 : l1.length ≤ c1) (hr2 : Kd.C (Kd.int .i64) w A2 l2.length l2) (hc2 : l2.length ≤ c2) (hk : (l2.length : Int) = kidsN op) (hany : J0 (l2.any (fun x => !decide (0 ≤ x ∧ x ≤ place - 1)) = true)) :
    Calls Tryz.prog 86 #[.agg #[.int .i64 op, .slice A1 l1.length c1, .slice A2 l2.length c2, .int .i64 mi, .int .i64 ma], .int .i64 place] w fun e w' => e = .returned (.bool false) ∧ Below w.heap.size w w' := by
  obtain ⟨kk, hkk⟩ := ev_get (impl_kidsOf_ev op)
  have HK := q_ hkk
  have HR1 := q_ hr1
  have HC1 := q_ hc1
  have HR2 := q_ hr2
  have HC2 := q_ hc2
  clear hkk hr1 hc1 hr2 hc2
  generalize kidsN op = ko at HK hk
  have hb0 : Below w.heap.size w ((w.alloc (.cells #[.int .i64 op, .slice A1 l1.length c1, .slice A2 l2.length c2, .int .i64 mi, .int .i64 ma] 121)).alloc (.cells #[.int .i64 place] 2)) := below_alloc (below_alloc (Below.refl _ _) _) _
  have hne : ((l2.length : Int) != ko) = false := bne_eq_false_iff_eq.2 hk
  clear hk
  go_enter Tryz.func86, Tryz.ntmps86
  go_wp2_with fail
  go_quiet (first | (go_at_call 101; refine (impl_kidsOf.calls _ _ _ _ HK.o).mono ?_; rintro e w' ⟨rfl, ⟨nd, rfl⟩⟩; first | exact ⟨rfl, _, World.drewN_drewN _ _ _⟩ | exact ⟨rfl, _, Eq.trans (World.drewN_drewN _ _ _) (congrArg (World.drewN _) (Nat.add_assoc _ _ _))⟩) | (go_at_call 102; refine (kids_calls place (by omega) (by omega) (w.heap.size + 1) _ ?hcl _ _ l2 ?hr _ hany).mono ?_; (case hcl => (go_simp; done)); (case hr => exact Kd.C_below HR2.o (by repeat (first | exact hb0 | apply pw_below_drewN | apply below_drew1))); rintro e w' ⟨rfl, ⟨nd, rfl⟩⟩; first | exact ⟨rfl, _, World.drewN_drewN _ _ _⟩ | exact ⟨rfl, _, Eq.trans (World.drewN_drewN _ _ _) (congrArg (World.drewN _) (Nat.add_assoc _ _ _))⟩))
  go_wp2_with fail
  go_ret
  exact ⟨rfl, by repeat (first | exact hb0 | apply pw_below_drewN | apply below_drew1)⟩
theorem nodeOk_class (op : Int) (A1 : Option Addr) (c1 : Nat) (l1 : List S67) (A2 : Option Addr) (c2 : Nat) (l2 : List Int) (mi ma place : Int) (w : World) (hp0 : 0 ≤ place) (hp1 : place ≤ 1000000) (hr1 : Kd.C k67 w A1 l1.length l1) (hc1 : l1.length ≤ c1) (hr2 : Kd.C (Kd.int .i64) w A2 l2.length l2) (hc2 : l2.length ≤ c2) (hk : (l2.length : Int) = kidsN op) (hany : J0 (l2.any (fun x => !decide (0 ≤ x ∧ x ≤ place - 1)) = false)) (h2 : (op == 2) = true) (h2' : (op != 2) = false) (kc : Nat) (hcl : impl_ClassOk.f kc l1 = some false) :
    Calls Tryz.prog 86 #[.agg #[.int .i64 op, .slice A1 l1.length c1, .slice A2 l2.length c2, .int .i64 mi, .int .i64 ma], .int .i64 place] w fun e w' => e = .returned (.bool false) ∧ Below w.heap.size w w' := by
  obtain ⟨kk, hkk⟩ := ev_get (impl_kidsOf_ev op)
  have HK := q_ hkk
  have HR1 := q_ hr1
  have HC1 := q_ hc1
  have HR2 := q_ hr2
  have HC2 := q_ hc2
  clear hkk hr1 hc1 hr2 hc2
  generalize kidsN op = ko at HK hk
  have hb0 : Below w.heap.size w ((w.alloc (.cells #[.int .i64 op, .slice A1 l1.length c1, .slice A2 l2.length c2, .int .i64 mi, .int .i64 ma] 121)).alloc (.cells #[.int .i64 place] 2)) := below_alloc (below_alloc (Below.refl _ _) _) _
  have hne : ((l2.length : Int) != ko) = false := bne_eq_false_iff_eq.2 hk
  clear hk
  have HCl := q_ hcl
  clear hcl
  go_enter Tryz.func86, Tryz.ntmps86
  go_wp2_with fail
  go_quiet (first | (go_at_call 101; refine (impl_kidsOf.calls _ _ _ _ HK.o).mono ?_; rintro e w' ⟨rfl, ⟨nd, rfl⟩⟩; first | exact ⟨rfl, _, World.drewN_drewN _ _ _⟩ | exact ⟨rfl, _, Eq.trans (World.drewN_drewN _ _ _) (congrArg (World.drewN _) (Nat.add_assoc _ _ _))⟩) | (go_at_call 102; refine (kids_calls place (by omega) (by omega) (w.heap.size + 1) _ ?hcl _ _ l2 ?hr _ hany).mono ?_; (case hcl => (go_simp; done)); (case hr => exact Kd.C_below HR2.o (by repeat (first | exact hb0 | apply pw_below_drewN | apply below_drew1))); rintro e w' ⟨rfl, ⟨nd, rfl⟩⟩; first | exact ⟨rfl, _, World.drewN_drewN _ _ _⟩ | exact ⟨rfl, _, Eq.trans (World.drewN_drewN _ _ _) (congrArg (World.drewN _) (Nat.add_assoc _ _ _))⟩))
  go_wp2_with fail
  refine (impl_ClassOk.calls kc _ _ l1 false _ ?side1 HC1.o HCl.o).mono ?_
  case side1 => exact Kd.C_below HR1.o (by repeat (first | exact hb0 | apply pw_below_drewN | apply below_drew1))
  rintro e w1 ⟨rfl, hb1⟩
  have hbb : Below w.heap.size w w1 := below_then (by repeat (first | exact hb0 | apply pw_below_drewN | apply below_drew1)) (by simp; omega) hb1
  have hg0 : w1.cell? ⟨w.heap.size, 0, none⟩ = some (.int .i64 op) := (hb1.cell (p := ⟨w.heap.size, 0, none⟩) (by simp; omega)).trans (by go_simp)
  have hg1 : w1.cell? ⟨w.heap.size, 1, none⟩ = some (.slice A1 l1.length c1) := (hb1.cell (p := ⟨w.heap.size, 1, none⟩) (by simp; omega)).trans (by go_simp)
  have hg3 : w1.cell? ⟨w.heap.size, 3, none⟩ = some (.int .i64 mi) := (hb1.cell (p := ⟨w.heap.size, 3, none⟩) (by simp; omega)).trans (by go_simp)
  have hg4 : w1.cell? ⟨w.heap.size, 4, none⟩ = some (.int .i64 ma) := (hb1.cell (p := ⟨w.heap.size, 4, none⟩) (by simp; omega)).trans (by go_simp)
  clear hb1
  go_wp2_with fail
  go_ret
  exact ⟨rfl, by repeat (first | exact hbb | apply pw_below_drewN | apply below_drew1)⟩
theorem nodeOk_bare (op : Int) (A1 : Option Addr) (c1 : Nat) (l1 : List S67) (A2 : Option Addr) (c2 : Nat) (l2 : List Int) (mi ma place : Int) (w : World) (hp0 : 0 ≤ place) (hp1 : place ≤ 1000000) (hr1 : Kd.C k67 w A1 l1.length l1) (hc1 : l1.length ≤ c1) (hr2 : Kd.C (Kd.int .i64) w A2 l2.length l2) (hc2 : l2.length ≤ c2) (hk : (l2.length : Int) = kidsN op) (hany : J0 (l2.any (fun x => !decide (0 ≤ x ∧ x ≤ place - 1)) = false)) (h2 : (op == 2) = true) (h2' : (op != 2) = false) (kc : Nat) (hcl : impl_ClassOk.f kc l1 = some true) (he : ((l1.length : Int) == 0) = true) :
    Calls Tryz.prog 86 #[.agg #[.int .i64 op, .slice A1 l1.length c1, .slice A2 l2.length c2, .int .i64 mi, .int .i64 ma], .int .i64 place] w fun e w' => e = .returned (.bool false) ∧ Below w.heap.size w w' := by
  obtain ⟨kk, hkk⟩ := ev_get (impl_kidsOf_ev op)
  have HK := q_ hkk
  have HR1 := q_ hr1
  have HC1 := q_ hc1
  have HR2 := q_ hr2
  have HC2 := q_ hc2
  clear hkk hr1 hc1 hr2 hc2
  generalize kidsN op = ko at HK hk
  have hb0 : Below w.heap.size w ((w.alloc (.cells #[.int .i64 op, .slice A1 l1.length c1, .slice A2 l2.length c2, .int .i64 mi, .int .i64 ma] 121)).alloc (.cells #[.int .i64 place] 2)) := below_alloc (below_alloc (Below.refl _ _) _) _
  have hne : ((l2.length : Int) != ko) = false := bne_eq_false_iff_eq.2 hk
  clear hk
  have HCl := q_ hcl
  clear hcl
  go_enter Tryz.func86, Tryz.ntmps86
  go_wp2_with fail
  go_quiet (first | (go_at_call 101; refine (impl_kidsOf.calls _ _ _ _ HK.o).mono ?_; rintro e w' ⟨rfl, ⟨nd, rfl⟩⟩; first | exact ⟨rfl, _, World.drewN_drewN _ _ _⟩ | exact ⟨rfl, _, Eq.trans (World.drewN_drewN _ _ _) (congrArg (World.drewN _) (Nat.add_assoc _ _ _))⟩) | (go_at_call 102; refine (kids_calls place (by omega) (by omega) (w.heap.size + 1) _ ?hcl _ _ l2 ?hr _ hany).mono ?_; (case hcl => (go_simp; done)); (case hr => exact Kd.C_below HR2.o (by repeat (first | exact hb0 | apply pw_below_drewN | apply below_drew1))); rintro e w' ⟨rfl, ⟨nd, rfl⟩⟩; first | exact ⟨rfl, _, World.drewN_drewN _ _ _⟩ | exact ⟨rfl, _, Eq.trans (World.drewN_drewN _ _ _) (congrArg (World.drewN _) (Nat.add_assoc _ _ _))⟩))
  go_wp2_with fail
  refine (impl_ClassOk.calls kc _ _ l1 true _ ?side1 HC1.o HCl.o).mono ?_
  case side1 => exact Kd.C_below HR1.o (by repeat (first | exact hb0 | apply pw_below_drewN | apply below_drew1))
  rintro e w1 ⟨rfl, hb1⟩
  have hbb : Below w.heap.size w w1 := below_then (by repeat (first | exact hb0 | apply pw_below_drewN | apply below_drew1)) (by simp; omega) hb1
  have hg0 : w1.cell? ⟨w.heap.size, 0, none⟩ = some (.int .i64 op) := (hb1.cell (p := ⟨w.heap.size, 0, none⟩) (by simp; omega)).trans (by go_simp)
  have hg1 : w1.cell? ⟨w.heap.size, 1, none⟩ = some (.slice A1 l1.length c1) := (hb1.cell (p := ⟨w.heap.size, 1, none⟩) (by simp; omega)).trans (by go_simp)
  have hg3 : w1.cell? ⟨w.heap.size, 3, none⟩ = some (.int .i64 mi) := (hb1.cell (p := ⟨w.heap.size, 3, none⟩) (by simp; omega)).trans (by go_simp)
  have hg4 : w1.cell? ⟨w.heap.size, 4, none⟩ = some (.int .i64 ma) := (hb1.cell (p := ⟨w.heap.size, 4, none⟩) (by simp; omega)).trans (by go_simp)
  clear hb1
  go_wp2_with fail
  go_ret
  exact ⟨rfl, by repeat (first | exact hbb | apply pw_below_drewN | apply below_drew1)⟩
theorem nodeOk_set0 (op : Int) (A1 : Option Addr) (c1 : Nat) (l1 : List S67) (A2 : Option Addr) (c2 : Nat) (l2 : List Int) (mi ma place : Int) (w : World) (hp0 : 0 ≤ place) (hp1 : place ≤ 1000000) (hr1 : Kd.C k67 w A1 l1.length l1) (hc1 : l1.length ≤ c1) (hr2 : Kd.C (Kd.int .i64) w A2 l2.length l2) (hc2 : l2.length ≤ c2) (hk : (l2.length : Int) = kidsN op) (hany : J0 (l2.any (fun x => !decide (0 ≤ x ∧ x ≤ place - 1)) = false)) (h2 : (op == 2) = true) (h2' : (op != 2) = false) (kc : Nat) (hcl : impl_ClassOk.f kc l1 = some true) (he : ((l1.length : Int) == 0) = false) (h8 : (op == 8) = false) (hmi : (mi == 0) = false) :
    Calls Tryz.prog 86 #[.agg #[.int .i64 op, .slice A1 l1.length c1, .slice A2 l2.length c2, .int .i64 mi, .int .i64 ma], .int .i64 place] w fun e w' => e = .returned (.bool false) ∧ Below w.heap.size w w' := by
  obtain ⟨kk, hkk⟩ := ev_get (impl_kidsOf_ev op)
  have HK := q_ hkk
  have HR1 := q_ hr1
  have HC1 := q_ hc1
  have HR2 := q_ hr2
  have HC2 := q_ hc2
  clear hkk hr1 hc1 hr2 hc2
  generalize kidsN op = ko at HK hk
  have hb0 : Below w.heap.size w ((w.alloc (.cells #[.int .i64 op, .slice A1 l1.length c1, .slice A2 l2.length c2, .int .i64 mi, .int .i64 ma] 121)).alloc (.cells #[.int .i64 place] 2)) := below_alloc (below_alloc (Below.refl _ _) _) _
  have hne : ((l2.length : Int) != ko) = false := bne_eq_false_iff_eq.2 hk
  clear hk
  have HCl := q_ hcl
  clear hcl
  go_enter Tryz.func86, Tryz.ntmps86
  go_wp2_with fail
  go_quiet (first | (go_at_call 101; refine (impl_kidsOf.calls _ _ _ _ HK.o).mono ?_; rintro e w' ⟨rfl, ⟨nd, rfl⟩⟩; first | exact ⟨rfl, _, World.drewN_drewN _ _ _⟩ | exact ⟨rfl, _, Eq.trans (World.drewN_drewN _ _ _) (congrArg (World.drewN _) (Nat.add_assoc _ _ _))⟩) | (go_at_call 102; refine (kids_calls place (by omega) (by omega) (w.heap.size + 1) _ ?hcl _ _ l2 ?hr _ hany).mono ?_; (case hcl => (go_simp; done)); (case hr => exact Kd.C_below HR2.o (by repeat (first | exact hb0 | apply pw_below_drewN | apply below_drew1))); rintro e w' ⟨rfl, ⟨nd, rfl⟩⟩; first | exact ⟨rfl, _, World.drewN_drewN _ _ _⟩ | exact ⟨rfl, _, Eq.trans (World.drewN_drewN _ _ _) (congrArg (World.drewN _) (Nat.add_assoc _ _ _))⟩))
  go_wp2_with fail
  refine (impl_ClassOk.calls kc _ _ l1 true _ ?side1 HC1.o HCl.o).mono ?_
  case side1 => exact Kd.C_below HR1.o (by repeat (first | exact hb0 | apply pw_below_drewN | apply below_drew1))
  rintro e w1 ⟨rfl, hb1⟩
  have hbb : Below w.heap.size w w1 := below_then (by repeat (first | exact hb0 | apply pw_below_drewN | apply below_drew1)) (by simp; omega) hb1
  have hg0 : w1.cell? ⟨w.heap.size, 0, none⟩ = some (.int .i64 op) := (hb1.cell (p := ⟨w.heap.size, 0, none⟩) (by simp; omega)).trans (by go_simp)
  have hg1 : w1.cell? ⟨w.heap.size, 1, none⟩ = some (.slice A1 l1.length c1) := (hb1.cell (p := ⟨w.heap.size, 1, none⟩) (by simp; omega)).trans (by go_simp)
  have hg3 : w1.cell? ⟨w.heap.size, 3, none⟩ = some (.int .i64 mi) := (hb1.cell (p := ⟨w.heap.size, 3, none⟩) (by simp; omega)).trans (by go_simp)
  have hg4 : w1.cell? ⟨w.heap.size, 4, none⟩ = some (.int .i64 ma) := (hb1.cell (p := ⟨w.heap.size, 4, none⟩) (by simp; omega)).trans (by go_simp)
  clear hb1
  go_wp2_with fail
  go_ret
  exact ⟨rfl, by repeat (first | exact hbb | apply pw_below_drewN | apply below_drew1)⟩
theorem nodeOk_set1 (op : Int) (A1 : Option Addr) (c1 : Nat) (l1 : List S67) (A2 : Option Addr) (c2 : Nat) (l2 : List Int) (mi ma place : Int) (w : World) (hp0 : 0 ≤ place) (hp1 : place ≤ 1000000) (hr1 : Kd.C k67 w A1 l1.length l1) (hc1 : l1.length ≤ c1) (hr2 : Kd.C (Kd.int .i64) w A2 l2.length l2) (hc2 : l2.length ≤ c2) (hk : (l2.length : Int) = kidsN op) (hany : J0 (l2.any (fun x => !decide (0 ≤ x ∧ x ≤ place - 1)) = false)) (h2 : (op == 2) = true) (h2' : (op != 2) = false) (kc : Nat) (hcl : impl_ClassOk.f kc l1 = some true) (he : ((l1.length : Int) == 0) = false) (h8 : (op == 8) = false) (hmi : (mi == 0) = true) :
    Calls Tryz.prog 86 #[.agg #[.int .i64 op, .slice A1 l1.length c1, .slice A2 l2.length c2, .int .i64 mi, .int .i64 ma], .int .i64 place] w fun e w' => e = .returned (.bool (ma == 0)) ∧ Below w.heap.size w w' := by
  obtain ⟨kk, hkk⟩ := ev_get (impl_kidsOf_ev op)
  have HK := q_ hkk
  have HR1 := q_ hr1
  have HC1 := q_ hc1
  have HR2 := q_ hr2
  have HC2 := q_ hc2
  clear hkk hr1 hc1 hr2 hc2
  generalize kidsN op = ko at HK hk
  have hb0 : Below w.heap.size w ((w.alloc (.cells #[.int .i64 op, .slice A1 l1.length c1, .slice A2 l2.length c2, .int .i64 mi, .int .i64 ma] 121)).alloc (.cells #[.int .i64 place] 2)) := below_alloc (below_alloc (Below.refl _ _) _) _
  have hne : ((l2.length : Int) != ko) = false := bne_eq_false_iff_eq.2 hk
  clear hk
  have HCl := q_ hcl
  clear hcl
  go_enter Tryz.func86, Tryz.ntmps86
  go_wp2_with fail
  go_quiet (first | (go_at_call 101; refine (impl_kidsOf.calls _ _ _ _ HK.o).mono ?_; rintro e w' ⟨rfl, ⟨nd, rfl⟩⟩; first | exact ⟨rfl, _, World.drewN_drewN _ _ _⟩ | exact ⟨rfl, _, Eq.trans (World.drewN_drewN _ _ _) (congrArg (World.drewN _) (Nat.add_assoc _ _ _))⟩) | (go_at_call 102; refine (kids_calls place (by omega) (by omega) (w.heap.size + 1) _ ?hcl _ _ l2 ?hr _ hany).mono ?_; (case hcl => (go_simp; done)); (case hr => exact Kd.C_below HR2.o (by repeat (first | exact hb0 | apply pw_below_drewN | apply below_drew1))); rintro e w' ⟨rfl, ⟨nd, rfl⟩⟩; first | exact ⟨rfl, _, World.drewN_drewN _ _ _⟩ | exact ⟨rfl, _, Eq.trans (World.drewN_drewN _ _ _) (congrArg (World.drewN _) (Nat.add_assoc _ _ _))⟩))
  go_wp2_with fail
  refine (impl_ClassOk.calls kc _ _ l1 true _ ?side1 HC1.o HCl.o).mono ?_
  case side1 => exact Kd.C_below HR1.o (by repeat (first | exact hb0 | apply pw_below_drewN | apply below_drew1))
  rintro e w1 ⟨rfl, hb1⟩
  have hbb : Below w.heap.size w w1 := below_then (by repeat (first | exact hb0 | apply pw_below_drewN | apply below_drew1)) (by simp; omega) hb1
  have hg0 : w1.cell? ⟨w.heap.size, 0, none⟩ = some (.int .i64 op) := (hb1.cell (p := ⟨w.heap.size, 0, none⟩) (by simp; omega)).trans (by go_simp)
  have hg1 : w1.cell? ⟨w.heap.size, 1, none⟩ = some (.slice A1 l1.length c1) := (hb1.cell (p := ⟨w.heap.size, 1, none⟩) (by simp; omega)).trans (by go_simp)
  have hg3 : w1.cell? ⟨w.heap.size, 3, none⟩ = some (.int .i64 mi) := (hb1.cell (p := ⟨w.heap.size, 3, none⟩) (by simp; omega)).trans (by go_simp)
  have hg4 : w1.cell? ⟨w.heap.size, 4, none⟩ = some (.int .i64 ma) := (hb1.cell (p := ⟨w.heap.size, 4, none⟩) (by simp; omega)).trans (by go_simp)
  clear hb1
  go_wp2_with fail
  go_ret
  exact ⟨rfl, by repeat (first | exact hbb | apply pw_below_drewN | apply below_drew1)⟩
theorem nodeOk_full (op : Int) (A1 : Option Addr) (c1 : Nat) (l1 : List S67) (A2 : Option Addr) (c2 : Nat) (l2 : List Int) (mi ma place : Int) (w : World) (hp0 : 0 ≤ place) (hp1 : place ≤ 1000000) (hr1 : Kd.C k67 w A1 l1.length l1) (hc1 : l1.length ≤ c1) (hr2 : Kd.C (Kd.int .i64) w A2 l2.length l2) (hc2 : l2.length ≤ c2) (hk : (l2.length : Int) = kidsN op) (hany : J0 (l2.any (fun x => !decide (0 ≤ x ∧ x ≤ place - 1)) = false)) (h2 : (op == 2) = false) (h2' : (op != 2) = true) (he : decide (0 < l1.length) = true) (he' : decide (0 < (l1.length : Int)) = true) :
    Calls Tryz.prog 86 #[.agg #[.int .i64 op, .slice A1 l1.length c1, .slice A2 l2.length c2, .int .i64 mi, .int .i64 ma], .int .i64 place] w fun e w' => e = .returned (.bool false) ∧ Below w.heap.size w w' := by
  obtain ⟨kk, hkk⟩ := ev_get (impl_kidsOf_ev op)
  have HK := q_ hkk
  have HR1 := q_ hr1
  have HC1 := q_ hc1
  have HR2 := q_ hr2
  have HC2 := q_ hc2
  clear hkk hr1 hc1 hr2 hc2
  generalize kidsN op = ko at HK hk
  have hb0 : Below w.heap.size w ((w.alloc (.cells #[.int .i64 op, .slice A1 l1.length c1, .slice A2 l2.length c2, .int .i64 mi, .int .i64 ma] 121)).alloc (.cells #[.int .i64 place] 2)) := below_alloc (below_alloc (Below.refl _ _) _) _
  have hne : ((l2.length : Int) != ko) = false := bne_eq_false_iff_eq.2 hk
  clear hk
  go_enter Tryz.func86, Tryz.ntmps86
  go_wp2_with fail
  go_quiet (first | (go_at_call 101; refine (impl_kidsOf.calls _ _ _ _ HK.o).mono ?_; rintro e w' ⟨rfl, ⟨nd, rfl⟩⟩; first | exact ⟨rfl, _, World.drewN_drewN _ _ _⟩ | exact ⟨rfl, _, Eq.trans (World.drewN_drewN _ _ _) (congrArg (World.drewN _) (Nat.add_assoc _ _ _))⟩) | (go_at_call 102; refine (kids_calls place (by omega) (by omega) (w.heap.size + 1) _ ?hcl _ _ l2 ?hr _ hany).mono ?_; (case hcl => (go_simp; done)); (case hr => exact Kd.C_below HR2.o (by repeat (first | exact hb0 | apply pw_below_drewN | apply below_drew1))); rintro e w' ⟨rfl, ⟨nd, rfl⟩⟩; first | exact ⟨rfl, _, World.drewN_drewN _ _ _⟩ | exact ⟨rfl, _, Eq.trans (World.drewN_drewN _ _ _) (congrArg (World.drewN _) (Nat.add_assoc _ _ _))⟩))
  go_wp2_with fail
  go_ret
  exact ⟨rfl, by repeat (first | exact hb0 | apply pw_below_drewN | apply below_drew1)⟩
theorem nodeOk_times (op : Int) (A1 : Option Addr) (c1 : Nat) (l1 : List S67) (A2 : Option Addr) (c2 : Nat) (l2 : List Int) (mi ma place : Int) (w : World) (hp0 : 0 ≤ place) (hp1 : place ≤ 1000000) (hr1 : Kd.C k67 w A1 l1.length l1) (hc1 : l1.length ≤ c1) (hr2 : Kd.C (Kd.int .i64) w A2 l2.length l2) (hc2 : l2.length ≤ c2) (hk : (l2.length : Int) = kidsN op) (hany : J0 (l2.any (fun x => !decide (0 ≤ x ∧ x ≤ place - 1)) = false)) (h2 : (op == 2) = false) (h2' : (op != 2) = true) (he : decide (0 < l1.length) = false) (he' : decide (0 < (l1.length : Int)) = false) (h8 : (op == 8) = true) (r : Bool) (ht : impl_timesOk.f mi ma = some r) :
    Calls Tryz.prog 86 #[.agg #[.int .i64 op, .slice A1 l1.length c1, .slice A2 l2.length c2, .int .i64 mi, .int .i64 ma], .int .i64 place] w fun e w' => e = .returned (.bool r) ∧ Below w.heap.size w w' := by
  obtain ⟨kk, hkk⟩ := ev_get (impl_kidsOf_ev op)
  have HK := q_ hkk
  have HR1 := q_ hr1
  have HC1 := q_ hc1
  have HR2 := q_ hr2
  have HC2 := q_ hc2
  clear hkk hr1 hc1 hr2 hc2
  generalize kidsN op = ko at HK hk
  have hb0 : Below w.heap.size w ((w.alloc (.cells #[.int .i64 op, .slice A1 l1.length c1, .slice A2 l2.length c2, .int .i64 mi, .int .i64 ma] 121)).alloc (.cells #[.int .i64 place] 2)) := below_alloc (below_alloc (Below.refl _ _) _) _
  have hne : ((l2.length : Int) != ko) = false := bne_eq_false_iff_eq.2 hk
  clear hk
  have HT := q_ ht
  clear ht
  go_enter Tryz.func86, Tryz.ntmps86
  go_wp2_with fail
  go_quiet (first | (go_at_call 101; refine (impl_kidsOf.calls _ _ _ _ HK.o).mono ?_; rintro e w' ⟨rfl, ⟨nd, rfl⟩⟩; first | exact ⟨rfl, _, World.drewN_drewN _ _ _⟩ | exact ⟨rfl, _, Eq.trans (World.drewN_drewN _ _ _) (congrArg (World.drewN _) (Nat.add_assoc _ _ _))⟩) | (go_at_call 102; refine (kids_calls place (by omega) (by omega) (w.heap.size + 1) _ ?hcl _ _ l2 ?hr _ hany).mono ?_; (case hcl => (go_simp; done)); (case hr => exact Kd.C_below HR2.o (by repeat (first | exact hb0 | apply pw_below_drewN | apply below_drew1))); rintro e w' ⟨rfl, ⟨nd, rfl⟩⟩; first | exact ⟨rfl, _, World.drewN_drewN _ _ _⟩ | exact ⟨rfl, _, Eq.trans (World.drewN_drewN _ _ _) (congrArg (World.drewN _) (Nat.add_assoc _ _ _))⟩))
  go_wp2_with fail
  refine (impl_timesOk.calls mi ma r _ HT.o).mono ?_
  rintro e w' ⟨rfl, ⟨nd, rfl⟩⟩
  go_wp2_with fail
  go_ret
  exact ⟨rfl, by repeat (first | exact hb0 | apply pw_below_drewN | apply below_drew1)⟩
theorem nodeOk_rest0 (op : Int) (A1 : Option Addr) (c1 : Nat) (l1 : List S67) (A2 : Option Addr) (c2 : Nat) (l2 : List Int) (mi ma place : Int) (w : World) (hp0 : 0 ≤ place) (hp1 : place ≤ 1000000) (hr1 : Kd.C k67 w A1 l1.length l1) (hc1 : l1.length ≤ c1) (hr2 : Kd.C (Kd.int .i64) w A2 l2.length l2) (hc2 : l2.length ≤ c2) (hk : (l2.length : Int) = kidsN op) (hany : J0 (l2.any (fun x => !decide (0 ≤ x ∧ x ≤ place - 1)) = false)) (h2 : (op == 2) = false) (h2' : (op != 2) = true) (he : decide (0 < l1.length) = false) (he' : decide (0 < (l1.length : Int)) = false) (h8 : (op == 8) = false) (hmi : (mi == 0) = false) :
    Calls Tryz.prog 86 #[.agg #[.int .i64 op, .slice A1 l1.length c1, .slice A2 l2.length c2, .int .i64 mi, .int .i64 ma], .int .i64 place] w fun e w' => e = .returned (.bool false) ∧ Below w.heap.size w w' := by
  obtain ⟨kk, hkk⟩ := ev_get (impl_kidsOf_ev op)
  have HK := q_ hkk
  have HR1 := q_ hr1
  have HC1 := q_ hc1
  have HR2 := q_ hr2
  have HC2 := q_ hc2
  clear hkk hr1 hc1 hr2 hc2
  generalize kidsN op = ko at HK hk
  have hb0 : Below w.heap.size w ((w.alloc (.cells #[.int .i64 op, .slice A1 l1.length c1, .slice A2 l2.length c2, .int .i64 mi, .int .i64 ma] 121)).alloc (.cells #[.int .i64 place] 2)) := below_alloc (below_alloc (Below.refl _ _) _) _
  have hne : ((l2.length : Int) != ko) = false := bne_eq_false_iff_eq.2 hk
  clear hk
  go_enter Tryz.func86, Tryz.ntmps86
  go_wp2_with fail
  go_quiet (first | (go_at_call 101; refine (impl_kidsOf.calls _ _ _ _ HK.o).mono ?_; rintro e w' ⟨rfl, ⟨nd, rfl⟩⟩; first | exact ⟨rfl, _, World.drewN_drewN _ _ _⟩ | exact ⟨rfl, _, Eq.trans (World.drewN_drewN _ _ _) (congrArg (World.drewN _) (Nat.add_assoc _ _ _))⟩) | (go_at_call 102; refine (kids_calls place (by omega) (by omega) (w.heap.size + 1) _ ?hcl _ _ l2 ?hr _ hany).mono ?_; (case hcl => (go_simp; done)); (case hr => exact Kd.C_below HR2.o (by repeat (first | exact hb0 | apply pw_below_drewN | apply below_drew1))); rintro e w' ⟨rfl, ⟨nd, rfl⟩⟩; first | exact ⟨rfl, _, World.drewN_drewN _ _ _⟩ | exact ⟨rfl, _, Eq.trans (World.drewN_drewN _ _ _) (congrArg (World.drewN _) (Nat.add_assoc _ _ _))⟩))
  go_wp2_with fail
  go_ret
  exact ⟨rfl, by repeat (first | exact hb0 | apply pw_below_drewN | apply below_drew1)⟩
theorem nodeOk_rest1 (op : Int) (A1 : Option Addr) (c1 : Nat) (l1 : List S67) (A2 : Option Addr) (c2 : Nat) (l2 : List Int) (mi ma place : Int) (w : World) (hp0 : 0 ≤ place) (hp1 : place ≤ 1000000) (hr1 : Kd.C k67 w A1 l1.length l1) (hc1 : l1.length ≤ c1) (hr2 : Kd.C (Kd.int .i64) w A2 l2.length l2) (hc2 : l2.length ≤ c2) (hk : (l2.length : Int) = kidsN op) (hany : J0 (l2.any (fun x => !decide (0 ≤ x ∧ x ≤ place - 1)) = false)) (h2 : (op == 2) = false) (h2' : (op != 2) = true) (he : decide (0 < l1.length) = false) (he' : decide (0 < (l1.length : Int)) = false) (h8 : (op == 8) = false) (hmi : (mi == 0) = true) :
    Calls Tryz.prog 86 #[.agg #[.int .i64 op, .slice A1 l1.length c1, .slice A2 l2.length c2, .int .i64 mi, .int .i64 ma], .int .i64 place] w fun e w' => e = .returned (.bool (ma == 0)) ∧ Below w.heap.size w w' := by
  obtain ⟨kk, hkk⟩ := ev_get (impl_kidsOf_ev op)
  have HK := q_ hkk
  have HR1 := q_ hr1
  have HC1 := q_ hc1
  have HR2 := q_ hr2
  have HC2 := q_ hc2
  clear hkk hr1 hc1 hr2 hc2
  generalize kidsN op = ko at HK hk
  have hb0 : Below w.heap.size w ((w.alloc (.cells #[.int .i64 op, .slice A1 l1.length c1, .slice A2 l2.length c2, .int .i64 mi, .int .i64 ma] 121)).alloc (.cells #[.int .i64 place] 2)) := below_alloc (below_alloc (Below.refl _ _) _) _
  have hne : ((l2.length : Int) != ko) = false := bne_eq_false_iff_eq.2 hk
  clear hk
  go_enter Tryz.func86, Tryz.ntmps86
  go_wp2_with fail
  go_quiet (first | (go_at_call 101; refine (impl_kidsOf.calls _ _ _ _ HK.o).mono ?_; rintro e w' ⟨rfl, ⟨nd, rfl⟩⟩; first | exact ⟨rfl, _, World.drewN_drewN _ _ _⟩ | exact ⟨rfl, _, Eq.trans (World.drewN_drewN _ _ _) (congrArg (World.drewN _) (Nat.add_assoc _ _ _))⟩) | (go_at_call 102; refine (kids_calls place (by omega) (by omega) (w.heap.size + 1) _ ?hcl _ _ l2 ?hr _ hany).mono ?_; (case hcl => (go_simp; done)); (case hr => exact Kd.C_below HR2.o (by repeat (first | exact hb0 | apply pw_below_drewN | apply below_drew1))); rintro e w' ⟨rfl, ⟨nd, rfl⟩⟩; first | exact ⟨rfl, _, World.drewN_drewN _ _ _⟩ | exact ⟨rfl, _, Eq.trans (World.drewN_drewN _ _ _) (congrArg (World.drewN _) (Nat.add_assoc _ _ _))⟩))
  go_wp2_with fail
  go_ret
  exact ⟨rfl, by repeat (first | exact hb0 | apply pw_below_drewN | apply below_drew1)⟩
theorem nodeOk_hand (op : Int) (A1 : Option Addr) (c1 : Nat) (l1 : List S67) (A2 : Option Addr) (c2 : Nat) (l2 : List Int) (mi ma place : Int) (w : World) (hp0 : 0 ≤ place) (hp1 : place ≤ 1000000) (hr1 : Kd.C k67 w A1 l1.length l1) (hc1 : l1.length ≤ c1) (hr2 : Kd.C (Kd.int .i64) w A2 l2.length l2) (hc2 : l2.length ≤ c2) :
    Calls Tryz.prog 86 #[.agg #[.int .i64 op, .slice A1 l1.length c1, .slice A2 l2.length c2, .int .i64 mi, .int .i64 ma], .int .i64 place] w fun e w' => e = .returned (.bool (nodeB op l1 l2 mi ma place)) ∧ Below w.heap.size w w' := by
  unfold nodeB
  by_cases hk : (l2.length : Int) = kidsN op
  · rw [decide_eq_true hk, Bool.true_and]
    cases hany : l2.any (fun x => !decide (0 ≤ x ∧ x ≤ place - 1)) with
    | true => simpa using nodeOk_any op A1 c1 l1 A2 c2 l2 mi ma place w hp0 hp1 hr1 hc1 hr2 hc2 hk ⟨hany⟩
    | false =>
      rw [Bool.not_false, Bool.true_and]
      have HA := q_ hany
      by_cases h2 : op = 2
      · rw [if_pos h2, if_neg (by omega)]
        obtain ⟨kc, hkc⟩ := ev_get (impl_ClassOk_ev l1 hr1.2.1)
        cases hcl : classB l1 with
        | false =>
          rw [hcl] at hkc
          simpa using nodeOk_class op A1 c1 l1 A2 c2 l2 mi ma place w hp0 hp1 hr1 hc1 hr2 hc2 hk HA (beq_iff_eq.2 h2) (bne_eq_false_iff_eq.2 h2) kc hkc
        | true =>
          rw [hcl] at hkc
          by_cases he : l1.length = 0
          · rw [decide_eq_true he]
            simpa using nodeOk_bare op A1 c1 l1 A2 c2 l2 mi ma place w hp0 hp1 hr1 hc1 hr2 hc2 hk HA (beq_iff_eq.2 h2) (bne_eq_false_iff_eq.2 h2) kc hkc (beq_iff_eq.2 (by omega))
          · rw [decide_eq_false he]
            by_cases hmi : mi = 0
            · have := nodeOk_set1 op A1 c1 l1 A2 c2 l2 mi ma place w hp0 hp1 hr1 hc1 hr2 hc2 hk HA (beq_iff_eq.2 h2) (bne_eq_false_iff_eq.2 h2) kc hkc (beq_eq_false_iff_ne.2 (by omega)) (beq_eq_false_iff_ne.2 (by omega)) (beq_iff_eq.2 hmi)
              rw [show (ma == 0) = decide (ma = 0) from rfl] at this
              simpa [hmi] using this
            · have := nodeOk_set0 op A1 c1 l1 A2 c2 l2 mi ma place w hp0 hp1 hr1 hc1 hr2 hc2 hk HA (beq_iff_eq.2 h2) (bne_eq_false_iff_eq.2 h2) kc hkc (beq_eq_false_iff_ne.2 (by omega)) (beq_eq_false_iff_ne.2 (by omega)) (beq_eq_false_iff_ne.2 hmi)
              simpa [hmi] using this
      · rw [if_neg h2]
        have e2 := beq_eq_false_iff_ne.2 h2
        have n2 := bne_iff_ne.2 h2
        by_cases he : l1.length = 0
        · rw [decide_eq_true he, Bool.true_and]
          have d1 : decide (0 < l1.length) = false := decide_eq_false (by omega)
          have d2 : decide (0 < (l1.length : Int)) = false := decide_eq_false (by omega)
          by_cases h8 : op = 8
          · rw [if_pos h8]
            exact nodeOk_times op A1 c1 l1 A2 c2 l2 mi ma place w hp0 hp1 hr1 hc1 hr2 hc2 hk HA e2 n2 d1 d2 (beq_iff_eq.2 h8) _ (impl_timesOk_eq mi ma)
          · rw [if_neg h8]
            by_cases hmi : mi = 0
            · have := nodeOk_rest1 op A1 c1 l1 A2 c2 l2 mi ma place w hp0 hp1 hr1 hc1 hr2 hc2 hk HA e2 n2 d1 d2 (beq_eq_false_iff_ne.2 h8) (beq_iff_eq.2 hmi)
              rw [show (ma == 0) = decide (ma = 0) from rfl] at this
              simpa [hmi] using this
            · have := nodeOk_rest0 op A1 c1 l1 A2 c2 l2 mi ma place w hp0 hp1 hr1 hc1 hr2 hc2 hk HA e2 n2 d1 d2 (beq_eq_false_iff_ne.2 h8) (beq_eq_false_iff_ne.2 hmi)
              simpa [hmi] using this
        · rw [decide_eq_false he]
          simpa using nodeOk_full op A1 c1 l1 A2 c2 l2 mi ma place w hp0 hp1 hr1 hc1 hr2 hc2 hk HA e2 n2 (decide_eq_true (by omega)) (decide_eq_true (by omega))
  · rw [decide_eq_false hk]
    simpa using nodeOk_kids op A1 c1 l1 A2 c2 l2 mi ma place w hp0 hp1 hr1 hc1 hr2 hc2 hk
end Go.Proofs.YtijmhelacmjggaaGreat.P
namespace Go.Proofs.YtijmhelacmjggaaGreat.P
open Go.RowKit Go.Proofs.YtijmhelacmjggaaGreatW.PrintWords Go.Proofs.YtijmhelacmjggaaGreatW.PrintLast Go.Proofs.YtijmhelacmjggaaGreatW.PrintMore
attribute [local go_sem] max2_int min2_int max_two min_two max_three min_three max_four min_four
set_option linter.unusedVariables false
set_option linter.unusedSimpArgs false
/-! ### impl_nodeOk: function 86 -/
def impl_nodeOk.f (a0_0 : Int) (l0_1 : List (S67)) (l0_2 : List Int) (a0_3 : Int) (a0_4 : Int) (a1 : Int) : Option (Bool) := if 0 ≤ a1 ∧ a1 ≤ 1000000 then some (nodeB a0_0 l0_1 l0_2 a0_3 a0_4 a1) else none
theorem impl_nodeOk.calls (a0_0 : Int) (A0_1 : Option Addr) (c0_1 : Nat) (l0_1 : List (S67)) (A0_2 : Option Addr) (c0_2 : Nat) (l0_2 : List Int) (a0_3 : Int) (a0_4 : Int) (a1 : Int) (r : Bool) (w : World) (hr0_1 : Kd.C k67 w A0_1 l0_1.length l0_1) (hc0_1 : l0_1.length ≤ c0_1) (hr0_2 : Kd.C (Kd.int .i64) w A0_2 l0_2.length l0_2) (hc0_2 : l0_2.length ≤ c0_2) (h : impl_nodeOk.f a0_0 l0_1 l0_2 a0_3 a0_4 a1 = some r) :
    Calls Tryz.prog 86 #[.agg #[.int .i64 a0_0, .slice A0_1 l0_1.length c0_1, .slice A0_2 l0_2.length c0_2, .int .i64 a0_3, .int .i64 a0_4], .int .i64 a1] w fun e w' => e = .returned (.bool r) ∧ Below w.heap.size w w' := by
  unfold impl_nodeOk.f at h
  by_cases hp : 0 ≤ a1 ∧ a1 ≤ 1000000
  · rw [if_pos hp] at h
    obtain rfl := Option.some.inj h
    exact nodeOk_hand a0_0 A0_1 c0_1 l0_1 A0_2 c0_2 l0_2 a0_3 a0_4 a1 w hp.1 hp.2 hr0_1 hc0_1 hr0_2 hc0_2
  · rw [if_neg hp] at h
    exact absurd h (by simp)
/-! ### impl_RxOk: function 60 -/
mutual
def impl_RxOk.l0 : Nat → Int → List Int → List Int → Int → List (S121) → Option (Bool)
 | 0, _, _, _, _, _ => none
 | k + 1, x3, x4, x5, x6, x102000 => if x6 ≥ 0 then (if 0 ≤ x6 then (if x6 < (x102000.length : Int) then ((impl_nodeOk.f ((rd_T121 x102000 x6).f0) ((rd_T121 x102000 x6).f1) ((rd_T121 x102000 x6).f2) ((rd_T121 x102000 x6).f3) ((rd_T121 x102000 x6).f4) x6).bind fun t113 => (if t113 = true then (if x6 < x3 then (if x6 < (x4.length : Int) then (if (rd x4 x6) = 1 then (if x6 < (x5.length : Int) then (impl_RxOk.j1 k x3 x4 x5 x6 (decide ((rd x5 x6) > 150)) x102000 ((rd_T121 x102000 x6).f0) ((rd_T121 x102000 x6).f1) ((rd_T121 x102000 x6).f2) ((rd_T121 x102000 x6).f3) ((rd_T121 x102000 x6).f4)) else (none)) else (impl_RxOk.j1 k x3 x4 x5 x6 true x102000 ((rd_T121 x102000 x6).f0) ((rd_T121 x102000 x6).f1) ((rd_T121 x102000 x6).f2) ((rd_T121 x102000 x6).f3) ((rd_T121 x102000 x6).f4))) else (none)) else (if x6 < (x5.length : Int) then (impl_RxOk.j1 k x3 x4 x5 x6 (decide ((rd x5 x6) > 150)) x102000 ((rd_T121 x102000 x6).f0) ((rd_T121 x102000 x6).f1) ((rd_T121 x102000 x6).f2) ((rd_T121 x102000 x6).f3) ((rd_T121 x102000 x6).f4)) else (none))) else (impl_RxOk.j1 k x3 x4 x5 x6 true x102000 ((rd_T121 x102000 x6).f0) ((rd_T121 x102000 x6).f1) ((rd_T121 x102000 x6).f2) ((rd_T121 x102000 x6).f3) ((rd_T121 x102000 x6).f4)))) else (none)) else (none)) else (if 0 ≤ x3 then (if x3 < (x4.length : Int) then (some ((rd x4 x3) == 0)) else (none)) else (none))
def impl_RxOk.j1 : Nat → Int → List Int → List Int → Int → Bool → List (S121) → Int → List (S67) → List Int → Int → Int → Option (Bool)
 | 0, _, _, _, _, _, _, _, _, _, _, _ => none
 | k + 1, x3, x4, x5, x6, x59, x102000, x113000, x113001, x113002, x113003, x113004 => if x59 = true then (some false) else (impl_RxOk.l1 k x3 x4 x5 x6 x113002 (x113002.length : Int) 0 x102000)
def impl_RxOk.l1 : Nat → Int → List Int → List Int → Int → List Int → Int → Int → List (S121) → Option (Bool)
 | 0, _, _, _, _, _, _, _, _ => none
 | k + 1, x3, x4, x5, x6, x61, x62, x63, x102000 => if x63 < x62 then (if 0 ≤ x63 then (if x63 < (x61.length : Int) then (if 0 ≤ (rd x61 x63) then (if (rd x61 x63) < (x4.length : Int) then (if 0 ≤ x6 then (if x6 < (x5.length : Int) then (if (rd x61 x63) < (x5.length : Int) then (impl_RxOk.l1 k x3 (x4.set ((rd x61 x63) : Int).toNat (wrap64 ((rd x4 (rd x61 x63)) + 1))) (x5.set ((rd x61 x63) : Int).toNat (wrap64 ((rd x5 x6) + 1))) x6 x61 x62 (wrap64 (x63 + 1)) x102000) else (none)) else (none)) else (none)) else (none)) else (none)) else (none)) else (none)) else (impl_RxOk.l0 k x3 x4 x5 (wrap64 (x6 - 1)) x102000)
end
def impl_RxOk.f (k : Nat) (l0_0 : List (S121)) : Option (Bool) := (impl_RNode.f l0_0).bind fun t102 => ((impl_within.f t102 1 300).bind fun t103 => (if t103 = true then (if 0 ≤ (l0_0.length : Int) then (if ((l0_0.length : Int) : Int).toNat ≤ 35184372088832 then (impl_RxOk.l0 k (wrap64 ((l0_0.length : Int) - 1)) (List.replicate ((l0_0.length : Int) : Int).toNat 0) (List.replicate ((l0_0.length : Int) : Int).toNat 0) (wrap64 ((l0_0.length : Int) - 1)) l0_0) else (none)) else (none)) else (some false)))
def impl_RxOk.T4 : Bool × List (List Nat × List Nat) := (true, [([], []), ([0], [0]), ([1], [1]), ([2, 2], [2]), ([], []), ([4], [4]), ([5], [5]), ([6, 6], [6]), ([3, 0, 1, 2, 3], [3]), ([7, 8, 0, 1, 2, 3, 4, 5, 6, 7, 8], [7])])
def impl_RxOk.B4 : List Nat := [0, 1, 3, 7, 0, 16, 48, 112, 15, 511]
theorem impl_RxOk.tab4 : rtab .any (opsOf Tryz.f60 4) = impl_RxOk.T4 := by kernel_rfl
theorem impl_RxOk.bits4 : waitsOk impl_RxOk.T4.2 impl_RxOk.B4 = true := by kernel_rfl
theorem impl_RxOk.calls (k : Nat) (A0_0 : Option Addr) (c0_0 : Nat) (l0_0 : List (S121)) (r : Bool) (w : World) (hr0_0 : Kd.C k121 w A0_0 l0_0.length l0_0) (hc0_0 : l0_0.length ≤ c0_0) (h : impl_RxOk.f k l0_0 = some r) :
  Calls Tryz.prog 60 #[.agg #[.slice A0_0 l0_0.length c0_0]] w fun e w' => e = .returned (.bool r) ∧ Below w.heap.size w w' := by
 have hu58 := Tryz.underlying58; have hu121 := Tryz.underlying121; have HR0_0 := q_ hr0_0; have HC0_0 := q_ hc0_0; clear hr0_0 hc0_0; have HB := q_ (Below.refl w.heap.size w)
 have H : ((impl_RNode.f l0_0).bind fun t102 => ((impl_within.f t102 1 300).bind fun t103 => (if t103 = true then (if 0 ≤ (l0_0.length : Int) then (if ((l0_0.length : Int) : Int).toNat ≤ 35184372088832 then (impl_RxOk.l0 k (wrap64 ((l0_0.length : Int) - 1)) (List.replicate ((l0_0.length : Int) : Int).toNat 0) (List.replicate ((l0_0.length : Int) : Int).toNat 0) (wrap64 ((l0_0.length : Int) - 1)) l0_0) else (none)) else (none)) else (some false)))) = some r := h
 clear h; obtain ⟨t102, A2, H⟩ := ob_ H; obtain ⟨t103, A3, H⟩ := ob_ H
 by_cases c4 : t103 = true
 ·subst c4; rw [if_pos rfl] at H
  by_cases c5 : 0 ≤ (l0_0.length : Int)
  ·rw [if_pos c5] at H; have c5b0 := eq_true c5; have c5b1 := dt_ c5; clear c5
   by_cases c6 : ((l0_0.length : Int) : Int).toNat ≤ 35184372088832
   ·rw [if_pos c6] at H; have c6b0 := eq_true c6; have c6b1 := dt_ c6; clear c6
    obtain ⟨y104, hy104⟩ : ∃ y_ : List Int, y_ = (List.replicate ((l0_0.length : Int) : Int).toNat 0) := ⟨_, rfl⟩
    replace H : (impl_RxOk.l0 k (wrap64 ((l0_0.length : Int) - 1)) y104 (List.replicate ((l0_0.length : Int) : Int).toNat 0) (wrap64 ((l0_0.length : Int) - 1)) l0_0) = some r := by first | (rw [hy104]; with_reducible exact H) | (have H2_ := (Option.bind_some _ _).symm.trans H; rw [hy104]; with_reducible exact H2_) | (have H2_ := (Option.bind_some _ _).symm.trans H; with_reducible exact H2_) | with_reducible exact H | (rw [hy104]; exact H) | exact H
    have Ny104 := q_ hy104; clear hy104
    obtain ⟨y107, hy107⟩ : ∃ y_ : List Int, y_ = (List.replicate ((l0_0.length : Int) : Int).toNat 0) := ⟨_, rfl⟩
    replace H : (impl_RxOk.l0 k (wrap64 ((l0_0.length : Int) - 1)) y104 y107 (wrap64 ((l0_0.length : Int) - 1)) l0_0) = some r := by first | (rw [hy107]; with_reducible exact H) | (have H2_ := (Option.bind_some _ _).symm.trans H; rw [hy107]; with_reducible exact H2_) | (have H2_ := (Option.bind_some _ _).symm.trans H; with_reducible exact H2_) | with_reducible exact H | (rw [hy107]; exact H) | exact H
    have Ny107 := q_ hy107; clear hy107
    have H' := q_ H
    clear H
    go_enter Tryz.func60, Tryz.ntmps60
    try go_wp2_with (first | ((with_reducible refine gate_dst (N := 1) rfl ?_); refine bx_ 1 #[.slice A0_0 l0_0.length c0_0] 58 ?_; intro gb101 hg w7 hbox hb; have BK101 := q_ (hbox); have GE101 := ge_ hg HB; replace HB := sb_ HB hb; clear hb hbox hg; obtain ⟨hcz8_0, hfz8_0⟩ := d1_ BK101) | ((with_reducible refine gate_callee (f := 85) rfl ?_); refine gl_ (some 12) rfl rfl Tryz.func85 #[.slice A0_0 l0_0.length c0_0] ?_; (with_reducible refine (impl_RNode.calls _ _ l0_0 t102 _ ?side1 ?side2 A2.o).mono ?_); (case side1 => exact Kd.C_below HR0_0.o (be_ HB.o)); (case side2 => exact HC0_0.o); rintro e w' ⟨rfl, ⟨nd, rfl⟩⟩; refine ⟨_, rfl, ?_⟩) | ((with_reducible refine gate_callee (f := 56) rfl ?_); refine gl_ (some 13) rfl rfl Tryz.func56 #[.int .i64 t102, .int .i64 1, .int .i64 300] ?_; (with_reducible refine (impl_within.calls t102 1 300 true _ A3.o).mono ?_); rintro e w' ⟨rfl, ⟨nd, rfl⟩⟩; refine ⟨_, rfl, ?_⟩))
    (try (rw [drewN_self w7]; generalize hq_ : World.drewN w7 _ = w7; have n0_ : J0 (w7.heap[gb101]? = some (.cells #[.slice A0_0 l0_0.length c0_0] 58 (0, 0))) := ⟨by rw [← hq_]; exact (bk_ BK101.o)⟩; have n1_ : J0 (Below w.heap.size w w7) := ⟨by rw [← hq_]; exact (be1_ HB.o GE101.o)⟩; clear BK101 HB hq_; have BK101 := n0_; have HB := n1_; clear n0_ n1_))
    replace BK101 := q_ (blk_drew BK101.o); replace HB := q_ (below_drew1 HB.o)
    refine start_ (n := 10) (S := fun w' => w'.cell? ⟨gb101, 0, none⟩ = some (.slice A0_0 l0_0.length c0_0)) (ds := []) (bb 10 0) (by kernel_rfl) rfl rfl ((blk_cell BK101.o 0).trans rfl) (fun hHeld => ?_); refine with_tabW impl_RxOk.tab4 impl_RxOk.bits4 (fun HT_ HW_ => ?_)
    generalize w7.drew = w9 at BK101 HB hHeld ⊢
    refine pv_ 0 19 1 HT_.o ?_; refine pv_ 4 23 17 HT_.o ?_; refine tv_ 1 20 19 HT_.o HW_.o hHeld ?_; refine pv_ 2 21 23 HT_.o ?_; refine tv_ 5 24 55 HT_.o HW_.o hHeld ?_; refine pv_ 6 25 119 HT_.o ?_
    refine join_ (σ := Value × Value) 1 (bb 10 511) (fun s_ => [(22, s_.1), (26, s_.2), (4, s_.1)]) (fun s_ w' => (w'.cell? ⟨gb101, 0, none⟩ = some (.slice A0_0 l0_0.length c0_0)) ∧ (Kd.R (Kd.int .i64) 3 w' w.heap.size (fun k_ => some k_ ≠ (s_.2 : Value).ownBlock) s_.1 y104) ∧ (Kd.R (Kd.int .i64) 3 w' w.heap.size (fun k_ => some k_ ≠ (s_.1 : Value).ownBlock) s_.2 y107) ∧ (w'.heap[gb101]? = some (.cells #[.slice A0_0 l0_0.length c0_0] 58 (0, 0))) ∧ (Below w.heap.size w w')) ?_ ?_
    rotate_left
    ·intro hCont
     refine two_ (i := 3) (j := 7) (Ni := some 22) (Nj := some 26) (bb 10 127) (bb 10 247) rfl rfl rfl rfl (two_of HT_.o (by kernel_rfl)) (by decide) (by decide) (fun K hK => ?_) (fun K hK => ?_)
     ·skip
      refine Kd.R_make_step (Kd.int .i64) _ 3 (by rfl) (N := 22) rfl 117 _ _ rfl (l0_0.length : Int) rfl rfl Tryz.underlying117 (.int .i64 0) 8 info3 rfl (by decide) (by omega) 0 (ok := fun _ => True) (okp := fun _ => True) rfl (fun _ hk => hk) trivial (of_decide_eq_true as_) (Nat.le_trans (Nat.mul_le_mul_right _ (of_decide_eq_true as_ : (l0_0.length : Int).toNat ≤ 35184372088832)) (by omega)) (Below.refl _ _) (Nat.le_refl _) ?_
      intro v105 w10 ho11 hb hg_ hnew_
      clear hg_ hnew_
      (first | rw [← Ny104.o] at ho11 | (simp only [Int.reduceToNat] at ho11; rw [← Ny104.o] at ho11))
      have HO106 := q_ (Kd.R_lower ho11 (below_size (be1_ HB.o GE101.o))); replace BK101 := lb_ BK101 hb; replace HB := sb1_ HB GE101 hb; clear hb ho11
      refine hK.out _ _ ((blk_cell BK101.o 0).trans rfl) (fun hHeld => ?_)
      clear hK K; refine no_ (some 22) ?_; refine pv_ 8 4 383 HT_.o ?_
      refine one_ (i := 7) (N := some 26) (bb 10 511) rfl rfl (one_of HT_.o (by kernel_rfl)) (by decide) (fun K hK => ?_)
      refine Kd.R_make_step (Kd.int .i64) _ 3 (by rfl) (N := 26) rfl 117 _ _ rfl (l0_0.length : Int) rfl rfl Tryz.underlying117 (.int .i64 0) 8 info3 rfl (by decide) (by omega) 0 (ok := fun _ => True) (okp := fun _ => True) rfl (fun _ hk => hk) trivial (of_decide_eq_true as_) (Nat.le_trans (Nat.mul_le_mul_right _ (of_decide_eq_true as_ : (l0_0.length : Int).toNat ≤ 35184372088832)) (by omega)) (Below.refl _ _) (Nat.le_refl _) ?_
      intro v108 w12 ho13 hb hg_ hnew_
      clear hg_ hnew_
      (first | rw [← Ny107.o] at ho13 | (simp only [Int.reduceToNat] at ho13; rw [← Ny107.o] at ho13))
      have HO109 := q_ (Kd.R_lower (Kd.R_new' ho13 (Kd.R_lt (ra_ HO106.o))) (below_size (be1_ HB.o GE101.o))); replace HO106 := q_ (Kd.R_elder' (ra_ HO106.o) (Kd.R_base ho13) hb); replace BK101 := lb_ BK101 hb; replace HB := sb1_ HB GE101 hb; clear hb ho13
      refine hK.out _ _ ((blk_cell BK101.o 0).trans rfl) (fun hHeld => ?_)
      clear hK K; refine no_ (some 26) ?_
      exact norm_ (by simp only [putAll, Act.put, List.setIfInBounds_toArray, List.set_cons_zero, List.set_cons_succ]) (hCont (v105, v108) _ ⟨hHeld, (by (with_reducible repeat (first | apply Kd.R_alloc | apply Kd.R_drewN | apply Kd.R_drew)); exact Kd.R_mono HO106.o (fun _ hk => hk.2)), (by (with_reducible repeat (first | apply Kd.R_alloc | apply Kd.R_drewN | apply Kd.R_drew)); exact Kd.R_mono HO109.o (fun _ hk => hk.2)), (bk_ BK101.o), (be1_ HB.o GE101.o)⟩)
     ·skip
      refine Kd.R_make_step (Kd.int .i64) _ 3 (by rfl) (N := 26) rfl 117 _ _ rfl (l0_0.length : Int) rfl rfl Tryz.underlying117 (.int .i64 0) 8 info3 rfl (by decide) (by omega) 0 (ok := fun _ => True) (okp := fun _ => True) rfl (fun _ hk => hk) trivial (of_decide_eq_true as_) (Nat.le_trans (Nat.mul_le_mul_right _ (of_decide_eq_true as_ : (l0_0.length : Int).toNat ≤ 35184372088832)) (by omega)) (Below.refl _ _) (Nat.le_refl _) ?_
      intro v108 w10 ho11 hb hg_ hnew_
      clear hg_ hnew_
      (first | rw [← Ny107.o] at ho11 | (simp only [Int.reduceToNat] at ho11; rw [← Ny107.o] at ho11))
      have HO109 := q_ (Kd.R_lower ho11 (below_size (be1_ HB.o GE101.o))); replace BK101 := lb_ BK101 hb; replace HB := sb1_ HB GE101 hb; clear hb ho11
      refine hK.out _ _ ((blk_cell BK101.o 0).trans rfl) (fun hHeld => ?_)
      clear hK K; refine no_ (some 26) ?_
      refine one_ (i := 3) (N := some 22) (bb 10 255) rfl rfl (one_of HT_.o (by kernel_rfl)) (by decide) (fun K hK => ?_)
      refine Kd.R_make_step (Kd.int .i64) _ 3 (by rfl) (N := 22) rfl 117 _ _ rfl (l0_0.length : Int) rfl rfl Tryz.underlying117 (.int .i64 0) 8 info3 rfl (by decide) (by omega) 0 (ok := fun _ => True) (okp := fun _ => True) rfl (fun _ hk => hk) trivial (of_decide_eq_true as_) (Nat.le_trans (Nat.mul_le_mul_right _ (of_decide_eq_true as_ : (l0_0.length : Int).toNat ≤ 35184372088832)) (by omega)) (Below.refl _ _) (Nat.le_refl _) ?_
      intro v105 w12 ho13 hb hg_ hnew_
      clear hg_ hnew_
      (first | rw [← Ny104.o] at ho13 | (simp only [Int.reduceToNat] at ho13; rw [← Ny104.o] at ho13))
      have HO106 := q_ (Kd.R_lower (Kd.R_new' ho13 (Kd.R_lt (ra_ HO109.o))) (below_size (be1_ HB.o GE101.o))); replace HO109 := q_ (Kd.R_elder' (ra_ HO109.o) (Kd.R_base ho13) hb); replace BK101 := lb_ BK101 hb; replace HB := sb1_ HB GE101 hb; clear hb ho13
      refine hK.out _ _ ((blk_cell BK101.o 0).trans rfl) (fun hHeld => ?_)
      clear hK K; refine no_ (some 22) ?_; refine pv_ 8 4 511 HT_.o ?_
      exact norm_ (by simp only [putAll, Act.put, List.setIfInBounds_toArray, List.set_cons_zero, List.set_cons_succ]) (hCont (v105, v108) _ ⟨hHeld, (by (with_reducible repeat (first | apply Kd.R_alloc | apply Kd.R_drewN | apply Kd.R_drew)); exact Kd.R_mono HO106.o (fun _ hk => hk.2)), (by (with_reducible repeat (first | apply Kd.R_alloc | apply Kd.R_drewN | apply Kd.R_drew)); exact Kd.R_mono HO109.o (fun _ hk => hk.2)), (bk_ BK101.o), (be1_ HB.o GE101.o)⟩)
    rintro ⟨v105, v108⟩ w14 ⟨hS_, h0_, h1_, h2_, h3_⟩
    have n0_ : J0 (Kd.R (Kd.int .i64) 3 w14 w.heap.size (fun k_ => some k_ ≠ (v108 : Value).ownBlock) v105 y104) := ⟨h0_⟩
    have n1_ : J0 (Kd.R (Kd.int .i64) 3 w14 w.heap.size (fun k_ => some k_ ≠ (v105 : Value).ownBlock) v108 y107) := ⟨h1_⟩
    have n2_ : J0 (w14.heap[gb101]? = some (.cells #[.slice A0_0 l0_0.length c0_0] 58 (0, 0))) := ⟨h2_⟩
    have n3_ : J0 (Below w.heap.size w w14) := ⟨h3_⟩
    clear BK101; clear HB; clear h0_ h1_ h2_ h3_; have HO106 := n0_; have HO109 := n1_; have BK101 := n2_; have HB := n3_; clear n0_ n1_ n2_ n3_
    have hHeld : w14.cell? ⟨gb101, 0, none⟩ = some (.slice A0_0 l0_0.length c0_0) := hS_
    refine norm_ (a' := ?_) ?_ ?_
    rotate_left
    ·simp only [putAll, Act.put, List.setIfInBounds_toArray, List.set_cons_zero, List.set_cons_succ]
     rfl
    refine pv_ 9 5 1023 HT_.o ?_
    refine done_ (done_of HT_.o (by kernel_rfl)) ?_
    try go_wp2
    go_loopg [6] k (fun kq v6 w' => ∃ (x4_1 : List Int) (x5_1 : List Int) (x6_1 : Int), v6 = .int .i64 x6_1 ∧ J0 (impl_RxOk.l0 kq (wrap64 ((l0_0.length : Int) - 1)) x4_1 x5_1 x6_1 l0_0 = some r) ∧ J0 (kq ≤ k) ∧ J0 (Kd.R (Kd.int .i64) 3 w' w.heap.size (fun k_ => some k_ ≠ (v108 : Value).ownBlock) v105 x4_1) ∧ J0 (Kd.R (Kd.int .i64) 3 w' w.heap.size (fun k_ => some k_ ≠ (v105 : Value).ownBlock) v108 x5_1) ∧ J0 (w'.heap[gb101]? = some (.cells #[(.slice A0_0 l0_0.length c0_0)] 58 (0, 0))) ∧ J0 (Below w.heap.size w w'))
    case atStart => exact ⟨(y104), (y107), (wrap64 ((l0_0.length : Int) - 1)), rs_, H', ⟨Nat.le_refl _⟩, ⟨ra_ HO106.o⟩, ⟨ra_ HO109.o⟩, ⟨bk_ BK101.o⟩, ⟨be1_ HB.o GE101.o⟩⟩
    case round =>
     clear H'; (try clear c4); (try clear c5); (try clear c5b0); (try clear c5b1); (try clear c6); (try clear c6b0); (try clear c6b1); (try clear hcz8_0); (try clear hfz8_0); obtain ⟨x4_1, x5_1, x6_1, rfl, HA, HK1, HO_4, HO_5, BK101, HB⟩ := hrel
     cases gk with
     | zero => exact absurd HA.o (by simp [impl_RxOk.l0])
     | succ k1 =>
      have H := HA.o; clear HA
      simp only [impl_RxOk.l0] at H
      by_cases c15 : x6_1 ≥ 0
      ·rw [if_pos c15] at H
       have c15b0 : decide (0 ≤ x6_1) = true := dt_ c15
       clear c15
       by_cases c16 : 0 ≤ x6_1
       ·rw [if_pos c16] at H; have c16b0 := dt_ c16; clear c16
        by_cases c17 : x6_1 < (l0_0.length : Int)
        ·rw [if_pos c17] at H; have c17b0 := dt_ c17; clear c17; have HC18 := q_ H; clear H; obtain ⟨hcz19_0, hfz19_0⟩ := d1_ BK101
         have p111 : 0 ≤ (x6_1 : Int) := of_decide_eq_true as_
         have q111 : x6_1 < (l0_0.length : Int) := of_decide_eq_true as_
         obtain ⟨ad111, A111_1, c111_1, A111_2, c111_2, e111, hx111_0, hx111_1, hx111_2, hx111_3, hx111_4, hl111_1, hi111_1, hl111_2, hi111_2⟩ := at_T121 HR0_0.o x6_1 p111 q111
         cases e111
         replace hx111_0 := mv_ HB.o hx111_0; replace hx111_1 := mv_ HB.o hx111_1; replace hx111_2 := mv_ HB.o hx111_2; replace hx111_3 := mv_ HB.o hx111_3; replace hx111_4 := mv_ HB.o hx111_4; have HR111_1 := q_ hi111_1; have HC111_1 := q_ hl111_1; clear hi111_1 hl111_1; have HR111_2 := q_ hi111_2; have HC111_2 := q_ hl111_2; clear hi111_2 hl111_2; replace p111 := eq_true p111; replace q111 := eq_true q111
         go_upto_region 9 with (((with_reducible refine gate_dst (N := 7) rfl ?_); refine bx_ 7 #[.int .i64 0, .slice none 0 0, .slice none 0 0, .int .i64 0, .int .i64 0] 121 ?_; intro gb112 hg w20 hbox hb; have BK112 := q_ (hbox); have GE112 := ge1_ hg HB GE101; have NB101_112 := nl_ hg BK101; have NB112_101 := ng_ hg BK101; replace HO_4 := q_ (Kd.R_below (ra_ HO_4.o) hb); replace HO_5 := q_ (Kd.R_below (ra_ HO_5.o) hb); replace BK101 := lb_ BK101 hb; replace HB := sb1_ HB GE101 hb; clear hb hbox hg; have hnb21 := NB112_101.o; have hnc21 := NB101_112.o; obtain ⟨hcz22_0, hcz22_1, hcz22_2, hcz22_3, hcz22_4, hfz22_0, hfz22_1, hfz22_2, hfz22_3, hfz22_4⟩ := d5_ BK112))
         (try simp only [Act.put, List.setIfInBounds_toArray, List.set_cons_zero, List.set_cons_succ])
         go_cut [59] (fun v59 wc => ∃ (kq : Nat) (x59_17 : Bool), v59 = .bool x59_17 ∧ J0 (impl_RxOk.j1 kq (wrap64 ((l0_0.length : Int) - 1)) x4_1 x5_1 x6_1 x59_17 l0_0 ((rd_T121 l0_0 x6_1).f0) ((rd_T121 l0_0 x6_1).f1) ((rd_T121 l0_0 x6_1).f2) ((rd_T121 l0_0 x6_1).f3) ((rd_T121 l0_0 x6_1).f4) = some r) ∧ J0 (kq ≤ k1) ∧ J0 (Kd.R (Kd.int .i64) 3 wc w.heap.size (fun k_ => some k_ ≠ (v108 : Value).ownBlock) v105 x4_1) ∧ J0 (Kd.R (Kd.int .i64) 3 wc w.heap.size (fun k_ => some k_ ≠ (v105 : Value).ownBlock) v108 x5_1) ∧ J0 (wc.heap[gb101]? = some (.cells #[(.slice (some ad111) l0_0.length c0_0)] 58 (0, 0))) ∧ J0 (wc.heap[gb112]? = some (.cells #[.int .i64 ((rd_T121 l0_0 x6_1).f0), (.slice A111_1 ((rd_T121 l0_0 x6_1).f1).length c111_1), (.slice A111_2 ((rd_T121 l0_0 x6_1).f2).length c111_2), .int .i64 ((rd_T121 l0_0 x6_1).f3), .int .i64 ((rd_T121 l0_0 x6_1).f4)] 121 (0, 0))) ∧ J0 (Below w.heap.size w wc))
         case first =>
          have H := HC18.o; clear HC18; obtain ⟨t113, A23, H⟩ := ob_ H
          by_cases c24 : t113 = true
          ·subst c24; rw [if_pos rfl] at H
           by_cases c25 : x6_1 < (wrap64 ((l0_0.length : Int) - 1))
           ·rw [if_pos c25] at H; have c25b0 := dt_ c25; clear c25
            (first | rw [c25b0] | (simp only [i64_w, i32_w]; rw [c25b0]) | skip)
            by_cases c26 : x6_1 < (x4_1.length : Int)
            ·rw [if_pos c26] at H; have c26b0 := dt_ c26; clear c26
             by_cases c27 : (rd x4_1 x6_1) = 1
             ·rw [if_pos c27] at H
              have c27b0 : ((rd x4_1 x6_1) == 1) = true := beq_iff_eq.mpr c27
              have c27b1 : ((rd x4_1 x6_1) != 1) = false := bne_eq_false_iff_eq.mpr c27
              clear c27
              by_cases c28 : x6_1 < (x5_1.length : Int)
              ·rw [if_pos c28] at H; have c28b0 := dt_ c28; clear c28
               have H' := q_ H
               clear H; have hnb29 := NB112_101.o; have hnc29 := NB101_112.o; obtain ⟨hcz30_0, hcz30_1, hcz30_2, hcz30_3, hcz30_4, hfz30_0, hfz30_1, hfz30_2, hfz30_3, hfz30_4⟩ := d5_ BK112
               go_wp2_with (((with_reducible refine gate_callee (f := 86) rfl ?_); refine gl_ (some 39) rfl rfl Tryz.func86 #[.agg #[.int .i64 ((rd_T121 l0_0 x6_1).f0), .slice A111_1 ((rd_T121 l0_0 x6_1).f1).length c111_1, .slice A111_2 ((rd_T121 l0_0 x6_1).f2).length c111_2, .int .i64 ((rd_T121 l0_0 x6_1).f3), .int .i64 ((rd_T121 l0_0 x6_1).f4)], .int .i64 x6_1] ?_; (with_reducible refine (impl_nodeOk.calls ((rd_T121 l0_0 x6_1).f0) _ _ ((rd_T121 l0_0 x6_1).f1) _ _ ((rd_T121 l0_0 x6_1).f2) ((rd_T121 l0_0 x6_1).f3) ((rd_T121 l0_0 x6_1).f4) x6_1 true _ ?side1 ?side2 ?side3 ?side4 A23.o).mono ?_); (case side1 => exact Kd.C_below HR111_1.o (be2_ HB.o GE101.o GE112.o)); (case side2 => exact HC111_1.o); (case side3 => exact Kd.C_below HR111_2.o (be2_ HB.o GE101.o GE112.o)); (case side4 => exact HC111_2.o); rintro e w31 ⟨rfl, hb⟩; refine ⟨_, rfl, ?_⟩; replace HO_4 := q_ (Kd.R_below (by (with_reducible repeat (first | apply Kd.R_alloc | apply Kd.R_drewN | apply Kd.R_drew)); exact (Kd.R_mono (Kd.R_far (p := ⟨gb112, 4, none⟩) (Kd.R_far (p := ⟨gb112, 3, none⟩) (Kd.R_far (p := ⟨gb112, 2, none⟩) (Kd.R_far (p := ⟨gb112, 1, none⟩) (Kd.R_far (p := ⟨gb112, 0, none⟩) (Kd.R_types HO_4.o BK112.o (by decide)) (fun _ hk => hk.2) (.int .i64 ((rd_T121 l0_0 x6_1).f0))) (fun _ hk => hk.2) (.slice A111_1 ((rd_T121 l0_0 x6_1).f1).length c111_1)) (fun _ hk => hk.2) (.slice A111_2 ((rd_T121 l0_0 x6_1).f2).length c111_2)) (fun _ hk => hk.2) (.int .i64 ((rd_T121 l0_0 x6_1).f3))) (fun _ hk => hk.2) (.int .i64 ((rd_T121 l0_0 x6_1).f4))) (fun _ h_ => h_.1))) hb); replace HO_5 := q_ (Kd.R_below (by (with_reducible repeat (first | apply Kd.R_alloc | apply Kd.R_drewN | apply Kd.R_drew)); exact (Kd.R_mono (Kd.R_far (p := ⟨gb112, 4, none⟩) (Kd.R_far (p := ⟨gb112, 3, none⟩) (Kd.R_far (p := ⟨gb112, 2, none⟩) (Kd.R_far (p := ⟨gb112, 1, none⟩) (Kd.R_far (p := ⟨gb112, 0, none⟩) (Kd.R_types HO_5.o BK112.o (by decide)) (fun _ hk => hk.2) (.int .i64 ((rd_T121 l0_0 x6_1).f0))) (fun _ hk => hk.2) (.slice A111_1 ((rd_T121 l0_0 x6_1).f1).length c111_1)) (fun _ hk => hk.2) (.slice A111_2 ((rd_T121 l0_0 x6_1).f2).length c111_2)) (fun _ hk => hk.2) (.int .i64 ((rd_T121 l0_0 x6_1).f3))) (fun _ hk => hk.2) (.int .i64 ((rd_T121 l0_0 x6_1).f4))) (fun _ h_ => h_.1))) hb); replace BK101 := q_ (blk_below (g := gb101) (o := .cells #[.slice (some ad111) l0_0.length c0_0] 58 (0, 0)) (by (with_reducible repeat (first | refine blk_drewN ?_ _ | refine blk_drew ?_ | refine blk_alloc ?_ _)); refine blk_far ?_ NB101_112.o _; (with_reducible repeat (first | refine blk_drewN ?_ _ | refine blk_drew ?_ | refine blk_alloc ?_ _)); refine blk_far ?_ NB101_112.o _; (with_reducible repeat (first | refine blk_drewN ?_ _ | refine blk_drew ?_ | refine blk_alloc ?_ _)); refine blk_far ?_ NB101_112.o _; (with_reducible repeat (first | refine blk_drewN ?_ _ | refine blk_drew ?_ | refine blk_alloc ?_ _)); refine blk_far ?_ NB101_112.o _; (with_reducible repeat (first | refine blk_drewN ?_ _ | refine blk_drew ?_ | refine blk_alloc ?_ _)); refine blk_far ?_ NB101_112.o _; (with_reducible repeat (first | refine blk_drewN ?_ _ | refine blk_drew ?_ | refine blk_alloc ?_ _)); exact BK101.o) hb); replace BK112 := q_ (blk_below (g := gb112) (o := .cells #[.int .i64 ((rd_T121 l0_0 x6_1).f0), .slice A111_1 ((rd_T121 l0_0 x6_1).f1).length c111_1, .slice A111_2 ((rd_T121 l0_0 x6_1).f2).length c111_2, .int .i64 ((rd_T121 l0_0 x6_1).f3), .int .i64 ((rd_T121 l0_0 x6_1).f4)] 121 (0, 0)) (by (with_reducible repeat (first | refine blk_drewN ?_ _ | refine blk_drew ?_ | refine blk_alloc ?_ _)); refine blk_put (cs := #[.int .i64 ((rd_T121 l0_0 x6_1).f0), .slice A111_1 ((rd_T121 l0_0 x6_1).f1).length c111_1, .slice A111_2 ((rd_T121 l0_0 x6_1).f2).length c111_2, .int .i64 ((rd_T121 l0_0 x6_1).f3), .int .i64 0]) ?_ 4 _ rfl; (with_reducible repeat (first | refine blk_drewN ?_ _ | refine blk_drew ?_ | refine blk_alloc ?_ _)); refine blk_put (cs := #[.int .i64 ((rd_T121 l0_0 x6_1).f0), .slice A111_1 ((rd_T121 l0_0 x6_1).f1).length c111_1, .slice A111_2 ((rd_T121 l0_0 x6_1).f2).length c111_2, .int .i64 0, .int .i64 0]) ?_ 3 _ rfl; (with_reducible repeat (first | refine blk_drewN ?_ _ | refine blk_drew ?_ | refine blk_alloc ?_ _)); refine blk_put (cs := #[.int .i64 ((rd_T121 l0_0 x6_1).f0), .slice A111_1 ((rd_T121 l0_0 x6_1).f1).length c111_1, .slice none 0 0, .int .i64 0, .int .i64 0]) ?_ 2 _ rfl; (with_reducible repeat (first | refine blk_drewN ?_ _ | refine blk_drew ?_ | refine blk_alloc ?_ _)); refine blk_put (cs := #[.int .i64 ((rd_T121 l0_0 x6_1).f0), .slice none 0 0, .slice none 0 0, .int .i64 0, .int .i64 0]) ?_ 1 _ rfl; (with_reducible repeat (first | refine blk_drewN ?_ _ | refine blk_drew ?_ | refine blk_alloc ?_ _)); refine blk_put (cs := #[.int .i64 0, .slice none 0 0, .slice none 0 0, .int .i64 0, .int .i64 0]) ?_ 0 _ rfl; (with_reducible repeat (first | refine blk_drewN ?_ _ | refine blk_drew ?_ | refine blk_alloc ?_ _)); exact BK112.o) hb); replace HB := sb2_ HB GE101 GE112 hb; (try clear hb); obtain ⟨Ao32, co32, eo32⟩ := Kd.R_slice HO_4.o; subst eo32; have p114 : 0 ≤ (x6_1 : Int) := of_decide_eq_true as_; have q114 : x6_1 < (x4_1.length : Int) := of_decide_eq_true as_; obtain ⟨ad114, e114, hx114_0⟩ := Kd.at_int (Kd.R_reads' HO_4.o).2.2 x6_1 p114 q114; cases e114; replace p114 := eq_true p114; replace q114 := eq_true q114; obtain ⟨Ao33, co33, eo33⟩ := Kd.R_slice HO_5.o; subst eo33; have p115 : 0 ≤ (x6_1 : Int) := of_decide_eq_true as_; have q115 : x6_1 < (x5_1.length : Int) := of_decide_eq_true as_; obtain ⟨ad115, e115, hx115_0⟩ := Kd.at_int (Kd.R_reads' HO_5.o).2.2 x6_1 p115 q115; cases e115; replace p115 := eq_true p115; replace q115 := eq_true q115))
               go_meet
               case rel => exact ⟨_, (decide ((rd x5_1 x6_1) > 150)), rs_, H', ⟨by have := HK1.o; first | omega | exact Nat.le_refl _⟩, ⟨ra_ HO_4.o⟩, ⟨ra_ HO_5.o⟩, ⟨bk_ BK101.o⟩, ⟨bk_ BK112.o⟩, ⟨be2_ HB.o GE101.o GE112.o⟩⟩
              ·rw [if_neg c28] at H
               exact absurd H (by simp)
             ·rw [if_neg c27] at H
              have c27b0 : ((rd x4_1 x6_1) == 1) = false := beq_eq_false_iff_ne.mpr c27
              have c27b1 : ((rd x4_1 x6_1) != 1) = true := bne_iff_ne.mpr c27
              have H' := q_ H
              clear H; have hnb34 := NB112_101.o; have hnc34 := NB101_112.o; obtain ⟨hcz35_0, hcz35_1, hcz35_2, hcz35_3, hcz35_4, hfz35_0, hfz35_1, hfz35_2, hfz35_3, hfz35_4⟩ := d5_ BK112
              go_wp2_with (((with_reducible refine gate_callee (f := 86) rfl ?_); refine gl_ (some 39) rfl rfl Tryz.func86 #[.agg #[.int .i64 ((rd_T121 l0_0 x6_1).f0), .slice A111_1 ((rd_T121 l0_0 x6_1).f1).length c111_1, .slice A111_2 ((rd_T121 l0_0 x6_1).f2).length c111_2, .int .i64 ((rd_T121 l0_0 x6_1).f3), .int .i64 ((rd_T121 l0_0 x6_1).f4)], .int .i64 x6_1] ?_; (with_reducible refine (impl_nodeOk.calls ((rd_T121 l0_0 x6_1).f0) _ _ ((rd_T121 l0_0 x6_1).f1) _ _ ((rd_T121 l0_0 x6_1).f2) ((rd_T121 l0_0 x6_1).f3) ((rd_T121 l0_0 x6_1).f4) x6_1 true _ ?side1 ?side2 ?side3 ?side4 A23.o).mono ?_); (case side1 => exact Kd.C_below HR111_1.o (be2_ HB.o GE101.o GE112.o)); (case side2 => exact HC111_1.o); (case side3 => exact Kd.C_below HR111_2.o (be2_ HB.o GE101.o GE112.o)); (case side4 => exact HC111_2.o); rintro e w36 ⟨rfl, hb⟩; refine ⟨_, rfl, ?_⟩; replace HO_4 := q_ (Kd.R_below (by (with_reducible repeat (first | apply Kd.R_alloc | apply Kd.R_drewN | apply Kd.R_drew)); exact (Kd.R_mono (Kd.R_far (p := ⟨gb112, 4, none⟩) (Kd.R_far (p := ⟨gb112, 3, none⟩) (Kd.R_far (p := ⟨gb112, 2, none⟩) (Kd.R_far (p := ⟨gb112, 1, none⟩) (Kd.R_far (p := ⟨gb112, 0, none⟩) (Kd.R_types HO_4.o BK112.o (by decide)) (fun _ hk => hk.2) (.int .i64 ((rd_T121 l0_0 x6_1).f0))) (fun _ hk => hk.2) (.slice A111_1 ((rd_T121 l0_0 x6_1).f1).length c111_1)) (fun _ hk => hk.2) (.slice A111_2 ((rd_T121 l0_0 x6_1).f2).length c111_2)) (fun _ hk => hk.2) (.int .i64 ((rd_T121 l0_0 x6_1).f3))) (fun _ hk => hk.2) (.int .i64 ((rd_T121 l0_0 x6_1).f4))) (fun _ h_ => h_.1))) hb); replace HO_5 := q_ (Kd.R_below (by (with_reducible repeat (first | apply Kd.R_alloc | apply Kd.R_drewN | apply Kd.R_drew)); exact (Kd.R_mono (Kd.R_far (p := ⟨gb112, 4, none⟩) (Kd.R_far (p := ⟨gb112, 3, none⟩) (Kd.R_far (p := ⟨gb112, 2, none⟩) (Kd.R_far (p := ⟨gb112, 1, none⟩) (Kd.R_far (p := ⟨gb112, 0, none⟩) (Kd.R_types HO_5.o BK112.o (by decide)) (fun _ hk => hk.2) (.int .i64 ((rd_T121 l0_0 x6_1).f0))) (fun _ hk => hk.2) (.slice A111_1 ((rd_T121 l0_0 x6_1).f1).length c111_1)) (fun _ hk => hk.2) (.slice A111_2 ((rd_T121 l0_0 x6_1).f2).length c111_2)) (fun _ hk => hk.2) (.int .i64 ((rd_T121 l0_0 x6_1).f3))) (fun _ hk => hk.2) (.int .i64 ((rd_T121 l0_0 x6_1).f4))) (fun _ h_ => h_.1))) hb); replace BK101 := q_ (blk_below (g := gb101) (o := .cells #[.slice (some ad111) l0_0.length c0_0] 58 (0, 0)) (by (with_reducible repeat (first | refine blk_drewN ?_ _ | refine blk_drew ?_ | refine blk_alloc ?_ _)); refine blk_far ?_ NB101_112.o _; (with_reducible repeat (first | refine blk_drewN ?_ _ | refine blk_drew ?_ | refine blk_alloc ?_ _)); refine blk_far ?_ NB101_112.o _; (with_reducible repeat (first | refine blk_drewN ?_ _ | refine blk_drew ?_ | refine blk_alloc ?_ _)); refine blk_far ?_ NB101_112.o _; (with_reducible repeat (first | refine blk_drewN ?_ _ | refine blk_drew ?_ | refine blk_alloc ?_ _)); refine blk_far ?_ NB101_112.o _; (with_reducible repeat (first | refine blk_drewN ?_ _ | refine blk_drew ?_ | refine blk_alloc ?_ _)); refine blk_far ?_ NB101_112.o _; (with_reducible repeat (first | refine blk_drewN ?_ _ | refine blk_drew ?_ | refine blk_alloc ?_ _)); exact BK101.o) hb); replace BK112 := q_ (blk_below (g := gb112) (o := .cells #[.int .i64 ((rd_T121 l0_0 x6_1).f0), .slice A111_1 ((rd_T121 l0_0 x6_1).f1).length c111_1, .slice A111_2 ((rd_T121 l0_0 x6_1).f2).length c111_2, .int .i64 ((rd_T121 l0_0 x6_1).f3), .int .i64 ((rd_T121 l0_0 x6_1).f4)] 121 (0, 0)) (by (with_reducible repeat (first | refine blk_drewN ?_ _ | refine blk_drew ?_ | refine blk_alloc ?_ _)); refine blk_put (cs := #[.int .i64 ((rd_T121 l0_0 x6_1).f0), .slice A111_1 ((rd_T121 l0_0 x6_1).f1).length c111_1, .slice A111_2 ((rd_T121 l0_0 x6_1).f2).length c111_2, .int .i64 ((rd_T121 l0_0 x6_1).f3), .int .i64 0]) ?_ 4 _ rfl; (with_reducible repeat (first | refine blk_drewN ?_ _ | refine blk_drew ?_ | refine blk_alloc ?_ _)); refine blk_put (cs := #[.int .i64 ((rd_T121 l0_0 x6_1).f0), .slice A111_1 ((rd_T121 l0_0 x6_1).f1).length c111_1, .slice A111_2 ((rd_T121 l0_0 x6_1).f2).length c111_2, .int .i64 0, .int .i64 0]) ?_ 3 _ rfl; (with_reducible repeat (first | refine blk_drewN ?_ _ | refine blk_drew ?_ | refine blk_alloc ?_ _)); refine blk_put (cs := #[.int .i64 ((rd_T121 l0_0 x6_1).f0), .slice A111_1 ((rd_T121 l0_0 x6_1).f1).length c111_1, .slice none 0 0, .int .i64 0, .int .i64 0]) ?_ 2 _ rfl; (with_reducible repeat (first | refine blk_drewN ?_ _ | refine blk_drew ?_ | refine blk_alloc ?_ _)); refine blk_put (cs := #[.int .i64 ((rd_T121 l0_0 x6_1).f0), .slice none 0 0, .slice none 0 0, .int .i64 0, .int .i64 0]) ?_ 1 _ rfl; (with_reducible repeat (first | refine blk_drewN ?_ _ | refine blk_drew ?_ | refine blk_alloc ?_ _)); refine blk_put (cs := #[.int .i64 0, .slice none 0 0, .slice none 0 0, .int .i64 0, .int .i64 0]) ?_ 0 _ rfl; (with_reducible repeat (first | refine blk_drewN ?_ _ | refine blk_drew ?_ | refine blk_alloc ?_ _)); exact BK112.o) hb); replace HB := sb2_ HB GE101 GE112 hb; (try clear hb); obtain ⟨Ao37, co37, eo37⟩ := Kd.R_slice HO_4.o; subst eo37; have p114 : 0 ≤ (x6_1 : Int) := of_decide_eq_true as_; have q114 : x6_1 < (x4_1.length : Int) := of_decide_eq_true as_; obtain ⟨ad114, e114, hx114_0⟩ := Kd.at_int (Kd.R_reads' HO_4.o).2.2 x6_1 p114 q114; cases e114; replace p114 := eq_true p114; replace q114 := eq_true q114))
              go_meet
              case rel => exact ⟨_, (true), rs_, H', ⟨by have := HK1.o; first | omega | exact Nat.le_refl _⟩, ⟨ra_ HO_4.o⟩, ⟨ra_ HO_5.o⟩, ⟨bk_ BK101.o⟩, ⟨bk_ BK112.o⟩, ⟨be2_ HB.o GE101.o GE112.o⟩⟩
            ·rw [if_neg c26] at H
             exact absurd H (by simp)
           ·rw [if_neg c25] at H; have c25b0 := df_ c25; clear c25
            (first | rw [c25b0] | (simp only [i64_w, i32_w]; rw [c25b0]) | skip)
            by_cases c38 : x6_1 < (x5_1.length : Int)
            ·rw [if_pos c38] at H; have c38b0 := dt_ c38; clear c38
             have H' := q_ H
             clear H; have hnb39 := NB112_101.o; have hnc39 := NB101_112.o; obtain ⟨hcz40_0, hcz40_1, hcz40_2, hcz40_3, hcz40_4, hfz40_0, hfz40_1, hfz40_2, hfz40_3, hfz40_4⟩ := d5_ BK112
             go_wp2_with (((with_reducible refine gate_callee (f := 86) rfl ?_); refine gl_ (some 39) rfl rfl Tryz.func86 #[.agg #[.int .i64 ((rd_T121 l0_0 x6_1).f0), .slice A111_1 ((rd_T121 l0_0 x6_1).f1).length c111_1, .slice A111_2 ((rd_T121 l0_0 x6_1).f2).length c111_2, .int .i64 ((rd_T121 l0_0 x6_1).f3), .int .i64 ((rd_T121 l0_0 x6_1).f4)], .int .i64 x6_1] ?_; (with_reducible refine (impl_nodeOk.calls ((rd_T121 l0_0 x6_1).f0) _ _ ((rd_T121 l0_0 x6_1).f1) _ _ ((rd_T121 l0_0 x6_1).f2) ((rd_T121 l0_0 x6_1).f3) ((rd_T121 l0_0 x6_1).f4) x6_1 true _ ?side1 ?side2 ?side3 ?side4 A23.o).mono ?_); (case side1 => exact Kd.C_below HR111_1.o (be2_ HB.o GE101.o GE112.o)); (case side2 => exact HC111_1.o); (case side3 => exact Kd.C_below HR111_2.o (be2_ HB.o GE101.o GE112.o)); (case side4 => exact HC111_2.o); rintro e w41 ⟨rfl, hb⟩; refine ⟨_, rfl, ?_⟩; replace HO_4 := q_ (Kd.R_below (by (with_reducible repeat (first | apply Kd.R_alloc | apply Kd.R_drewN | apply Kd.R_drew)); exact (Kd.R_mono (Kd.R_far (p := ⟨gb112, 4, none⟩) (Kd.R_far (p := ⟨gb112, 3, none⟩) (Kd.R_far (p := ⟨gb112, 2, none⟩) (Kd.R_far (p := ⟨gb112, 1, none⟩) (Kd.R_far (p := ⟨gb112, 0, none⟩) (Kd.R_types HO_4.o BK112.o (by decide)) (fun _ hk => hk.2) (.int .i64 ((rd_T121 l0_0 x6_1).f0))) (fun _ hk => hk.2) (.slice A111_1 ((rd_T121 l0_0 x6_1).f1).length c111_1)) (fun _ hk => hk.2) (.slice A111_2 ((rd_T121 l0_0 x6_1).f2).length c111_2)) (fun _ hk => hk.2) (.int .i64 ((rd_T121 l0_0 x6_1).f3))) (fun _ hk => hk.2) (.int .i64 ((rd_T121 l0_0 x6_1).f4))) (fun _ h_ => h_.1))) hb); replace HO_5 := q_ (Kd.R_below (by (with_reducible repeat (first | apply Kd.R_alloc | apply Kd.R_drewN | apply Kd.R_drew)); exact (Kd.R_mono (Kd.R_far (p := ⟨gb112, 4, none⟩) (Kd.R_far (p := ⟨gb112, 3, none⟩) (Kd.R_far (p := ⟨gb112, 2, none⟩) (Kd.R_far (p := ⟨gb112, 1, none⟩) (Kd.R_far (p := ⟨gb112, 0, none⟩) (Kd.R_types HO_5.o BK112.o (by decide)) (fun _ hk => hk.2) (.int .i64 ((rd_T121 l0_0 x6_1).f0))) (fun _ hk => hk.2) (.slice A111_1 ((rd_T121 l0_0 x6_1).f1).length c111_1)) (fun _ hk => hk.2) (.slice A111_2 ((rd_T121 l0_0 x6_1).f2).length c111_2)) (fun _ hk => hk.2) (.int .i64 ((rd_T121 l0_0 x6_1).f3))) (fun _ hk => hk.2) (.int .i64 ((rd_T121 l0_0 x6_1).f4))) (fun _ h_ => h_.1))) hb); replace BK101 := q_ (blk_below (g := gb101) (o := .cells #[.slice (some ad111) l0_0.length c0_0] 58 (0, 0)) (by (with_reducible repeat (first | refine blk_drewN ?_ _ | refine blk_drew ?_ | refine blk_alloc ?_ _)); refine blk_far ?_ NB101_112.o _; (with_reducible repeat (first | refine blk_drewN ?_ _ | refine blk_drew ?_ | refine blk_alloc ?_ _)); refine blk_far ?_ NB101_112.o _; (with_reducible repeat (first | refine blk_drewN ?_ _ | refine blk_drew ?_ | refine blk_alloc ?_ _)); refine blk_far ?_ NB101_112.o _; (with_reducible repeat (first | refine blk_drewN ?_ _ | refine blk_drew ?_ | refine blk_alloc ?_ _)); refine blk_far ?_ NB101_112.o _; (with_reducible repeat (first | refine blk_drewN ?_ _ | refine blk_drew ?_ | refine blk_alloc ?_ _)); refine blk_far ?_ NB101_112.o _; (with_reducible repeat (first | refine blk_drewN ?_ _ | refine blk_drew ?_ | refine blk_alloc ?_ _)); exact BK101.o) hb); replace BK112 := q_ (blk_below (g := gb112) (o := .cells #[.int .i64 ((rd_T121 l0_0 x6_1).f0), .slice A111_1 ((rd_T121 l0_0 x6_1).f1).length c111_1, .slice A111_2 ((rd_T121 l0_0 x6_1).f2).length c111_2, .int .i64 ((rd_T121 l0_0 x6_1).f3), .int .i64 ((rd_T121 l0_0 x6_1).f4)] 121 (0, 0)) (by (with_reducible repeat (first | refine blk_drewN ?_ _ | refine blk_drew ?_ | refine blk_alloc ?_ _)); refine blk_put (cs := #[.int .i64 ((rd_T121 l0_0 x6_1).f0), .slice A111_1 ((rd_T121 l0_0 x6_1).f1).length c111_1, .slice A111_2 ((rd_T121 l0_0 x6_1).f2).length c111_2, .int .i64 ((rd_T121 l0_0 x6_1).f3), .int .i64 0]) ?_ 4 _ rfl; (with_reducible repeat (first | refine blk_drewN ?_ _ | refine blk_drew ?_ | refine blk_alloc ?_ _)); refine blk_put (cs := #[.int .i64 ((rd_T121 l0_0 x6_1).f0), .slice A111_1 ((rd_T121 l0_0 x6_1).f1).length c111_1, .slice A111_2 ((rd_T121 l0_0 x6_1).f2).length c111_2, .int .i64 0, .int .i64 0]) ?_ 3 _ rfl; (with_reducible repeat (first | refine blk_drewN ?_ _ | refine blk_drew ?_ | refine blk_alloc ?_ _)); refine blk_put (cs := #[.int .i64 ((rd_T121 l0_0 x6_1).f0), .slice A111_1 ((rd_T121 l0_0 x6_1).f1).length c111_1, .slice none 0 0, .int .i64 0, .int .i64 0]) ?_ 2 _ rfl; (with_reducible repeat (first | refine blk_drewN ?_ _ | refine blk_drew ?_ | refine blk_alloc ?_ _)); refine blk_put (cs := #[.int .i64 ((rd_T121 l0_0 x6_1).f0), .slice none 0 0, .slice none 0 0, .int .i64 0, .int .i64 0]) ?_ 1 _ rfl; (with_reducible repeat (first | refine blk_drewN ?_ _ | refine blk_drew ?_ | refine blk_alloc ?_ _)); refine blk_put (cs := #[.int .i64 0, .slice none 0 0, .slice none 0 0, .int .i64 0, .int .i64 0]) ?_ 0 _ rfl; (with_reducible repeat (first | refine blk_drewN ?_ _ | refine blk_drew ?_ | refine blk_alloc ?_ _)); exact BK112.o) hb); replace HB := sb2_ HB GE101 GE112 hb; (try clear hb); obtain ⟨Ao42, co42, eo42⟩ := Kd.R_slice HO_5.o; subst eo42; have p116 : 0 ≤ (x6_1 : Int) := of_decide_eq_true as_; have q116 : x6_1 < (x5_1.length : Int) := of_decide_eq_true as_; obtain ⟨ad116, e116, hx116_0⟩ := Kd.at_int (Kd.R_reads' HO_5.o).2.2 x6_1 p116 q116; cases e116; replace p116 := eq_true p116; replace q116 := eq_true q116))
             go_meet
             case rel => exact ⟨_, (decide ((rd x5_1 x6_1) > 150)), rs_, H', ⟨by have := HK1.o; first | omega | exact Nat.le_refl _⟩, ⟨ra_ HO_4.o⟩, ⟨ra_ HO_5.o⟩, ⟨bk_ BK101.o⟩, ⟨bk_ BK112.o⟩, ⟨be2_ HB.o GE101.o GE112.o⟩⟩
            ·rw [if_neg c38] at H
             exact absurd H (by simp)
          ·replace c24 := Bool.eq_false_iff.mpr c24; subst c24; rw [if_neg nft_] at H
           have H' := q_ H
           clear H; have hnb43 := NB112_101.o; have hnc43 := NB101_112.o; obtain ⟨hcz44_0, hcz44_1, hcz44_2, hcz44_3, hcz44_4, hfz44_0, hfz44_1, hfz44_2, hfz44_3, hfz44_4⟩ := d5_ BK112
           go_wp2_with (((with_reducible refine gate_callee (f := 86) rfl ?_); refine gl_ (some 39) rfl rfl Tryz.func86 #[.agg #[.int .i64 ((rd_T121 l0_0 x6_1).f0), .slice A111_1 ((rd_T121 l0_0 x6_1).f1).length c111_1, .slice A111_2 ((rd_T121 l0_0 x6_1).f2).length c111_2, .int .i64 ((rd_T121 l0_0 x6_1).f3), .int .i64 ((rd_T121 l0_0 x6_1).f4)], .int .i64 x6_1] ?_; (with_reducible refine (impl_nodeOk.calls ((rd_T121 l0_0 x6_1).f0) _ _ ((rd_T121 l0_0 x6_1).f1) _ _ ((rd_T121 l0_0 x6_1).f2) ((rd_T121 l0_0 x6_1).f3) ((rd_T121 l0_0 x6_1).f4) x6_1 false _ ?side1 ?side2 ?side3 ?side4 A23.o).mono ?_); (case side1 => exact Kd.C_below HR111_1.o (be2_ HB.o GE101.o GE112.o)); (case side2 => exact HC111_1.o); (case side3 => exact Kd.C_below HR111_2.o (be2_ HB.o GE101.o GE112.o)); (case side4 => exact HC111_2.o); rintro e w45 ⟨rfl, hb⟩; refine ⟨_, rfl, ?_⟩; replace HO_4 := q_ (Kd.R_below (by (with_reducible repeat (first | apply Kd.R_alloc | apply Kd.R_drewN | apply Kd.R_drew)); exact (Kd.R_mono (Kd.R_far (p := ⟨gb112, 4, none⟩) (Kd.R_far (p := ⟨gb112, 3, none⟩) (Kd.R_far (p := ⟨gb112, 2, none⟩) (Kd.R_far (p := ⟨gb112, 1, none⟩) (Kd.R_far (p := ⟨gb112, 0, none⟩) (Kd.R_types HO_4.o BK112.o (by decide)) (fun _ hk => hk.2) (.int .i64 ((rd_T121 l0_0 x6_1).f0))) (fun _ hk => hk.2) (.slice A111_1 ((rd_T121 l0_0 x6_1).f1).length c111_1)) (fun _ hk => hk.2) (.slice A111_2 ((rd_T121 l0_0 x6_1).f2).length c111_2)) (fun _ hk => hk.2) (.int .i64 ((rd_T121 l0_0 x6_1).f3))) (fun _ hk => hk.2) (.int .i64 ((rd_T121 l0_0 x6_1).f4))) (fun _ h_ => h_.1))) hb); replace HO_5 := q_ (Kd.R_below (by (with_reducible repeat (first | apply Kd.R_alloc | apply Kd.R_drewN | apply Kd.R_drew)); exact (Kd.R_mono (Kd.R_far (p := ⟨gb112, 4, none⟩) (Kd.R_far (p := ⟨gb112, 3, none⟩) (Kd.R_far (p := ⟨gb112, 2, none⟩) (Kd.R_far (p := ⟨gb112, 1, none⟩) (Kd.R_far (p := ⟨gb112, 0, none⟩) (Kd.R_types HO_5.o BK112.o (by decide)) (fun _ hk => hk.2) (.int .i64 ((rd_T121 l0_0 x6_1).f0))) (fun _ hk => hk.2) (.slice A111_1 ((rd_T121 l0_0 x6_1).f1).length c111_1)) (fun _ hk => hk.2) (.slice A111_2 ((rd_T121 l0_0 x6_1).f2).length c111_2)) (fun _ hk => hk.2) (.int .i64 ((rd_T121 l0_0 x6_1).f3))) (fun _ hk => hk.2) (.int .i64 ((rd_T121 l0_0 x6_1).f4))) (fun _ h_ => h_.1))) hb); replace BK101 := q_ (blk_below (g := gb101) (o := .cells #[.slice (some ad111) l0_0.length c0_0] 58 (0, 0)) (by (with_reducible repeat (first | refine blk_drewN ?_ _ | refine blk_drew ?_ | refine blk_alloc ?_ _)); refine blk_far ?_ NB101_112.o _; (with_reducible repeat (first | refine blk_drewN ?_ _ | refine blk_drew ?_ | refine blk_alloc ?_ _)); refine blk_far ?_ NB101_112.o _; (with_reducible repeat (first | refine blk_drewN ?_ _ | refine blk_drew ?_ | refine blk_alloc ?_ _)); refine blk_far ?_ NB101_112.o _; (with_reducible repeat (first | refine blk_drewN ?_ _ | refine blk_drew ?_ | refine blk_alloc ?_ _)); refine blk_far ?_ NB101_112.o _; (with_reducible repeat (first | refine blk_drewN ?_ _ | refine blk_drew ?_ | refine blk_alloc ?_ _)); refine blk_far ?_ NB101_112.o _; (with_reducible repeat (first | refine blk_drewN ?_ _ | refine blk_drew ?_ | refine blk_alloc ?_ _)); exact BK101.o) hb); replace BK112 := q_ (blk_below (g := gb112) (o := .cells #[.int .i64 ((rd_T121 l0_0 x6_1).f0), .slice A111_1 ((rd_T121 l0_0 x6_1).f1).length c111_1, .slice A111_2 ((rd_T121 l0_0 x6_1).f2).length c111_2, .int .i64 ((rd_T121 l0_0 x6_1).f3), .int .i64 ((rd_T121 l0_0 x6_1).f4)] 121 (0, 0)) (by (with_reducible repeat (first | refine blk_drewN ?_ _ | refine blk_drew ?_ | refine blk_alloc ?_ _)); refine blk_put (cs := #[.int .i64 ((rd_T121 l0_0 x6_1).f0), .slice A111_1 ((rd_T121 l0_0 x6_1).f1).length c111_1, .slice A111_2 ((rd_T121 l0_0 x6_1).f2).length c111_2, .int .i64 ((rd_T121 l0_0 x6_1).f3), .int .i64 0]) ?_ 4 _ rfl; (with_reducible repeat (first | refine blk_drewN ?_ _ | refine blk_drew ?_ | refine blk_alloc ?_ _)); refine blk_put (cs := #[.int .i64 ((rd_T121 l0_0 x6_1).f0), .slice A111_1 ((rd_T121 l0_0 x6_1).f1).length c111_1, .slice A111_2 ((rd_T121 l0_0 x6_1).f2).length c111_2, .int .i64 0, .int .i64 0]) ?_ 3 _ rfl; (with_reducible repeat (first | refine blk_drewN ?_ _ | refine blk_drew ?_ | refine blk_alloc ?_ _)); refine blk_put (cs := #[.int .i64 ((rd_T121 l0_0 x6_1).f0), .slice A111_1 ((rd_T121 l0_0 x6_1).f1).length c111_1, .slice none 0 0, .int .i64 0, .int .i64 0]) ?_ 2 _ rfl; (with_reducible repeat (first | refine blk_drewN ?_ _ | refine blk_drew ?_ | refine blk_alloc ?_ _)); refine blk_put (cs := #[.int .i64 ((rd_T121 l0_0 x6_1).f0), .slice none 0 0, .slice none 0 0, .int .i64 0, .int .i64 0]) ?_ 1 _ rfl; (with_reducible repeat (first | refine blk_drewN ?_ _ | refine blk_drew ?_ | refine blk_alloc ?_ _)); refine blk_put (cs := #[.int .i64 0, .slice none 0 0, .slice none 0 0, .int .i64 0, .int .i64 0]) ?_ 0 _ rfl; (with_reducible repeat (first | refine blk_drewN ?_ _ | refine blk_drew ?_ | refine blk_alloc ?_ _)); exact BK112.o) hb); replace HB := sb2_ HB GE101 GE112 hb; (try clear hb)))
           go_meet
           case rel => exact ⟨_, (true), rs_, H', ⟨by have := HK1.o; first | omega | exact Nat.le_refl _⟩, ⟨ra_ HO_4.o⟩, ⟨ra_ HO_5.o⟩, ⟨bk_ BK101.o⟩, ⟨bk_ BK112.o⟩, ⟨be2_ HB.o GE101.o GE112.o⟩⟩
         case rest =>
          clear HC18; (try clear c4); (try clear c5); (try clear c5b0); (try clear c5b1); (try clear c6); (try clear c6b0); (try clear c6b1); (try clear c15); (try clear c15b0); (try clear c16); (try clear c16b0); (try clear c17); (try clear c17b0); (try clear c24); (try clear c25); (try clear c25b0); (try clear c26); (try clear c26b0); (try clear c27); (try clear c27b0); (try clear c27b1); (try clear c28); (try clear c28b0); (try clear c38); (try clear c38b0); (try clear hcz19_0); (try clear hcz22_0); (try clear hcz22_1); (try clear hcz22_2); (try clear hcz22_3); (try clear hcz22_4); (try clear hcz30_0); (try clear hcz30_1); (try clear hcz30_2); (try clear hcz30_3); (try clear hcz30_4); (try clear hcz35_0); (try clear hcz35_1); (try clear hcz35_2); (try clear hcz35_3); (try clear hcz35_4); (try clear hcz40_0); (try clear hcz40_1); (try clear hcz40_2); (try clear hcz40_3); (try clear hcz40_4); (try clear hcz44_0); (try clear hcz44_1); (try clear hcz44_2); (try clear hcz44_3); (try clear hcz44_4); (try clear hcz8_0); (try clear hfz19_0); (try clear hfz22_0); (try clear hfz22_1); (try clear hfz22_2); (try clear hfz22_3); (try clear hfz22_4); (try clear hfz30_0); (try clear hfz30_1); (try clear hfz30_2); (try clear hfz30_3); (try clear hfz30_4); (try clear hfz35_0); (try clear hfz35_1); (try clear hfz35_2); (try clear hfz35_3); (try clear hfz35_4); (try clear hfz40_0); (try clear hfz40_1); (try clear hfz40_2); (try clear hfz40_3); (try clear hfz40_4); (try clear hfz44_0); (try clear hfz44_1); (try clear hfz44_2); (try clear hfz44_3); (try clear hfz44_4); (try clear hfz8_0); (try clear hx111_0); (try clear hx111_1); (try clear hx111_2); (try clear hx111_3); (try clear hx111_4); (try clear hx114_0); (try clear hx115_0); (try clear hx116_0); (try clear p111); (try clear p114); (try clear p115); (try clear p116); (try clear q111); (try clear q114); (try clear q115); (try clear q116); obtain ⟨kq, x59_17, rfl, HA, HJ17, HO_4, HO_5, BK101, BK112, HB⟩ := hcut
          cases kq with
          | zero => exact absurd HA.o (by simp [impl_RxOk.j1])
          | succ kj17 =>
           have H := HA.o; clear HA
           simp only [impl_RxOk.j1] at H
           by_cases c46 : x59_17 = true
           ·subst c46; rw [if_pos rfl] at H; obtain rfl := Option.some.inj H
            go_wp2
            go_ret
            exact ⟨rt_, be2_ HB.o GE101.o GE112.o⟩
           ·replace c46 := Bool.eq_false_iff.mpr c46; subst c46; rw [if_neg nft_] at H
            have H' := q_ H
            clear H; have hnb47 := NB112_101.o; have hnc47 := NB101_112.o; obtain ⟨hcz48_0, hcz48_1, hcz48_2, hcz48_3, hcz48_4, hfz48_0, hfz48_1, hfz48_2, hfz48_3, hfz48_4⟩ := d5_ BK112
            go_wp2
            go_loopg [63] kj17 (fun kq v63 w' => ∃ (x4_3 : List Int) (x5_3 : List Int) (x63_3 : Int), v63 = .int .i64 x63_3 ∧ J0 (impl_RxOk.l1 kq (wrap64 ((l0_0.length : Int) - 1)) x4_3 x5_3 x6_1 ((rd_T121 l0_0 x6_1).f2) (((rd_T121 l0_0 x6_1).f2).length : Int) x63_3 l0_0 = some r) ∧ J0 (kq ≤ kj17) ∧ J0 (Kd.R (Kd.int .i64) 3 w' w.heap.size (fun k_ => some k_ ≠ (v108 : Value).ownBlock) v105 x4_3) ∧ J0 (Kd.R (Kd.int .i64) 3 w' w.heap.size (fun k_ => some k_ ≠ (v105 : Value).ownBlock) v108 x5_3) ∧ J0 (w'.heap[gb101]? = some (.cells #[(.slice (some ad111) l0_0.length c0_0)] 58 (0, 0))) ∧ J0 (w'.heap[gb112]? = some (.cells #[.int .i64 ((rd_T121 l0_0 x6_1).f0), (.slice A111_1 ((rd_T121 l0_0 x6_1).f1).length c111_1), (.slice A111_2 ((rd_T121 l0_0 x6_1).f2).length c111_2), .int .i64 ((rd_T121 l0_0 x6_1).f3), .int .i64 ((rd_T121 l0_0 x6_1).f4)] 121 (0, 0))) ∧ J0 (Below w.heap.size w w'))
            case atStart => exact ⟨(x4_1), (x5_1), (0), rs_, H', ⟨Nat.le_refl _⟩, ⟨ra_ HO_4.o⟩, ⟨ra_ HO_5.o⟩, ⟨bk_ BK101.o⟩, ⟨bk_ BK112.o⟩, ⟨be2_ HB.o GE101.o GE112.o⟩⟩
            case round =>
             clear H'; (try clear c4); (try clear c5); (try clear c5b0); (try clear c5b1); (try clear c6); (try clear c6b0); (try clear c6b1); (try clear c15); (try clear c15b0); (try clear c16); (try clear c16b0); (try clear c17); (try clear c17b0); (try clear c24); (try clear c25); (try clear c25b0); (try clear c26); (try clear c26b0); (try clear c27); (try clear c27b0); (try clear c27b1); (try clear c28); (try clear c28b0); (try clear c38); (try clear c38b0); (try clear c46); (try clear hcz19_0); (try clear hcz22_0); (try clear hcz22_1); (try clear hcz22_2); (try clear hcz22_3); (try clear hcz22_4); (try clear hcz30_0); (try clear hcz30_1); (try clear hcz30_2); (try clear hcz30_3); (try clear hcz30_4); (try clear hcz35_0); (try clear hcz35_1); (try clear hcz35_2); (try clear hcz35_3); (try clear hcz35_4); (try clear hcz40_0); (try clear hcz40_1); (try clear hcz40_2); (try clear hcz40_3); (try clear hcz40_4); (try clear hcz44_0); (try clear hcz44_1); (try clear hcz44_2); (try clear hcz44_3); (try clear hcz44_4); (try clear hcz48_0); (try clear hcz48_1); (try clear hcz48_2); (try clear hcz48_3); (try clear hcz48_4); (try clear hcz8_0); (try clear hfz19_0); (try clear hfz22_0); (try clear hfz22_1); (try clear hfz22_2); (try clear hfz22_3); (try clear hfz22_4); (try clear hfz30_0); (try clear hfz30_1); (try clear hfz30_2); (try clear hfz30_3); (try clear hfz30_4); (try clear hfz35_0); (try clear hfz35_1); (try clear hfz35_2); (try clear hfz35_3); (try clear hfz35_4); (try clear hfz40_0); (try clear hfz40_1); (try clear hfz40_2); (try clear hfz40_3); (try clear hfz40_4); (try clear hfz44_0); (try clear hfz44_1); (try clear hfz44_2); (try clear hfz44_3); (try clear hfz44_4); (try clear hfz48_0); (try clear hfz48_1); (try clear hfz48_2); (try clear hfz48_3); (try clear hfz48_4); (try clear hfz8_0); (try clear hx111_0); (try clear hx111_1); (try clear hx111_2); (try clear hx111_3); (try clear hx111_4); (try clear hx114_0); (try clear hx115_0); (try clear hx116_0); (try clear p111); (try clear p114); (try clear p115); (try clear p116); (try clear q111); (try clear q114); (try clear q115); (try clear q116); obtain ⟨x4_3, x5_3, x63_3, rfl, HA, HK3, HO_4, HO_5, BK101, BK112, HB⟩ := hrel
             cases gk with
             | zero => exact absurd HA.o (by simp [impl_RxOk.l1])
             | succ k3 =>
              have H := HA.o; clear HA
              simp only [impl_RxOk.l1] at H
              by_cases c49 : x63_3 < (((rd_T121 l0_0 x6_1).f2).length : Int)
              ·rw [if_pos c49] at H; have c49b0 := dt_ c49; clear c49
               by_cases c50 : 0 ≤ x63_3
               ·rw [if_pos c50] at H; have c50b0 := dt_ c50; clear c50
                by_cases c51 : x63_3 < (((rd_T121 l0_0 x6_1).f2).length : Int)
                ·rw [if_pos c51] at H; have c51b0 := dt_ c51; clear c51
                 by_cases c52 : 0 ≤ (rd ((rd_T121 l0_0 x6_1).f2) x63_3)
                 ·rw [if_pos c52] at H; have c52b0 := dt_ c52; clear c52
                  by_cases c53 : (rd ((rd_T121 l0_0 x6_1).f2) x63_3) < (x4_3.length : Int)
                  ·rw [if_pos c53] at H; have c53b0 := dt_ c53; clear c53
                   obtain ⟨y119, hy119⟩ : ∃ y_ : List Int, y_ = (x4_3.set ((rd ((rd_T121 l0_0 x6_1).f2) x63_3) : Int).toNat (wrap64 ((rd x4_3 (rd ((rd_T121 l0_0 x6_1).f2) x63_3)) + 1))) := ⟨_, rfl⟩
                   replace H : (if 0 ≤ x6_1 then (if x6_1 < (x5_3.length : Int) then (if (rd ((rd_T121 l0_0 x6_1).f2) x63_3) < (x5_3.length : Int) then (impl_RxOk.l1 k3 (wrap64 ((l0_0.length : Int) - 1)) y119 (x5_3.set ((rd ((rd_T121 l0_0 x6_1).f2) x63_3) : Int).toNat (wrap64 ((rd x5_3 x6_1) + 1))) x6_1 ((rd_T121 l0_0 x6_1).f2) (((rd_T121 l0_0 x6_1).f2).length : Int) (wrap64 (x63_3 + 1)) l0_0) else (none)) else (none)) else (none)) = some r := by first | (rw [hy119]; with_reducible exact H) | (have H2_ := (Option.bind_some _ _).symm.trans H; rw [hy119]; with_reducible exact H2_) | (have H2_ := (Option.bind_some _ _).symm.trans H; with_reducible exact H2_) | with_reducible exact H | (rw [hy119]; exact H) | exact H
                   have Ny119 := q_ hy119; clear hy119
                   by_cases c55 : 0 ≤ x6_1
                   ·rw [if_pos c55] at H; have c55b0 := dt_ c55; clear c55
                    by_cases c56 : x6_1 < (x5_3.length : Int)
                    ·rw [if_pos c56] at H; have c56b0 := dt_ c56; clear c56
                     by_cases c57 : (rd ((rd_T121 l0_0 x6_1).f2) x63_3) < (x5_3.length : Int)
                     ·rw [if_pos c57] at H; have c57b0 := dt_ c57; clear c57
                      obtain ⟨y121, hy121⟩ : ∃ y_ : List Int, y_ = (x5_3.set ((rd ((rd_T121 l0_0 x6_1).f2) x63_3) : Int).toNat (wrap64 ((rd x5_3 x6_1) + 1))) := ⟨_, rfl⟩
                      replace H : (impl_RxOk.l1 k3 (wrap64 ((l0_0.length : Int) - 1)) y119 y121 x6_1 ((rd_T121 l0_0 x6_1).f2) (((rd_T121 l0_0 x6_1).f2).length : Int) (wrap64 (x63_3 + 1)) l0_0) = some r := by first | (rw [hy121]; with_reducible exact H) | (have H2_ := (Option.bind_some _ _).symm.trans H; rw [hy121]; with_reducible exact H2_) | (have H2_ := (Option.bind_some _ _).symm.trans H; with_reducible exact H2_) | with_reducible exact H | (rw [hy121]; exact H) | exact H
                      have Ny121 := q_ hy121; clear hy121
                      have H' := q_ H
                      clear H
                      have p117 : 0 ≤ (x63_3 : Int) := of_decide_eq_true as_
                      have q117 : x63_3 < (((rd_T121 l0_0 x6_1).f2).length : Int) := of_decide_eq_true as_
                      obtain ⟨ad117, e117, hx117_0⟩ := Kd.at_int HR111_2.o x63_3 p117 q117
                      cases e117
                      replace hx117_0 := mv_ HB.o hx117_0; replace p117 := eq_true p117; replace q117 := eq_true q117; obtain ⟨Ao59, co59, eo59⟩ := Kd.R_slice HO_4.o; subst eo59
                      have p118 : 0 ≤ ((rd ((rd_T121 l0_0 x6_1).f2) x63_3) : Int) := of_decide_eq_true as_
                      have q118 : (rd ((rd_T121 l0_0 x6_1).f2) x63_3) < (x4_3.length : Int) := of_decide_eq_true as_
                      obtain ⟨ad118, e118, hx118_0⟩ := Kd.at_int (Kd.R_reads' HO_4.o).2.2 (rd ((rd_T121 l0_0 x6_1).f2) x63_3) p118 q118
                      cases e118
                      replace p118 := eq_true p118; replace q118 := eq_true q118
                      have p54 : 0 ≤ ((rd ((rd_T121 l0_0 x6_1).f2) x63_3) : Int) := of_decide_eq_true as_
                      have q54 : ((rd ((rd_T121 l0_0 x6_1).f2) x63_3) : Int) < ((x4_3.length : Int) : Int) := of_decide_eq_true as_
                      obtain ⟨go54, co54, eo54, gb54, gl54, cl54, HG54⟩ := Kd.R_form HO_4.o (by omega)
                      (first | cases eo54 | (injection eo54 with ea_ en_ ec_; (first | subst ea_ | (injection ea_ with ea_; subst ea_)); subst ec_; clear en_))
                      have GB54 := q_ gb54; have GG54 := q_ HG54; clear gb54 gl54 HG54
                      (first | simp only [add_plain] at hx118_0 | skip)
                      obtain ⟨hx54_0, hf54_0⟩ := Kd.R_celln 0 HO_4.o ((rd ((rd_T121 l0_0 x6_1).f2) x63_3) : Int) p54 q54; replace p54 := eq_true p54; replace q54 := eq_true q54; have HP60 := Kd.R_putg HO_4.o ((rd ((rd_T121 l0_0 x6_1).f2) x63_3) : Int) (wrap64 ((rd x4_3 (rd ((rd_T121 l0_0 x6_1).f2) x63_3)) + 1))
                      go_wp2_with (first | ((with_reducible refine gate_store (t := 3) (p := 72) rfl ?_); refine store_event (t := 3) (p := 72) (v := ?vo_w61) (w1 := (wr.setCell ⟨go54, ((rd ((rd_T121 l0_0 x6_1).f2) x63_3) : Int).toNat, none⟩ (.int .i64 (wrap64 ((rd x4_3 (rd ((rd_T121 l0_0 x6_1).f2) x63_3)) + 1))))) ?hg ?ho ?hn ?hr ?_; (case ho => rfl); (case hg => rfl); (case hn => rfl); (case hr => first | (go_simp; done) | (go_simp; rfl)); intro w61 hw; have hg : wr.grownBy w61 (some go54) := (by rw [hw]; exact HP60.2); have hp_ : Kd.R (Kd.int .i64) 3 w61 w.heap.size (fun k_ => some k_ ≠ (v108 : Value).ownBlock) (.slice (some ⟨go54, 0, none⟩) x4_3.length co59) y119 := (by rw [hw, Ny119.o]; exact HP60.1); clear HP60; replace HO_5 := q_ (Kd.R_after (v := (.slice (some ⟨go54, 0, none⟩) x4_3.length co59)) (v1 := (.slice (some ⟨go54, 0, none⟩) x4_3.length co59)) (ok := (fun _ => True)) (by (with_reducible repeat (first | apply Kd.R_alloc | apply Kd.R_drewN | apply Kd.R_drew)); exact Kd.R_mono HO_5.o (fun _ hk => ⟨trivial, hk⟩)) hg (.inl rfl)); replace BK101 := q_ (blk_grown (g := gb101) (o := .cells #[.slice (some ad111) l0_0.length c0_0] 58 (0, 0)) (bk_ BK101.o) hg (Kd.R_ne HO_4.o BK101.o (by decide))); replace BK112 := q_ (blk_grown (g := gb112) (o := .cells #[.int .i64 ((rd_T121 l0_0 x6_1).f0), .slice A111_1 ((rd_T121 l0_0 x6_1).f1).length c111_1, .slice (some ad117) ((rd_T121 l0_0 x6_1).f2).length c111_2, .int .i64 ((rd_T121 l0_0 x6_1).f3), .int .i64 ((rd_T121 l0_0 x6_1).f4)] 121 (0, 0)) (bk_ BK112.o) hg (Kd.R_ne HO_4.o BK112.o (by decide))); replace HO_4 := q_ (hp_); replace HB := q_ ((by rw [hw]; exact below_set (HB.o) GB54.out : Below w.heap.size w w61)); clear hg hw hp_; obtain ⟨Ao62, co62, eo62⟩ := Kd.R_slice HO_5.o; subst eo62; have p120 : 0 ≤ (x6_1 : Int) := of_decide_eq_true as_; have q120 : x6_1 < (x5_3.length : Int) := of_decide_eq_true as_; obtain ⟨ad120, e120, hx120_0⟩ := Kd.at_int (Kd.R_reads' HO_5.o).2.2 x6_1 p120 q120; cases e120; replace p120 := eq_true p120; replace q120 := eq_true q120; have p58 : 0 ≤ ((rd ((rd_T121 l0_0 x6_1).f2) x63_3) : Int) := of_decide_eq_true as_; have q58 : ((rd ((rd_T121 l0_0 x6_1).f2) x63_3) : Int) < ((x5_3.length : Int) : Int) := of_decide_eq_true as_; obtain ⟨go58, co58, eo58, gb58, gl58, cl58, HG58⟩ := Kd.R_form HO_5.o (by omega); (first | cases eo58 | (injection eo58 with ea_ en_ ec_; (first | subst ea_ | (injection ea_ with ea_; subst ea_)); subst ec_; clear en_)); have GB58 := q_ gb58; have GG58 := q_ HG58; clear gb58 gl58 HG58; (first | simp only [add_plain] at hx120_0 | skip); obtain ⟨hx58_0, hf58_0⟩ := Kd.R_celln 0 HO_5.o ((rd ((rd_T121 l0_0 x6_1).f2) x63_3) : Int) p58 q58; replace p58 := eq_true p58; replace q58 := eq_true q58; have n_ := q_ (Kd.R_mono (ok' := (fun k_ => some k_ ≠ (.slice (some ⟨go54, 0, none⟩) x4_3.length co59 : Value).ownBlock)) HO_5.o (fun k_ hk => hk.2)); clear HO_5; have HO_5 := n_; clear n_; obtain ⟨hy63_, hz63_⟩ := Kd.R_celln 0 HO_5.o ((rd ((rd_T121 l0_0 x6_1).f2) x63_3) : Int) (of_decide_eq_true as_) (of_decide_eq_true as_); have HP63 := Kd.R_putg HO_5.o ((rd ((rd_T121 l0_0 x6_1).f2) x63_3) : Int) (wrap64 ((rd x5_3 x6_1) + 1))) | ((with_reducible refine gate_store (t := 3) (p := 80) rfl ?_); refine store_event (t := 3) (p := 80) (v := ?vo_w64) (w1 := (w61.setCell ⟨go58, ((rd ((rd_T121 l0_0 x6_1).f2) x63_3) : Int).toNat, none⟩ (.int .i64 (wrap64 ((rd x5_3 x6_1) + 1))))) ?hg ?ho ?hn ?hr ?_; (case ho => rfl); (case hg => rfl); (case hn => rfl); (case hr => first | (go_simp; done) | (go_simp; rfl)); intro w64 hw; have hg : w61.grownBy w64 (some go58) := (by rw [hw]; exact HP63.2); have hp_ : Kd.R (Kd.int .i64) 3 w64 w.heap.size (fun k_ => some k_ ≠ (.slice (some ⟨go54, 0, none⟩) x4_3.length co59 : Value).ownBlock) (.slice (some ⟨go58, 0, none⟩) x5_3.length co62) y121 := (by rw [hw, Ny121.o]; exact HP63.1); clear HP63; replace HO_4 := q_ (Kd.R_after (v := (.slice (some ⟨go58, 0, none⟩) x5_3.length co62)) (v1 := (.slice (some ⟨go58, 0, none⟩) x5_3.length co62)) (ok := (fun _ => True)) (by (with_reducible repeat (first | apply Kd.R_alloc | apply Kd.R_drewN | apply Kd.R_drew)); exact Kd.R_mono HO_4.o (fun _ hk => ⟨trivial, hk⟩)) hg (.inl rfl)); replace BK101 := q_ (blk_grown (g := gb101) (o := .cells #[.slice (some ad111) l0_0.length c0_0] 58 (0, 0)) (bk_ BK101.o) hg (Kd.R_ne HO_5.o BK101.o (by decide))); replace BK112 := q_ (blk_grown (g := gb112) (o := .cells #[.int .i64 ((rd_T121 l0_0 x6_1).f0), .slice A111_1 ((rd_T121 l0_0 x6_1).f1).length c111_1, .slice (some ad117) ((rd_T121 l0_0 x6_1).f2).length c111_2, .int .i64 ((rd_T121 l0_0 x6_1).f3), .int .i64 ((rd_T121 l0_0 x6_1).f4)] 121 (0, 0)) (bk_ BK112.o) hg (Kd.R_ne HO_5.o BK112.o (by decide))); replace HO_5 := q_ (hp_); replace HB := q_ ((by rw [hw]; exact below_set (HB.o) GB58.out : Below w.heap.size w w64)); clear hg hw hp_))
                      go_roundg k3
                      case measure => have := HK1.o; have := HJ17.o; have := HK3.o; omega
                      case rel => exact ⟨(y119), (y121), (wrap64 (x63_3 + 1)), rs_, H', ⟨by have := HK1.o; have := HJ17.o; have := HK3.o; omega⟩, ⟨by (with_reducible repeat (first | apply Kd.R_alloc | apply Kd.R_drewN | apply Kd.R_drew)); exact Kd.R_mono HO_4.o (fun _ hk => hk.2)⟩, ⟨ra_ HO_5.o⟩, ⟨bk_ BK101.o⟩, ⟨bk_ BK112.o⟩, ⟨be2_ HB.o GE101.o GE112.o⟩⟩
                     ·rw [if_neg c57] at H
                      exact absurd H (by simp)
                    ·rw [if_neg c56] at H
                     exact absurd H (by simp)
                   ·rw [if_neg c55] at H
                    exact absurd H (by simp)
                  ·rw [if_neg c53] at H
                   exact absurd H (by simp)
                 ·rw [if_neg c52] at H
                  exact absurd H (by simp)
                ·rw [if_neg c51] at H
                 exact absurd H (by simp)
               ·rw [if_neg c50] at H
                exact absurd H (by simp)
              ·rw [if_neg c49] at H; have c49b0 := df_ c49; clear c49
               have H' := q_ H
               clear H
               go_wp2
               go_roundg k3
               case measure => have := HK1.o; have := HJ17.o; have := HK3.o; omega
               case rel => exact ⟨(x4_3), (x5_3), (wrap64 (x6_1 - 1)), rs_, H', ⟨by have := HK1.o; have := HJ17.o; have := HK3.o; omega⟩, ⟨ra_ HO_4.o⟩, ⟨ra_ HO_5.o⟩, ⟨bk_ BK101.o⟩, ⟨be2_ HB.o GE101.o GE112.o⟩⟩
        ·rw [if_neg c17] at H
         exact absurd H (by simp)
       ·rw [if_neg c16] at H
        exact absurd H (by simp)
      ·rw [if_neg c15] at H
       have c15b0 : decide (0 ≤ x6_1) = false := df_ c15
       clear c15
       obtain ⟨ji65, hji65⟩ : ∃ j_ : Int, (wrap64 ((l0_0.length : Int) - 1)) = j_ := ⟨_, rfl⟩
       replace H : (if 0 ≤ (ji65) then (if (ji65) < (x4_1.length : Int) then (some ((rd x4_1 (ji65)) == 0)) else (none)) else (none)) = some r := by first | (rw [hji65] at H; exact H) | (simp only [hji65] at H ⊢; exact H)
       have hji65w : (IntKind.i64.wrap ((l0_0.length : Int) - 1)) = ji65 := (i64_w _).trans hji65
       by_cases c66 : 0 ≤ (ji65)
       ·rw [if_pos c66] at H; have c66b0 := dt_ c66; clear c66
        by_cases c67 : (ji65) < (x4_1.length : Int)
        ·rw [if_pos c67] at H; have c67b0 := dt_ c67; clear c67; obtain rfl := Option.some.inj H; obtain ⟨Ao68, co68, eo68⟩ := Kd.R_slice HO_4.o; subst eo68
         have p110 : 0 ≤ ((ji65) : Int) := of_decide_eq_true as_
         have q110 : (ji65) < (x4_1.length : Int) := of_decide_eq_true as_
         obtain ⟨ad110, e110, hx110_0⟩ := Kd.at_int (Kd.R_reads' HO_4.o).2.2 (ji65) p110 q110
         cases e110
         replace p110 := eq_true p110; replace q110 := eq_true q110
         go_wp2
         go_ret
         exact ⟨by first | rfl | (simp [errW_none, errW_some] <;> rfl) | (simp only [← hji65]; first | rfl | (simp [errW_none, errW_some] <;> rfl)) | (simp [*, errW_none, errW_some] <;> rfl), be1_ HB.o GE101.o⟩
        ·rw [if_neg c67] at H
         exact absurd H (by simp)
       ·rw [if_neg c66] at H
        exact absurd H (by simp)
   ·rw [if_neg c6] at H
    exact absurd H (by simp)
  ·rw [if_neg c5] at H
   exact absurd H (by simp)
 ·replace c4 := Bool.eq_false_iff.mpr c4; subst c4; rw [if_neg nft_] at H; obtain rfl := Option.some.inj H
  go_enter Tryz.func60, Tryz.ntmps60
  go_wp2_with (first | ((with_reducible refine gate_dst (N := 1) rfl ?_); refine bx_ 1 #[.slice A0_0 l0_0.length c0_0] 58 ?_; intro gb101 hg w69 hbox hb; have BK101 := q_ (hbox); have GE101 := ge_ hg HB; replace HB := sb_ HB hb; clear hb hbox hg; obtain ⟨hcz70_0, hfz70_0⟩ := d1_ BK101) | ((with_reducible refine gate_callee (f := 85) rfl ?_); refine gl_ (some 12) rfl rfl Tryz.func85 #[.slice A0_0 l0_0.length c0_0] ?_; (with_reducible refine (impl_RNode.calls _ _ l0_0 t102 _ ?side1 ?side2 A2.o).mono ?_); (case side1 => exact Kd.C_below HR0_0.o (be_ HB.o)); (case side2 => exact HC0_0.o); rintro e w' ⟨rfl, ⟨nd, rfl⟩⟩; refine ⟨_, rfl, ?_⟩) | ((with_reducible refine gate_callee (f := 56) rfl ?_); refine gl_ (some 13) rfl rfl Tryz.func56 #[.int .i64 t102, .int .i64 1, .int .i64 300] ?_; (with_reducible refine (impl_within.calls t102 1 300 false _ A3.o).mono ?_); rintro e w' ⟨rfl, ⟨nd, rfl⟩⟩; refine ⟨_, rfl, ?_⟩))
  go_ret
  exact ⟨rt_, be1_ HB.o GE101.o⟩
end Go.Proofs.YtijmhelacmjggaaGreat.P
namespace Go.Proofs.YtijmhelacmjggaaGreat.P
open Go.RowKit Go.Proofs.YtijmhelacmjggaaGreatW.PrintWords Go.Proofs.YtijmhelacmjggaaGreatW.PrintLast Go.Proofs.YtijmhelacmjggaaGreatW.PrintMore Go.Proofs.YtijmhelacmjggaaGreatEv
set_option linter.unusedVariables false
set_option linter.unusedSimpArgs false
theorem rd_set (l : List Int) (x v p : Int) (h0 : 0 ≤ x) (hx : x < l.length) (hp : 0 ≤ p) : rd (l.set x.toNat v) p = if p = x then v else rd l p := by
  unfold rd
  simp only [List.getD_eq_getElem?_getD, List.getElem?_set]
  by_cases h : p = x
  · subst h
    rw [if_pos rfl, if_pos rfl, if_pos (by omega)]
    rfl
  · rw [if_neg (by omega), if_neg h]
def addKids (K kids : List Int) : List Int := kids.foldl (fun K x => K.set x.toNat (rd K x + 1)) K
def setKids (D kids : List Int) (v : Int) : List Int := kids.foldl (fun D x => D.set x.toNat v) D
theorem addKids_length (kids : List Int) : ∀ K : List Int, (addKids K kids).length = K.length := by
  induction kids with
  | nil => intro K; rfl
  | cons x kids ih => intro K; simp only [addKids, List.foldl_cons] at ih ⊢; rw [ih]; simp
theorem setKids_length (kids : List Int) (v : Int) : ∀ D : List Int, (setKids D kids v).length = D.length := by
  induction kids with
  | nil => intro K; rfl
  | cons x kids ih => intro K; simp only [setKids, List.foldl_cons] at ih ⊢; rw [ih]; simp
theorem addKids_rd (kids : List Int) : ∀ K : List Int, (∀ x ∈ kids, 0 ≤ x ∧ x < K.length) → ∀ p : Int, 0 ≤ p → rd (addKids K kids) p = rd K p + (kids.count p : Nat) := by
  induction kids with
  | nil => intro K _ p _; simp [addKids]
  | cons x kids ih =>
    intro K hk p hp
    have hx := hk x (by simp)
    have := ih (K.set x.toNat (rd K x + 1)) (fun y hy => by simpa using hk y (by simp [hy])) p hp
    simp only [addKids, List.foldl_cons] at this ⊢
    rw [this, rd_set _ _ _ _ hx.1 hx.2 hp, List.count_cons]
    by_cases h : p = x
    · subst h; simp; omega
    · rw [if_neg h]
      have : (x == p) = false := beq_eq_false_iff_ne.2 (fun e => h e.symm)
      simp [this]
theorem setKids_le (kids : List Int) (v : Int) (h0 : 0 ≤ v) (h1 : v ≤ 151) : ∀ D : List Int, (∀ p : Int, 0 ≤ p → 0 ≤ rd D p ∧ rd D p ≤ 151) → (∀ x ∈ kids, 0 ≤ x ∧ x < D.length) → ∀ p : Int, 0 ≤ p → 0 ≤ rd (setKids D kids v) p ∧ rd (setKids D kids v) p ≤ 151 := by
  induction kids with
  | nil => intro D hD _; exact hD
  | cons x kids ih =>
    intro D hD hk
    simp only [setKids, List.foldl_cons] at ih ⊢
    refine ih _ (fun p hp => ?_) (fun y hy => by simpa using hk y (by simp [hy]))
    rw [rd_set _ _ _ _ (hk x (by simp)).1 (hk x (by simp)).2 hp]
    split
    · exact ⟨h0, h1⟩
    · exact hD p hp
def cntFrom (l : List S121) (j : Nat) (p : Int) : Nat := ((l.drop j).map fun s => s.f2.count p).sum
theorem cntFrom_step (l : List S121) (j : Nat) (p : Int) (h : j < l.length) : cntFrom l j p = (rd_T121 l j).f2.count p + cntFrom l (j + 1) p := by
  unfold cntFrom
  rw [drop_cons l z121 j h]
  have hr : l.getD j z121 = rd_T121 l j := by simp [rd_T121]
  rw [hr]
  simp
theorem cntFrom_end (l : List S121) (p : Int) : cntFrom l l.length p = 0 := by simp [cntFrom]
def nodeAt (l : List S121) (j : Nat) : Bool := nodeB (rd_T121 l j).f0 (rd_T121 l j).f1 (rd_T121 l j).f2 (rd_T121 l j).f3 (rd_T121 l j).f4 j
def nodesB (l : List S121) : Nat → Bool
  | 0 => true
  | j + 1 => nodeAt l j && nodesB l j
theorem kidsN_le (op : Int) : kidsN op ≤ 2 := by
  unfold kidsN
  split
  · omega
  · split
    · omega
    · split <;> omega
theorem node_kids {l : List S121} {j : Nat} (h : nodeAt l j = true) : (rd_T121 l j).f2.length ≤ 2 ∧ ((rd_T121 l j).f2.length : Int) = kidsN (rd_T121 l j).f0 ∧ ∀ x ∈ (rd_T121 l j).f2, 0 ≤ x ∧ x < j := by
  unfold nodeAt nodeB at h
  simp only [Bool.and_eq_true, decide_eq_true_eq, Bool.not_eq_true', List.any_eq_false, Bool.not_eq_true] at h
  obtain ⟨⟨⟨h1, h2⟩, _⟩, _⟩ := h
  refine ⟨by have := kidsN_le (rd_T121 l j).f0; omega, h1, fun x hx => ?_⟩
  have := h2 x hx
  simp at this
  omega
theorem nodesB_at {l : List S121} {n : Nat} (h : nodesB l n = true) : ∀ j, j < n → nodeAt l j = true := by
  induction n with
  | zero => intro j hj; omega
  | succ n ih =>
    simp only [nodesB, Bool.and_eq_true] at h
    intro j hj
    by_cases e : j = n
    · subst e; exact h.1
    · exact ih h.2 j (by omega)
theorem nodesB_of {l : List S121} {n : Nat} (h : ∀ j, j < n → nodeAt l j = true) : nodesB l n = true := by
  induction n with
  | zero => rfl
  | succ n ih =>
    simp only [nodesB, Bool.and_eq_true]
    exact ⟨h n (by omega), ih fun j hj => h j (by omega)⟩
def treeR (l : List S121) : Nat → List Int → Bool
  | 0, _ => true
  | j + 1, D => (decide (j + 1 = l.length) || decide (cntFrom l (j + 1) j = 1)) && decide (rd D j ≤ 150) && treeR l j (setKids D (rd_T121 l j).f2 (rd D j + 1))
def rxB (l : List S121) : Bool := decide (1 ≤ l.length) && decide (l.length ≤ 300) && nodesB l l.length && treeR l l.length (List.replicate l.length 0)
theorem rxB_parts {l : List S121} (h : rxB l = true) : 1 ≤ l.length ∧ l.length ≤ 300 ∧ ∀ j, j < l.length → nodeAt l j = true := by
  simp only [rxB, Bool.and_eq_true, decide_eq_true_eq] at h
  exact ⟨h.1.1.1, h.1.1.2, nodesB_at h.1.2⟩
theorem rd_replicate (n : Nat) (p : Int) : rd (List.replicate n 0) p = 0 := by
  unfold rd
  rw [List.getD_eq_getElem?_getD, List.getElem?_replicate]
  split <;> rfl
theorem count_le_two {kids : List Int} (h : kids.length ≤ 2) (p : Int) : kids.count p ≤ 2 := Nat.le_trans List.count_le_length h
theorem impl_RxOk_l1 (l : List S121) (last : Int) (j : Nat) (kids : List Int) (r : Bool) (hk : ∀ x ∈ kids, 0 ≤ x ∧ x < j) (hn : l.length ≤ 300) (hj : j < l.length) (d : Int) (hd0 : 0 ≤ d) (hd : d ≤ 150) (hl2 : kids.length ≤ 2) :
    ∀ m, m ≤ kids.length → ∀ K D : List Int, K.length = l.length → D.length = l.length → rd D j = d → (∀ p : Int, 0 ≤ p → 0 ≤ rd K p ∧ rd K p + (kids.length - m : Nat) ≤ 100000) →
      Ev (fun k => impl_RxOk.l0 k last (addKids K (kids.drop m)) (setKids D (kids.drop m) (d + 1)) ((j : Int) - 1) l) r → Ev (fun k => impl_RxOk.l1 k last K D j kids kids.length (m : Nat) l) r := by
  intro m hm
  have key := down kids.length (fun m => ∀ K D : List Int, K.length = l.length → D.length = l.length → rd D j = d → (∀ p : Int, 0 ≤ p → 0 ≤ rd K p ∧ rd K p + (kids.length - m : Nat) ≤ 100000) →
      Ev (fun k => impl_RxOk.l0 k last (addKids K (kids.drop m)) (setKids D (kids.drop m) (d + 1)) ((j : Int) - 1) l) r → Ev (fun k => impl_RxOk.l1 k last K D j kids kids.length (m : Nat) l) r) ?_ ?_ m hm
  · exact key
  · intro K D _ _ _ _ h
    rw [ev_succ]
    simp only [impl_RxOk.l1, ev_ite]
    rw [if_neg (by omega), wrap_id (x := (j : Int) - 1) (by omega) (by omega)]
    rw [List.drop_length] at h
    exact h
  · intro m hm ih K D hK hD hDj hb h
    have hx : 0 ≤ rd kids m ∧ rd kids m < j := by
      have e : rd kids m = kids[m] := by unfold rd; rw [List.getD_eq_getElem?_getD, Int.toNat_natCast, List.getElem?_eq_getElem hm]; rfl
      rw [e]
      exact hk _ (List.getElem_mem _)
    rw [drop_cons kids 0 m hm] at h
    have hr : kids.getD m 0 = rd kids m := by simp [rd]
    rw [hr] at h
    simp only [addKids, setKids, List.foldl_cons] at h
    rw [ev_succ]
    simp only [impl_RxOk.l1, ev_ite]
    have hbx := hb (rd kids m) hx.1
    rw [if_pos (by omega), if_pos (by omega), if_pos (by omega), if_pos hx.1, if_pos (by omega), if_pos (by omega), if_pos (by omega), if_pos (by omega), wrap_succ hm (by omega), hDj, wrap_id (x := rd K (rd kids m) + 1) (by omega) (by omega), wrap_id (x := d + 1) (by omega) (by omega)]
    refine ih _ _ (by simpa using hK) (by simpa using hD) ?_ ?_ h
    · rw [rd_set _ _ _ _ hx.1 (by omega) (by omega), if_neg (by omega)]
      exact hDj
    · intro p hp
      have := hb p hp
      rw [rd_set _ _ _ _ hx.1 (by omega) hp]
      split
      · subst p; omega
      · omega
theorem impl_RxOk_l0 (l : List S121) (h1 : 1 ≤ l.length) (hn : l.length ≤ 300) :
    ∀ j, j ≤ l.length → ∀ K D : List Int, K.length = l.length → D.length = l.length → (∀ i, j ≤ i → i < l.length → nodeAt l i = true) → (∀ p : Int, 0 ≤ p → rd K p = cntFrom l j p) → (∀ p : Int, 0 ≤ p → 0 ≤ rd D p ∧ rd D p ≤ 151) → (∀ p : Int, 0 ≤ p → cntFrom l j p ≤ 2 * (l.length - j)) →
      Ev (fun k => impl_RxOk.l0 k ((l.length : Int) - 1) K D ((j : Int) - 1) l) (nodesB l j && treeR l j D) := by
  intro j
  induction j with
  | zero =>
    intro _ K D hK hD hok hc _ _
    rw [ev_succ]
    simp only [impl_RxOk.l0, ev_ite, ev_some, nodesB, treeR]
    rw [if_neg (by omega), if_pos (by omega), if_pos (by omega)]
    have hz : cntFrom l 0 ((l.length : Int) - 1) = 0 := by
      have : ∀ m, m ≤ l.length → cntFrom l m ((l.length : Int) - 1) = 0 := by
        refine down l.length _ (cntFrom_end l _) ?_
        intro i hi ih
        rw [cntFrom_step l i _ hi, ih, Nat.add_zero]
        refine List.count_eq_zero.2 (fun hmem => ?_)
        have := (node_kids (hok i (by omega) hi)).2.2 _ hmem
        omega
      exact this 0 (by omega)
    rw [hc _ (by omega), hz]
    rfl
  | succ j ih =>
    intro hj K D hK hD hok hc hDb hcb
    rw [ev_succ]
    have e : ((j + 1 : Nat) : Int) - 1 = (j : Int) := by omega
    simp only [impl_RxOk.l0, ev_ite, e, nodesB, treeR]
    rw [if_pos (by omega), if_pos (by omega), if_pos (by omega)]
    simp only [impl_nodeOk.f]
    rw [if_pos (by omega)]
    simp only [Option.bind_some, ev_ite]
    have hnode : nodeB (rd_T121 l j).f0 (rd_T121 l j).f1 (rd_T121 l j).f2 (rd_T121 l j).f3 (rd_T121 l j).f4 j = nodeAt l j := rfl
    rw [hnode]
    have hbad : Ev (fun k => impl_RxOk.j1 k ((l.length : Int) - 1) K D j true l (rd_T121 l j).f0 (rd_T121 l j).f1 (rd_T121 l j).f2 (rd_T121 l j).f3 (rd_T121 l j).f4) false := by
      rw [ev_succ]
      simp only [impl_RxOk.j1, if_true]
      exact ev_some.2 rfl
    cases hnd : nodeAt l j
    · rw [if_neg (by simp)]
      simpa using hbad
    rw [if_pos rfl, Bool.true_and]
    obtain ⟨hk2, _, hkl⟩ := node_kids hnd
    have hD' := hDb (j : Int) (by omega)
    -- the way on, where D is not too great
    have hgo : ∀ b : Bool, b = decide (rd D j > 150) → Ev (fun k => impl_RxOk.j1 k ((l.length : Int) - 1) K D j b l (rd_T121 l j).f0 (rd_T121 l j).f1 (rd_T121 l j).f2 (rd_T121 l j).f3 (rd_T121 l j).f4) (decide (rd D j ≤ 150) && (nodesB l j && treeR l j (setKids D (rd_T121 l j).f2 (rd D j + 1)))) := by
      intro b hb
      by_cases h15 : rd D j ≤ 150
      · rw [decide_eq_false (by omega)] at hb
        subst hb
        rw [decide_eq_true h15, Bool.true_and, ev_succ]
        simp only [impl_RxOk.j1, Bool.false_eq_true, if_false]
        have hl1 := impl_RxOk_l1 l ((l.length : Int) - 1) j (rd_T121 l j).f2 (nodesB l j && treeR l j (setKids D (rd_T121 l j).f2 (rd D j + 1))) hkl hn (by omega) (rd D j) hD'.1 h15 hk2 0 (by omega) K D hK hD rfl ?_ ?_
        · exact hl1
        · intro p hp
          have := hc p hp
          have := hcb p hp
          omega
        · rw [List.drop_zero]
          refine ih (by omega) _ _ (by rw [addKids_length]; exact hK) (by rw [setKids_length]; exact hD) ?_ ?_ ?_ ?_
          · intro i hi hi2
            by_cases e2 : i = j
            · subst e2; exact hnd
            · exact hok i (by omega) hi2
          · intro p hp
            rw [addKids_rd _ _ (fun x hx => by have := hkl x hx; omega) p hp, hc p hp, cntFrom_step l j p (by omega)]
            omega
          · exact setKids_le _ _ (by omega) (by omega) D hDb (fun x hx => by have := hkl x hx; omega)
          · intro p hp
            rw [cntFrom_step l j p (by omega)]
            have := hcb p hp
            have := count_le_two hk2 p
            omega
      · rw [decide_eq_true (by omega)] at hb
        subst hb
        rw [decide_eq_false h15, Bool.false_and]
        exact hbad
    by_cases hlast : j + 1 = l.length
    · rw [if_neg (by omega), if_pos (by omega), decide_eq_true hlast, Bool.true_or, Bool.true_and]
      refine ev_congr (hgo _ rfl) ?_
      cases nodesB l j <;> simp
    · rw [if_pos (by omega), if_pos (by omega), decide_eq_false hlast, Bool.false_or, hc _ (by omega)]
      by_cases h1c : cntFrom l (j + 1) j = 1
      · rw [if_pos (by omega), if_pos (by omega), decide_eq_true h1c, Bool.true_and]
        refine ev_congr (hgo _ rfl) ?_
        cases nodesB l j <;> simp
      · rw [if_neg (by omega), decide_eq_false h1c, Bool.false_and, Bool.false_and, Bool.and_false]
        exact hbad
theorem impl_RxOk_ev (l : List S121) (hl : l.length ≤ 1048576) : Ev (fun k => impl_RxOk.f k l) (rxB l) := by
  unfold impl_RxOk.f rxB
  simp only [impl_RNode.f, impl_within_eq, Option.bind_some, ev_ite]
  by_cases h : 1 ≤ l.length ∧ l.length ≤ 300
  · rw [if_pos (by simp; omega), if_pos (by omega), if_pos (by omega), wrap_id (x := (l.length : Int) - 1) (by omega) (by omega), decide_eq_true h.1, decide_eq_true h.2, Bool.true_and, Bool.true_and, Int.toNat_natCast]
    exact impl_RxOk_l0 l h.1 h.2 l.length (Nat.le_refl _) _ _ (by simp) (by simp) (fun i h1 h2 => by omega) (fun p _ => by rw [rd_replicate, cntFrom_end]; rfl) (fun p _ => by rw [rd_replicate]; omega) (fun p _ => by rw [cntFrom_end]; omega)
  · rw [if_neg (by simp; omega)]
    refine ev_some.2 ?_
    by_cases h1 : 1 ≤ l.length
    · rw [decide_eq_false (show ¬ l.length ≤ 300 by omega)]; simp
    · rw [decide_eq_false h1]; simp
theorem spec_l3Kids_ev (op : Int) (h : 1 ≤ op ∧ op ≤ 8) : Ev (fun k => spec_l3Kids.f k op) (kidsN op) := by
  have h0 : ∀ b, Ev (fun k => spec_l3Kids.j0 k op b) (if b then 2 else if op = 5 ∨ op = 6 ∨ op = 7 ∨ op = 8 then 1 else 0) := by
    intro b
    rw [ev_succ]
    simp only [spec_l3Kids.j0, ev_ite, ev_some]
    cases b <;> grind
  unfold spec_l3Kids.f kidsN
  simp only [ev_ite]
  by_cases e1 : op = 3
  · rw [if_pos e1]
    exact ev_congr (h0 _) (by grind)
  · rw [if_neg e1]
    exact ev_congr (h0 _) (by grind)
theorem spec_l3Node_ev (op : Int) (set : List S67) (kids : List Int) (mi ma place : Int) (hp0 : 0 ≤ place) (hp1 : place ≤ 1000000) (hk : kids.length ≤ 9223372036854775807) : Ev (fun k => spec_l3Node.f k op set kids mi ma place) (nodeB op set kids mi ma place) := by
  have hbad : Ev (fun k => spec_l3Node.j0 k place true op set kids mi ma) false := by
    rw [ev_succ]
    simp only [spec_l3Node.j0, if_true]
    exact ev_some.2 rfl
  have hj2 : ∀ b : Bool, Ev (fun k => spec_l3Node.j2 k b op set kids mi ma) (!b && (if op = 8 then timesB mi ma else decide (mi = 0) && decide (ma = 0))) := by
    intro b
    rw [ev_succ]
    simp only [spec_l3Node.j2, spec_l1In_eq, Option.bind_some, ev_ite, ev_some]
    cases b
    · rw [if_neg (by simp), Bool.not_false, Bool.true_and]
      by_cases h8 : op = 8
      · rw [if_pos h8, if_pos h8]
        unfold timesB mx
        by_cases c1 : 0 ≤ mi ∧ mi ≤ 30
        · rw [if_pos (by simpa using c1)]
          by_cases c2 : ma = -1
          · rw [if_pos c2]; simp [c1, c2]
          · rw [if_neg c2]
            by_cases c3 : 1 < mi
            · rw [if_pos c3, Bool.eq_iff_iff]; simp [c1, c2]; omega
            · rw [if_neg c3, Bool.eq_iff_iff]; simp [c1, c2]; omega
        · rw [if_neg (by simpa using c1)]
          simp [c1]
      · rw [if_neg h8, if_neg h8]
        by_cases c1 : mi = 0
        · rw [if_pos c1]; simp [c1]; rfl
        · rw [if_neg c1]; simp [c1]
    · rw [if_pos rfl]
      rfl
  unfold spec_l3Node.f nodeB
  simp only [spec_l1In_eq, Option.bind_some, ev_ite]
  by_cases h18 : 1 ≤ op ∧ op ≤ 8
  · rw [if_pos (by simpa using h18), ev_bind (spec_l3Kids_ev op h18)]
    by_cases hkk : (kids.length : Int) = kidsN op
    · rw [bne_eq_false_iff_eq.2 hkk, decide_eq_true hkk, Bool.true_and, ev_succ]
      simp only [spec_l3Node.j0, Bool.false_eq_true, if_false]
      have key := ev_loop kids.length (fun k i => spec_l3Node.l0 k place (i : Nat) op set kids mi ma) (fun i => !((kids.drop i).any fun x => !decide (0 ≤ x ∧ x ≤ place - 1)) && (if op = 2 then classB set && !decide (set.length = 0) else decide (set.length = 0)) && (if op = 8 then timesB mi ma else decide (mi = 0) && decide (ma = 0))) ?_ ?_ 0 (by omega)
      · exact key
      · rw [ev_succ]
        simp only [spec_l3Node.l0, ev_ite]
        rw [if_neg (by omega), List.drop_length]
        simp only [List.any_nil, Bool.not_false, Bool.true_and]
        by_cases h2 : op = 2
        · rw [if_pos h2, ev_bind (spec_ClassOk_ev set), if_pos h2]
          simp only [ev_ite]
          cases hc : classB set
          · rw [if_neg (by simp)]
            simpa using hj2 true
          · rw [if_pos rfl]
            by_cases hs : set.length = 0
            · rw [if_pos (by omega), decide_eq_true hs]
              simpa using hj2 true
            · rw [if_neg (by omega), decide_eq_false hs]
              simpa using hj2 false
        · rw [if_neg h2, if_neg h2]
          refine ev_congr (hj2 _) ?_
          by_cases hs : set.length = 0
          · rw [decide_eq_false (show ¬ (set.length : Int) > 0 by omega), decide_eq_true hs]; rfl
          · rw [decide_eq_true (show (set.length : Int) > 0 by omega), decide_eq_false hs]; rfl
      · intro i hi ih
        rw [ev_succ, drop_cons kids 0 i hi]
        have hr : kids.getD i 0 = rd kids i := by simp [rd]
        rw [hr]
        simp only [spec_l3Node.l0, spec_l1In_eq, Option.bind_some, ev_ite, List.any_cons]
        rw [if_pos (by omega), if_pos (by omega), wrap_succ hi (by omega), wrap_id (x := place - 1) (by omega) (by omega)]
        by_cases c : 0 ≤ rd kids i ∧ rd kids i ≤ place - 1
        · rw [if_pos (by simpa using c)]
          refine ev_congr ih ?_
          simp [c]
        · rw [if_neg (by simpa using c)]
          refine ev_some.2 ?_
          rw [decide_eq_false c]
          simp
    · rw [bne_iff_ne.2 hkk, decide_eq_false hkk]
      simpa using hbad
  · rw [if_neg (by simpa using h18)]
    refine ev_congr hbad ?_
    have : kidsN op = -1 := by
      unfold kidsN
      rw [if_neg (by omega), if_neg (by omega), if_neg (by omega)]
    rw [this, decide_eq_false (by omega)]
    simp
def cntTo (l : List S121) (j : Nat) (p : Int) : Nat := ((l.take j).map fun s => s.f2.count p).sum
theorem cntTo_step (l : List S121) (j : Nat) (p : Int) (h : j < l.length) : cntTo l (j + 1) p = cntTo l j p + (rd_T121 l j).f2.count p := by
  have hr : rd_T121 l (j : Int) = l[j] := by unfold rd_T121; rw [List.getD_eq_getElem?_getD, Int.toNat_natCast, List.getElem?_eq_getElem h]; rfl
  unfold cntTo
  rw [hr, List.take_succ_eq_append_getElem h, List.map_append, List.sum_append]
  simp only [List.map_cons, List.map_nil, List.sum_cons, List.sum_nil, Nat.add_zero]
theorem cntTo_all (l : List S121) (p : Int) : cntTo l l.length p = cntFrom l 0 p := by simp [cntTo, cntFrom]
theorem cntFrom_own (l : List S121) (hok : ∀ i, i < l.length → nodeAt l i = true) (j : Nat) (hj : j < l.length) : cntFrom l 0 j = cntFrom l (j + 1) j := by
  have : ∀ m, m ≤ j + 1 → cntFrom l m j = cntFrom l (j + 1) j := by
    refine down (j + 1) _ rfl ?_
    intro i hi ih
    rw [cntFrom_step l i _ (by omega), ih]
    have : (rd_T121 l i).f2.count (j : Int) = 0 := List.count_eq_zero.2 (fun hmem => by
      have := (node_kids (hok i (by omega))).2.2 _ hmem
      omega)
    omega
  exact this 0 (by omega)
theorem spec_RxOk_l3 (l : List S121) (n : Int) (U : List Int) (j : Nat) (kids : List Int) (hkk : kids = (rd_T121 l j).f2) (r : Bool) (hk : ∀ x ∈ kids, 0 ≤ x ∧ x < j) (hn : l.length ≤ 300) (hj : j < l.length) (d : Int) (hd0 : 0 ≤ d) (hd : d ≤ 150) (hl2 : kids.length ≤ 2) :
    ∀ m, m ≤ kids.length → ∀ D : List Int, D.length = l.length → rd D j = d →
      Ev (fun k => spec_RxOk.l2 k n U (setKids D (kids.drop m) (d + 1)) ((j : Int) - 1) l) r → Ev (fun k => spec_RxOk.l3 k n U D j (m : Nat) l) r := by
  subst hkk
  refine down _ _ ?_ ?_
  · intro D _ _ h
    rw [ev_succ]
    simp only [spec_RxOk.l3, ev_ite]
    rw [if_pos (by omega), if_pos (by omega), if_neg (by omega), wrap_id (x := (j : Int) - 1) (by omega) (by omega)]
    rw [List.drop_length] at h
    exact h
  · intro m hm ih D hD hDj h
    have hx : 0 ≤ rd (rd_T121 l j).f2 m ∧ rd (rd_T121 l j).f2 m < j := by
      have e : rd (rd_T121 l j).f2 m = (rd_T121 l j).f2[m] := by unfold rd; rw [List.getD_eq_getElem?_getD, Int.toNat_natCast, List.getElem?_eq_getElem hm]; rfl
      rw [e]
      exact hk _ (List.getElem_mem _)
    rw [drop_cons _ 0 m hm] at h
    have hr : (rd_T121 l j).f2.getD m 0 = rd (rd_T121 l j).f2 m := by simp [rd]
    rw [hr] at h
    simp only [setKids, List.foldl_cons] at h
    rw [ev_succ]
    simp only [spec_RxOk.l3, ev_ite]
    rw [if_pos (by omega), if_pos (by omega), if_pos (by omega), if_pos (by omega), if_pos (by omega), if_pos hx.1, if_pos (by omega), wrap_succ hm (by omega), hDj, wrap_id (x := d + 1) (by omega) (by omega)]
    refine ih _ (by simpa using hD) ?_ h
    rw [rd_set _ _ _ _ hx.1 (by omega) (by omega), if_neg (by omega)]
    exact hDj
theorem spec_RxOk_l2 (l : List S121) (h1 : 1 ≤ l.length) (hn : l.length ≤ 300) (U : List Int) (hU : U.length = l.length) (hok : ∀ i, i < l.length → nodeAt l i = true) (hUc : ∀ p : Int, 0 ≤ p → rd U p = cntFrom l 0 p) :
    ∀ j, j ≤ l.length → ∀ D : List Int, D.length = l.length → (∀ p : Int, 0 ≤ p → 0 ≤ rd D p ∧ rd D p ≤ 151) → Ev (fun k => spec_RxOk.l2 k l.length U D ((j : Int) - 1) l) (treeR l j D) := by
  intro j
  induction j with
  | zero =>
    intro _ D hD _
    rw [ev_succ]
    simp only [spec_RxOk.l2, ev_ite, ev_some, treeR]
    rw [if_neg (by omega)]
    trivial
  | succ j ih =>
    intro hj D hD hDb
    rw [ev_succ]
    have e : ((j + 1 : Nat) : Int) - 1 = (j : Int) := by omega
    simp only [spec_RxOk.l2, ev_ite, e, treeR]
    rw [if_pos (by omega), wrap_id (x := (l.length : Int) - 1) (by omega) (by omega)]
    have hbad : Ev (fun k => spec_RxOk.j4 k l.length U D j true l) false := by
      rw [ev_succ]
      simp only [spec_RxOk.j4, if_true]
      exact ev_some.2 rfl
    obtain ⟨hk2, _, hkl⟩ := node_kids (hok j (by omega))
    have hD' := hDb (j : Int) (by omega)
    have hgo : Ev (fun k => spec_RxOk.j4 k l.length U D j (decide (rd D j > 150)) l) (decide (rd D j ≤ 150) && treeR l j (setKids D (rd_T121 l j).f2 (rd D j + 1))) := by
      by_cases h15 : rd D j ≤ 150
      · rw [decide_eq_false (show ¬ rd D j > 150 by omega), decide_eq_true h15, Bool.true_and, ev_succ]
        simp only [spec_RxOk.j4, Bool.false_eq_true, if_false]
        refine spec_RxOk_l3 l l.length U j _ rfl _ hkl hn (by omega) (rd D j) hD'.1 h15 hk2 0 (by omega) D hD rfl ?_
        rw [List.drop_zero]
        exact ih (by omega) _ (by rw [setKids_length]; exact hD) (setKids_le _ _ (by omega) (by omega) D hDb (fun x hx => by have := hkl x hx; omega))
      · rw [decide_eq_true (show rd D j > 150 by omega), decide_eq_false h15, Bool.false_and]
        exact hbad
    by_cases hlast : j + 1 = l.length
    · rw [if_neg (by omega), if_pos (by omega), if_pos (by omega), decide_eq_true hlast, Bool.true_or, Bool.true_and]
      exact hgo
    · rw [if_pos (by omega), if_pos (by omega), if_pos (by omega), decide_eq_false hlast, Bool.false_or, hUc _ (by omega), cntFrom_own l hok j (by omega)]
      by_cases h1c : cntFrom l (j + 1) j = 1
      · rw [if_pos (by omega), if_pos (by omega), decide_eq_true h1c, Bool.true_and]
        exact hgo
      · rw [if_neg (by omega), decide_eq_false h1c, Bool.false_and, Bool.false_and]
        exact hbad
theorem spec_RxOk_l1 (l : List S121) (n : Int) (j : Nat) (kids : List Int) (hkk : kids = (rd_T121 l j).f2) (r : Bool) (hk : ∀ x ∈ kids, 0 ≤ x ∧ x < j) (hn : l.length ≤ 300) (hj : j < l.length) (hl2 : kids.length ≤ 2) :
    ∀ m, m ≤ kids.length → ∀ K : List Int, K.length = l.length → (∀ p : Int, 0 ≤ p → 0 ≤ rd K p ∧ rd K p + (kids.length - m : Nat) ≤ 100000) →
      Ev (fun k => spec_RxOk.l0 k n (addKids K (kids.drop m)) ((j + 1 : Nat) : Int) l) r → Ev (fun k => spec_RxOk.l1 k n K j (m : Nat) l) r := by
  subst hkk
  refine down _ _ ?_ ?_
  · intro K _ _ h
    rw [ev_succ]
    simp only [spec_RxOk.l1, ev_ite]
    rw [if_pos (by omega), if_pos (by omega), if_neg (by omega), wrap_succ hj (by omega)]
    rw [List.drop_length] at h
    exact h
  · intro m hm ih K hK hb h
    have hx : 0 ≤ rd (rd_T121 l j).f2 m ∧ rd (rd_T121 l j).f2 m < j := by
      have e : rd (rd_T121 l j).f2 m = (rd_T121 l j).f2[m] := by unfold rd; rw [List.getD_eq_getElem?_getD, Int.toNat_natCast, List.getElem?_eq_getElem hm]; rfl
      rw [e]
      exact hk _ (List.getElem_mem _)
    rw [drop_cons _ 0 m hm] at h
    have hr : (rd_T121 l j).f2.getD m 0 = rd (rd_T121 l j).f2 m := by simp [rd]
    rw [hr] at h
    simp only [addKids, List.foldl_cons] at h
    rw [ev_succ]
    simp only [spec_RxOk.l1, ev_ite]
    have hbx := hb _ hx.1
    rw [if_pos (by omega), if_pos (by omega), if_pos (by omega), if_pos (by omega), if_pos hx.1, if_pos (by omega), wrap_succ hm (by omega), wrap_id (x := rd K (rd (rd_T121 l j).f2 m) + 1) (by omega) (by omega)]
    refine ih _ (by simpa using hK) ?_ h
    intro p hp
    have := hb p hp
    rw [rd_set _ _ _ _ hx.1 (by omega) hp]
    split
    · subst p; omega
    · omega
theorem spec_RxOk_ev (l : List S121) (hl : l.length ≤ 1048576) (hkl : ∀ x ∈ l, x.f2.length ≤ 9223372036854775807) : Ev (fun k => spec_RxOk.f k l) (rxB l) := by
  have hbad : ∀ n, Ev (fun k => spec_RxOk.j0 k n true l) false := by
    intro n
    rw [ev_succ]
    simp only [spec_RxOk.j0, if_true]
    exact ev_some.2 rfl
  unfold spec_RxOk.f rxB
  simp only [ev_ite]
  by_cases h1 : 1 ≤ l.length
  · rw [if_neg (by omega)]
    by_cases hn : l.length ≤ 300
    · rw [decide_eq_false (show ¬ (l.length : Int) > 300 by omega), decide_eq_true h1, decide_eq_true hn, Bool.true_and, Bool.true_and, ev_succ]
      simp only [spec_RxOk.j0, Bool.false_eq_true, if_false, ev_ite]
      rw [if_pos (by omega), if_pos (by omega), Int.toNat_natCast]
      have key := down l.length (fun i => (∀ m, m < i → nodeAt l m = true) → ∀ U : List Int, U.length = l.length → (∀ p : Int, 0 ≤ p → rd U p = cntTo l i p) → (∀ p : Int, 0 ≤ p → cntTo l i p ≤ 2 * i) → Ev (fun k => spec_RxOk.l0 k l.length U (i : Nat) l) (nodesB l l.length && treeR l l.length (List.replicate l.length 0))) ?_ ?_ 0 (by omega) (fun m hm => by omega) (List.replicate l.length 0) (by simp) (fun p _ => by rw [rd_replicate]; rfl) (fun p _ => by simp [cntTo])
      · exact key
      · intro hok U hU hUc _
        rw [ev_succ]
        simp only [spec_RxOk.l0, ev_ite]
        rw [if_neg (by omega), if_pos (by omega), if_pos (by omega), Int.toNat_natCast, wrap_id (x := (l.length : Int) - 1) (by omega) (by omega), nodesB_of hok, Bool.true_and]
        exact spec_RxOk_l2 l h1 hn U hU hok (fun p hp => by rw [hUc p hp, cntTo_all]) l.length (Nat.le_refl _) _ (by simp) (fun p _ => by rw [rd_replicate]; omega)
      · intro i hi ih hok U hU hUc hUb
        rw [ev_succ]
        simp only [spec_RxOk.l0, ev_ite]
        have hmem : (rd_T121 l i) ∈ l := by
          unfold rd_T121
          rw [List.getD_eq_getElem?_getD, Int.toNat_natCast, List.getElem?_eq_getElem hi]
          exact List.getElem_mem _
        rw [if_pos (by omega), if_pos (by omega), if_pos (by omega), ev_bind (spec_l3Node_ev _ _ _ _ _ _ (by omega) (by omega) (hkl _ hmem)), ev_ite]
        have hnode : nodeB (rd_T121 l i).f0 (rd_T121 l i).f1 (rd_T121 l i).f2 (rd_T121 l i).f3 (rd_T121 l i).f4 i = nodeAt l i := rfl
        rw [hnode]
        cases hnd : nodeAt l i
        · rw [if_neg (by simp)]
          refine ev_some.2 ?_
          cases hall : nodesB l l.length
          · rfl
          · rw [nodesB_at hall i hi] at hnd
            exact absurd hnd (by simp)
        · rw [if_pos rfl]
          obtain ⟨hk2, _, hkl2⟩ := node_kids hnd
          refine spec_RxOk_l1 l l.length i _ rfl _ hkl2 hn hi hk2 0 (by omega) U hU (fun p hp => by have := hUc p hp; have := hUb p hp; omega) ?_
          rw [List.drop_zero]
          refine ih (fun m hm => ?_) _ (by rw [addKids_length]; exact hU) (fun p hp => ?_) (fun p hp => ?_)
          · by_cases e : m = i
            · subst e; exact hnd
            · exact hok m (by omega)
          · rw [addKids_rd _ _ (fun x hx => by have := hkl2 x hx; omega) p hp, hUc p hp, cntTo_step l i p hi]
            omega
          · rw [cntTo_step l i p hi]
            have := hUb p hp
            have := count_le_two hk2 p
            omega
    · rw [decide_eq_true (show (l.length : Int) > 300 by omega), decide_eq_false hn]
      simpa using hbad _
  · rw [if_pos (by omega), decide_eq_false h1]
    simpa using hbad _
end Go.Proofs.YtijmhelacmjggaaGreat.P
namespace Go.Proofs.YtijmhelacmjggaaGreat.P
open Go.RowKit Go.Shelf Go.Proofs.YtijmhelacmjggaaGreatW.PrintWords Go.Proofs.YtijmhelacmjggaaGreatW.PrintLast Go.Proofs.YtijmhelacmjggaaGreatW.PrintMore Go.Proofs.YtijmhelacmjggaaGreatEv
set_option linter.unusedVariables false
set_option linter.unusedSimpArgs false
def nullK (nodes : List S121) : Nat → Nat → Bool
  | 0, _ => false
  | n + 1, k =>
    if (rd_T121 nodes (k : Int)).f0 = 1 then true
    else if (rd_T121 nodes (k : Int)).f0 = 2 then false
    else if (rd_T121 nodes (k : Int)).f0 = 3 then nullK nodes n (rd (rd_T121 nodes (k : Int)).f2 0).toNat && nullK nodes n (rd (rd_T121 nodes (k : Int)).f2 1).toNat
    else if (rd_T121 nodes (k : Int)).f0 = 4 then nullK nodes n (rd (rd_T121 nodes (k : Int)).f2 0).toNat || nullK nodes n (rd (rd_T121 nodes (k : Int)).f2 1).toNat
    else if (rd_T121 nodes (k : Int)).f0 = 5 then true
    else if (rd_T121 nodes (k : Int)).f0 = 6 then nullK nodes n (rd (rd_T121 nodes (k : Int)).f2 0).toNat
    else if (rd_T121 nodes (k : Int)).f0 = 7 then true
    else (decide ((rd_T121 nodes (k : Int)).f3 = 0) || nullK nodes n (rd (rd_T121 nodes (k : Int)).f2 0).toNat)
def nullE (nodes : List S121) (k : Nat) : Bool := nullK nodes (k + 1) k
theorem rd_in (l : List Int) (i : Nat) (h : i < l.length) : rd l (i : Int) ∈ l := by
  unfold rd
  rw [List.getD_eq_getElem?_getD, Int.toNat_natCast, List.getElem?_eq_getElem h]
  exact List.getElem_mem _
theorem node_ops {nodes : List S121} {k : Nat} (h : nodeAt nodes k = true) : ((rd_T121 nodes (k : Int)).f0 = 1 ∨ (rd_T121 nodes (k : Int)).f0 = 2) ∨
    (((rd_T121 nodes (k : Int)).f0 = 3 ∨ (rd_T121 nodes (k : Int)).f0 = 4) ∧ (rd_T121 nodes (k : Int)).f2.length = 2) ∨
    (((rd_T121 nodes (k : Int)).f0 = 5 ∨ (rd_T121 nodes (k : Int)).f0 = 6 ∨ (rd_T121 nodes (k : Int)).f0 = 7 ∨ (rd_T121 nodes (k : Int)).f0 = 8) ∧ (rd_T121 nodes (k : Int)).f2.length = 1) := by
  obtain ⟨_, h1, _⟩ := node_kids h
  unfold kidsN at h1
  split at h1
  · exact .inl ‹_›
  · split at h1
    · exact .inr (.inl ⟨‹_›, by omega⟩)
    · split at h1
      · exact .inr (.inr ⟨‹_›, by omega⟩)
      · omega
theorem node_kid {nodes : List S121} {k : Nat} (h : nodeAt nodes k = true) (i : Nat) (hi : i < (rd_T121 nodes (k : Int)).f2.length) : rd (rd_T121 nodes (k : Int)).f2 (i : Int) = (((rd (rd_T121 nodes (k : Int)).f2 (i : Int)).toNat : Nat) : Int) ∧ (rd (rd_T121 nodes (k : Int)).f2 (i : Int)).toNat < k := by
  obtain ⟨_, _, h2⟩ := node_kids h
  have := h2 _ (rd_in _ i hi)
  omega
theorem node_times {nodes : List S121} {k : Nat} (h : nodeAt nodes k = true) (h8 : (rd_T121 nodes (k : Int)).f0 = 8) : (0 ≤ (rd_T121 nodes (k : Int)).f3 ∧ (rd_T121 nodes (k : Int)).f3 ≤ 1000) ∧ (rd_T121 nodes (k : Int)).f4 ≤ 1000 := by
  unfold nodeAt nodeB at h
  simp only [Bool.and_eq_true, h8, if_true, timesB, decide_eq_true_eq, Bool.or_eq_true] at h
  omega
theorem nullK_stable {nodes : List S121} (hok : ∀ j, j < nodes.length → nodeAt nodes j = true) : ∀ m k : Nat, k < m → k < nodes.length → ∀ n, k < n → nullK nodes n k = nullE nodes k := by
  intro m
  induction m with
  | zero => intro k hk; omega
  | succ m ih =>
    intro k hk hkl n hn
    cases n with
    | zero => omega
    | succ n =>
      have hkid : ∀ i : Nat, i < (rd_T121 nodes (k : Int)).f2.length → nullK nodes n (rd (rd_T121 nodes (k : Int)).f2 (i : Int)).toNat = nullK nodes k (rd (rd_T121 nodes (k : Int)).f2 (i : Int)).toNat := by
        intro i hi
        obtain ⟨_, h2⟩ := node_kid (hok k hkl) i hi
        rw [ih _ (by omega) (by omega) n (by omega), ih _ (by omega) (by omega) k (by omega)]
      have k0 := hkid 0; have k1 := hkid 1
      simp only [Int.ofNat_zero, Int.natCast_one, Int.cast_ofNat_Int] at k0 k1
      unfold nullE
      simp only [nullK]
      rcases node_ops (hok k hkl) with (h | h) | ⟨h | h, hl⟩ | ⟨h | h | h | h, hl⟩
      · simp [h]
      · simp [h]
      · rw [k0 (by omega), k1 (by omega)]
      · rw [k0 (by omega), k1 (by omega)]
      · simp [h]
      · rw [k0 (by omega)]; simp [h]
      · simp [h]
      · rw [k0 (by omega)]; simp [h]
theorem ends_all {w0 : World} {gm gg cn : Nat} {An : Option Addr} {nodes : List S121} {tx : ByteArray} (ht : tx.size = 0) (hn : nodes.length ≤ 100000) (hN : Kd.C k121 w0 An nodes.length nodes) (hok : ∀ j, j < nodes.length → nodeAt nodes j = true) : ∀ m k : Nat, k < m → k < nodes.length → EOK w0 gm gg An cn nodes tx (nullE nodes) k := by
  intro m
  induction m with
  | zero => intro k hk; omega
  | succ m ih =>
    intro k hk hkl
    refine ends_of ht hn k hkl ?_
    have kid : ∀ i : Nat, i < (rd_T121 nodes (k : Int)).f2.length → rd (rd_T121 nodes (k : Int)).f2 (i : Int) = (((rd (rd_T121 nodes (k : Int)).f2 (i : Int)).toNat : Nat) : Int) ∧ EOK w0 gm gg An cn nodes tx (nullE nodes) (rd (rd_T121 nodes (k : Int)).f2 (i : Int)).toNat ∧ nullK nodes k (rd (rd_T121 nodes (k : Int)).f2 (i : Int)).toNat = nullE nodes (rd (rd_T121 nodes (k : Int)).f2 (i : Int)).toNat := by
      intro i hi
      obtain ⟨h1, h2⟩ := node_kid (hok k hkl) i hi
      exact ⟨h1, ih _ (by omega) (by omega), nullK_stable hok nodes.length _ (by omega) (by omega) k h2⟩
    have k0 := kid 0; have k1 := kid 1
    simp only [Int.ofNat_zero, Int.natCast_one, Int.cast_ofNat_Int] at k0 k1
    rcases node_ops (hok k hkl) with (h | h) | ⟨h | h, hl⟩ | ⟨h | h | h | h, hl⟩
    · exact find_empty ht hn k hkl hN h (by simp [nullE, nullK, h])
    · exact find_set ht hn k hkl hN h (by simp [nullE, nullK, h])
    · obtain ⟨a0, b0, c0⟩ := k0 (by omega)
      obtain ⟨a1, b1, c1⟩ := k1 (by omega)
      exact find_cat ht hn k hkl hN h hl _ a0 b0 _ a1 b1 (by rw [← c0, ← c1]; simp [nullE, nullK, h])
    · obtain ⟨a0, b0, c0⟩ := k0 (by omega)
      obtain ⟨a1, b1, c1⟩ := k1 (by omega)
      exact find_alt ht hn k hkl hN h hl _ a0 b0 _ a1 b1 (by rw [← c0, ← c1]; simp [nullE, nullK, h])
    · obtain ⟨a0, b0, c0⟩ := k0 (by omega)
      exact find_star ht hn k hkl hN h hl _ a0 b0 (by simp [nullE, nullK, h])
    · obtain ⟨a0, b0, c0⟩ := k0 (by omega)
      exact find_plus ht hn k hkl hN h hl _ a0 b0 (by rw [← c0]; simp [nullE, nullK, h])
    · obtain ⟨a0, b0, c0⟩ := k0 (by omega)
      exact find_maybe ht hn k hkl hN h hl _ a0 b0 (by simp [nullE, nullK, h])
    · obtain ⟨a0, b0, c0⟩ := k0 (by omega)
      obtain ⟨t1, t2⟩ := node_times (hok k hkl) h
      exact find_times ht hn k hkl hN h hl _ a0 b0 t1 t2 (by rw [← c0]; simp [nullE, nullK, h])
end Go.Proofs.YtijmhelacmjggaaGreat.P
namespace Go.Proofs.YtijmhelacmjggaaGreat.P
open Go.RowKit Go.Proofs.YtijmhelacmjggaaGreatW.PrintWords Go.Proofs.YtijmhelacmjggaaGreatW.PrintLast Go.Proofs.YtijmhelacmjggaaGreatW.PrintMore
attribute [local go_sem] max2_int min2_int max_two min_two max_three min_three max_four min_four
set_option linter.unusedVariables false
set_option linter.unusedSimpArgs false
/-! ### impl_Rx_nullable: function 87 -/
mutual
def impl_Rx_nullable.j0 : Nat → Int → Bool → List (S121) → Int → List (S67) → List Int → Int → Int → Option (Bool)
 | 0, _, _, _, _, _, _, _, _ => none
 | k + 1, x12, x13, x102000, x104000, x104001, x104002, x104003, x104004 => if x13 = true then (some true) else (if x12 = 2 then (some false) else (if x12 = 3 then (if 0 < (x104002.length : Int) then ((impl_Rx_nullable.f k x102000 (rd x104002 0)).bind fun t105 => (if t105 = true then (if 1 < (x104002.length : Int) then ((impl_Rx_nullable.f k x102000 (rd x104002 1)).bind fun t107 => (some t107)) else (none)) else (some false))) else (none)) else (if x12 = 4 then (if 0 < (x104002.length : Int) then ((impl_Rx_nullable.f k x102000 (rd x104002 0)).bind fun t109 => (if t109 = true then (some true) else (if 1 < (x104002.length : Int) then ((impl_Rx_nullable.f k x102000 (rd x104002 1)).bind fun t111 => (some t111)) else (none)))) else (none)) else (if x104000 = 8 then (if x104003 = 0 then (some true) else (if 0 < (x104002.length : Int) then ((impl_Rx_nullable.f k x102000 (rd x104002 0)).bind fun t113 => (some t113)) else (none))) else (if 0 < (x104002.length : Int) then ((impl_Rx_nullable.f k x102000 (rd x104002 0)).bind fun t115 => (some t115)) else (none))))))
def impl_Rx_nullable.f : Nat → List (S121) → Int → Option (Bool)
 | 0, _, _ => none
 | k + 1, l0_0, a1 => if 0 ≤ a1 then (if a1 < (l0_0.length : Int) then (if ((rd_T121 l0_0 a1).f0) = 1 then (impl_Rx_nullable.j0 k ((rd_T121 l0_0 a1).f0) (((rd_T121 l0_0 a1).f0) == 1) l0_0 ((rd_T121 l0_0 a1).f0) ((rd_T121 l0_0 a1).f1) ((rd_T121 l0_0 a1).f2) ((rd_T121 l0_0 a1).f3) ((rd_T121 l0_0 a1).f4)) else (if ((rd_T121 l0_0 a1).f0) = 5 then (impl_Rx_nullable.j0 k ((rd_T121 l0_0 a1).f0) (((rd_T121 l0_0 a1).f0) == 5) l0_0 ((rd_T121 l0_0 a1).f0) ((rd_T121 l0_0 a1).f1) ((rd_T121 l0_0 a1).f2) ((rd_T121 l0_0 a1).f3) ((rd_T121 l0_0 a1).f4)) else (impl_Rx_nullable.j0 k ((rd_T121 l0_0 a1).f0) (((rd_T121 l0_0 a1).f0) == 7) l0_0 ((rd_T121 l0_0 a1).f0) ((rd_T121 l0_0 a1).f1) ((rd_T121 l0_0 a1).f2) ((rd_T121 l0_0 a1).f3) ((rd_T121 l0_0 a1).f4)))) else (none)) else (none)
end
def impl_Rx_nullable.T10 : Bool × List (List Nat × List Nat) := (true, [([], []), ([], []), ([1], [1]), ([2], [2]), ([3], [3]), ([0, 4], [0, 4]), ([5, 5], [5]), ([6], [6]), ([6], [6]), ([8, 6], [6, 8]), ([9, 6], [6, 9]), ([10, 6], [6, 10]), ([7, 11, 6, 6], [6, 7, 11]), ([6, 12], [6, 12]), ([13, 12, 0, 1, 2, 3, 4, 5, 6, 7, 8, 9, 10, 11, 12, 13], [13])])
def impl_Rx_nullable.B10 : List Nat := [0, 0, 2, 6, 14, 31, 63, 127, 127, 383, 895, 1919, 4095, 8191, 16383]
theorem impl_Rx_nullable.tab10 : rtab .any (opsOf Tryz.f87 10) = impl_Rx_nullable.T10 := by kernel_rfl
theorem impl_Rx_nullable.bits10 : waitsOk impl_Rx_nullable.T10.2 impl_Rx_nullable.B10 = true := by kernel_rfl
def impl_Rx_nullable.T12 : Bool × List (List Nat × List Nat) := (true, [([], []), ([], []), ([1], [1]), ([2], [2]), ([3], [3]), ([0, 4], [0, 4]), ([5, 5], [5]), ([6], [6]), ([6], [6]), ([8, 6], [6, 8]), ([9, 6], [6, 9]), ([10, 6], [6, 10]), ([7, 11, 6, 6], [6, 7, 11]), ([6, 12], [6, 12]), ([13, 12, 0, 1, 2, 3, 4, 5, 6, 7, 8, 9, 10, 11, 12, 13], [13])])
def impl_Rx_nullable.B12 : List Nat := [0, 0, 2, 6, 14, 31, 63, 127, 127, 383, 895, 1919, 4095, 8191, 16383]
theorem impl_Rx_nullable.tab12 : rtab .any (opsOf Tryz.f87 12) = impl_Rx_nullable.T12 := by kernel_rfl
theorem impl_Rx_nullable.bits12 : waitsOk impl_Rx_nullable.T12.2 impl_Rx_nullable.B12 = true := by kernel_rfl
def impl_Rx_nullable.T13 : Bool × List (List Nat × List Nat) := (true, [([], []), ([0], [0]), ([1], [1]), ([2], [2]), ([3], [3]), ([4, 3], [3, 4]), ([5, 3], [3, 5]), ([3, 6], [3, 6]), ([7, 3], [7]), ([8], [8]), ([8], [8]), ([10, 8], [8, 10]), ([11, 8], [8, 11]), ([12, 8], [8, 12]), ([9, 13, 8, 8], [8, 9, 13]), ([8, 14], [8, 14]), ([15, 14, 0, 1, 2, 3, 4, 5, 6, 7, 8, 9, 10, 11, 12, 13, 14, 15], [15])])
def impl_Rx_nullable.B13 : List Nat := [0, 1, 3, 7, 15, 31, 63, 127, 255, 511, 511, 1535, 3583, 7679, 16383, 32767, 65535]
theorem impl_Rx_nullable.tab13 : rtab .any (opsOf Tryz.f87 13) = impl_Rx_nullable.T13 := by kernel_rfl
theorem impl_Rx_nullable.bits13 : waitsOk impl_Rx_nullable.T13.2 impl_Rx_nullable.B13 = true := by kernel_rfl
theorem impl_Rx_nullable.calls (k : Nat) : ∀ (A0_0 : Option Addr) (c0_0 : Nat) (l0_0 : List (S121)) (a1 : Int) (r : Bool) (w : World) (hr0_0 : Kd.C k121 w A0_0 l0_0.length l0_0) (hc0_0 : l0_0.length ≤ c0_0) (h : impl_Rx_nullable.f k l0_0 a1 = some r),
  Calls Tryz.prog 87 #[.agg #[.slice A0_0 l0_0.length c0_0], .int .i64 a1] w fun e w' => e = .returned (.bool r) ∧ Below w.heap.size w w' := by
 induction k using Nat.strongRecOn with
 | _ k ih =>
 intro A0_0 c0_0 l0_0 a1 r w hr0_0 hc0_0 h
 cases k with
 | zero => exact absurd h (by simp [impl_Rx_nullable.f])
 | succ k =>
 simp only [impl_Rx_nullable.f] at h
 have hu58 := Tryz.underlying58; have hu121 := Tryz.underlying121; have HR0_0 := q_ hr0_0; have HC0_0 := q_ hc0_0; clear hr0_0 hc0_0; have HB := q_ (Below.refl w.heap.size w)
 have H : (if 0 ≤ a1 then (if a1 < (l0_0.length : Int) then (if ((rd_T121 l0_0 a1).f0) = 1 then (impl_Rx_nullable.j0 k ((rd_T121 l0_0 a1).f0) (((rd_T121 l0_0 a1).f0) == 1) l0_0 ((rd_T121 l0_0 a1).f0) ((rd_T121 l0_0 a1).f1) ((rd_T121 l0_0 a1).f2) ((rd_T121 l0_0 a1).f3) ((rd_T121 l0_0 a1).f4)) else (if ((rd_T121 l0_0 a1).f0) = 5 then (impl_Rx_nullable.j0 k ((rd_T121 l0_0 a1).f0) (((rd_T121 l0_0 a1).f0) == 5) l0_0 ((rd_T121 l0_0 a1).f0) ((rd_T121 l0_0 a1).f1) ((rd_T121 l0_0 a1).f2) ((rd_T121 l0_0 a1).f3) ((rd_T121 l0_0 a1).f4)) else (impl_Rx_nullable.j0 k ((rd_T121 l0_0 a1).f0) (((rd_T121 l0_0 a1).f0) == 7) l0_0 ((rd_T121 l0_0 a1).f0) ((rd_T121 l0_0 a1).f1) ((rd_T121 l0_0 a1).f2) ((rd_T121 l0_0 a1).f3) ((rd_T121 l0_0 a1).f4)))) else (none)) else (none)) = some r := h
 clear h
 by_cases c3 : 0 ≤ a1
 ·rw [if_pos c3] at H; have c3b0 := dt_ c3; clear c3
  by_cases c4 : a1 < (l0_0.length : Int)
  ·rw [if_pos c4] at H; have c4b0 := dt_ c4; clear c4; have HC5 := q_ H; clear H
   go_enter Tryz.func87, Tryz.ntmps87
   go_upto_if 13 with (first | ((with_reducible refine gate_dst (N := 2) rfl ?_); refine bx_ 2 #[.slice A0_0 l0_0.length c0_0] 58 ?_; intro gb101 hg w6 hbox hb; have BK101 := q_ (hbox); have GE101 := ge_ hg HB; replace HB := sb_ HB hb; clear hb hbox hg; obtain ⟨hcz7_0, hfz7_0⟩ := d1_ BK101; have p102 : 0 ≤ (a1 : Int) := of_decide_eq_true as_; have q102 : a1 < (l0_0.length : Int) := of_decide_eq_true as_; obtain ⟨ad102, A102_1, c102_1, A102_2, c102_2, e102, hx102_0, hx102_1, hx102_2, hx102_3, hx102_4, hl102_1, hi102_1, hl102_2, hi102_2⟩ := at_T121 HR0_0.o a1 p102 q102; cases e102; replace hx102_0 := mv_ HB.o hx102_0; replace hx102_1 := mv_ HB.o hx102_1; replace hx102_2 := mv_ HB.o hx102_2; replace hx102_3 := mv_ HB.o hx102_3; replace hx102_4 := mv_ HB.o hx102_4; have HR102_1 := q_ hi102_1; have HC102_1 := q_ hl102_1; clear hi102_1 hl102_1; have HR102_2 := q_ hi102_2; have HC102_2 := q_ hl102_2; clear hi102_2 hl102_2; replace p102 := eq_true p102; replace q102 := eq_true q102) | ((with_reducible refine gate_dst (N := 5) rfl ?_); refine bx_ 5 #[.int .i64 0, .slice none 0 0, .slice none 0 0, .int .i64 0, .int .i64 0] 121 ?_; intro gb103 hg w8 hbox hb; have BK103 := q_ (hbox); have GE103 := ge1_ hg HB GE101; have NB101_103 := nl_ hg BK101; have NB103_101 := ng_ hg BK101; replace BK101 := lb_ BK101 hb; replace HB := sb1_ HB GE101 hb; clear hb hbox hg; have hnb9 := NB103_101.o; have hnc9 := NB101_103.o; obtain ⟨hcz10_0, hcz10_1, hcz10_2, hcz10_3, hcz10_4, hfz10_0, hfz10_1, hfz10_2, hfz10_3, hfz10_4⟩ := d5_ BK103))
   (try simp only [Act.put, List.setIfInBounds_toArray, List.set_cons_zero, List.set_cons_succ])
   go_cut [13] (fun v13 wc => ∃ (kq : Nat) (x13_4 : Bool), v13 = .bool x13_4 ∧ J0 (impl_Rx_nullable.j0 kq ((rd_T121 l0_0 a1).f0) x13_4 l0_0 ((rd_T121 l0_0 a1).f0) ((rd_T121 l0_0 a1).f1) ((rd_T121 l0_0 a1).f2) ((rd_T121 l0_0 a1).f3) ((rd_T121 l0_0 a1).f4) = some r) ∧ J0 (kq ≤ k) ∧ J0 (wc.heap[gb101]? = some (.cells #[(.slice (some ad102) l0_0.length c0_0)] 58 (0, 0))) ∧ J0 (wc.heap[gb103]? = some (.cells #[.int .i64 ((rd_T121 l0_0 a1).f0), (.slice A102_1 ((rd_T121 l0_0 a1).f1).length c102_1), (.slice A102_2 ((rd_T121 l0_0 a1).f2).length c102_2), .int .i64 ((rd_T121 l0_0 a1).f3), .int .i64 ((rd_T121 l0_0 a1).f4)] 121 (0, 0))) ∧ J0 (Below w.heap.size w wc))
   case first =>
    have H := HC5.o; clear HC5
    by_cases c11 : ((rd_T121 l0_0 a1).f0) = 1
    ·rw [if_pos c11] at H
     have c11b0 : (((rd_T121 l0_0 a1).f0) == 1) = true := beq_iff_eq.mpr c11
     have c11b1 : (((rd_T121 l0_0 a1).f0) != 1) = false := bne_eq_false_iff_eq.mpr c11
     clear c11
     (first | rw [c11b0] | (simp only [i64_w, i32_w]; rw [c11b0]) | skip)
     have H' := q_ H
     clear H
     go_wp2
     go_meet
     case rel => exact ⟨_, ((((rd_T121 l0_0 a1).f0) == 1)), rs_, H', ⟨by first | omega | exact Nat.le_refl _⟩, ⟨by (with_reducible repeat (first | refine blk_drewN ?_ _ | refine blk_drew ?_ | refine blk_alloc ?_ _)); refine blk_far ?_ NB101_103.o _; (with_reducible repeat (first | refine blk_drewN ?_ _ | refine blk_drew ?_ | refine blk_alloc ?_ _)); refine blk_far ?_ NB101_103.o _; (with_reducible repeat (first | refine blk_drewN ?_ _ | refine blk_drew ?_ | refine blk_alloc ?_ _)); refine blk_far ?_ NB101_103.o _; (with_reducible repeat (first | refine blk_drewN ?_ _ | refine blk_drew ?_ | refine blk_alloc ?_ _)); refine blk_far ?_ NB101_103.o _; (with_reducible repeat (first | refine blk_drewN ?_ _ | refine blk_drew ?_ | refine blk_alloc ?_ _)); refine blk_far ?_ NB101_103.o _; (with_reducible repeat (first | refine blk_drewN ?_ _ | refine blk_drew ?_ | refine blk_alloc ?_ _)); exact BK101.o⟩, ⟨by (with_reducible repeat (first | refine blk_drewN ?_ _ | refine blk_drew ?_ | refine blk_alloc ?_ _)); refine blk_put (cs := #[.int .i64 ((rd_T121 l0_0 a1).f0), .slice A102_1 ((rd_T121 l0_0 a1).f1).length c102_1, .slice A102_2 ((rd_T121 l0_0 a1).f2).length c102_2, .int .i64 ((rd_T121 l0_0 a1).f3), .int .i64 0]) ?_ 4 _ rfl; (with_reducible repeat (first | refine blk_drewN ?_ _ | refine blk_drew ?_ | refine blk_alloc ?_ _)); refine blk_put (cs := #[.int .i64 ((rd_T121 l0_0 a1).f0), .slice A102_1 ((rd_T121 l0_0 a1).f1).length c102_1, .slice A102_2 ((rd_T121 l0_0 a1).f2).length c102_2, .int .i64 0, .int .i64 0]) ?_ 3 _ rfl; (with_reducible repeat (first | refine blk_drewN ?_ _ | refine blk_drew ?_ | refine blk_alloc ?_ _)); refine blk_put (cs := #[.int .i64 ((rd_T121 l0_0 a1).f0), .slice A102_1 ((rd_T121 l0_0 a1).f1).length c102_1, .slice none 0 0, .int .i64 0, .int .i64 0]) ?_ 2 _ rfl; (with_reducible repeat (first | refine blk_drewN ?_ _ | refine blk_drew ?_ | refine blk_alloc ?_ _)); refine blk_put (cs := #[.int .i64 ((rd_T121 l0_0 a1).f0), .slice none 0 0, .slice none 0 0, .int .i64 0, .int .i64 0]) ?_ 1 _ rfl; (with_reducible repeat (first | refine blk_drewN ?_ _ | refine blk_drew ?_ | refine blk_alloc ?_ _)); refine blk_put (cs := #[.int .i64 0, .slice none 0 0, .slice none 0 0, .int .i64 0, .int .i64 0]) ?_ 0 _ rfl; (with_reducible repeat (first | refine blk_drewN ?_ _ | refine blk_drew ?_ | refine blk_alloc ?_ _)); exact BK103.o⟩, ⟨be2_ HB.o GE101.o GE103.o⟩⟩
    ·rw [if_neg c11] at H
     have c11b0 : (((rd_T121 l0_0 a1).f0) == 1) = false := beq_eq_false_iff_ne.mpr c11
     have c11b1 : (((rd_T121 l0_0 a1).f0) != 1) = true := bne_iff_ne.mpr c11
     (first | rw [c11b0] | (simp only [i64_w, i32_w]; rw [c11b0]) | skip)
     by_cases c12 : ((rd_T121 l0_0 a1).f0) = 5
     ·rw [if_pos c12] at H
      have c12b0 : (((rd_T121 l0_0 a1).f0) == 5) = true := beq_iff_eq.mpr c12
      have c12b1 : (((rd_T121 l0_0 a1).f0) != 5) = false := bne_eq_false_iff_eq.mpr c12
      clear c12
      have H' := q_ H
      clear H
      go_wp2
      go_meet
      case rel => exact ⟨_, ((((rd_T121 l0_0 a1).f0) == 5)), rs_, H', ⟨by first | omega | exact Nat.le_refl _⟩, ⟨by (with_reducible repeat (first | refine blk_drewN ?_ _ | refine blk_drew ?_ | refine blk_alloc ?_ _)); refine blk_far ?_ NB101_103.o _; (with_reducible repeat (first | refine blk_drewN ?_ _ | refine blk_drew ?_ | refine blk_alloc ?_ _)); refine blk_far ?_ NB101_103.o _; (with_reducible repeat (first | refine blk_drewN ?_ _ | refine blk_drew ?_ | refine blk_alloc ?_ _)); refine blk_far ?_ NB101_103.o _; (with_reducible repeat (first | refine blk_drewN ?_ _ | refine blk_drew ?_ | refine blk_alloc ?_ _)); refine blk_far ?_ NB101_103.o _; (with_reducible repeat (first | refine blk_drewN ?_ _ | refine blk_drew ?_ | refine blk_alloc ?_ _)); refine blk_far ?_ NB101_103.o _; (with_reducible repeat (first | refine blk_drewN ?_ _ | refine blk_drew ?_ | refine blk_alloc ?_ _)); exact BK101.o⟩, ⟨by (with_reducible repeat (first | refine blk_drewN ?_ _ | refine blk_drew ?_ | refine blk_alloc ?_ _)); refine blk_put (cs := #[.int .i64 ((rd_T121 l0_0 a1).f0), .slice A102_1 ((rd_T121 l0_0 a1).f1).length c102_1, .slice A102_2 ((rd_T121 l0_0 a1).f2).length c102_2, .int .i64 ((rd_T121 l0_0 a1).f3), .int .i64 0]) ?_ 4 _ rfl; (with_reducible repeat (first | refine blk_drewN ?_ _ | refine blk_drew ?_ | refine blk_alloc ?_ _)); refine blk_put (cs := #[.int .i64 ((rd_T121 l0_0 a1).f0), .slice A102_1 ((rd_T121 l0_0 a1).f1).length c102_1, .slice A102_2 ((rd_T121 l0_0 a1).f2).length c102_2, .int .i64 0, .int .i64 0]) ?_ 3 _ rfl; (with_reducible repeat (first | refine blk_drewN ?_ _ | refine blk_drew ?_ | refine blk_alloc ?_ _)); refine blk_put (cs := #[.int .i64 ((rd_T121 l0_0 a1).f0), .slice A102_1 ((rd_T121 l0_0 a1).f1).length c102_1, .slice none 0 0, .int .i64 0, .int .i64 0]) ?_ 2 _ rfl; (with_reducible repeat (first | refine blk_drewN ?_ _ | refine blk_drew ?_ | refine blk_alloc ?_ _)); refine blk_put (cs := #[.int .i64 ((rd_T121 l0_0 a1).f0), .slice none 0 0, .slice none 0 0, .int .i64 0, .int .i64 0]) ?_ 1 _ rfl; (with_reducible repeat (first | refine blk_drewN ?_ _ | refine blk_drew ?_ | refine blk_alloc ?_ _)); refine blk_put (cs := #[.int .i64 0, .slice none 0 0, .slice none 0 0, .int .i64 0, .int .i64 0]) ?_ 0 _ rfl; (with_reducible repeat (first | refine blk_drewN ?_ _ | refine blk_drew ?_ | refine blk_alloc ?_ _)); exact BK103.o⟩, ⟨be2_ HB.o GE101.o GE103.o⟩⟩
     ·rw [if_neg c12] at H
      have c12b0 : (((rd_T121 l0_0 a1).f0) == 5) = false := beq_eq_false_iff_ne.mpr c12
      have c12b1 : (((rd_T121 l0_0 a1).f0) != 5) = true := bne_iff_ne.mpr c12
      have H' := q_ H
      clear H
      go_wp2
      go_meet
      case rel => exact ⟨_, ((((rd_T121 l0_0 a1).f0) == 7)), rs_, H', ⟨by first | omega | exact Nat.le_refl _⟩, ⟨by (with_reducible repeat (first | refine blk_drewN ?_ _ | refine blk_drew ?_ | refine blk_alloc ?_ _)); refine blk_far ?_ NB101_103.o _; (with_reducible repeat (first | refine blk_drewN ?_ _ | refine blk_drew ?_ | refine blk_alloc ?_ _)); refine blk_far ?_ NB101_103.o _; (with_reducible repeat (first | refine blk_drewN ?_ _ | refine blk_drew ?_ | refine blk_alloc ?_ _)); refine blk_far ?_ NB101_103.o _; (with_reducible repeat (first | refine blk_drewN ?_ _ | refine blk_drew ?_ | refine blk_alloc ?_ _)); refine blk_far ?_ NB101_103.o _; (with_reducible repeat (first | refine blk_drewN ?_ _ | refine blk_drew ?_ | refine blk_alloc ?_ _)); refine blk_far ?_ NB101_103.o _; (with_reducible repeat (first | refine blk_drewN ?_ _ | refine blk_drew ?_ | refine blk_alloc ?_ _)); exact BK101.o⟩, ⟨by (with_reducible repeat (first | refine blk_drewN ?_ _ | refine blk_drew ?_ | refine blk_alloc ?_ _)); refine blk_put (cs := #[.int .i64 ((rd_T121 l0_0 a1).f0), .slice A102_1 ((rd_T121 l0_0 a1).f1).length c102_1, .slice A102_2 ((rd_T121 l0_0 a1).f2).length c102_2, .int .i64 ((rd_T121 l0_0 a1).f3), .int .i64 0]) ?_ 4 _ rfl; (with_reducible repeat (first | refine blk_drewN ?_ _ | refine blk_drew ?_ | refine blk_alloc ?_ _)); refine blk_put (cs := #[.int .i64 ((rd_T121 l0_0 a1).f0), .slice A102_1 ((rd_T121 l0_0 a1).f1).length c102_1, .slice A102_2 ((rd_T121 l0_0 a1).f2).length c102_2, .int .i64 0, .int .i64 0]) ?_ 3 _ rfl; (with_reducible repeat (first | refine blk_drewN ?_ _ | refine blk_drew ?_ | refine blk_alloc ?_ _)); refine blk_put (cs := #[.int .i64 ((rd_T121 l0_0 a1).f0), .slice A102_1 ((rd_T121 l0_0 a1).f1).length c102_1, .slice none 0 0, .int .i64 0, .int .i64 0]) ?_ 2 _ rfl; (with_reducible repeat (first | refine blk_drewN ?_ _ | refine blk_drew ?_ | refine blk_alloc ?_ _)); refine blk_put (cs := #[.int .i64 ((rd_T121 l0_0 a1).f0), .slice none 0 0, .slice none 0 0, .int .i64 0, .int .i64 0]) ?_ 1 _ rfl; (with_reducible repeat (first | refine blk_drewN ?_ _ | refine blk_drew ?_ | refine blk_alloc ?_ _)); refine blk_put (cs := #[.int .i64 0, .slice none 0 0, .slice none 0 0, .int .i64 0, .int .i64 0]) ?_ 0 _ rfl; (with_reducible repeat (first | refine blk_drewN ?_ _ | refine blk_drew ?_ | refine blk_alloc ?_ _)); exact BK103.o⟩, ⟨be2_ HB.o GE101.o GE103.o⟩⟩
   case rest =>
    clear HC5; (try clear c3); (try clear c3b0); (try clear c4); (try clear c4b0); (try clear c11); (try clear c11b0); (try clear c11b1); (try clear c12); (try clear c12b0); (try clear c12b1); (try clear hcz10_0); (try clear hcz10_1); (try clear hcz10_2); (try clear hcz10_3); (try clear hcz10_4); (try clear hcz7_0); (try clear hfz10_0); (try clear hfz10_1); (try clear hfz10_2); (try clear hfz10_3); (try clear hfz10_4); (try clear hfz7_0); (try clear hx102_0); (try clear hx102_1); (try clear hx102_2); (try clear hx102_3); (try clear hx102_4); (try clear p102); (try clear q102); obtain ⟨kq, x13_4, rfl, HA, HJ4, BK101, BK103, HB⟩ := hcut
    cases kq with
    | zero => exact absurd HA.o (by simp [impl_Rx_nullable.j0])
    | succ kj4 =>
     have H := HA.o; clear HA
     simp only [impl_Rx_nullable.j0] at H
     by_cases c13 : x13_4 = true
     ·subst c13; rw [if_pos rfl] at H; obtain rfl := Option.some.inj H
      go_wp2
      go_ret
      exact ⟨rt_, be2_ HB.o GE101.o GE103.o⟩
     ·replace c13 := Bool.eq_false_iff.mpr c13; subst c13; rw [if_neg nft_] at H
      by_cases c14 : ((rd_T121 l0_0 a1).f0) = 2
      ·rw [if_pos c14] at H
       have c14b0 : (((rd_T121 l0_0 a1).f0) == 2) = true := beq_iff_eq.mpr c14
       have c14b1 : (((rd_T121 l0_0 a1).f0) != 2) = false := bne_eq_false_iff_eq.mpr c14
       clear c14; obtain rfl := Option.some.inj H
       go_wp2
       go_ret
       exact ⟨rt_, be2_ HB.o GE101.o GE103.o⟩
      ·rw [if_neg c14] at H
       have c14b0 : (((rd_T121 l0_0 a1).f0) == 2) = false := beq_eq_false_iff_ne.mpr c14
       have c14b1 : (((rd_T121 l0_0 a1).f0) != 2) = true := bne_iff_ne.mpr c14
       by_cases c15 : ((rd_T121 l0_0 a1).f0) = 3
       ·rw [if_pos c15] at H
        have c15b0 : (((rd_T121 l0_0 a1).f0) == 3) = true := beq_iff_eq.mpr c15
        have c15b1 : (((rd_T121 l0_0 a1).f0) != 3) = false := bne_eq_false_iff_eq.mpr c15
        clear c15
        by_cases c16 : 0 < (((rd_T121 l0_0 a1).f2).length : Int)
        ·rw [if_pos c16] at H; have c16b0 := dt_ c16
         have c16b1 : decide (0 < ((rd_T121 l0_0 a1).f2).length) = true := decide_eq_true (by omega)
         clear c16; obtain ⟨t105, A17, H⟩ := ob_ H
         by_cases c18 : t105 = true
         ·subst c18; rw [if_pos rfl] at H
          by_cases c19 : 1 < (((rd_T121 l0_0 a1).f2).length : Int)
          ·rw [if_pos c19] at H; have c19b0 := dt_ c19
           have c19b1 : decide (1 < ((rd_T121 l0_0 a1).f2).length) = true := decide_eq_true (by omega)
           clear c19; obtain ⟨t107, A20, H⟩ := ob_ H; obtain rfl := Option.some.inj H
           try go_wp2
           replace BK101 := q_ (blk_drew BK101.o); replace BK103 := q_ (blk_drew BK103.o); replace HB := q_ (below_drew1 HB.o)
           have p104 : 0 ≤ (0 : Int) := (by omega)
           have q104 : 0 < (((rd_T121 l0_0 a1).f2).length : Int) := of_decide_eq_true as_
           obtain ⟨ad104, e104, hx104_0⟩ := Kd.at_int HR102_2.o 0 p104 q104; have hw104_0 := hx104_0
           (try rw [show ((0 : Int)).toNat = 0 from rfl] at hw104_0)
           (try rw [show 0 * 1 = 0 from rfl] at hw104_0)
           (try rw [Addr.add_zero'] at hw104_0)
           cases e104
           have qi104 : (0 < ((rd_T121 l0_0 a1).f2).length) = True := eq_true (by omega)
           (try rw [show ((0 : Int)).toNat = 0 from rfl] at hx104_0)
           (try rw [Addr.add_zero'] at hx104_0)
           replace hx104_0 := mv_ HB.o hx104_0; replace p104 := eq_true p104; replace q104 := eq_true q104
           have p106 : 0 ≤ (1 : Int) := (by omega)
           have q106 : 1 < (((rd_T121 l0_0 a1).f2).length : Int) := of_decide_eq_true as_
           obtain ⟨ad106, e106, hx106_0⟩ := Kd.at_int HR102_2.o 1 p106 q106; have hw106_0 := hx106_0
           (try rw [show ((1 : Int)).toNat = 1 from rfl] at hw106_0)
           (try rw [show 1 * 1 = 1 from rfl] at hw106_0)
           (try simp only [Nat.reduceMul, Nat.reduceEqDiff, Go.Addr.add, ↓reduceIte] at hw106_0)
           obtain rfl : ad104 = ad106 := (by injection e106)
           (try simp only [show (1 : Int).toNat = 1 from rfl, Nat.reduceMul, Nat.reduceEqDiff, Go.Addr.add, ↓reduceIte] at hx106_0)
           have qi106 : (1 < ((rd_T121 l0_0 a1).f2).length) = True := eq_true (by omega)
           (try rw [show ((1 : Int)).toNat = 1 from rfl] at hx106_0)
           replace hx106_0 := mv_ HB.o hx106_0; replace p106 := eq_true p106; replace q106 := eq_true q106
           refine start_ (n := 15) (S := fun w' => w'.cell? ⟨gb101, 0, none⟩ = some (.slice (some ad102) l0_0.length c0_0) ∧ w'.cell? ⟨gb103, 0, none⟩ = some (.int .i64 ((rd_T121 l0_0 a1).f0)) ∧ w'.cell? ⟨gb103, 1, none⟩ = some (.slice A102_1 ((rd_T121 l0_0 a1).f1).length c102_1) ∧ w'.cell? ⟨gb103, 2, none⟩ = some (.slice (some ad104) ((rd_T121 l0_0 a1).f2).length c102_2) ∧ w'.cell? ⟨gb103, 3, none⟩ = some (.int .i64 ((rd_T121 l0_0 a1).f3)) ∧ w'.cell? ⟨gb103, 4, none⟩ = some (.int .i64 ((rd_T121 l0_0 a1).f4)) ∧ w'.cell? ad104 = some (.int .i64 (rd ((rd_T121 l0_0 a1).f2) 0)) ∧ w'.cell? ⟨ad104.block, ad104.off + 1, none⟩ = some (.int .i64 (rd ((rd_T121 l0_0 a1).f2) 1))) (ds := []) (bb 15 0) (by kernel_rfl) rfl rfl ⟨(blk_cell BK101.o 0).trans rfl, (blk_cell BK103.o 0).trans rfl, (blk_cell BK103.o 1).trans rfl, (blk_cell BK103.o 2).trans rfl, (blk_cell BK103.o 3).trans rfl, (blk_cell BK103.o 4).trans rfl, (mv_ HB.o hw104_0), (mv_ HB.o hw106_0)⟩ (fun hHeld => ?_); refine with_tabW impl_Rx_nullable.tab10 impl_Rx_nullable.bits10 (fun HT_ HW_ => ?_)
           generalize wc.drew = w21 at BK101 BK103 HB hx104_0 hx106_0 hHeld ⊢
           refine pv_ 1 22 2 HT_.o ?_; refine tv_ 0 21 3 HT_.o HW_.o hHeld ?_; refine tv_ 2 23 7 HT_.o HW_.o hHeld ?_; refine pv_ 3 24 15 HT_.o ?_; refine tv_ 4 25 31 HT_.o HW_.o hHeld ?_
           refine one_ (i := 5) (N := some 26) (bb 15 63) rfl rfl (one_of HT_.o (by kernel_rfl)) (by decide) (fun K hK => ?_)
           refine gs_ Tryz.func87 #[.agg #[.slice (some ad102) l0_0.length c0_0], .int .i64 (rd ((rd_T121 l0_0 a1).f2) 0)] ?_
           with_reducible refine (ih kj4 (by have := HJ4.o; omega) _ _ l0_0 (rd ((rd_T121 l0_0 a1).f2) 0) true _ ?side1 ?side2 A17.o).mono ?_
           (case side1 => exact Kd.C_below HR0_0.o (be_ HB.o))
           (case side2 => exact HC0_0.o)
           rintro e w22 ⟨rfl, hb⟩
           refine ⟨_, rfl, ?_⟩; replace BK101 := lb_ BK101 hb; replace BK103 := lb_ BK103 hb; replace HB := sb2_ HB GE101 GE103 hb
           (try clear hb)
           (try clear hb2)
           (try clear hk)
           (try clear hi)
           refine hK.out _ _ ⟨(blk_cell BK101.o 0).trans rfl, (blk_cell BK103.o 0).trans rfl, (blk_cell BK103.o 1).trans rfl, (blk_cell BK103.o 2).trans rfl, (blk_cell BK103.o 3).trans rfl, (blk_cell BK103.o 4).trans rfl, (mv_ HB.o hw104_0), (mv_ HB.o hw106_0)⟩ (fun hHeld => ?_)
           clear hK K; refine no_ (some 26) ?_; refine pv_ 6 27 127 HT_.o ?_; refine pv_ 8 29 383 HT_.o ?_; refine tv_ 7 28 511 HT_.o HW_.o hHeld ?_; refine tv_ 9 30 1023 HT_.o HW_.o hHeld ?_; refine pv_ 10 31 2047 HT_.o ?_; refine tv_ 11 32 4095 HT_.o HW_.o hHeld ?_
           refine one_ (i := 12) (N := some 33) (bb 15 8191) rfl rfl (one_of HT_.o (by kernel_rfl)) (by decide) (fun K hK => ?_)
           refine gs_ Tryz.func87 #[.agg #[.slice (some ad102) l0_0.length c0_0], .int .i64 (rd ((rd_T121 l0_0 a1).f2) 1)] ?_
           with_reducible refine (ih kj4 (by have := HJ4.o; omega) _ _ l0_0 (rd ((rd_T121 l0_0 a1).f2) 1) t107 _ ?side1 ?side2 A20.o).mono ?_
           (case side1 => exact Kd.C_below HR0_0.o (be_ HB.o))
           (case side2 => exact HC0_0.o)
           rintro e w23 ⟨rfl, hb⟩
           refine ⟨_, rfl, ?_⟩; replace BK101 := lb_ BK101 hb; replace BK103 := lb_ BK103 hb; replace HB := sb2_ HB GE101 GE103 hb
           (try clear hb)
           (try clear hb2)
           (try clear hk)
           (try clear hi)
           refine hK.out _ _ ⟨(blk_cell BK101.o 0).trans rfl, (blk_cell BK103.o 0).trans rfl, (blk_cell BK103.o 1).trans rfl, (blk_cell BK103.o 2).trans rfl, (blk_cell BK103.o 3).trans rfl, (blk_cell BK103.o 4).trans rfl, (mv_ HB.o hw104_0), (mv_ HB.o hw106_0)⟩ (fun hHeld => ?_)
           clear hK K; refine no_ (some 33) ?_; refine pv_ 13 34 16383 HT_.o ?_; refine pv_ 14 4 32767 HT_.o ?_
           refine done_ (done_of HT_.o (by kernel_rfl)) ?_
           try go_wp2
           go_ret
           exact ⟨rt_, be2_ HB.o GE101.o GE103.o⟩
          ·rw [if_neg c19] at H
           exact absurd H (by simp)
         ·replace c18 := Bool.eq_false_iff.mpr c18; subst c18; rw [if_neg nft_] at H; obtain rfl := Option.some.inj H
          try go_wp2
          replace BK101 := q_ (blk_drew BK101.o); replace BK103 := q_ (blk_drew BK103.o); replace HB := q_ (below_drew1 HB.o)
          have p104 : 0 ≤ (0 : Int) := (by omega)
          have q104 : 0 < (((rd_T121 l0_0 a1).f2).length : Int) := of_decide_eq_true as_
          obtain ⟨ad104, e104, hx104_0⟩ := Kd.at_int HR102_2.o 0 p104 q104; have hw104_0 := hx104_0
          (try rw [show ((0 : Int)).toNat = 0 from rfl] at hw104_0)
          (try rw [show 0 * 1 = 0 from rfl] at hw104_0)
          (try rw [Addr.add_zero'] at hw104_0)
          cases e104
          have qi104 : (0 < ((rd_T121 l0_0 a1).f2).length) = True := eq_true (by omega)
          (try rw [show ((0 : Int)).toNat = 0 from rfl] at hx104_0)
          (try rw [Addr.add_zero'] at hx104_0)
          replace hx104_0 := mv_ HB.o hx104_0; replace p104 := eq_true p104; replace q104 := eq_true q104
          refine start_ (n := 15) (S := fun w' => w'.cell? ⟨gb101, 0, none⟩ = some (.slice (some ad102) l0_0.length c0_0) ∧ w'.cell? ⟨gb103, 0, none⟩ = some (.int .i64 ((rd_T121 l0_0 a1).f0)) ∧ w'.cell? ⟨gb103, 1, none⟩ = some (.slice A102_1 ((rd_T121 l0_0 a1).f1).length c102_1) ∧ w'.cell? ⟨gb103, 2, none⟩ = some (.slice (some ad104) ((rd_T121 l0_0 a1).f2).length c102_2) ∧ w'.cell? ⟨gb103, 3, none⟩ = some (.int .i64 ((rd_T121 l0_0 a1).f3)) ∧ w'.cell? ⟨gb103, 4, none⟩ = some (.int .i64 ((rd_T121 l0_0 a1).f4)) ∧ w'.cell? ad104 = some (.int .i64 (rd ((rd_T121 l0_0 a1).f2) 0))) (ds := []) (bb 15 0) (by kernel_rfl) rfl rfl ⟨(blk_cell BK101.o 0).trans rfl, (blk_cell BK103.o 0).trans rfl, (blk_cell BK103.o 1).trans rfl, (blk_cell BK103.o 2).trans rfl, (blk_cell BK103.o 3).trans rfl, (blk_cell BK103.o 4).trans rfl, (mv_ HB.o hw104_0)⟩ (fun hHeld => ?_); refine with_tabW impl_Rx_nullable.tab10 impl_Rx_nullable.bits10 (fun HT_ HW_ => ?_)
          generalize wc.drew = w24 at BK101 BK103 HB hx104_0 hHeld ⊢
          refine pv_ 1 22 2 HT_.o ?_; refine tv_ 0 21 3 HT_.o HW_.o hHeld ?_; refine tv_ 2 23 7 HT_.o HW_.o hHeld ?_; refine pv_ 3 24 15 HT_.o ?_; refine tv_ 4 25 31 HT_.o HW_.o hHeld ?_
          refine one_ (i := 5) (N := some 26) (bb 15 63) rfl rfl (one_of HT_.o (by kernel_rfl)) (by decide) (fun K hK => ?_)
          refine gs_ Tryz.func87 #[.agg #[.slice (some ad102) l0_0.length c0_0], .int .i64 (rd ((rd_T121 l0_0 a1).f2) 0)] ?_
          with_reducible refine (ih kj4 (by have := HJ4.o; omega) _ _ l0_0 (rd ((rd_T121 l0_0 a1).f2) 0) false _ ?side1 ?side2 A17.o).mono ?_
          (case side1 => exact Kd.C_below HR0_0.o (be_ HB.o))
          (case side2 => exact HC0_0.o)
          rintro e w25 ⟨rfl, hb⟩
          refine ⟨_, rfl, ?_⟩; replace BK101 := lb_ BK101 hb; replace BK103 := lb_ BK103 hb; replace HB := sb2_ HB GE101 GE103 hb
          (try clear hb)
          (try clear hb2)
          (try clear hk)
          (try clear hi)
          refine hK.out _ _ ⟨(blk_cell BK101.o 0).trans rfl, (blk_cell BK103.o 0).trans rfl, (blk_cell BK103.o 1).trans rfl, (blk_cell BK103.o 2).trans rfl, (blk_cell BK103.o 3).trans rfl, (blk_cell BK103.o 4).trans rfl, (mv_ HB.o hw104_0)⟩ (fun hHeld => ?_)
          clear hK K; refine no_ (some 26) ?_; refine pv_ 6 27 127 HT_.o ?_; refine pw_ 7 (some 28) (bb 15 255) HT_.o ?_; refine pw_ 8 (some 29) (bb 15 511) HT_.o ?_; refine pw_ 9 (some 30) (bb 15 1023) HT_.o ?_; refine pw_ 10 (some 31) (bb 15 2047) HT_.o ?_; refine pw_ 11 (some 32) (bb 15 4095) HT_.o ?_; refine pw_ 12 (some 33) (bb 15 8191) HT_.o ?_; refine pv_ 13 34 16383 HT_.o ?_; refine pv_ 14 4 32767 HT_.o ?_
          refine done_ (done_of HT_.o (by kernel_rfl)) ?_
          try go_wp2
          go_ret
          exact ⟨rt_, be2_ HB.o GE101.o GE103.o⟩
        ·rw [if_neg c16] at H
         exact absurd H (by simp)
       ·rw [if_neg c15] at H
        have c15b0 : (((rd_T121 l0_0 a1).f0) == 3) = false := beq_eq_false_iff_ne.mpr c15
        have c15b1 : (((rd_T121 l0_0 a1).f0) != 3) = true := bne_iff_ne.mpr c15
        by_cases c26 : ((rd_T121 l0_0 a1).f0) = 4
        ·rw [if_pos c26] at H
         have c26b0 : (((rd_T121 l0_0 a1).f0) == 4) = true := beq_iff_eq.mpr c26
         have c26b1 : (((rd_T121 l0_0 a1).f0) != 4) = false := bne_eq_false_iff_eq.mpr c26
         clear c26
         by_cases c27 : 0 < (((rd_T121 l0_0 a1).f2).length : Int)
         ·rw [if_pos c27] at H; have c27b0 := dt_ c27
          have c27b1 : decide (0 < ((rd_T121 l0_0 a1).f2).length) = true := decide_eq_true (by omega)
          clear c27; obtain ⟨t109, A28, H⟩ := ob_ H
          by_cases c29 : t109 = true
          ·subst c29; rw [if_pos rfl] at H; obtain rfl := Option.some.inj H
           try go_wp2
           replace BK101 := q_ (blk_drew BK101.o); replace BK103 := q_ (blk_drew BK103.o); replace HB := q_ (below_drew1 HB.o)
           have p108 : 0 ≤ (0 : Int) := (by omega)
           have q108 : 0 < (((rd_T121 l0_0 a1).f2).length : Int) := of_decide_eq_true as_
           obtain ⟨ad108, e108, hx108_0⟩ := Kd.at_int HR102_2.o 0 p108 q108; have hw108_0 := hx108_0
           (try rw [show ((0 : Int)).toNat = 0 from rfl] at hw108_0)
           (try rw [show 0 * 1 = 0 from rfl] at hw108_0)
           (try rw [Addr.add_zero'] at hw108_0)
           cases e108
           have qi108 : (0 < ((rd_T121 l0_0 a1).f2).length) = True := eq_true (by omega)
           (try rw [show ((0 : Int)).toNat = 0 from rfl] at hx108_0)
           (try rw [Addr.add_zero'] at hx108_0)
           replace hx108_0 := mv_ HB.o hx108_0; replace p108 := eq_true p108; replace q108 := eq_true q108
           refine start_ (n := 15) (S := fun w' => w'.cell? ⟨gb101, 0, none⟩ = some (.slice (some ad102) l0_0.length c0_0) ∧ w'.cell? ⟨gb103, 0, none⟩ = some (.int .i64 ((rd_T121 l0_0 a1).f0)) ∧ w'.cell? ⟨gb103, 1, none⟩ = some (.slice A102_1 ((rd_T121 l0_0 a1).f1).length c102_1) ∧ w'.cell? ⟨gb103, 2, none⟩ = some (.slice (some ad108) ((rd_T121 l0_0 a1).f2).length c102_2) ∧ w'.cell? ⟨gb103, 3, none⟩ = some (.int .i64 ((rd_T121 l0_0 a1).f3)) ∧ w'.cell? ⟨gb103, 4, none⟩ = some (.int .i64 ((rd_T121 l0_0 a1).f4)) ∧ w'.cell? ad108 = some (.int .i64 (rd ((rd_T121 l0_0 a1).f2) 0))) (ds := []) (bb 15 0) (by kernel_rfl) rfl rfl ⟨(blk_cell BK101.o 0).trans rfl, (blk_cell BK103.o 0).trans rfl, (blk_cell BK103.o 1).trans rfl, (blk_cell BK103.o 2).trans rfl, (blk_cell BK103.o 3).trans rfl, (blk_cell BK103.o 4).trans rfl, (mv_ HB.o hw108_0)⟩ (fun hHeld => ?_); refine with_tabW impl_Rx_nullable.tab12 impl_Rx_nullable.bits12 (fun HT_ HW_ => ?_)
           generalize wc.drew = w30 at BK101 BK103 HB hx108_0 hHeld ⊢
           refine pv_ 1 38 2 HT_.o ?_; refine tv_ 0 37 3 HT_.o HW_.o hHeld ?_; refine tv_ 2 39 7 HT_.o HW_.o hHeld ?_; refine pv_ 3 40 15 HT_.o ?_; refine tv_ 4 41 31 HT_.o HW_.o hHeld ?_
           refine one_ (i := 5) (N := some 42) (bb 15 63) rfl rfl (one_of HT_.o (by kernel_rfl)) (by decide) (fun K hK => ?_)
           refine gs_ Tryz.func87 #[.agg #[.slice (some ad102) l0_0.length c0_0], .int .i64 (rd ((rd_T121 l0_0 a1).f2) 0)] ?_
           with_reducible refine (ih kj4 (by have := HJ4.o; omega) _ _ l0_0 (rd ((rd_T121 l0_0 a1).f2) 0) true _ ?side1 ?side2 A28.o).mono ?_
           (case side1 => exact Kd.C_below HR0_0.o (be_ HB.o))
           (case side2 => exact HC0_0.o)
           rintro e w31 ⟨rfl, hb⟩
           refine ⟨_, rfl, ?_⟩; replace BK101 := lb_ BK101 hb; replace BK103 := lb_ BK103 hb; replace HB := sb2_ HB GE101 GE103 hb
           (try clear hb)
           (try clear hb2)
           (try clear hk)
           (try clear hi)
           refine hK.out _ _ ⟨(blk_cell BK101.o 0).trans rfl, (blk_cell BK103.o 0).trans rfl, (blk_cell BK103.o 1).trans rfl, (blk_cell BK103.o 2).trans rfl, (blk_cell BK103.o 3).trans rfl, (blk_cell BK103.o 4).trans rfl, (mv_ HB.o hw108_0)⟩ (fun hHeld => ?_)
           clear hK K; refine no_ (some 42) ?_; refine pv_ 6 43 127 HT_.o ?_; refine pw_ 7 (some 44) (bb 15 255) HT_.o ?_; refine pw_ 8 (some 45) (bb 15 511) HT_.o ?_; refine pw_ 9 (some 46) (bb 15 1023) HT_.o ?_; refine pw_ 10 (some 47) (bb 15 2047) HT_.o ?_; refine pw_ 11 (some 48) (bb 15 4095) HT_.o ?_; refine pw_ 12 (some 49) (bb 15 8191) HT_.o ?_; refine pv_ 13 50 16383 HT_.o ?_; refine pv_ 14 4 32767 HT_.o ?_
           refine done_ (done_of HT_.o (by kernel_rfl)) ?_
           try go_wp2
           go_ret
           exact ⟨rt_, be2_ HB.o GE101.o GE103.o⟩
          ·replace c29 := Bool.eq_false_iff.mpr c29; subst c29; rw [if_neg nft_] at H
           by_cases c32 : 1 < (((rd_T121 l0_0 a1).f2).length : Int)
           ·rw [if_pos c32] at H; have c32b0 := dt_ c32
            have c32b1 : decide (1 < ((rd_T121 l0_0 a1).f2).length) = true := decide_eq_true (by omega)
            clear c32; obtain ⟨t111, A33, H⟩ := ob_ H; obtain rfl := Option.some.inj H
            try go_wp2
            replace BK101 := q_ (blk_drew BK101.o); replace BK103 := q_ (blk_drew BK103.o); replace HB := q_ (below_drew1 HB.o)
            have p108 : 0 ≤ (0 : Int) := (by omega)
            have q108 : 0 < (((rd_T121 l0_0 a1).f2).length : Int) := of_decide_eq_true as_
            obtain ⟨ad108, e108, hx108_0⟩ := Kd.at_int HR102_2.o 0 p108 q108; have hw108_0 := hx108_0
            (try rw [show ((0 : Int)).toNat = 0 from rfl] at hw108_0)
            (try rw [show 0 * 1 = 0 from rfl] at hw108_0)
            (try rw [Addr.add_zero'] at hw108_0)
            cases e108
            have qi108 : (0 < ((rd_T121 l0_0 a1).f2).length) = True := eq_true (by omega)
            (try rw [show ((0 : Int)).toNat = 0 from rfl] at hx108_0)
            (try rw [Addr.add_zero'] at hx108_0)
            replace hx108_0 := mv_ HB.o hx108_0; replace p108 := eq_true p108; replace q108 := eq_true q108
            have p110 : 0 ≤ (1 : Int) := (by omega)
            have q110 : 1 < (((rd_T121 l0_0 a1).f2).length : Int) := of_decide_eq_true as_
            obtain ⟨ad110, e110, hx110_0⟩ := Kd.at_int HR102_2.o 1 p110 q110; have hw110_0 := hx110_0
            (try rw [show ((1 : Int)).toNat = 1 from rfl] at hw110_0)
            (try rw [show 1 * 1 = 1 from rfl] at hw110_0)
            (try simp only [Nat.reduceMul, Nat.reduceEqDiff, Go.Addr.add, ↓reduceIte] at hw110_0)
            obtain rfl : ad108 = ad110 := (by injection e110)
            (try simp only [show (1 : Int).toNat = 1 from rfl, Nat.reduceMul, Nat.reduceEqDiff, Go.Addr.add, ↓reduceIte] at hx110_0)
            have qi110 : (1 < ((rd_T121 l0_0 a1).f2).length) = True := eq_true (by omega)
            (try rw [show ((1 : Int)).toNat = 1 from rfl] at hx110_0)
            replace hx110_0 := mv_ HB.o hx110_0; replace p110 := eq_true p110; replace q110 := eq_true q110
            refine start_ (n := 15) (S := fun w' => w'.cell? ⟨gb101, 0, none⟩ = some (.slice (some ad102) l0_0.length c0_0) ∧ w'.cell? ⟨gb103, 0, none⟩ = some (.int .i64 ((rd_T121 l0_0 a1).f0)) ∧ w'.cell? ⟨gb103, 1, none⟩ = some (.slice A102_1 ((rd_T121 l0_0 a1).f1).length c102_1) ∧ w'.cell? ⟨gb103, 2, none⟩ = some (.slice (some ad108) ((rd_T121 l0_0 a1).f2).length c102_2) ∧ w'.cell? ⟨gb103, 3, none⟩ = some (.int .i64 ((rd_T121 l0_0 a1).f3)) ∧ w'.cell? ⟨gb103, 4, none⟩ = some (.int .i64 ((rd_T121 l0_0 a1).f4)) ∧ w'.cell? ad108 = some (.int .i64 (rd ((rd_T121 l0_0 a1).f2) 0)) ∧ w'.cell? ⟨ad108.block, ad108.off + 1, none⟩ = some (.int .i64 (rd ((rd_T121 l0_0 a1).f2) 1))) (ds := []) (bb 15 0) (by kernel_rfl) rfl rfl ⟨(blk_cell BK101.o 0).trans rfl, (blk_cell BK103.o 0).trans rfl, (blk_cell BK103.o 1).trans rfl, (blk_cell BK103.o 2).trans rfl, (blk_cell BK103.o 3).trans rfl, (blk_cell BK103.o 4).trans rfl, (mv_ HB.o hw108_0), (mv_ HB.o hw110_0)⟩ (fun hHeld => ?_); refine with_tabW impl_Rx_nullable.tab12 impl_Rx_nullable.bits12 (fun HT_ HW_ => ?_)
            generalize wc.drew = w34 at BK101 BK103 HB hx108_0 hx110_0 hHeld ⊢
            refine pv_ 1 38 2 HT_.o ?_; refine tv_ 0 37 3 HT_.o HW_.o hHeld ?_; refine tv_ 2 39 7 HT_.o HW_.o hHeld ?_; refine pv_ 3 40 15 HT_.o ?_; refine tv_ 4 41 31 HT_.o HW_.o hHeld ?_
            refine one_ (i := 5) (N := some 42) (bb 15 63) rfl rfl (one_of HT_.o (by kernel_rfl)) (by decide) (fun K hK => ?_)
            refine gs_ Tryz.func87 #[.agg #[.slice (some ad102) l0_0.length c0_0], .int .i64 (rd ((rd_T121 l0_0 a1).f2) 0)] ?_
            with_reducible refine (ih kj4 (by have := HJ4.o; omega) _ _ l0_0 (rd ((rd_T121 l0_0 a1).f2) 0) false _ ?side1 ?side2 A28.o).mono ?_
            (case side1 => exact Kd.C_below HR0_0.o (be_ HB.o))
            (case side2 => exact HC0_0.o)
            rintro e w35 ⟨rfl, hb⟩
            refine ⟨_, rfl, ?_⟩; replace BK101 := lb_ BK101 hb; replace BK103 := lb_ BK103 hb; replace HB := sb2_ HB GE101 GE103 hb
            (try clear hb)
            (try clear hb2)
            (try clear hk)
            (try clear hi)
            refine hK.out _ _ ⟨(blk_cell BK101.o 0).trans rfl, (blk_cell BK103.o 0).trans rfl, (blk_cell BK103.o 1).trans rfl, (blk_cell BK103.o 2).trans rfl, (blk_cell BK103.o 3).trans rfl, (blk_cell BK103.o 4).trans rfl, (mv_ HB.o hw108_0), (mv_ HB.o hw110_0)⟩ (fun hHeld => ?_)
            clear hK K; refine no_ (some 42) ?_; refine pv_ 6 43 127 HT_.o ?_; refine pv_ 8 45 383 HT_.o ?_; refine tv_ 7 44 511 HT_.o HW_.o hHeld ?_; refine tv_ 9 46 1023 HT_.o HW_.o hHeld ?_; refine pv_ 10 47 2047 HT_.o ?_; refine tv_ 11 48 4095 HT_.o HW_.o hHeld ?_
            refine one_ (i := 12) (N := some 49) (bb 15 8191) rfl rfl (one_of HT_.o (by kernel_rfl)) (by decide) (fun K hK => ?_)
            refine gs_ Tryz.func87 #[.agg #[.slice (some ad102) l0_0.length c0_0], .int .i64 (rd ((rd_T121 l0_0 a1).f2) 1)] ?_
            with_reducible refine (ih kj4 (by have := HJ4.o; omega) _ _ l0_0 (rd ((rd_T121 l0_0 a1).f2) 1) t111 _ ?side1 ?side2 A33.o).mono ?_
            (case side1 => exact Kd.C_below HR0_0.o (be_ HB.o))
            (case side2 => exact HC0_0.o)
            rintro e w36 ⟨rfl, hb⟩
            refine ⟨_, rfl, ?_⟩; replace BK101 := lb_ BK101 hb; replace BK103 := lb_ BK103 hb; replace HB := sb2_ HB GE101 GE103 hb
            (try clear hb)
            (try clear hb2)
            (try clear hk)
            (try clear hi)
            refine hK.out _ _ ⟨(blk_cell BK101.o 0).trans rfl, (blk_cell BK103.o 0).trans rfl, (blk_cell BK103.o 1).trans rfl, (blk_cell BK103.o 2).trans rfl, (blk_cell BK103.o 3).trans rfl, (blk_cell BK103.o 4).trans rfl, (mv_ HB.o hw108_0), (mv_ HB.o hw110_0)⟩ (fun hHeld => ?_)
            clear hK K; refine no_ (some 49) ?_; refine pv_ 13 50 16383 HT_.o ?_; refine pv_ 14 4 32767 HT_.o ?_
            refine done_ (done_of HT_.o (by kernel_rfl)) ?_
            try go_wp2
            go_ret
            exact ⟨rt_, be2_ HB.o GE101.o GE103.o⟩
           ·rw [if_neg c32] at H
            exact absurd H (by simp)
         ·rw [if_neg c27] at H
          exact absurd H (by simp)
        ·rw [if_neg c26] at H
         have c26b0 : (((rd_T121 l0_0 a1).f0) == 4) = false := beq_eq_false_iff_ne.mpr c26
         have c26b1 : (((rd_T121 l0_0 a1).f0) != 4) = true := bne_iff_ne.mpr c26
         by_cases c37 : ((rd_T121 l0_0 a1).f0) = 8
         ·rw [if_pos c37] at H
          have c37b0 : (((rd_T121 l0_0 a1).f0) == 8) = true := beq_iff_eq.mpr c37
          have c37b1 : (((rd_T121 l0_0 a1).f0) != 8) = false := bne_eq_false_iff_eq.mpr c37
          clear c37
          by_cases c38 : ((rd_T121 l0_0 a1).f3) = 0
          ·rw [if_pos c38] at H
           have c38b0 : (((rd_T121 l0_0 a1).f3) == 0) = true := beq_iff_eq.mpr c38
           have c38b1 : (((rd_T121 l0_0 a1).f3) != 0) = false := bne_eq_false_iff_eq.mpr c38
           clear c38; obtain rfl := Option.some.inj H
           try go_wp2
           replace BK101 := q_ (blk_drew BK101.o); replace BK103 := q_ (blk_drew BK103.o); replace HB := q_ (below_drew1 HB.o)
           refine start_ (n := 17) (S := fun w' => w'.cell? ⟨gb103, 0, none⟩ = some (.int .i64 ((rd_T121 l0_0 a1).f0)) ∧ w'.cell? ⟨gb103, 1, none⟩ = some (.slice A102_1 ((rd_T121 l0_0 a1).f1).length c102_1) ∧ w'.cell? ⟨gb103, 2, none⟩ = some (.slice A102_2 ((rd_T121 l0_0 a1).f2).length c102_2) ∧ w'.cell? ⟨gb103, 3, none⟩ = some (.int .i64 ((rd_T121 l0_0 a1).f3)) ∧ w'.cell? ⟨gb103, 4, none⟩ = some (.int .i64 ((rd_T121 l0_0 a1).f4))) (ds := []) (bb 17 0) (by kernel_rfl) rfl rfl ⟨(blk_cell BK103.o 0).trans rfl, (blk_cell BK103.o 1).trans rfl, (blk_cell BK103.o 2).trans rfl, (blk_cell BK103.o 3).trans rfl, (blk_cell BK103.o 4).trans rfl⟩ (fun hHeld => ?_); refine with_tabW impl_Rx_nullable.tab13 impl_Rx_nullable.bits13 (fun HT_ HW_ => ?_)
           generalize wc.drew = w39 at BK101 BK103 HB hHeld ⊢
           refine pv_ 0 51 1 HT_.o ?_; refine tv_ 1 52 3 HT_.o HW_.o hHeld ?_; refine pv_ 2 53 7 HT_.o ?_; refine pv_ 3 54 15 HT_.o ?_; refine pv_ 4 55 31 HT_.o ?_; refine tv_ 5 56 63 HT_.o HW_.o hHeld ?_; refine pv_ 6 57 127 HT_.o ?_; refine pv_ 7 58 255 HT_.o ?_; refine pv_ 8 59 511 HT_.o ?_; refine pw_ 9 (some 60) (bb 17 1023) HT_.o ?_; refine pw_ 10 (some 61) (bb 17 2047) HT_.o ?_; refine pw_ 11 (some 62) (bb 17 4095) HT_.o ?_; refine pw_ 12 (some 63) (bb 17 8191) HT_.o ?_; refine pw_ 13 (some 64) (bb 17 16383) HT_.o ?_; refine pw_ 14 (some 65) (bb 17 32767) HT_.o ?_; refine pv_ 15 66 65535 HT_.o ?_; refine pv_ 16 4 131071 HT_.o ?_
           refine done_ (done_of HT_.o (by kernel_rfl)) ?_
           try go_wp2
           go_ret
           exact ⟨rt_, be2_ HB.o GE101.o GE103.o⟩
          ·rw [if_neg c38] at H
           have c38b0 : (((rd_T121 l0_0 a1).f3) == 0) = false := beq_eq_false_iff_ne.mpr c38
           have c38b1 : (((rd_T121 l0_0 a1).f3) != 0) = true := bne_iff_ne.mpr c38
           by_cases c40 : 0 < (((rd_T121 l0_0 a1).f2).length : Int)
           ·rw [if_pos c40] at H; have c40b0 := dt_ c40
            have c40b1 : decide (0 < ((rd_T121 l0_0 a1).f2).length) = true := decide_eq_true (by omega)
            clear c40; obtain ⟨t113, A41, H⟩ := ob_ H; obtain rfl := Option.some.inj H
            try go_wp2
            replace BK101 := q_ (blk_drew BK101.o); replace BK103 := q_ (blk_drew BK103.o); replace HB := q_ (below_drew1 HB.o)
            have p112 : 0 ≤ (0 : Int) := (by omega)
            have q112 : 0 < (((rd_T121 l0_0 a1).f2).length : Int) := of_decide_eq_true as_
            obtain ⟨ad112, e112, hx112_0⟩ := Kd.at_int HR102_2.o 0 p112 q112; have hw112_0 := hx112_0
            (try rw [show ((0 : Int)).toNat = 0 from rfl] at hw112_0)
            (try rw [show 0 * 1 = 0 from rfl] at hw112_0)
            (try rw [Addr.add_zero'] at hw112_0)
            cases e112
            have qi112 : (0 < ((rd_T121 l0_0 a1).f2).length) = True := eq_true (by omega)
            (try rw [show ((0 : Int)).toNat = 0 from rfl] at hx112_0)
            (try rw [Addr.add_zero'] at hx112_0)
            replace hx112_0 := mv_ HB.o hx112_0; replace p112 := eq_true p112; replace q112 := eq_true q112
            refine start_ (n := 17) (S := fun w' => w'.cell? ⟨gb103, 0, none⟩ = some (.int .i64 ((rd_T121 l0_0 a1).f0)) ∧ w'.cell? ⟨gb103, 1, none⟩ = some (.slice A102_1 ((rd_T121 l0_0 a1).f1).length c102_1) ∧ w'.cell? ⟨gb103, 2, none⟩ = some (.slice (some ad112) ((rd_T121 l0_0 a1).f2).length c102_2) ∧ w'.cell? ⟨gb103, 3, none⟩ = some (.int .i64 ((rd_T121 l0_0 a1).f3)) ∧ w'.cell? ⟨gb103, 4, none⟩ = some (.int .i64 ((rd_T121 l0_0 a1).f4)) ∧ w'.cell? ⟨gb101, 0, none⟩ = some (.slice (some ad102) l0_0.length c0_0) ∧ w'.cell? ad112 = some (.int .i64 (rd ((rd_T121 l0_0 a1).f2) 0))) (ds := []) (bb 17 0) (by kernel_rfl) rfl rfl ⟨(blk_cell BK103.o 0).trans rfl, (blk_cell BK103.o 1).trans rfl, (blk_cell BK103.o 2).trans rfl, (blk_cell BK103.o 3).trans rfl, (blk_cell BK103.o 4).trans rfl, (blk_cell BK101.o 0).trans rfl, (mv_ HB.o hw112_0)⟩ (fun hHeld => ?_); refine with_tabW impl_Rx_nullable.tab13 impl_Rx_nullable.bits13 (fun HT_ HW_ => ?_)
            generalize wc.drew = w42 at BK101 BK103 HB hx112_0 hHeld ⊢
            refine pv_ 0 51 1 HT_.o ?_; refine tv_ 1 52 3 HT_.o HW_.o hHeld ?_; refine pv_ 2 53 7 HT_.o ?_; refine pv_ 3 54 15 HT_.o ?_; refine pv_ 4 55 31 HT_.o ?_; refine tv_ 5 56 63 HT_.o HW_.o hHeld ?_; refine pv_ 6 57 127 HT_.o ?_; refine pv_ 7 58 255 HT_.o ?_; refine pv_ 8 59 511 HT_.o ?_; refine pv_ 10 61 1535 HT_.o ?_; refine tv_ 9 60 2047 HT_.o HW_.o hHeld ?_; refine tv_ 11 62 4095 HT_.o HW_.o hHeld ?_; refine pv_ 12 63 8191 HT_.o ?_; refine tv_ 13 64 16383 HT_.o HW_.o hHeld ?_
            refine one_ (i := 14) (N := some 65) (bb 17 32767) rfl rfl (one_of HT_.o (by kernel_rfl)) (by decide) (fun K hK => ?_)
            refine gs_ Tryz.func87 #[.agg #[.slice (some ad102) l0_0.length c0_0], .int .i64 (rd ((rd_T121 l0_0 a1).f2) 0)] ?_
            with_reducible refine (ih kj4 (by have := HJ4.o; omega) _ _ l0_0 (rd ((rd_T121 l0_0 a1).f2) 0) t113 _ ?side1 ?side2 A41.o).mono ?_
            (case side1 => exact Kd.C_below HR0_0.o (be_ HB.o))
            (case side2 => exact HC0_0.o)
            rintro e w43 ⟨rfl, hb⟩
            refine ⟨_, rfl, ?_⟩; replace BK101 := lb_ BK101 hb; replace BK103 := lb_ BK103 hb; replace HB := sb2_ HB GE101 GE103 hb
            (try clear hb)
            (try clear hb2)
            (try clear hk)
            (try clear hi)
            refine hK.out _ _ ⟨(blk_cell BK103.o 0).trans rfl, (blk_cell BK103.o 1).trans rfl, (blk_cell BK103.o 2).trans rfl, (blk_cell BK103.o 3).trans rfl, (blk_cell BK103.o 4).trans rfl, (blk_cell BK101.o 0).trans rfl, (mv_ HB.o hw112_0)⟩ (fun hHeld => ?_)
            clear hK K; refine no_ (some 65) ?_; refine pv_ 15 66 65535 HT_.o ?_; refine pv_ 16 4 131071 HT_.o ?_
            refine done_ (done_of HT_.o (by kernel_rfl)) ?_
            try go_wp2
            go_ret
            exact ⟨rt_, be2_ HB.o GE101.o GE103.o⟩
           ·rw [if_neg c40] at H
            exact absurd H (by simp)
         ·rw [if_neg c37] at H
          have c37b0 : (((rd_T121 l0_0 a1).f0) == 8) = false := beq_eq_false_iff_ne.mpr c37
          have c37b1 : (((rd_T121 l0_0 a1).f0) != 8) = true := bne_iff_ne.mpr c37
          by_cases c44 : 0 < (((rd_T121 l0_0 a1).f2).length : Int)
          ·rw [if_pos c44] at H; have c44b0 := dt_ c44
           have c44b1 : decide (0 < ((rd_T121 l0_0 a1).f2).length) = true := decide_eq_true (by omega)
           clear c44; obtain ⟨t115, A45, H⟩ := ob_ H; obtain rfl := Option.some.inj H
           try go_wp2
           replace BK101 := q_ (blk_drew BK101.o); replace BK103 := q_ (blk_drew BK103.o); replace HB := q_ (below_drew1 HB.o)
           have p114 : 0 ≤ (0 : Int) := (by omega)
           have q114 : 0 < (((rd_T121 l0_0 a1).f2).length : Int) := of_decide_eq_true as_
           obtain ⟨ad114, e114, hx114_0⟩ := Kd.at_int HR102_2.o 0 p114 q114; have hw114_0 := hx114_0
           (try rw [show ((0 : Int)).toNat = 0 from rfl] at hw114_0)
           (try rw [show 0 * 1 = 0 from rfl] at hw114_0)
           (try rw [Addr.add_zero'] at hw114_0)
           cases e114
           have qi114 : (0 < ((rd_T121 l0_0 a1).f2).length) = True := eq_true (by omega)
           (try rw [show ((0 : Int)).toNat = 0 from rfl] at hx114_0)
           (try rw [Addr.add_zero'] at hx114_0)
           replace hx114_0 := mv_ HB.o hx114_0; replace p114 := eq_true p114; replace q114 := eq_true q114
           refine start_ (n := 17) (S := fun w' => w'.cell? ⟨gb103, 0, none⟩ = some (.int .i64 ((rd_T121 l0_0 a1).f0)) ∧ w'.cell? ⟨gb103, 1, none⟩ = some (.slice A102_1 ((rd_T121 l0_0 a1).f1).length c102_1) ∧ w'.cell? ⟨gb103, 2, none⟩ = some (.slice (some ad114) ((rd_T121 l0_0 a1).f2).length c102_2) ∧ w'.cell? ⟨gb103, 3, none⟩ = some (.int .i64 ((rd_T121 l0_0 a1).f3)) ∧ w'.cell? ⟨gb103, 4, none⟩ = some (.int .i64 ((rd_T121 l0_0 a1).f4)) ∧ w'.cell? ⟨gb101, 0, none⟩ = some (.slice (some ad102) l0_0.length c0_0) ∧ w'.cell? ad114 = some (.int .i64 (rd ((rd_T121 l0_0 a1).f2) 0))) (ds := []) (bb 17 0) (by kernel_rfl) rfl rfl ⟨(blk_cell BK103.o 0).trans rfl, (blk_cell BK103.o 1).trans rfl, (blk_cell BK103.o 2).trans rfl, (blk_cell BK103.o 3).trans rfl, (blk_cell BK103.o 4).trans rfl, (blk_cell BK101.o 0).trans rfl, (mv_ HB.o hw114_0)⟩ (fun hHeld => ?_); refine with_tabW impl_Rx_nullable.tab13 impl_Rx_nullable.bits13 (fun HT_ HW_ => ?_)
           generalize wc.drew = w46 at BK101 BK103 HB hx114_0 hHeld ⊢
           refine pv_ 0 51 1 HT_.o ?_; refine tv_ 1 52 3 HT_.o HW_.o hHeld ?_; refine pv_ 2 53 7 HT_.o ?_; refine pv_ 3 54 15 HT_.o ?_; refine pw_ 4 (some 55) (bb 17 31) HT_.o ?_; refine pw_ 5 (some 56) (bb 17 63) HT_.o ?_; refine pw_ 6 (some 57) (bb 17 127) HT_.o ?_; refine pv_ 7 58 255 HT_.o ?_; refine pv_ 8 59 511 HT_.o ?_; refine pv_ 10 61 1535 HT_.o ?_; refine tv_ 9 60 2047 HT_.o HW_.o hHeld ?_; refine tv_ 11 62 4095 HT_.o HW_.o hHeld ?_; refine pv_ 12 63 8191 HT_.o ?_; refine tv_ 13 64 16383 HT_.o HW_.o hHeld ?_
           refine one_ (i := 14) (N := some 65) (bb 17 32767) rfl rfl (one_of HT_.o (by kernel_rfl)) (by decide) (fun K hK => ?_)
           refine gs_ Tryz.func87 #[.agg #[.slice (some ad102) l0_0.length c0_0], .int .i64 (rd ((rd_T121 l0_0 a1).f2) 0)] ?_
           with_reducible refine (ih kj4 (by have := HJ4.o; omega) _ _ l0_0 (rd ((rd_T121 l0_0 a1).f2) 0) t115 _ ?side1 ?side2 A45.o).mono ?_
           (case side1 => exact Kd.C_below HR0_0.o (be_ HB.o))
           (case side2 => exact HC0_0.o)
           rintro e w47 ⟨rfl, hb⟩
           refine ⟨_, rfl, ?_⟩; replace BK101 := lb_ BK101 hb; replace BK103 := lb_ BK103 hb; replace HB := sb2_ HB GE101 GE103 hb
           (try clear hb)
           (try clear hb2)
           (try clear hk)
           (try clear hi)
           refine hK.out _ _ ⟨(blk_cell BK103.o 0).trans rfl, (blk_cell BK103.o 1).trans rfl, (blk_cell BK103.o 2).trans rfl, (blk_cell BK103.o 3).trans rfl, (blk_cell BK103.o 4).trans rfl, (blk_cell BK101.o 0).trans rfl, (mv_ HB.o hw114_0)⟩ (fun hHeld => ?_)
           clear hK K; refine no_ (some 65) ?_; refine pv_ 15 66 65535 HT_.o ?_; refine pv_ 16 4 131071 HT_.o ?_
           refine done_ (done_of HT_.o (by kernel_rfl)) ?_
           try go_wp2
           go_ret
           exact ⟨rt_, be2_ HB.o GE101.o GE103.o⟩
          ·rw [if_neg c44] at H
           exact absurd H (by simp)
  ·rw [if_neg c4] at H
   exact absurd H (by simp)
 ·rw [if_neg c3] at H
  exact absurd H (by simp)
/-! ### impl_Rx_last: function 62 -/
def impl_Rx_last.f (l0_0 : List (S121)) : Option (Int) := (impl_RNode.f l0_0).bind fun t102 => (some (wrap64 (t102 - 1)))
theorem impl_Rx_last.calls (A0_0 : Option Addr) (c0_0 : Nat) (l0_0 : List (S121)) (r : Int) (w : World) (hr0_0 : Kd.C k121 w A0_0 l0_0.length l0_0) (hc0_0 : l0_0.length ≤ c0_0) (h : impl_Rx_last.f l0_0 = some r) :
  Calls Tryz.prog 62 #[.agg #[.slice A0_0 l0_0.length c0_0]] w fun e w' => e = .returned (.int .i64 r) ∧ Below w.heap.size w w' := by
 have hu58 := Tryz.underlying58; have HR0_0 := q_ hr0_0; have HC0_0 := q_ hc0_0; clear hr0_0 hc0_0; have HB := q_ (Below.refl w.heap.size w)
 have H : ((impl_RNode.f l0_0).bind fun t102 => (some (wrap64 (t102 - 1)))) = some r := h
 clear h; obtain ⟨t102, A2, H⟩ := ob_ H; obtain rfl := Option.some.inj H
 go_enter Tryz.func62, Tryz.ntmps62
 go_wp2_with (first | ((with_reducible refine gate_dst (N := 1) rfl ?_); refine bx_ 1 #[.slice A0_0 l0_0.length c0_0] 58 ?_; intro gb101 hg w3 hbox hb; have BK101 := q_ (hbox); have GE101 := ge_ hg HB; replace HB := sb_ HB hb; clear hb hbox hg; obtain ⟨hcz4_0, hfz4_0⟩ := d1_ BK101) | ((with_reducible refine gate_callee (f := 85) rfl ?_); refine gl_ (some 5) rfl rfl Tryz.func85 #[.slice A0_0 l0_0.length c0_0] ?_; (with_reducible refine (impl_RNode.calls _ _ l0_0 t102 _ ?side1 ?side2 A2.o).mono ?_); (case side1 => exact Kd.C_below HR0_0.o (be_ HB.o)); (case side2 => exact HC0_0.o); rintro e w' ⟨rfl, ⟨nd, rfl⟩⟩; refine ⟨_, rfl, ?_⟩))
 go_ret
 exact ⟨rt_, be1_ HB.o GE101.o⟩
/-! ### impl_Nullable: function 96 -/
def impl_Nullable.f (k : Nat) (l0_0 : List (S121)) : Option (Bool) := (impl_RxOk.f k l0_0).bind fun t102 => (if t102 = true then ((impl_Rx_last.f l0_0).bind fun t103 => ((impl_Rx_nullable.f k l0_0 t103).bind fun t104 => (some t104))) else (some false))
def impl_Nullable.T1 : Bool × List (List Nat × List Nat) := (true, [([], []), ([0], [0]), ([1, 1], [1]), ([2], [2]), ([2], [2]), ([4, 2, 2], [2, 4]), ([3, 5, 5, 2], [2, 3, 5]), ([2, 6], [2, 6]), ([7, 6, 0, 1, 2, 3, 4, 5, 6, 7], [7])])
def impl_Nullable.B1 : List Nat := [0, 1, 3, 7, 7, 23, 63, 127, 255]
theorem impl_Nullable.tab1 : rtab .any (opsOf Tryz.f96 1) = impl_Nullable.T1 := by kernel_rfl
theorem impl_Nullable.bits1 : waitsOk impl_Nullable.T1.2 impl_Nullable.B1 = true := by kernel_rfl
theorem impl_Nullable.calls (k : Nat) (A0_0 : Option Addr) (c0_0 : Nat) (l0_0 : List (S121)) (r : Bool) (w : World) (hr0_0 : Kd.C k121 w A0_0 l0_0.length l0_0) (hc0_0 : l0_0.length ≤ c0_0) (h : impl_Nullable.f k l0_0 = some r) :
  Calls Tryz.prog 96 #[.agg #[.slice A0_0 l0_0.length c0_0]] w fun e w' => e = .returned (.bool r) ∧ Below w.heap.size w w' := by
 have hu58 := Tryz.underlying58; have HR0_0 := q_ hr0_0; have HC0_0 := q_ hc0_0; clear hr0_0 hc0_0; have HB := q_ (Below.refl w.heap.size w)
 have H : ((impl_RxOk.f k l0_0).bind fun t102 => (if t102 = true then ((impl_Rx_last.f l0_0).bind fun t103 => ((impl_Rx_nullable.f k l0_0 t103).bind fun t104 => (some t104))) else (some false))) = some r := h
 clear h; obtain ⟨t102, A2, H⟩ := ob_ H
 by_cases c3 : t102 = true
 ·subst c3; rw [if_pos rfl] at H; obtain ⟨t103, A4, H⟩ := ob_ H; obtain ⟨t104, A5, H⟩ := ob_ H; obtain rfl := Option.some.inj H
  go_enter Tryz.func96, Tryz.ntmps96
  try go_wp2_with (first | ((with_reducible refine gate_dst (N := 1) rfl ?_); refine bx_ 1 #[.slice A0_0 l0_0.length c0_0] 58 ?_; intro gb101 hg w6 hbox hb; have BK101 := q_ (hbox); have GE101 := ge_ hg HB; replace HB := sb_ HB hb; clear hb hbox hg))
  replace BK101 := q_ (blk_drew BK101.o); replace HB := q_ (below_drew1 HB.o)
  refine start_ (n := 9) (S := fun w' => w'.cell? ⟨gb101, 0, none⟩ = some (.slice A0_0 l0_0.length c0_0)) (ds := []) (bb 9 0) (by kernel_rfl) rfl rfl ((blk_cell BK101.o 0).trans rfl) (fun hHeld => ?_); refine with_tabW impl_Nullable.tab1 impl_Nullable.bits1 (fun HT_ HW_ => ?_)
  generalize w6.drew = w7 at BK101 HB hHeld ⊢
  refine tv_ 0 3 1 HT_.o HW_.o hHeld ?_
  refine one_ (i := 1) (N := some 4) (bb 9 3) rfl rfl (one_of HT_.o (by kernel_rfl)) (by decide) (fun K hK => ?_)
  refine gs_ Tryz.func60 #[.agg #[.slice A0_0 l0_0.length c0_0]] ?_
  with_reducible refine (impl_RxOk.calls k _ _ l0_0 true _ ?side1 ?side2 A2.o).mono ?_
  (case side1 => exact Kd.C_below HR0_0.o (be_ HB.o))
  (case side2 => exact HC0_0.o)
  rintro e w8 ⟨rfl, hb⟩
  refine ⟨_, rfl, ?_⟩; replace BK101 := lb_ BK101 hb; replace HB := sb1_ HB GE101 hb
  (try clear hb)
  (try clear hb2)
  (try clear hk)
  (try clear hi)
  refine hK.out _ _ ((blk_cell BK101.o 0).trans rfl) (fun hHeld => ?_)
  clear hK K; refine no_ (some 4) ?_; refine pv_ 2 5 7 HT_.o ?_; refine tv_ 3 6 15 HT_.o HW_.o hHeld ?_; refine tv_ 4 7 31 HT_.o HW_.o hHeld ?_
  refine one_ (i := 5) (N := some 8) (bb 9 63) rfl rfl (one_of HT_.o (by kernel_rfl)) (by decide) (fun K hK => ?_)
  refine gs_ Tryz.func62 #[.agg #[.slice A0_0 l0_0.length c0_0]] ?_
  with_reducible refine (impl_Rx_last.calls _ _ l0_0 t103 _ ?side1 ?side2 A4.o).mono ?_
  (case side1 => exact Kd.C_below HR0_0.o (be_ HB.o))
  (case side2 => exact HC0_0.o)
  rintro e w9 ⟨rfl, hb⟩
  refine ⟨_, rfl, ?_⟩; replace BK101 := lb_ BK101 hb; replace HB := sb1_ HB GE101 hb
  (try clear hb)
  (try clear hb2)
  (try clear hk)
  (try clear hi)
  refine hK.out _ _ ((blk_cell BK101.o 0).trans rfl) (fun hHeld => ?_)
  clear hK K; refine no_ (some 8) ?_
  refine one_ (i := 6) (N := some 9) (bb 9 127) rfl rfl (one_of HT_.o (by kernel_rfl)) (by decide) (fun K hK => ?_)
  refine gs_ Tryz.func87 #[.agg #[.slice A0_0 l0_0.length c0_0], .int .i64 t103] ?_
  with_reducible refine (impl_Rx_nullable.calls k _ _ l0_0 t103 t104 _ ?side1 ?side2 A5.o).mono ?_
  (case side1 => exact Kd.C_below HR0_0.o (be_ HB.o))
  (case side2 => exact HC0_0.o)
  rintro e w10 ⟨rfl, hb⟩
  refine ⟨_, rfl, ?_⟩; replace BK101 := lb_ BK101 hb; replace HB := sb1_ HB GE101 hb
  (try clear hb)
  (try clear hb2)
  (try clear hk)
  (try clear hi)
  refine hK.out _ _ ((blk_cell BK101.o 0).trans rfl) (fun hHeld => ?_)
  clear hK K; refine no_ (some 9) ?_; refine pv_ 7 10 255 HT_.o ?_; refine pv_ 8 2 511 HT_.o ?_
  refine done_ (done_of HT_.o (by kernel_rfl)) ?_
  try go_wp2
  go_ret
  exact ⟨rt_, be1_ HB.o GE101.o⟩
 ·replace c3 := Bool.eq_false_iff.mpr c3; subst c3; rw [if_neg nft_] at H; obtain rfl := Option.some.inj H
  go_enter Tryz.func96, Tryz.ntmps96
  try go_wp2_with (first | ((with_reducible refine gate_dst (N := 1) rfl ?_); refine bx_ 1 #[.slice A0_0 l0_0.length c0_0] 58 ?_; intro gb101 hg w11 hbox hb; have BK101 := q_ (hbox); have GE101 := ge_ hg HB; replace HB := sb_ HB hb; clear hb hbox hg))
  replace BK101 := q_ (blk_drew BK101.o); replace HB := q_ (below_drew1 HB.o)
  refine start_ (n := 9) (S := fun w' => w'.cell? ⟨gb101, 0, none⟩ = some (.slice A0_0 l0_0.length c0_0)) (ds := []) (bb 9 0) (by kernel_rfl) rfl rfl ((blk_cell BK101.o 0).trans rfl) (fun hHeld => ?_); refine with_tabW impl_Nullable.tab1 impl_Nullable.bits1 (fun HT_ HW_ => ?_)
  generalize w11.drew = w12 at BK101 HB hHeld ⊢
  refine tv_ 0 3 1 HT_.o HW_.o hHeld ?_
  refine one_ (i := 1) (N := some 4) (bb 9 3) rfl rfl (one_of HT_.o (by kernel_rfl)) (by decide) (fun K hK => ?_)
  refine gs_ Tryz.func60 #[.agg #[.slice A0_0 l0_0.length c0_0]] ?_
  with_reducible refine (impl_RxOk.calls k _ _ l0_0 false _ ?side1 ?side2 A2.o).mono ?_
  (case side1 => exact Kd.C_below HR0_0.o (be_ HB.o))
  (case side2 => exact HC0_0.o)
  rintro e w13 ⟨rfl, hb⟩
  refine ⟨_, rfl, ?_⟩; replace BK101 := lb_ BK101 hb; replace HB := sb1_ HB GE101 hb
  (try clear hb)
  (try clear hb2)
  (try clear hk)
  (try clear hi)
  refine hK.out _ _ ((blk_cell BK101.o 0).trans rfl) (fun hHeld => ?_)
  clear hK K; refine no_ (some 4) ?_; refine pv_ 2 5 7 HT_.o ?_; refine pw_ 3 (some 6) (bb 9 15) HT_.o ?_; refine pw_ 4 (some 7) (bb 9 31) HT_.o ?_; refine pw_ 5 (some 8) (bb 9 63) HT_.o ?_; refine pw_ 6 (some 9) (bb 9 127) HT_.o ?_; refine pv_ 7 10 255 HT_.o ?_; refine pv_ 8 2 511 HT_.o ?_
  refine done_ (done_of HT_.o (by kernel_rfl)) ?_
  try go_wp2
  go_ret
  exact ⟨rt_, be1_ HB.o GE101.o⟩
end Go.Proofs.YtijmhelacmjggaaGreat.P
namespace Go.Proofs.YtijmhelacmjggaaGreat.P
open Go.RowKit Go.Proofs.YtijmhelacmjggaaGreatW.PrintWords Go.Proofs.YtijmhelacmjggaaGreatW.PrintLast Go.Proofs.YtijmhelacmjggaaGreatW.PrintMore Go.Proofs.YtijmhelacmjggaaGreatEv
set_option linter.unusedVariables false
set_option linter.unusedSimpArgs false
theorem impl_nullable_ev (l : List S121) (hok : ∀ j, j < l.length → nodeAt l j = true) : ∀ n k : Nat, k < n → k < l.length → Ev (fun q => impl_Rx_nullable.f q l (k : Int)) (nullE l k) := by
  intro n
  induction n with
  | zero => intro k hk; omega
  | succ n ih =>
    intro k hk hkl
    have kid : ∀ i : Nat, i < (rd_T121 l (k : Int)).f2.length → Ev (fun q => impl_Rx_nullable.f q l (rd (rd_T121 l (k : Int)).f2 (i : Int))) (nullK l k (rd (rd_T121 l (k : Int)).f2 (i : Int)).toNat) := by
      intro i hi
      obtain ⟨h1, h2⟩ := node_kid (hok k hkl) i hi
      have h3 := ih _ (by omega) (Nat.lt_trans h2 hkl)
      rw [← h1] at h3
      rw [nullK_stable hok l.length _ (by omega) (by omega) k h2]
      exact h3
    have k0 := kid 0
    have k1 := kid 1
    simp only [Int.ofNat_zero, Int.natCast_one, Int.cast_ofNat_Int] at k0 k1
    have hE : nullE l k = nullK l (k + 1) k := rfl
    rw [hE]
    simp only [nullK]
    generalize nullK l k (rd (rd_T121 l (k : Int)).f2 0).toNat = b0 at *
    generalize nullK l k (rd (rd_T121 l (k : Int)).f2 1).toNat = b1 at *
    have yes : ∀ x12 a b c d e, Ev (fun q => impl_Rx_nullable.j0 q x12 true l a b c d e) true := by
      intro x12 a b c d e
      rw [ev_succ]
      simp only [impl_Rx_nullable.j0, if_true]
      exact ev_some.2 rfl
    rcases node_ops (hok k hkl) with (h | h) | ⟨h | h, hl⟩ | ⟨h | h | h | h, hl⟩
    · refine ev_congr (r := true) ?_ (by simp [h])
      rw [ev_succ]
      simp only [impl_Rx_nullable.f, ev_ite]
      rw [if_pos (by omega), if_pos (by omega)]
      rw [if_pos h, h, show ((1 : Int) == 1) = true from rfl]
      exact yes _ _ _ _ _ _
    · refine ev_congr (r := false) ?_ (by simp [h])
      rw [ev_succ]
      simp only [impl_Rx_nullable.f, ev_ite]
      rw [if_pos (by omega), if_pos (by omega)]
      rw [if_neg (by omega), if_neg (by omega), h, show ((2 : Int) == 7) = false from rfl, ev_succ]
      simp only [impl_Rx_nullable.j0, Bool.false_eq_true, if_false, ev_ite]
      first | rw [if_pos trivial] | rw [if_pos rfl]
      exact ev_some.2 rfl
    · refine ev_congr (r := (b0 && b1)) ?_ (by simp [h])
      rw [ev_succ]
      simp only [impl_Rx_nullable.f, ev_ite]
      rw [if_pos (by omega), if_pos (by omega)]
      rw [if_neg (by omega), if_neg (by omega), h, show ((3 : Int) == 7) = false from rfl, ev_succ]
      simp only [impl_Rx_nullable.j0, Bool.false_eq_true, if_false, ev_ite]
      rw [if_neg (by omega)]
      first | rw [if_pos trivial] | rw [if_pos rfl]
      rw [if_pos (by omega), ev_bind (k0 (by omega)), ev_ite]
      cases b0
      · rw [if_neg (by simp)]
        exact ev_some.2 rfl
      · rw [if_pos rfl, ev_ite, if_pos (by omega), ev_bind (k1 (by omega))]
        exact ev_some.2 rfl
    · refine ev_congr (r := (b0 || b1)) ?_ (by simp [h])
      rw [ev_succ]
      simp only [impl_Rx_nullable.f, ev_ite]
      rw [if_pos (by omega), if_pos (by omega)]
      rw [if_neg (by omega), if_neg (by omega), h, show ((4 : Int) == 7) = false from rfl, ev_succ]
      simp only [impl_Rx_nullable.j0, Bool.false_eq_true, if_false, ev_ite]
      rw [if_neg (by omega), if_neg (by omega)]
      first | rw [if_pos trivial] | rw [if_pos rfl]
      rw [if_pos (by omega), ev_bind (k0 (by omega)), ev_ite]
      cases b0
      · rw [if_neg (by simp), ev_ite, if_pos (by omega), ev_bind (k1 (by omega))]
        exact ev_some.2 rfl
      · rw [if_pos rfl]
        exact ev_some.2 rfl
    · refine ev_congr (r := true) ?_ (by simp [h])
      rw [ev_succ]
      simp only [impl_Rx_nullable.f, ev_ite]
      rw [if_pos (by omega), if_pos (by omega)]
      rw [if_neg (by omega), if_pos h, h, show ((5 : Int) == 5) = true from rfl]
      exact yes _ _ _ _ _ _
    · refine ev_congr (r := b0) ?_ (by simp [h])
      rw [ev_succ]
      simp only [impl_Rx_nullable.f, ev_ite]
      rw [if_pos (by omega), if_pos (by omega)]
      rw [if_neg (by omega), if_neg (by omega), h, show ((6 : Int) == 7) = false from rfl, ev_succ]
      simp only [impl_Rx_nullable.j0, Bool.false_eq_true, if_false, ev_ite]
      rw [if_neg (by omega), if_neg (by omega), if_neg (by omega), if_neg (by omega), if_pos (by omega), ev_bind (k0 (by omega))]
      exact ev_some.2 rfl
    · refine ev_congr (r := true) ?_ (by simp [h])
      rw [ev_succ]
      simp only [impl_Rx_nullable.f, ev_ite]
      rw [if_pos (by omega), if_pos (by omega)]
      rw [if_neg (by omega), if_neg (by omega), h, show ((7 : Int) == 7) = true from rfl]
      exact yes _ _ _ _ _ _
    · refine ev_congr (r := (decide ((rd_T121 l (k : Int)).f3 = 0) || b0)) ?_ (by simp [h])
      rw [ev_succ]
      simp only [impl_Rx_nullable.f, ev_ite]
      rw [if_pos (by omega), if_pos (by omega)]
      rw [if_neg (by omega), if_neg (by omega), h, show ((8 : Int) == 7) = false from rfl, ev_succ]
      simp only [impl_Rx_nullable.j0, Bool.false_eq_true, if_false, ev_ite]
      rw [if_neg (by omega), if_neg (by omega), if_neg (by omega)]
      first | rw [if_pos trivial] | rw [if_pos rfl]
      by_cases h3 : (rd_T121 l (k : Int)).f3 = 0
      · rw [if_pos h3]
        exact ev_some.2 (show true = _ by simp [h3])
      · rw [if_neg h3, if_pos (by omega), ev_bind (k0 (by omega))]
        exact ev_some.2 (show b0 = _ by simp [h3])
theorem impl_Nullable_ev (l : List S121) (hl : l.length ≤ 1048576) : Ev (fun k => impl_Nullable.f k l) (rxB l && nullE l (l.length - 1)) := by
  unfold impl_Nullable.f
  rw [ev_bind (impl_RxOk_ev l (by omega))]
  simp only [ev_ite]
  cases hb : rxB l
  · rw [if_neg (by simp)]
    exact ev_some.2 rfl
  · obtain ⟨h1, hn, hok⟩ := rxB_parts hb
    have hr := impl_nullable_ev l hok l.length (l.length - 1) (by omega) (by omega)
    rw [show ((l.length - 1 : Nat) : Int) = wrap64 ((l.length : Int) - 1) by rw [wrap_id (by omega) (by omega)]; omega] at hr
    rw [if_pos rfl]
    simp only [impl_Rx_last.f, impl_RNode.f, Option.bind_some]
    rw [ev_bind hr]
    exact ev_some.2 rfl
end Go.Proofs.YtijmhelacmjggaaGreat.P
namespace Go.Proofs.YtijmhelacmjggaaGreat.P
open Go.RowKit Go.Shelf Go.Proofs.YtijmhelacmjggaaGreatW.PrintWords Go.Proofs.YtijmhelacmjggaaGreatW.PrintLast Go.Proofs.YtijmhelacmjggaaGreatW.PrintMore Go.Proofs.YtijmhelacmjggaaGreatEv
set_option linter.unusedVariables false
set_option linter.unusedSimpArgs false
def AskMode (g : Nat) (lb : Array Value) (w : World) (l0 : List S62) (p : S62 → Bool) : Prop := ∀ (W : World) (x : S62) (A1 : Option Addr) (c1 : Nat), x ∈ l0 → Below w.heap.size w W → Kd.C k64 W A1 x.f1.length x.f1 → x.f1.length ≤ c1 →
  Calls Tryz.prog g (#[.agg #[.string x.f0, .slice A1 x.f1.length c1]] ++ lb) W fun e w' => e = .returned (.bool (p x)) ∧ Below W.heap.size W w'
theorem IndexFunc_Mode (g : Nat) (lb : Array Value) (eg : ∀ args w, (callFunc g args).run Tryz.prog w = .ok (.enter g args) w) (p : S62 → Bool) (A0 : Option Addr) (c0 : Nat) (l0 : List S62) (w : World) (hr0 : Kd.C k62 w A0 l0.length l0)
    (hp : AskMode g lb w l0 p) :
    Calls Tryz.prog 93 #[.slice A0 l0.length c0, .func (.func g) #[] lb] w fun e w' => e = .returned (.int .i64 (idxP p l0 0)) ∧ Below w.heap.size w w' := by
  have HP := Lib.hid hp
  clear hp
  have hn := hr0.2.1
  have HR := q_ hr0
  clear hr0
  go_enter Tryz.func93, Tryz.ntmps93
  go_wp2
  go_loopg [5, 8] l0.length (fun gg _ s8 wr => ∃ kk : Nat, kk ≤ l0.length ∧ l0.length - kk ≤ gg ∧ s8 = .int .i64 kk ∧ J0 (Below w.heap.size w wr) ∧ J0 (idxP p l0 0 = idxP p (l0.drop kk) kk))
  case atStart => exact ⟨0, Nat.zero_le _, by omega, rfl, ⟨Below.refl _ w⟩, ⟨by simp⟩⟩
  case round =>
    obtain ⟨kk, hkk, hg, rfl, BW, HA⟩ := hrel
    by_cases hlt : kk < l0.length
    · have hltz : (kk : Int) < (l0.length : Int) := by omega
      obtain ⟨ad, A1, c1, rfl, hx0, hx1, hl, hi⟩ := at_T62 HR.o (kk : Int) (by omega) hltz
      rw [Int.toNat_natCast] at hx0 hx1
      replace hx0 := mv_ BW.o hx0
      replace hx1 := mv_ BW.o hx1
      have hmem : rd_T62 l0 (kk : Int) ∈ l0 := by
        unfold rd_T62
        rw [List.getD_eq_getElem?_getD, List.getElem?_eq_getElem (by simpa using hlt)]
        exact List.getElem_mem _
      have hcall := HP.out wr (rd_T62 l0 (kk : Int)) A1 c1 hmem BW.o (Kd.C_below hi BW.o) hl
      have hstep : J0 (idxP p l0 0 = if p (rd_T62 l0 (kk : Int)) then (kk : Int) else idxP p (l0.drop (kk + 1)) ((kk + 1 : Nat) : Int)) := ⟨by
        rw [HA.o, drop_cons l0 z62 kk hlt]
        have hr : l0.getD kk z62 = rd_T62 l0 (kk : Int) := by simp [rd_T62]
        rw [hr]
        rfl⟩
      clear hmem hi hl
      generalize rd_T62 l0 (kk : Int) = y at *
      cases hq : p y with
      | true =>
        rw [hq] at hcall
        have hs2 : J0 (idxP p l0 0 = (kk : Int)) := ⟨by rw [hstep.o, hq]; rfl⟩
        clear hstep hq HA
        go_wp2_with (go_at_fn g; refine hcall.mono ?_; rintro e w' ⟨rfl, hb'⟩)
        go_ret
        exact ⟨by (rw [hs2.o]; try rfl), below_then BW.o BW.o.size hb'⟩
      | false =>
        rw [hq] at hcall
        have hs2 : J0 (idxP p l0 0 = idxP p (l0.drop (kk + 1)) ((kk + 1 : Nat) : Int)) := ⟨by rw [hstep.o, hq]; rfl⟩
        clear hstep hq HA
        go_wp2_with (go_at_fn g; refine hcall.mono ?_; rintro e w' ⟨rfl, hb'⟩)
        go_roundg (l0.length - (kk + 1))
        case measure => omega
        case rel => exact ⟨kk + 1, by omega, by omega, by go_num, ⟨below_then BW.o BW.o.size hb'⟩, hs2⟩
    · have hltz : ¬ (kk : Int) < (l0.length : Int) := by omega
      have hk : kk = l0.length := by omega
      have hs2 : J0 (idxP p l0 0 = -1) := ⟨by rw [HA.o, hk]; simp [idxP]⟩
      clear hk HA
      go_wp2
      go_ret
      exact ⟨by (rw [hs2.o]; try rfl), BW.o⟩
def named (nm : ByteArray) (m : S62) : Bool := m.f0.toList == nm.toList
def modeAtP (l : List S62) (nm : ByteArray) : Int := idxP (named nm) l 0
theorem ModeAt_1_calls (B : Nat) (nm : ByteArray) (W : World) (x : S62) (A1 : Option Addr) (c1 : Nat) (hcell : W.cell? ⟨B, 0, none⟩ = some (.string nm)) :
    Calls Tryz.prog 94 (#[.agg #[.string x.f0, .slice A1 x.f1.length c1]] ++ #[.pointer (some ⟨B, 0, none⟩)]) W fun e w' => e = .returned (.bool (named nm x)) ∧ Below W.heap.size W w' := by
  obtain ⟨b, hb⟩ : ∃ b, named nm x = b := ⟨_, rfl⟩
  rw [hb]
  unfold named at hb
  have hlt := World.block_lt_of_cell? W _ hcell
  have hc2 : ∀ o, (W.alloc o).cell? ⟨B, 0, none⟩ = some (.string nm) := fun o => ((below_alloc (Below.refl _ _) o : Below W.heap.size W _).cell hlt).trans hcell
  have hne : (B == W.heap.size) = false := beq_eq_false_iff_ne.mpr (by have : B < W.heap.size := hlt; omega)
  show Calls Tryz.prog _ #[.agg #[.string x.f0, .slice A1 x.f1.length c1], .pointer (some ⟨B, 0, none⟩)] W _
  go_enter Tryz.func94, Tryz.ntmps94
  go_wp2_with fail
  go_ret
  exact ⟨by first | (rw [← hb]; done) | (rw [← hb]; rfl) | simp [*], by repeat (first | exact Below.refl _ _ | apply below_alloc | apply pw_below_drewN | apply below_drew1)⟩
theorem ModeAt_hand (A0 : Option Addr) (c0 : Nat) (l0 : List S62) (nm : ByteArray) (w : World) (hr0 : Kd.C k62 w A0 l0.length l0) :
    Calls Tryz.prog 70 #[.agg #[.slice A0 l0.length c0], .string nm] w fun e w' => e = .returned (.int .i64 (modeAtP l0 nm)) ∧ Below w.heap.size w w' := by
  have eg : ∀ args w, (callFunc 94 args).run Tryz.prog w = .ok (.enter 94 args) w := enters_of Tryz.func94 (by kernel_rfl) rfl
  have HB := q_ (below_alloc (below_alloc (Below.refl w.heap.size w) (.cells #[.slice A0 l0.length c0] 31)) (.cells #[.string nm] 9))
  have hcf : J0 (Calls Tryz.prog 93 #[.slice A0 l0.length c0, .func (.func 94) #[] #[.pointer (some ⟨w.heap.size + 1, 0, none⟩)]] ((w.alloc (.cells #[.slice A0 l0.length c0] 31)).alloc (.cells #[.string nm] 9)) fun e w' => e = .returned (.int .i64 (modeAtP l0 nm)) ∧ Below ((w.alloc (.cells #[.slice A0 l0.length c0] 31)).alloc (.cells #[.string nm] 9)).heap.size ((w.alloc (.cells #[.slice A0 l0.length c0] 31)).alloc (.cells #[.string nm] 9)) w') := ⟨by
    refine IndexFunc_Mode _ _ eg _ A0 c0 l0 _ (Kd.C_below hr0 HB.o) ?_
    intro W x A1 c1 _ hb _ _
    have hbk := blk_new (w.alloc (.cells #[.slice A0 l0.length c0] 31)) (.cells #[.string nm] 9)
    have hs : (w.alloc (.cells #[.slice A0 l0.length c0] 31)).heap.size = w.heap.size + 1 := by simp [World.alloc_eq]
    rw [hs] at hbk
    exact ModeAt_1_calls (w.heap.size + 1) nm W x A1 c1 (mv_ hb ((blk_cell hbk 0).trans rfl))⟩
  clear eg hr0
  generalize modeAtP l0 nm = m at *
  go_enter Tryz.func70, Tryz.ntmps70
  go_wp2_with (go_at_call 93; refine hcf.o.mono ?_; rintro e w' ⟨rfl, hb⟩)
  go_ret
  exact ⟨rfl, below_then HB.o HB.o.size hb⟩
end Go.Proofs.YtijmhelacmjggaaGreat.P
namespace Go.Proofs.YtijmhelacmjggaaGreat.P
open Go.RowKit Go.Proofs.YtijmhelacmjggaaGreatW.PrintWords Go.Proofs.YtijmhelacmjggaaGreatW.PrintLast Go.Proofs.YtijmhelacmjggaaGreatW.PrintMore
attribute [local go_sem] max2_int min2_int max_two min_two max_three min_three max_four min_four
set_option linter.unusedVariables false
set_option linter.unusedSimpArgs false
/-! ### impl_length: function 92 -/
def impl_length.f (a0 : ByteArray) : Option (Int) := some (a0.size : Int)
theorem impl_length.calls (a0 : ByteArray) (r : Int) (w : World) (h : impl_length.f a0 = some r) :
  Calls Tryz.prog 92 #[.string a0] w fun e w' => e = .returned (.int .i64 r) ∧ Drawn0 w w' := by
 have H : (some (a0.size : Int)) = some r := h
 clear h; obtain rfl := Option.some.inj H
 go_enter Tryz.func92, Tryz.ntmps92
 go_wp2
 go_ret
 exact ⟨by first | rfl | (simp; done) | (simp [*]; done), by repeat (first | exact Drawn0.refl _ | apply Drawn0.step)⟩
/-! ### impl_isName: function 69 -/
def impl_isName.l0 : Nat → ByteArray → Int → Int → Option (Bool)
 | 0, _, _, _ => none
 | k + 1, x0, x6, x7 => if x7 < x6 then (if 0 ≤ x7 then (if x7 < (x0.size : Int) then (if (bt x0 x7) ≥ 97 then (if ((bt x0 x7) ≤ 122) then (impl_isName.l0 k x0 x6 (wrap64 (x7 + 1))) else (if x7 = 0 then (some false) else (if (bt x0 x7) < 48 then (some false) else (if (bt x0 x7) > 57 then (some false) else (impl_isName.l0 k x0 x6 (wrap64 (x7 + 1))))))) else (if x7 = 0 then (some false) else (if (bt x0 x7) < 48 then (some false) else (if (bt x0 x7) > 57 then (some false) else (impl_isName.l0 k x0 x6 (wrap64 (x7 + 1))))))) else (none)) else (none)) else ((impl_length.f x0).bind fun t101 => ((impl_within.f t101 1 12).bind fun t102 => (some t102)))
def impl_isName.f (k : Nat) (a0 : ByteArray) : Option (Bool) := impl_isName.l0 k a0 (a0.size : Int) 0
theorem impl_isName.calls (k : Nat) (a0 : ByteArray) (r : Bool) (w : World) (h : impl_isName.f k a0 = some r) :
  Calls Tryz.prog 69 #[.string a0] w fun e w' => e = .returned (.bool r) ∧ Drawn0 w w' := by
 have H : (impl_isName.l0 k a0 (a0.size : Int) 0) = some r := h
 clear h
 have H' := q_ H
 clear H
 go_enter Tryz.func69, Tryz.ntmps69
 go_wp2
 go_loopg [7] k (fun kq v7 w' => ∃ (x7_1 : Int), v7 = .int .i64 x7_1 ∧ J0 (impl_isName.l0 kq a0 (a0.size : Int) x7_1 = some r) ∧ J0 (kq ≤ k) ∧ Drawn0 w w')
 case atStart => exact ⟨(0), rs_, H', ⟨Nat.le_refl _⟩, by repeat (first | exact Drawn0.refl _ | apply Drawn0.step)⟩
 case round =>
  clear H'
  obtain ⟨x7_1, rfl, HA, HK1, ⟨m1, rfl⟩⟩ := hrel
  cases gk with
  | zero => exact absurd HA.o (by simp [impl_isName.l0])
  | succ k1 =>
   have H := HA.o; clear HA
   simp only [impl_isName.l0] at H
   by_cases c2 : x7_1 < (a0.size : Int)
   ·rw [if_pos c2] at H; have c2b0 := dt_ c2; clear c2
    by_cases c3 : 0 ≤ x7_1
    ·rw [if_pos c3] at H; have c3b0 := dt_ c3; clear c3
     by_cases c4 : x7_1 < (a0.size : Int)
     ·rw [if_pos c4] at H; have c4b0 := dt_ c4; clear c4
      by_cases c6 : (bt a0 x7_1) ≥ 97
      ·rw [if_pos c6] at H
       have c6b0 : decide (97 ≤ (bt a0 x7_1)) = true := dt_ c6
       clear c6
       by_cases c7 : ((bt a0 x7_1) ≤ 122)
       ·rw [if_pos c7] at H
        have c7b0 : decide ((bt a0 x7_1) ≤ 122) = true := dt_ c7
        clear c7
        have H' := q_ H
        clear H
        have p5 : 0 ≤ (x7_1 : Int) := of_decide_eq_true as_
        have q5 : x7_1 < (a0.size : Int) := of_decide_eq_true as_
        have hx5 := bt_at a0 x7_1; replace p5 := eq_true p5; replace q5 := eq_true q5
        go_wp2
        go_roundg k1
        case measure => have := HK1.o; omega
        case rel => exact ⟨(wrap64 (x7_1 + 1)), rs_, H', ⟨by have := HK1.o; omega⟩, by repeat (first | exact Drawn0.refl _ | apply Drawn0.step)⟩
       ·rw [if_neg c7] at H
        have c7b0 : decide ((bt a0 x7_1) ≤ 122) = false := df_ c7
        clear c7
        by_cases c8 : x7_1 = 0
        ·rw [if_pos c8] at H
         have c8b0 : (x7_1 == 0) = true := beq_iff_eq.mpr c8
         have c8b1 : (x7_1 != 0) = false := bne_eq_false_iff_eq.mpr c8
         clear c8; obtain rfl := Option.some.inj H
         have p5 : 0 ≤ (x7_1 : Int) := of_decide_eq_true as_
         have q5 : x7_1 < (a0.size : Int) := of_decide_eq_true as_
         have hx5 := bt_at a0 x7_1; replace p5 := eq_true p5; replace q5 := eq_true q5
         go_wp2
         go_ret
         exact ⟨by first | rfl | (simp; done) | (simp [*]; done), by repeat (first | exact Drawn0.refl _ | apply Drawn0.step)⟩
        ·rw [if_neg c8] at H
         have c8b0 : (x7_1 == 0) = false := beq_eq_false_iff_ne.mpr c8
         have c8b1 : (x7_1 != 0) = true := bne_iff_ne.mpr c8
         by_cases c9 : (bt a0 x7_1) < 48
         ·rw [if_pos c9] at H; have c9b0 := dt_ c9; clear c9; obtain rfl := Option.some.inj H
          have p5 : 0 ≤ (x7_1 : Int) := of_decide_eq_true as_
          have q5 : x7_1 < (a0.size : Int) := of_decide_eq_true as_
          have hx5 := bt_at a0 x7_1; replace p5 := eq_true p5; replace q5 := eq_true q5
          go_wp2
          go_ret
          exact ⟨by first | rfl | (simp; done) | (simp [*]; done), by repeat (first | exact Drawn0.refl _ | apply Drawn0.step)⟩
         ·rw [if_neg c9] at H; have c9b0 := df_ c9; clear c9
          by_cases c10 : (bt a0 x7_1) > 57
          ·rw [if_pos c10] at H
           have c10b0 : decide (57 < (bt a0 x7_1)) = true := dt_ c10
           clear c10; obtain rfl := Option.some.inj H
           have p5 : 0 ≤ (x7_1 : Int) := of_decide_eq_true as_
           have q5 : x7_1 < (a0.size : Int) := of_decide_eq_true as_
           have hx5 := bt_at a0 x7_1; replace p5 := eq_true p5; replace q5 := eq_true q5
           go_wp2
           go_ret
           exact ⟨by first | rfl | (simp; done) | (simp [*]; done), by repeat (first | exact Drawn0.refl _ | apply Drawn0.step)⟩
          ·rw [if_neg c10] at H
           have c10b0 : decide (57 < (bt a0 x7_1)) = false := df_ c10
           clear c10
           have H' := q_ H
           clear H
           have p5 : 0 ≤ (x7_1 : Int) := of_decide_eq_true as_
           have q5 : x7_1 < (a0.size : Int) := of_decide_eq_true as_
           have hx5 := bt_at a0 x7_1; replace p5 := eq_true p5; replace q5 := eq_true q5
           go_wp2
           go_roundg k1
           case measure => have := HK1.o; omega
           case rel => exact ⟨(wrap64 (x7_1 + 1)), rs_, H', ⟨by have := HK1.o; omega⟩, by repeat (first | exact Drawn0.refl _ | apply Drawn0.step)⟩
      ·rw [if_neg c6] at H
       have c6b0 : decide (97 ≤ (bt a0 x7_1)) = false := df_ c6
       clear c6
       by_cases c11 : x7_1 = 0
       ·rw [if_pos c11] at H
        have c11b0 : (x7_1 == 0) = true := beq_iff_eq.mpr c11
        have c11b1 : (x7_1 != 0) = false := bne_eq_false_iff_eq.mpr c11
        clear c11; obtain rfl := Option.some.inj H
        have p5 : 0 ≤ (x7_1 : Int) := of_decide_eq_true as_
        have q5 : x7_1 < (a0.size : Int) := of_decide_eq_true as_
        have hx5 := bt_at a0 x7_1; replace p5 := eq_true p5; replace q5 := eq_true q5
        go_wp2
        go_ret
        exact ⟨by first | rfl | (simp; done) | (simp [*]; done), by repeat (first | exact Drawn0.refl _ | apply Drawn0.step)⟩
       ·rw [if_neg c11] at H
        have c11b0 : (x7_1 == 0) = false := beq_eq_false_iff_ne.mpr c11
        have c11b1 : (x7_1 != 0) = true := bne_iff_ne.mpr c11
        by_cases c12 : (bt a0 x7_1) < 48
        ·rw [if_pos c12] at H; have c12b0 := dt_ c12; clear c12; obtain rfl := Option.some.inj H
         have p5 : 0 ≤ (x7_1 : Int) := of_decide_eq_true as_
         have q5 : x7_1 < (a0.size : Int) := of_decide_eq_true as_
         have hx5 := bt_at a0 x7_1; replace p5 := eq_true p5; replace q5 := eq_true q5
         go_wp2
         go_ret
         exact ⟨by first | rfl | (simp; done) | (simp [*]; done), by repeat (first | exact Drawn0.refl _ | apply Drawn0.step)⟩
        ·rw [if_neg c12] at H; have c12b0 := df_ c12; clear c12
         by_cases c13 : (bt a0 x7_1) > 57
         ·rw [if_pos c13] at H
          have c13b0 : decide (57 < (bt a0 x7_1)) = true := dt_ c13
          clear c13; obtain rfl := Option.some.inj H
          have p5 : 0 ≤ (x7_1 : Int) := of_decide_eq_true as_
          have q5 : x7_1 < (a0.size : Int) := of_decide_eq_true as_
          have hx5 := bt_at a0 x7_1; replace p5 := eq_true p5; replace q5 := eq_true q5
          go_wp2
          go_ret
          exact ⟨by first | rfl | (simp; done) | (simp [*]; done), by repeat (first | exact Drawn0.refl _ | apply Drawn0.step)⟩
         ·rw [if_neg c13] at H
          have c13b0 : decide (57 < (bt a0 x7_1)) = false := df_ c13
          clear c13
          have H' := q_ H
          clear H
          have p5 : 0 ≤ (x7_1 : Int) := of_decide_eq_true as_
          have q5 : x7_1 < (a0.size : Int) := of_decide_eq_true as_
          have hx5 := bt_at a0 x7_1; replace p5 := eq_true p5; replace q5 := eq_true q5
          go_wp2
          go_roundg k1
          case measure => have := HK1.o; omega
          case rel => exact ⟨(wrap64 (x7_1 + 1)), rs_, H', ⟨by have := HK1.o; omega⟩, by repeat (first | exact Drawn0.refl _ | apply Drawn0.step)⟩
     ·rw [if_neg c4] at H
      exact absurd H (by simp)
    ·rw [if_neg c3] at H
     exact absurd H (by simp)
   ·rw [if_neg c2] at H; have c2b0 := df_ c2; clear c2; obtain ⟨t101, A14, H⟩ := ob_ H; obtain ⟨t102, A15, H⟩ := ob_ H; obtain rfl := Option.some.inj H
    go_wp2_with (first | ((with_reducible refine gate_callee (f := 92) rfl ?_); refine gl_ (some 34) rfl rfl Tryz.func92 #[.string a0] ?_; (with_reducible refine (impl_length.calls a0 t101 _ A14.o).mono ?_); rintro e w' ⟨rfl, ⟨nd, rfl⟩⟩; refine ⟨_, rfl, ?_⟩) | ((with_reducible refine gate_callee (f := 56) rfl ?_); refine gl_ (some 35) rfl rfl Tryz.func56 #[.int .i64 t101, .int .i64 1, .int .i64 12] ?_; (with_reducible refine (impl_within.calls t101 1 12 t102 _ A15.o).mono ?_); rintro e w' ⟨rfl, ⟨nd, rfl⟩⟩; refine ⟨_, rfl, ?_⟩))
    go_ret
    exact ⟨by first | rfl | (simp; done) | (simp [*]; done), by repeat (first | exact Drawn0.refl _ | apply Drawn0.step)⟩
/-! ### spec_l1Digit: function 90 -/
def spec_l1Digit.f (a0 : Int) : Option (Bool) := if a0 ≥ 48 then (some (decide (a0 ≤ 57))) else (some false)
theorem spec_l1Digit.calls (a0 : Int) (r : Bool) (w : World) (h : spec_l1Digit.f a0 = some r) :
  Calls Tryz.prog 90 #[.int .u8 a0] w fun e w' => e = .returned (.bool r) ∧ Drawn0 w w' := by
 have H : (if a0 ≥ 48 then (some (decide (a0 ≤ 57))) else (some false)) = some r := h
 clear h
 by_cases c2 : a0 ≥ 48
 ·rw [if_pos c2] at H
  have c2b0 : decide (48 ≤ a0) = true := dt_ c2
  clear c2; obtain rfl := Option.some.inj H
  go_enter Tryz.func90, Tryz.ntmps90
  go_wp2
  go_ret
  exact ⟨by first | rfl | (simp; done) | (simp [*]; done), by repeat (first | exact Drawn0.refl _ | apply Drawn0.step)⟩
 ·rw [if_neg c2] at H
  have c2b0 : decide (48 ≤ a0) = false := df_ c2
  clear c2; obtain rfl := Option.some.inj H
  go_enter Tryz.func90, Tryz.ntmps90
  go_wp2
  go_ret
  exact ⟨by first | rfl | (simp; done) | (simp [*]; done), by repeat (first | exact Drawn0.refl _ | apply Drawn0.step)⟩
/-! ### spec_l1Name: function 66 -/
mutual
def spec_l1Name.j0 : Nat → ByteArray → Bool → Option (Bool)
 | 0, _, _ => none
 | k + 1, x0, x16 => if x16 = true then (some false) else (spec_l1Name.l0 k x0 0)
def spec_l1Name.l0 : Nat → ByteArray → Int → Option (Bool)
 | 0, _, _ => none
 | k + 1, x0, x3 => if x3 < (x0.size : Int) then (if 0 ≤ x3 then ((spec_l1Digit.f (bt x0 x3)).bind fun t102 => (if t102 = true then (spec_l1Name.l0 k x0 (wrap64 (x3 + 1))) else (if (bt x0 x3) < 97 then (some false) else (if (bt x0 x3) > 122 then (some false) else (spec_l1Name.l0 k x0 (wrap64 (x3 + 1))))))) else (none)) else (some true)
end
def spec_l1Name.f (k : Nat) (a0 : ByteArray) : Option (Bool) := if (a0.size : Int) < 1 then (spec_l1Name.j0 k a0 true) else (if (a0.size : Int) > 12 then (spec_l1Name.j0 k a0 true) else (if 0 < (a0.size : Int) then ((spec_l1Digit.f (bt a0 0)).bind fun t101 => (spec_l1Name.j0 k a0 t101)) else (none)))
theorem spec_l1Name.calls (k : Nat) (a0 : ByteArray) (r : Bool) (w : World) (h : spec_l1Name.f k a0 = some r) :
  Calls Tryz.prog 66 #[.string a0] w fun e w' => e = .returned (.bool r) ∧ Drawn0 w w' := by
 have H : (if (a0.size : Int) < 1 then (spec_l1Name.j0 k a0 true) else (if (a0.size : Int) > 12 then (spec_l1Name.j0 k a0 true) else (if 0 < (a0.size : Int) then ((spec_l1Digit.f (bt a0 0)).bind fun t101 => (spec_l1Name.j0 k a0 t101)) else (none)))) = some r := h
 clear h; have HC2 := q_ H; clear H
 go_enter Tryz.func66, Tryz.ntmps66
 go_upto_region 1 with (fail)
 go_cut [16] (fun v16 wc => ∃ (kq : Nat) (x16_1 : Bool), v16 = .bool x16_1 ∧ J0 (spec_l1Name.j0 kq a0 x16_1 = some r) ∧ J0 (kq ≤ k) ∧ Drawn0 w wc)
 case first =>
  have H := HC2.o; clear HC2
  by_cases c3 : (a0.size : Int) < 1
  ·rw [if_pos c3] at H; have c3b0 := dt_ c3
   have c3b1 : decide (a0.size < 1) = true := decide_eq_true (by omega)
   clear c3
   (first | rw [c3b0] | (simp only [i64_w, i32_w]; rw [c3b0]) | skip)
   have H' := q_ H
   clear H
   go_wp2
   go_meet
   case rel => exact ⟨_, (true), rs_, H', ⟨by first | omega | exact Nat.le_refl _⟩, by repeat (first | exact Drawn0.refl _ | apply Drawn0.step)⟩
  ·rw [if_neg c3] at H; have c3b0 := df_ c3
   have c3b1 : decide (a0.size < 1) = false := decide_eq_false (by omega)
   clear c3
   (first | rw [c3b0] | (simp only [i64_w, i32_w]; rw [c3b0]) | skip)
   by_cases c4 : (a0.size : Int) > 12
   ·rw [if_pos c4] at H
    have c4b0 : decide (12 < (a0.size : Int)) = true := dt_ c4
    have c4b1 : decide (12 < a0.size) = true := decide_eq_true (by omega)
    clear c4
    have H' := q_ H
    clear H
    go_wp2
    go_meet
    case rel => exact ⟨_, (true), rs_, H', ⟨by first | omega | exact Nat.le_refl _⟩, by repeat (first | exact Drawn0.refl _ | apply Drawn0.step)⟩
   ·rw [if_neg c4] at H
    have c4b0 : decide (12 < (a0.size : Int)) = false := df_ c4
    have c4b1 : decide (12 < a0.size) = false := decide_eq_false (by omega)
    clear c4
    by_cases c5 : 0 < (a0.size : Int)
    ·rw [if_pos c5] at H; have c5b0 := dt_ c5
     have c5b1 : decide (0 < a0.size) = true := decide_eq_true (by omega)
     clear c5; obtain ⟨t101, A7, H⟩ := ob_ H
     have H' := q_ H
     clear H
     have p6 : 0 ≤ (0 : Int) := (by omega)
     have q6 : 0 < a0.size := (by have : (0 : Int) < (a0.size : Int) := of_decide_eq_true as_; omega)
     have hx6 : ∀ h : 0 < a0.size, ((a0[0]'h).toNat : Int) = bt a0 0 := bt_at a0 0
     clear p6
     have qi6 : (0 < (a0.size : Int)) = True := eq_true (of_decide_eq_true as_)
     replace q6 := eq_true q6
     go_wp2_with (first | (go_at_call 90; (with_reducible refine (spec_l1Digit.calls (bt a0 0) t101 _ A7.o).mono ?_); rintro e w' ⟨rfl, ⟨nd, rfl⟩⟩))
     go_meet
     case rel => exact ⟨_, (t101), rs_, H', ⟨by first | omega | exact Nat.le_refl _⟩, by repeat (first | exact Drawn0.refl _ | apply Drawn0.step)⟩
    ·rw [if_neg c5] at H
     exact absurd H (by simp)
 case rest =>
  clear HC2; (try clear c3); (try clear c3b0); (try clear c3b1); (try clear c4); (try clear c4b0); (try clear c4b1); (try clear c5); (try clear c5b0); (try clear c5b1); (try clear p6); (try clear q6); (try clear hx6); (try clear qi6); (try clear p6); (try clear q6)
  obtain ⟨kq, x16_1, rfl, HA, HJ1, ⟨mc1, rfl⟩⟩ := hcut
  cases kq with
  | zero => exact absurd HA.o (by simp [spec_l1Name.j0])
  | succ kj1 =>
   have H := HA.o; clear HA
   simp only [spec_l1Name.j0] at H
   by_cases c8 : x16_1 = true
   ·subst c8; rw [if_pos rfl] at H; obtain rfl := Option.some.inj H
    go_wp2
    go_ret
    exact ⟨by first | rfl | (simp; done) | (simp [*]; done), by repeat (first | exact Drawn0.refl _ | apply Drawn0.step)⟩
   ·replace c8 := Bool.eq_false_iff.mpr c8; subst c8; rw [if_neg nft_] at H
    have H' := q_ H
    clear H
    go_wp2
    go_loopg [3] kj1 (fun kq v3 w' => ∃ (x3_2 : Int), v3 = .int .i64 x3_2 ∧ J0 (spec_l1Name.l0 kq a0 x3_2 = some r) ∧ J0 (kq ≤ kj1) ∧ Drawn0 w w')
    case atStart => exact ⟨(0), rs_, H', ⟨Nat.le_refl _⟩, by repeat (first | exact Drawn0.refl _ | apply Drawn0.step)⟩
    case round =>
     clear H'; (try clear c3); (try clear c3b0); (try clear c3b1); (try clear c4); (try clear c4b0); (try clear c4b1); (try clear c5); (try clear c5b0); (try clear c5b1); (try clear p6); (try clear q6); (try clear hx6); (try clear qi6); (try clear c8); (try clear p6); (try clear q6)
     obtain ⟨x3_2, rfl, HA, HK2, ⟨m2, rfl⟩⟩ := hrel
     cases gk with
     | zero => exact absurd HA.o (by simp [spec_l1Name.l0])
     | succ k2 =>
      have H := HA.o; clear HA
      simp only [spec_l1Name.l0] at H
      by_cases c9 : x3_2 < (a0.size : Int)
      ·rw [if_pos c9] at H; have c9b0 := dt_ c9; clear c9
       by_cases c10 : 0 ≤ x3_2
       ·rw [if_pos c10] at H; have c10b0 := dt_ c10; clear c10; obtain ⟨t102, A12, H⟩ := ob_ H
        by_cases c13 : t102 = true
        ·subst c13; rw [if_pos rfl] at H
         have H' := q_ H
         clear H
         have p11 : 0 ≤ (x3_2 : Int) := of_decide_eq_true as_
         have q11 : x3_2 < (a0.size : Int) := of_decide_eq_true as_
         have hx11 := bt_at a0 x3_2; replace p11 := eq_true p11; replace q11 := eq_true q11
         go_wp2_with (first | ((with_reducible refine gate_callee (f := 90) rfl ?_); refine gl_ (some 26) rfl rfl Tryz.func90 #[.int .u8 (bt a0 x3_2)] ?_; (with_reducible refine (spec_l1Digit.calls (bt a0 x3_2) true _ A12.o).mono ?_); rintro e w' ⟨rfl, ⟨nd, rfl⟩⟩; refine ⟨_, rfl, ?_⟩))
         go_roundg k2
         case measure => have := HJ1.o; have := HK2.o; omega
         case rel => exact ⟨(wrap64 (x3_2 + 1)), rs_, H', ⟨by have := HJ1.o; have := HK2.o; omega⟩, by repeat (first | exact Drawn0.refl _ | apply Drawn0.step)⟩
        ·replace c13 := Bool.eq_false_iff.mpr c13; subst c13; rw [if_neg nft_] at H
         by_cases c15 : (bt a0 x3_2) < 97
         ·rw [if_pos c15] at H; have c15b0 := dt_ c15; clear c15; obtain rfl := Option.some.inj H
          have p11 : 0 ≤ (x3_2 : Int) := of_decide_eq_true as_
          have q11 : x3_2 < (a0.size : Int) := of_decide_eq_true as_
          have hx11 := bt_at a0 x3_2; replace p11 := eq_true p11; replace q11 := eq_true q11
          go_wp2_with (first | ((with_reducible refine gate_callee (f := 90) rfl ?_); refine gl_ (some 26) rfl rfl Tryz.func90 #[.int .u8 (bt a0 x3_2)] ?_; (with_reducible refine (spec_l1Digit.calls (bt a0 x3_2) false _ A12.o).mono ?_); rintro e w' ⟨rfl, ⟨nd, rfl⟩⟩; refine ⟨_, rfl, ?_⟩; have p14 : 0 ≤ (x3_2 : Int) := of_decide_eq_true as_; have q14 : x3_2 < (a0.size : Int) := of_decide_eq_true as_; have hx14 := bt_at a0 x3_2; replace p14 := eq_true p14; replace q14 := eq_true q14))
          go_ret
          exact ⟨by first | rfl | (simp; done) | (simp [*]; done), by repeat (first | exact Drawn0.refl _ | apply Drawn0.step)⟩
         ·rw [if_neg c15] at H; have c15b0 := df_ c15; clear c15
          by_cases c17 : (bt a0 x3_2) > 122
          ·rw [if_pos c17] at H
           have c17b0 : decide (122 < (bt a0 x3_2)) = true := dt_ c17
           clear c17; obtain rfl := Option.some.inj H
           have p11 : 0 ≤ (x3_2 : Int) := of_decide_eq_true as_
           have q11 : x3_2 < (a0.size : Int) := of_decide_eq_true as_
           have hx11 := bt_at a0 x3_2; replace p11 := eq_true p11; replace q11 := eq_true q11
           go_wp2_with (first | ((with_reducible refine gate_callee (f := 90) rfl ?_); refine gl_ (some 26) rfl rfl Tryz.func90 #[.int .u8 (bt a0 x3_2)] ?_; (with_reducible refine (spec_l1Digit.calls (bt a0 x3_2) false _ A12.o).mono ?_); rintro e w' ⟨rfl, ⟨nd, rfl⟩⟩; refine ⟨_, rfl, ?_⟩; have p14 : 0 ≤ (x3_2 : Int) := of_decide_eq_true as_; have q14 : x3_2 < (a0.size : Int) := of_decide_eq_true as_; have hx14 := bt_at a0 x3_2; replace p14 := eq_true p14; replace q14 := eq_true q14; have p16 : 0 ≤ (x3_2 : Int) := of_decide_eq_true as_; have q16 : x3_2 < (a0.size : Int) := of_decide_eq_true as_; have hx16 := bt_at a0 x3_2; replace p16 := eq_true p16; replace q16 := eq_true q16))
           go_ret
           exact ⟨by first | rfl | (simp; done) | (simp [*]; done), by repeat (first | exact Drawn0.refl _ | apply Drawn0.step)⟩
          ·rw [if_neg c17] at H
           have c17b0 : decide (122 < (bt a0 x3_2)) = false := df_ c17
           clear c17
           have H' := q_ H
           clear H
           have p11 : 0 ≤ (x3_2 : Int) := of_decide_eq_true as_
           have q11 : x3_2 < (a0.size : Int) := of_decide_eq_true as_
           have hx11 := bt_at a0 x3_2; replace p11 := eq_true p11; replace q11 := eq_true q11
           go_wp2_with (first | ((with_reducible refine gate_callee (f := 90) rfl ?_); refine gl_ (some 26) rfl rfl Tryz.func90 #[.int .u8 (bt a0 x3_2)] ?_; (with_reducible refine (spec_l1Digit.calls (bt a0 x3_2) false _ A12.o).mono ?_); rintro e w' ⟨rfl, ⟨nd, rfl⟩⟩; refine ⟨_, rfl, ?_⟩; have p14 : 0 ≤ (x3_2 : Int) := of_decide_eq_true as_; have q14 : x3_2 < (a0.size : Int) := of_decide_eq_true as_; have hx14 := bt_at a0 x3_2; replace p14 := eq_true p14; replace q14 := eq_true q14; have p16 : 0 ≤ (x3_2 : Int) := of_decide_eq_true as_; have q16 : x3_2 < (a0.size : Int) := of_decide_eq_true as_; have hx16 := bt_at a0 x3_2; replace p16 := eq_true p16; replace q16 := eq_true q16))
           go_roundg k2
           case measure => have := HJ1.o; have := HK2.o; omega
           case rel => exact ⟨(wrap64 (x3_2 + 1)), rs_, H', ⟨by have := HJ1.o; have := HK2.o; omega⟩, by repeat (first | exact Drawn0.refl _ | apply Drawn0.step)⟩
       ·rw [if_neg c10] at H
        exact absurd H (by simp)
      ·rw [if_neg c9] at H; have c9b0 := df_ c9; clear c9; obtain rfl := Option.some.inj H
       go_wp2
       go_ret
       exact ⟨by first | rfl | (simp; done) | (simp [*]; done), by repeat (first | exact Drawn0.refl _ | apply Drawn0.step)⟩
/-! ### impl_ModeAt: function 70 -/
def impl_ModeAt.f (l0_0 : List (S62)) (a1 : ByteArray) : Option (Int) := some (modeAtP l0_0 a1)
theorem impl_ModeAt.calls (A0_0 : Option Addr) (c0_0 : Nat) (l0_0 : List (S62)) (a1 : ByteArray) (r : Int) (w : World) (hr0_0 : Kd.C k62 w A0_0 l0_0.length l0_0) (hc0_0 : l0_0.length ≤ c0_0) (h : impl_ModeAt.f l0_0 a1 = some r) :
    Calls Tryz.prog 70 #[.agg #[.slice A0_0 l0_0.length c0_0], .string a1] w fun e w' => e = .returned (.int .i64 r) ∧ Below w.heap.size w w' := by
  obtain rfl := Option.some.inj h
  exact ModeAt_hand A0_0 c0_0 l0_0 a1 w hr0_0
/-! ### impl_Rule_hasTarget: function 97 -/
def impl_Rule_hasTarget.f (a0_0 : ByteArray) (l0_1 : List (S121)) (a0_2 : Bool) (a0_3 : Int) (a0_4 : ByteArray) : Option (Bool) := if a0_3 = 1 then (some true) else (some (a0_3 == 2))
theorem impl_Rule_hasTarget.calls (a0_0 : ByteArray) (A0_1 : Option Addr) (c0_1 : Nat) (l0_1 : List (S121)) (a0_2 : Bool) (a0_3 : Int) (a0_4 : ByteArray) (r : Bool) (w : World) (hr0_1 : Kd.C k121 w A0_1 l0_1.length l0_1) (hc0_1 : l0_1.length ≤ c0_1) (h : impl_Rule_hasTarget.f a0_0 l0_1 a0_2 a0_3 a0_4 = some r) :
  Calls Tryz.prog 97 #[.agg #[.string a0_0, .slice A0_1 l0_1.length c0_1, .bool a0_2, .int .i64 a0_3, .string a0_4]] w fun e w' => e = .returned (.bool r) ∧ Below w.heap.size w w' := by
 have hu64 := Tryz.underlying64; have HR0_1 := q_ hr0_1; have HC0_1 := q_ hc0_1; clear hr0_1 hc0_1; have HB := q_ (Below.refl w.heap.size w)
 have H : (if a0_3 = 1 then (some true) else (some (a0_3 == 2))) = some r := h
 clear h
 by_cases c2 : a0_3 = 1
 ·rw [if_pos c2] at H
  have c2b0 : (a0_3 == 1) = true := beq_iff_eq.mpr c2
  have c2b1 : (a0_3 != 1) = false := bne_eq_false_iff_eq.mpr c2
  clear c2; obtain rfl := Option.some.inj H
  go_enter Tryz.func97, Tryz.ntmps97
  go_wp2_with (first | ((with_reducible refine gate_dst (N := 1) rfl ?_); refine bx_ 1 #[.string a0_0, .slice A0_1 l0_1.length c0_1, .bool a0_2, .int .i64 a0_3, .string a0_4] 64 ?_; intro gb101 hg w3 hbox hb; have BK101 := q_ (hbox); have GE101 := ge_ hg HB; replace HB := sb_ HB hb; clear hb hbox hg; obtain ⟨hcz4_0, hcz4_1, hcz4_2, hcz4_3, hcz4_4, hfz4_0, hfz4_1, hfz4_2, hfz4_3, hfz4_4⟩ := d5_ BK101))
  go_ret
  exact ⟨rt_, be1_ HB.o GE101.o⟩
 ·rw [if_neg c2] at H
  have c2b0 : (a0_3 == 1) = false := beq_eq_false_iff_ne.mpr c2
  have c2b1 : (a0_3 != 1) = true := bne_iff_ne.mpr c2
  obtain rfl := Option.some.inj H
  go_enter Tryz.func97, Tryz.ntmps97
  go_wp2_with (first | ((with_reducible refine gate_dst (N := 1) rfl ?_); refine bx_ 1 #[.string a0_0, .slice A0_1 l0_1.length c0_1, .bool a0_2, .int .i64 a0_3, .string a0_4] 64 ?_; intro gb101 hg w5 hbox hb; have BK101 := q_ (hbox); have GE101 := ge_ hg HB; replace HB := sb_ HB hb; clear hb hbox hg; obtain ⟨hcz6_0, hcz6_1, hcz6_2, hcz6_3, hcz6_4, hfz6_0, hfz6_1, hfz6_2, hfz6_3, hfz6_4⟩ := d5_ BK101))
  go_ret
  exact ⟨rt_, be1_ HB.o GE101.o⟩
/-! ### impl_ruleOk: function 74 -/
def impl_ruleOk.j0 : Nat → Bool → List (S62) → ByteArray → List (S121) → Bool → Int → ByteArray → Option (Bool)
 | 0, _, _, _, _, _, _, _ => none
 | k + 1, x25, x102000, x103000, x103001, x103002, x103003, x103004 => if x25 = true then (some false) else ((impl_Rule_hasTarget.f x103000 x103001 x103002 x103003 x103004).bind fun t107 => (if t107 = true then ((impl_ModeAt.f x102000 x103004).bind fun t108 => (some (decide (t108 ≥ 0)))) else (some (x103004.toList == ([] : List UInt8)))))
def impl_ruleOk.f (k : Nat) (l0_0 : List (S62)) (a1_0 : ByteArray) (l1_1 : List (S121)) (a1_2 : Bool) (a1_3 : Int) (a1_4 : ByteArray) : Option (Bool) := (impl_isName.f k a1_0).bind fun t103 => (if t103 = true then ((impl_RxOk.f k l1_1).bind fun t104 => (if t104 = true then ((impl_Nullable.f k l1_1).bind fun t105 => (if t105 = true then (impl_ruleOk.j0 k true l0_0 a1_0 l1_1 a1_2 a1_3 a1_4) else ((impl_within.f a1_3 0 3).bind fun t106 => (impl_ruleOk.j0 k (!t106) l0_0 a1_0 l1_1 a1_2 a1_3 a1_4)))) else (impl_ruleOk.j0 k true l0_0 a1_0 l1_1 a1_2 a1_3 a1_4))) else (impl_ruleOk.j0 k true l0_0 a1_0 l1_1 a1_2 a1_3 a1_4))
theorem impl_ruleOk.calls (k : Nat) (A0_0 : Option Addr) (c0_0 : Nat) (l0_0 : List (S62)) (a1_0 : ByteArray) (A1_1 : Option Addr) (c1_1 : Nat) (l1_1 : List (S121)) (a1_2 : Bool) (a1_3 : Int) (a1_4 : ByteArray) (r : Bool) (w : World) (hr0_0 : Kd.C k62 w A0_0 l0_0.length l0_0) (hc0_0 : l0_0.length ≤ c0_0) (hr1_1 : Kd.C k121 w A1_1 l1_1.length l1_1) (hc1_1 : l1_1.length ≤ c1_1) (h : impl_ruleOk.f k l0_0 a1_0 l1_1 a1_2 a1_3 a1_4 = some r) :
  Calls Tryz.prog 74 #[.agg #[.slice A0_0 l0_0.length c0_0], .agg #[.string a1_0, .slice A1_1 l1_1.length c1_1, .bool a1_2, .int .i64 a1_3, .string a1_4]] w fun e w' => e = .returned (.bool r) ∧ Below w.heap.size w w' := by
 have hu31 := Tryz.underlying31; have hu64 := Tryz.underlying64; have hu58 := Tryz.underlying58; have HR0_0 := q_ hr0_0; have HC0_0 := q_ hc0_0; clear hr0_0 hc0_0; have HR1_1 := q_ hr1_1; have HC1_1 := q_ hc1_1; clear hr1_1 hc1_1; have HB := q_ (Below.refl w.heap.size w)
 have H : ((impl_isName.f k a1_0).bind fun t103 => (if t103 = true then ((impl_RxOk.f k l1_1).bind fun t104 => (if t104 = true then ((impl_Nullable.f k l1_1).bind fun t105 => (if t105 = true then (impl_ruleOk.j0 k true l0_0 a1_0 l1_1 a1_2 a1_3 a1_4) else ((impl_within.f a1_3 0 3).bind fun t106 => (impl_ruleOk.j0 k (!t106) l0_0 a1_0 l1_1 a1_2 a1_3 a1_4)))) else (impl_ruleOk.j0 k true l0_0 a1_0 l1_1 a1_2 a1_3 a1_4))) else (impl_ruleOk.j0 k true l0_0 a1_0 l1_1 a1_2 a1_3 a1_4))) = some r := h
 clear h; have HC3 := q_ H; clear H
 go_enter Tryz.func74, Tryz.ntmps74
 go_upto_region 1 with (first | ((with_reducible refine gate_dst (N := 2) rfl ?_); refine bx_ 2 #[.slice A0_0 l0_0.length c0_0] 31 ?_; intro gb101 hg w4 hbox hb; have BK101 := q_ (hbox); have GE101 := ge_ hg HB; replace HB := sb_ HB hb; clear hb hbox hg) | ((with_reducible refine gate_dst (N := 3) rfl ?_); refine bx_ 3 #[.string a1_0, .slice A1_1 l1_1.length c1_1, .bool a1_2, .int .i64 a1_3, .string a1_4] 64 ?_; intro gb102 hg w5 hbox hb; have BK102 := q_ (hbox); have GE102 := ge1_ hg HB GE101; have NB101_102 := nl_ hg BK101; have NB102_101 := ng_ hg BK101; replace BK101 := lb_ BK101 hb; replace HB := sb1_ HB GE101 hb; clear hb hbox hg))
 (try simp only [Act.put, List.setIfInBounds_toArray, List.set_cons_zero, List.set_cons_succ])
 go_cut [25] (fun v25 wc => ∃ (kq : Nat) (x25_2 : Bool), v25 = .bool x25_2 ∧ J0 (impl_ruleOk.j0 kq x25_2 l0_0 a1_0 l1_1 a1_2 a1_3 a1_4 = some r) ∧ J0 (kq ≤ k) ∧ J0 (wc.heap[gb101]? = some (.cells #[(.slice A0_0 l0_0.length c0_0)] 31 (0, 0))) ∧ J0 (wc.heap[gb102]? = some (.cells #[.string a1_0, (.slice A1_1 l1_1.length c1_1), .bool a1_2, .int .i64 a1_3, .string a1_4] 64 (0, 0))) ∧ J0 (Below w.heap.size w wc))
 case first =>
  have H := HC3.o; clear HC3; obtain ⟨t103, A6, H⟩ := ob_ H
  by_cases c7 : t103 = true
  ·subst c7; rw [if_pos rfl] at H; obtain ⟨t104, A8, H⟩ := ob_ H
   by_cases c9 : t104 = true
   ·subst c9; rw [if_pos rfl] at H; obtain ⟨t105, A10, H⟩ := ob_ H
    by_cases c11 : t105 = true
    ·subst c11; rw [if_pos rfl] at H
     have H' := q_ H
     clear H; have hnb12 := NB102_101.o; have hnc12 := NB101_102.o; obtain ⟨hcz13_0, hcz13_1, hcz13_2, hcz13_3, hcz13_4, hfz13_0, hfz13_1, hfz13_2, hfz13_3, hfz13_4⟩ := d5_ BK102
     go_wp2_with (first | ((with_reducible refine gate_callee (f := 69) rfl ?_); refine gl_ (some 7) rfl rfl Tryz.func69 #[.string a1_0] ?_; (with_reducible refine (impl_isName.calls k a1_0 true _ A6.o).mono ?_); rintro e w' ⟨rfl, ⟨nd, rfl⟩⟩; refine ⟨_, rfl, ?_⟩) | (go_at_call 60; (with_reducible refine (impl_RxOk.calls k _ _ l1_1 true _ ?side1 ?side2 A8.o).mono ?_); (case side1 => repeat (first | exact (Kd.C_below HR1_1.o (be2_ HB.o GE101.o GE102.o)) | (with_reducible refine Kd.C_alloc ?_ _) | (with_reducible refine Kd.C_drewN ?_ _) | (with_reducible refine Kd.C_drew ?_))); (case side2 => exact HC1_1.o); rintro e w14 ⟨rfl, hb⟩; replace BK101 := lb_ BK101 hb; replace BK102 := lb_ BK102 hb; replace HB := sb2_ HB GE101 GE102 hb; (try clear hb); obtain ⟨hcz15_0, hcz15_1, hcz15_2, hcz15_3, hcz15_4, hfz15_0, hfz15_1, hfz15_2, hfz15_3, hfz15_4⟩ := d5_ BK102) | (go_at_call 96; (with_reducible refine (impl_Nullable.calls k _ _ l1_1 true _ ?side1 ?side2 A10.o).mono ?_); (case side1 => exact Kd.C_below HR1_1.o (be_ HB.o)); (case side2 => exact HC1_1.o); rintro e w16 ⟨rfl, hb⟩; replace BK101 := lb_ BK101 hb; replace BK102 := lb_ BK102 hb; replace HB := sb2_ HB GE101 GE102 hb; (try clear hb)))
     go_meet
     case rel => exact ⟨_, (true), rs_, H', ⟨by first | omega | exact Nat.le_refl _⟩, ⟨bk_ BK101.o⟩, ⟨bk_ BK102.o⟩, ⟨be2_ HB.o GE101.o GE102.o⟩⟩
    ·replace c11 := Bool.eq_false_iff.mpr c11; subst c11; rw [if_neg nft_] at H; obtain ⟨t106, A17, H⟩ := ob_ H
     have H' := q_ H
     clear H; have hnb18 := NB102_101.o; have hnc18 := NB101_102.o; obtain ⟨hcz19_0, hcz19_1, hcz19_2, hcz19_3, hcz19_4, hfz19_0, hfz19_1, hfz19_2, hfz19_3, hfz19_4⟩ := d5_ BK102
     go_wp2_with (first | ((with_reducible refine gate_callee (f := 69) rfl ?_); refine gl_ (some 7) rfl rfl Tryz.func69 #[.string a1_0] ?_; (with_reducible refine (impl_isName.calls k a1_0 true _ A6.o).mono ?_); rintro e w' ⟨rfl, ⟨nd, rfl⟩⟩; refine ⟨_, rfl, ?_⟩) | (go_at_call 60; (with_reducible refine (impl_RxOk.calls k _ _ l1_1 true _ ?side1 ?side2 A8.o).mono ?_); (case side1 => repeat (first | exact (Kd.C_below HR1_1.o (be2_ HB.o GE101.o GE102.o)) | (with_reducible refine Kd.C_alloc ?_ _) | (with_reducible refine Kd.C_drewN ?_ _) | (with_reducible refine Kd.C_drew ?_))); (case side2 => exact HC1_1.o); rintro e w20 ⟨rfl, hb⟩; replace BK101 := lb_ BK101 hb; replace BK102 := lb_ BK102 hb; replace HB := sb2_ HB GE101 GE102 hb; (try clear hb); obtain ⟨hcz21_0, hcz21_1, hcz21_2, hcz21_3, hcz21_4, hfz21_0, hfz21_1, hfz21_2, hfz21_3, hfz21_4⟩ := d5_ BK102) | (go_at_call 96; (with_reducible refine (impl_Nullable.calls k _ _ l1_1 false _ ?side1 ?side2 A10.o).mono ?_); (case side1 => exact Kd.C_below HR1_1.o (be_ HB.o)); (case side2 => exact HC1_1.o); rintro e w22 ⟨rfl, hb⟩; replace BK101 := lb_ BK101 hb; replace BK102 := lb_ BK102 hb; replace HB := sb2_ HB GE101 GE102 hb; (try clear hb); obtain ⟨hcz23_0, hcz23_1, hcz23_2, hcz23_3, hcz23_4, hfz23_0, hfz23_1, hfz23_2, hfz23_3, hfz23_4⟩ := d5_ BK102) | (go_at_call 56; (with_reducible refine (impl_within.calls a1_3 0 3 t106 _ A17.o).mono ?_); rintro e w' ⟨rfl, ⟨nd, rfl⟩⟩))
     go_meet
     case rel => exact ⟨_, (!t106), rs_, H', ⟨by first | omega | exact Nat.le_refl _⟩, ⟨bk_ BK101.o⟩, ⟨bk_ BK102.o⟩, ⟨be2_ HB.o GE101.o GE102.o⟩⟩
   ·replace c9 := Bool.eq_false_iff.mpr c9; subst c9; rw [if_neg nft_] at H
    have H' := q_ H
    clear H; have hnb24 := NB102_101.o; have hnc24 := NB101_102.o; obtain ⟨hcz25_0, hcz25_1, hcz25_2, hcz25_3, hcz25_4, hfz25_0, hfz25_1, hfz25_2, hfz25_3, hfz25_4⟩ := d5_ BK102
    go_wp2_with (first | ((with_reducible refine gate_callee (f := 69) rfl ?_); refine gl_ (some 7) rfl rfl Tryz.func69 #[.string a1_0] ?_; (with_reducible refine (impl_isName.calls k a1_0 true _ A6.o).mono ?_); rintro e w' ⟨rfl, ⟨nd, rfl⟩⟩; refine ⟨_, rfl, ?_⟩) | (go_at_call 60; (with_reducible refine (impl_RxOk.calls k _ _ l1_1 false _ ?side1 ?side2 A8.o).mono ?_); (case side1 => repeat (first | exact (Kd.C_below HR1_1.o (be2_ HB.o GE101.o GE102.o)) | (with_reducible refine Kd.C_alloc ?_ _) | (with_reducible refine Kd.C_drewN ?_ _) | (with_reducible refine Kd.C_drew ?_))); (case side2 => exact HC1_1.o); rintro e w26 ⟨rfl, hb⟩; replace BK101 := lb_ BK101 hb; replace BK102 := lb_ BK102 hb; replace HB := sb2_ HB GE101 GE102 hb; (try clear hb)))
    go_meet
    case rel => exact ⟨_, (true), rs_, H', ⟨by first | omega | exact Nat.le_refl _⟩, ⟨bk_ BK101.o⟩, ⟨bk_ BK102.o⟩, ⟨be2_ HB.o GE101.o GE102.o⟩⟩
  ·replace c7 := Bool.eq_false_iff.mpr c7; subst c7; rw [if_neg nft_] at H
   have H' := q_ H
   clear H; have hnb27 := NB102_101.o; have hnc27 := NB101_102.o; obtain ⟨hcz28_0, hcz28_1, hcz28_2, hcz28_3, hcz28_4, hfz28_0, hfz28_1, hfz28_2, hfz28_3, hfz28_4⟩ := d5_ BK102
   go_wp2_with (((with_reducible refine gate_callee (f := 69) rfl ?_); refine gl_ (some 7) rfl rfl Tryz.func69 #[.string a1_0] ?_; (with_reducible refine (impl_isName.calls k a1_0 false _ A6.o).mono ?_); rintro e w' ⟨rfl, ⟨nd, rfl⟩⟩; refine ⟨_, rfl, ?_⟩))
   go_meet
   case rel => exact ⟨_, (true), rs_, H', ⟨by first | omega | exact Nat.le_refl _⟩, ⟨bk_ BK101.o⟩, ⟨bk_ BK102.o⟩, ⟨be2_ HB.o GE101.o GE102.o⟩⟩
 case rest =>
  clear HC3; (try clear c7); (try clear c9); (try clear c11); (try clear hcz13_0); (try clear hcz13_1); (try clear hcz13_2); (try clear hcz13_3); (try clear hcz13_4); (try clear hcz15_0); (try clear hcz15_1); (try clear hcz15_2); (try clear hcz15_3); (try clear hcz15_4); (try clear hcz19_0); (try clear hcz19_1); (try clear hcz19_2); (try clear hcz19_3); (try clear hcz19_4); (try clear hcz21_0); (try clear hcz21_1); (try clear hcz21_2); (try clear hcz21_3); (try clear hcz21_4); (try clear hcz23_0); (try clear hcz23_1); (try clear hcz23_2); (try clear hcz23_3); (try clear hcz23_4); (try clear hcz25_0); (try clear hcz25_1); (try clear hcz25_2); (try clear hcz25_3); (try clear hcz25_4); (try clear hcz28_0); (try clear hcz28_1); (try clear hcz28_2); (try clear hcz28_3); (try clear hcz28_4); (try clear hfz13_0); (try clear hfz13_1); (try clear hfz13_2); (try clear hfz13_3); (try clear hfz13_4); (try clear hfz15_0); (try clear hfz15_1); (try clear hfz15_2); (try clear hfz15_3); (try clear hfz15_4); (try clear hfz19_0); (try clear hfz19_1); (try clear hfz19_2); (try clear hfz19_3); (try clear hfz19_4); (try clear hfz21_0); (try clear hfz21_1); (try clear hfz21_2); (try clear hfz21_3); (try clear hfz21_4); (try clear hfz23_0); (try clear hfz23_1); (try clear hfz23_2); (try clear hfz23_3); (try clear hfz23_4); (try clear hfz25_0); (try clear hfz25_1); (try clear hfz25_2); (try clear hfz25_3); (try clear hfz25_4); (try clear hfz28_0); (try clear hfz28_1); (try clear hfz28_2); (try clear hfz28_3); (try clear hfz28_4); obtain ⟨kq, x25_2, rfl, HA, HJ2, BK101, BK102, HB⟩ := hcut
  cases kq with
  | zero => exact absurd HA.o (by simp [impl_ruleOk.j0])
  | succ kj2 =>
   have H := HA.o; clear HA
   simp only [impl_ruleOk.j0] at H
   by_cases c29 : x25_2 = true
   ·subst c29; rw [if_pos rfl] at H; obtain rfl := Option.some.inj H
    go_wp2
    go_ret
    exact ⟨rt_, be2_ HB.o GE101.o GE102.o⟩
   ·replace c29 := Bool.eq_false_iff.mpr c29; subst c29; rw [if_neg nft_] at H; obtain ⟨t107, A30, H⟩ := ob_ H
    by_cases c31 : t107 = true
    ·subst c31; rw [if_pos rfl] at H; obtain ⟨t108, A32, H⟩ := ob_ H; obtain rfl := Option.some.inj H; have hnb33 := NB102_101.o; have hnc33 := NB101_102.o; obtain ⟨hcz34_0, hcz34_1, hcz34_2, hcz34_3, hcz34_4, hfz34_0, hfz34_1, hfz34_2, hfz34_3, hfz34_4⟩ := d5_ BK102
     go_wp2_with (first | ((with_reducible refine gate_callee (f := 97) rfl ?_); refine gl_ (some 27) rfl rfl Tryz.func97 #[.agg #[.string a1_0, .slice A1_1 l1_1.length c1_1, .bool a1_2, .int .i64 a1_3, .string a1_4]] ?_; (with_reducible refine (impl_Rule_hasTarget.calls a1_0 _ _ l1_1 a1_2 a1_3 a1_4 true _ ?side1 ?side2 A30.o).mono ?_); (case side1 => exact Kd.C_below HR1_1.o (be_ HB.o)); (case side2 => exact HC1_1.o); rintro e w35 ⟨rfl, hb⟩; refine ⟨_, rfl, ?_⟩; replace BK101 := lb_ BK101 hb; replace BK102 := lb_ BK102 hb; replace HB := sb2_ HB GE101 GE102 hb; (try clear hb); obtain ⟨hcz36_0, hfz36_0⟩ := d1_ BK101; obtain ⟨hcz37_0, hcz37_1, hcz37_2, hcz37_3, hcz37_4, hfz37_0, hfz37_1, hfz37_2, hfz37_3, hfz37_4⟩ := d5_ BK102) | ((with_reducible refine gate_callee (f := 70) rfl ?_); refine gl_ (some 31) rfl rfl Tryz.func70 #[.agg #[.slice A0_0 l0_0.length c0_0], .string a1_4] ?_; (with_reducible refine (impl_ModeAt.calls _ _ l0_0 a1_4 t108 _ ?side1 ?side2 A32.o).mono ?_); (case side1 => exact Kd.C_below HR0_0.o (be_ HB.o)); (case side2 => exact HC0_0.o); rintro e w38 ⟨rfl, hb⟩; refine ⟨_, rfl, ?_⟩; replace BK101 := lb_ BK101 hb; replace BK102 := lb_ BK102 hb; replace HB := sb2_ HB GE101 GE102 hb; (try clear hb)))
     go_ret
     exact ⟨rt_, be2_ HB.o GE101.o GE102.o⟩
    ·replace c31 := Bool.eq_false_iff.mpr c31; subst c31; rw [if_neg nft_] at H; obtain rfl := Option.some.inj H; have hnb39 := NB102_101.o; have hnc39 := NB101_102.o; obtain ⟨hcz40_0, hcz40_1, hcz40_2, hcz40_3, hcz40_4, hfz40_0, hfz40_1, hfz40_2, hfz40_3, hfz40_4⟩ := d5_ BK102
     go_wp2_with (((with_reducible refine gate_callee (f := 97) rfl ?_); refine gl_ (some 27) rfl rfl Tryz.func97 #[.agg #[.string a1_0, .slice A1_1 l1_1.length c1_1, .bool a1_2, .int .i64 a1_3, .string a1_4]] ?_; (with_reducible refine (impl_Rule_hasTarget.calls a1_0 _ _ l1_1 a1_2 a1_3 a1_4 false _ ?side1 ?side2 A30.o).mono ?_); (case side1 => exact Kd.C_below HR1_1.o (be_ HB.o)); (case side2 => exact HC1_1.o); rintro e w41 ⟨rfl, hb⟩; refine ⟨_, rfl, ?_⟩; replace BK101 := lb_ BK101 hb; replace BK102 := lb_ BK102 hb; replace HB := sb2_ HB GE101 GE102 hb; (try clear hb); obtain ⟨hcz42_0, hcz42_1, hcz42_2, hcz42_3, hcz42_4, hfz42_0, hfz42_1, hfz42_2, hfz42_3, hfz42_4⟩ := d5_ BK102))
     go_ret
     exact ⟨rt_, be2_ HB.o GE101.o GE102.o⟩
/-! ### spec_ModeAt: function 67 -/
def spec_ModeAt.l0 : Nat → ByteArray → Int → List (S62) → Option (Int)
 | 0, _, _, _ => none
 | k + 1, x1, x5, x102000 => if x5 < (x102000.length : Int) then (if 0 ≤ x5 then (if ((rd_T62 x102000 x5).f0).toList = x1.toList then (some x5) else (spec_ModeAt.l0 k x1 (wrap64 (x5 + 1)) x102000)) else (none)) else (some (-1))
def spec_ModeAt.f (k : Nat) (l0_0 : List (S62)) (a1 : ByteArray) : Option (Int) := spec_ModeAt.l0 k a1 0 l0_0
theorem spec_ModeAt.calls (k : Nat) (A0_0 : Option Addr) (c0_0 : Nat) (l0_0 : List (S62)) (a1 : ByteArray) (r : Int) (w : World) (hr0_0 : Kd.C k62 w A0_0 l0_0.length l0_0) (hc0_0 : l0_0.length ≤ c0_0) (h : spec_ModeAt.f k l0_0 a1 = some r) :
  Calls Tryz.prog 67 #[.agg #[.slice A0_0 l0_0.length c0_0], .string a1] w fun e w' => e = .returned (.int .i64 r) ∧ Below w.heap.size w w' := by
 have hu31 := Tryz.underlying31; have HR0_0 := q_ hr0_0; have HC0_0 := q_ hc0_0; clear hr0_0 hc0_0; have HB := q_ (Below.refl w.heap.size w)
 have H : (spec_ModeAt.l0 k a1 0 l0_0) = some r := h
 clear h
 have H' := q_ H
 clear H
 go_enter Tryz.func67, Tryz.ntmps67
 go_wp2_with (first | ((with_reducible refine gate_dst (N := 2) rfl ?_); refine bx_ 2 #[.slice A0_0 l0_0.length c0_0] 31 ?_; intro gb101 hg w3 hbox hb; have BK101 := q_ (hbox); have GE101 := ge_ hg HB; replace HB := sb_ HB hb; clear hb hbox hg))
 go_loopg [5] k (fun kq v5 w' => ∃ (x5_1 : Int), v5 = .int .i64 x5_1 ∧ J0 (spec_ModeAt.l0 kq a1 x5_1 l0_0 = some r) ∧ J0 (kq ≤ k) ∧ J0 (w'.heap[gb101]? = some (.cells #[(.slice A0_0 l0_0.length c0_0)] 31 (0, 0))) ∧ J0 (Below w.heap.size w w'))
 case atStart => exact ⟨(0), rs_, H', ⟨Nat.le_refl _⟩, ⟨bk_ BK101.o⟩, ⟨be1_ HB.o GE101.o⟩⟩
 case round =>
  clear H'; obtain ⟨x5_1, rfl, HA, HK1, BK101, HB⟩ := hrel
  cases gk with
  | zero => exact absurd HA.o (by simp [spec_ModeAt.l0])
  | succ k1 =>
   have H := HA.o; clear HA
   simp only [spec_ModeAt.l0] at H
   by_cases c4 : x5_1 < (l0_0.length : Int)
   ·rw [if_pos c4] at H; have c4b0 := dt_ c4; clear c4
    by_cases c5 : 0 ≤ x5_1
    ·rw [if_pos c5] at H; have c5b0 := dt_ c5; clear c5
     by_cases c6 : ((rd_T62 l0_0 x5_1).f0).toList = a1.toList
     ·rw [if_pos c6] at H
      have c6b0 : (((rd_T62 l0_0 x5_1).f0).toList == a1.toList) = true := beq_iff_eq.mpr c6
      have c6b1 : (((rd_T62 l0_0 x5_1).f0).toList != a1.toList) = false := bne_eq_false_iff_eq.mpr c6
      clear c6; obtain rfl := Option.some.inj H; obtain ⟨hcz7_0, hfz7_0⟩ := d1_ BK101
      have p102 : 0 ≤ (x5_1 : Int) := of_decide_eq_true as_
      have q102 : x5_1 < (l0_0.length : Int) := of_decide_eq_true as_
      obtain ⟨ad102, A102_1, c102_1, e102, hx102_0, hx102_1, hl102_1, hi102_1⟩ := at_T62 HR0_0.o x5_1 p102 q102
      cases e102
      replace hx102_0 := mv_ HB.o hx102_0; replace hx102_1 := mv_ HB.o hx102_1; have HR102_1 := q_ hi102_1; have HC102_1 := q_ hl102_1; clear hi102_1 hl102_1; replace p102 := eq_true p102; replace q102 := eq_true q102
      go_wp2
      go_ret
      exact ⟨rt_, be1_ HB.o GE101.o⟩
     ·rw [if_neg c6] at H
      have c6b0 : (((rd_T62 l0_0 x5_1).f0).toList == a1.toList) = false := beq_eq_false_iff_ne.mpr c6
      have c6b1 : (((rd_T62 l0_0 x5_1).f0).toList != a1.toList) = true := bne_iff_ne.mpr c6
      have H' := q_ H
      clear H; obtain ⟨hcz8_0, hfz8_0⟩ := d1_ BK101
      have p102 : 0 ≤ (x5_1 : Int) := of_decide_eq_true as_
      have q102 : x5_1 < (l0_0.length : Int) := of_decide_eq_true as_
      obtain ⟨ad102, A102_1, c102_1, e102, hx102_0, hx102_1, hl102_1, hi102_1⟩ := at_T62 HR0_0.o x5_1 p102 q102
      cases e102
      replace hx102_0 := mv_ HB.o hx102_0; replace hx102_1 := mv_ HB.o hx102_1; have HR102_1 := q_ hi102_1; have HC102_1 := q_ hl102_1; clear hi102_1 hl102_1; replace p102 := eq_true p102; replace q102 := eq_true q102
      go_wp2
      go_roundg k1
      case measure => have := HK1.o; omega
      case rel => exact ⟨(wrap64 (x5_1 + 1)), rs_, H', ⟨by have := HK1.o; omega⟩, ⟨bk_ BK101.o⟩, ⟨be1_ HB.o GE101.o⟩⟩
    ·rw [if_neg c5] at H
     exact absurd H (by simp)
   ·rw [if_neg c4] at H; have c4b0 := df_ c4; clear c4; obtain rfl := Option.some.inj H; obtain ⟨hcz9_0, hfz9_0⟩ := d1_ BK101
    go_wp2
    go_ret
    exact ⟨rt_, be1_ HB.o GE101.o⟩
end Go.Proofs.YtijmhelacmjggaaGreat.P
