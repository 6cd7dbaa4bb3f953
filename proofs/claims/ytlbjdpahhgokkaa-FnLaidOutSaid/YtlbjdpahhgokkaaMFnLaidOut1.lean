/- The law FnLaidOut holds for every call: part 2 of 6 of the proof (walks of functions, and what they answer). Conditions: none beyond what the given row says. -/
import Derived.Test.YtlbjdpahhgokkaaMFnLaidOut0
import Derived.Shelf.Abstract
import Derived.Lib.Hide
-- Made by wip/gen/pp.py of this session over the kit's print of the loaded program: a function, and the contract of its walk. Lean checks it.
namespace Go.Proofs.Ytlbjdpahhgokkaa.P
open Go.RowKit Go.Proofs.YtlbjdpahhgokkaaW.PrintWords Go.Proofs.YtlbjdpahhgokkaaW.PrintLast Go.Proofs.YtlbjdpahhgokkaaW.PrintMore
attribute [local go_sem] max2_int min2_int max_two min_two max_three min_three max_four min_four   -- for this text's walks alone
set_option linter.unusedVariables false
set_option linter.unusedSimpArgs false

/-! ### spec_Layout: function 7 -/
mutual
def spec_Layout.j0 : Nat → List (S46) → List (S46) → Bool → List Int → List Int → Option ((List (S46)) × Int × Int)
 | 0, _, _, _, _, _ => none
 | k + 1, x0, x7, x23, x102000, x102001 => if x23 = true then (some (x7, 1, (-1))) else (spec_Layout.l0 k x0 x7 (([] : List (S46))) (([1] : List Int)) 0 0 x102000 x102001)
def spec_Layout.l0 : Nat → List (S46) → List (S46) → List (S46) → List Int → Int → Int → List Int → List Int → Option ((List (S46)) × Int × Int)
 | 0, _, _, _, _, _, _, _, _ => none
 | k + 1, x0, x7, x8, x9, x10, x11, x102000, x102001 => if x11 < (x0.length : Int) then (if 0 ≤ x11 then (if x10 = 0 then (if x11 = 0 then (spec_Layout.j2 k x0 x7 x8 x9 x10 x11 true x102000 x102001 ((rd_T46 x0 x11).f0) ((rd_T46 x0 x11).f1) ((rd_T46 x0 x11).f2)) else (if 0 ≤ (wrap64 (x11 - 1)) then (if (wrap64 (x11 - 1)) < (x0.length : Int) then (spec_Layout.j2 k x0 x7 x8 x9 x10 x11 (decide (((rd_T46 x0 x11).f1) > ((rd_T46 x0 (wrap64 (x11 - 1))).f1))) x102000 x102001 ((rd_T46 x0 x11).f0) ((rd_T46 x0 x11).f1) ((rd_T46 x0 x11).f2)) else (none)) else (none))) else (spec_Layout.j2 k x0 x7 x8 x9 x10 x11 false x102000 x102001 ((rd_T46 x0 x11).f0) ((rd_T46 x0 x11).f1) ((rd_T46 x0 x11).f2))) else (none)) else (if x10 = 0 then (if (x0.length : Int) > 0 then (if 0 ≤ (wrap64 ((x0.length : Int) - 1)) then (if (wrap64 ((x0.length : Int) - 1)) < (x0.length : Int) then ((spec_l16Made.f (-1) ((rd_T46 x0 (wrap64 ((x0.length : Int) - 1))).f0) ((rd_T46 x0 (wrap64 ((x0.length : Int) - 1))).f1) ((rd_T46 x0 (wrap64 ((x0.length : Int) - 1))).f2)).bind fun bt161 => (if x8.length < 5864062014805 then (spec_Layout.l2 k (x8 ++ [(⟨bt161.1, bt161.2.1, bt161.2.2⟩ : S46)]) (wrap64 ((x9.length : Int) - 1)) ((rd_T46 x0 (wrap64 ((x0.length : Int) - 1))).f0) ((rd_T46 x0 (wrap64 ((x0.length : Int) - 1))).f1) ((rd_T46 x0 (wrap64 ((x0.length : Int) - 1))).f2)) else (none))) else (none)) else (none)) else (some (x8, 0, (-1)))) else (some (x7, 4, (x0.length : Int))))
def spec_Layout.j2 : Nat → List (S46) → List (S46) → List (S46) → List Int → Int → Int → Bool → List Int → List Int → Int → Int → Int → Option ((List (S46)) × Int × Int)
 | 0, _, _, _, _, _, _, _, _, _, _, _, _ => none
 | k + 1, x0, x7, x8, x9, x10, x11, x53, x102000, x102001, x115000, x115001, x115002 => if x53 = true then (if x11 > 0 then (if 0 ≤ (wrap64 (x11 - 1)) then (if (wrap64 (x11 - 1)) < (x0.length : Int) then ((spec_l16Made.f (-1) ((rd_T46 x0 (wrap64 (x11 - 1))).f0) ((rd_T46 x0 (wrap64 (x11 - 1))).f1) ((rd_T46 x0 (wrap64 (x11 - 1))).f2)).bind fun bt117 => (if x8.length < 5864062014805 then (spec_Layout.j3 k x0 x7 (x8 ++ [(⟨bt117.1, bt117.2.1, bt117.2.2⟩ : S46)]) x9 x10 x11 x102000 x102001 x115000 x115001 x115002) else (none))) else (none)) else (none)) else (spec_Layout.j3 k x0 x7 x8 x9 x10 x11 x102000 x102001 x115000 x115001 x115002)) else (spec_Layout.j6 k x0 x7 x8 x9 x10 x11 x102000 x102001 x115000 x115001 x115002)
def spec_Layout.j6 : Nat → List (S46) → List (S46) → List (S46) → List Int → Int → Int → List Int → List Int → Int → Int → Int → Option ((List (S46)) × Int × Int)
 | 0, _, _, _, _, _, _, _, _, _, _, _ => none
 | k + 1, x0, x7, x8, x9, x10, x11, x102000, x102001, x115000, x115001, x115002 => (spec_l1Has.f k x102001 x115000).bind fun t144 => (if t144 = true then (if x10 = 0 then (some (x7, 3, x11)) else ((spec_l1Has.f k x102000 x115000).bind fun t145 => (if t145 = true then (if x8.length < 5864062014805 then (spec_Layout.l0 k x0 x7 (x8 ++ [(⟨x115000, x115001, x115002⟩ : S46)]) x9 (wrap64 ((wrap64 (x10 - 1)) + 1)) (wrap64 (x11 + 1)) x102000 x102001) else (none)) else (if x8.length < 5864062014805 then (spec_Layout.l0 k x0 x7 (x8 ++ [(⟨x115000, x115001, x115002⟩ : S46)]) x9 (wrap64 (x10 - 1)) (wrap64 (x11 + 1)) x102000 x102001) else (none))))) else ((spec_l1Has.f k x102000 x115000).bind fun t152 => (if t152 = true then (if x8.length < 5864062014805 then (spec_Layout.l0 k x0 x7 (x8 ++ [(⟨x115000, x115001, x115002⟩ : S46)]) x9 (wrap64 (x10 + 1)) (wrap64 (x11 + 1)) x102000 x102001) else (none)) else (if x8.length < 5864062014805 then (spec_Layout.l0 k x0 x7 (x8 ++ [(⟨x115000, x115001, x115002⟩ : S46)]) x9 x10 (wrap64 (x11 + 1)) x102000 x102001) else (none)))))
def spec_Layout.j3 : Nat → List (S46) → List (S46) → List (S46) → List Int → Int → Int → List Int → List Int → Int → Int → Int → Option ((List (S46)) × Int × Int)
 | 0, _, _, _, _, _, _, _, _, _, _, _ => none
 | k + 1, x0, x7, x8, x9, x10, x11, x102000, x102001, x115000, x115001, x115002 => if 0 ≤ (wrap64 ((x9.length : Int) - 1)) then (if (wrap64 ((x9.length : Int) - 1)) < (x9.length : Int) then (if x115002 > (rd x9 (wrap64 ((x9.length : Int) - 1))) then (if x9.length < 17592186044416 then ((spec_l16Made.f (-2) x115000 x115001 x115002).bind fun bt127 => (if x8.length < 5864062014805 then (spec_Layout.j4 k x0 x7 (x8 ++ [(⟨bt127.1, bt127.2.1, bt127.2.2⟩ : S46)]) (x9 ++ [x115002]) x10 x11 x102000 x102001 x115000 x115001 x115002) else (none))) else (none)) else (spec_Layout.j4 k x0 x7 x8 x9 x10 x11 x102000 x102001 x115000 x115001 x115002)) else (none)) else (none)
def spec_Layout.j4 : Nat → List (S46) → List (S46) → List (S46) → List Int → Int → Int → List Int → List Int → Int → Int → Int → Option ((List (S46)) × Int × Int)
 | 0, _, _, _, _, _, _, _, _, _, _, _ => none
 | k + 1, x0, x7, x8, x9, x10, x11, x102000, x102001, x115000, x115001, x115002 => spec_Layout.l1 k x0 x7 x8 x9 x10 x11 x102000 x102001 x115000 x115001 x115002
def spec_Layout.l1 : Nat → List (S46) → List (S46) → List (S46) → List Int → Int → Int → List Int → List Int → Int → Int → Int → Option ((List (S46)) × Int × Int)
 | 0, _, _, _, _, _, _, _, _, _, _, _ => none
 | k + 1, x0, x7, x8, x9, x10, x11, x102000, x102001, x115000, x115001, x115002 => if 0 ≤ (wrap64 ((x9.length : Int) - 1)) then (if (wrap64 ((x9.length : Int) - 1)) < (x9.length : Int) then (if (rd x9 (wrap64 ((x9.length : Int) - 1))) > x115002 then (if (wrap64 ((x9.length : Int) - 1)) ≤ (x9.length : Int) then ((spec_l16Made.f (-3) x115000 x115001 x115002).bind fun bt137 => (if x8.length < 5864062014805 then (spec_Layout.l1 k x0 x7 (x8 ++ [(⟨bt137.1, bt137.2.1, bt137.2.2⟩ : S46)]) (x9.take ((wrap64 ((x9.length : Int) - 1)) : Int).toNat) x10 x11 x102000 x102001 x115000 x115001 x115002) else (none))) else (none)) else (if (rd x9 (wrap64 ((x9.length : Int) - 1))) = x115002 then (spec_Layout.j6 k x0 x7 x8 x9 x10 x11 x102000 x102001 x115000 x115001 x115002) else (some (x7, 2, x11)))) else (none)) else (none)
def spec_Layout.l2 : Nat → List (S46) → Int → Int → Int → Int → Option ((List (S46)) × Int × Int)
 | 0, _, _, _, _, _ => none
 | k + 1, x8, x14, x161000, x161001, x161002 => if x14 > 0 then ((spec_l16Made.f (-3) x161000 x161001 x161002).bind fun bt167 => (if x8.length < 5864062014805 then (spec_Layout.l2 k (x8 ++ [(⟨bt167.1, bt167.2.1, bt167.2.2⟩ : S46)]) (wrap64 (x14 - 1)) x161000 x161001 x161002) else (none))) else (some (x8, 0, (-1)))
end
def spec_Layout.f (k : Nat) (l0 : List (S46)) (l1_0 : List Int) (l1_1 : List Int) : Option ((List (S46)) × Int × Int) := (some (([] : List (S46)) : List (S46))).bind fun y102 => ((spec_l16Items.f l0).bind fun t105 => (if t105 = true then ((spec_l16Brackets.f k l1_0 l1_1).bind fun t106 => (spec_Layout.j0 k l0 y102 (!t106) l1_0 l1_1)) else (spec_Layout.j0 k l0 y102 true l1_0 l1_1)))
theorem spec_Layout.mono_l : ∀ k, (∀ y0 y1 y2 y3 y4, LeO (spec_Layout.j0 k y0 y1 y2 y3 y4) (spec_Layout.j0 (k + 1) y0 y1 y2 y3 y4)) ∧ (∀ y0 y1 y2 y3 y4 y5 y6 y7, LeO (spec_Layout.l0 k y0 y1 y2 y3 y4 y5 y6 y7) (spec_Layout.l0 (k + 1) y0 y1 y2 y3 y4 y5 y6 y7)) ∧ (∀ y0 y1 y2 y3 y4 y5 y6 y7 y8 y9 y10 y11, LeO (spec_Layout.j2 k y0 y1 y2 y3 y4 y5 y6 y7 y8 y9 y10 y11) (spec_Layout.j2 (k + 1) y0 y1 y2 y3 y4 y5 y6 y7 y8 y9 y10 y11)) ∧ (∀ y0 y1 y2 y3 y4 y5 y6 y7 y8 y9 y10, LeO (spec_Layout.j6 k y0 y1 y2 y3 y4 y5 y6 y7 y8 y9 y10) (spec_Layout.j6 (k + 1) y0 y1 y2 y3 y4 y5 y6 y7 y8 y9 y10)) ∧ (∀ y0 y1 y2 y3 y4 y5 y6 y7 y8 y9 y10, LeO (spec_Layout.j3 k y0 y1 y2 y3 y4 y5 y6 y7 y8 y9 y10) (spec_Layout.j3 (k + 1) y0 y1 y2 y3 y4 y5 y6 y7 y8 y9 y10)) ∧ (∀ y0 y1 y2 y3 y4 y5 y6 y7 y8 y9 y10, LeO (spec_Layout.j4 k y0 y1 y2 y3 y4 y5 y6 y7 y8 y9 y10) (spec_Layout.j4 (k + 1) y0 y1 y2 y3 y4 y5 y6 y7 y8 y9 y10)) ∧ (∀ y0 y1 y2 y3 y4 y5 y6 y7 y8 y9 y10, LeO (spec_Layout.l1 k y0 y1 y2 y3 y4 y5 y6 y7 y8 y9 y10) (spec_Layout.l1 (k + 1) y0 y1 y2 y3 y4 y5 y6 y7 y8 y9 y10)) ∧ (∀ y0 y1 y2 y3 y4, LeO (spec_Layout.l2 k y0 y1 y2 y3 y4) (spec_Layout.l2 (k + 1) y0 y1 y2 y3 y4))
 | 0 => ⟨fun _ _ _ _ _ r h => by simp [spec_Layout.j0] at h, fun _ _ _ _ _ _ _ _ r h => by simp [spec_Layout.l0] at h, fun _ _ _ _ _ _ _ _ _ _ _ _ r h => by simp [spec_Layout.j2] at h, fun _ _ _ _ _ _ _ _ _ _ _ r h => by simp [spec_Layout.j6] at h, fun _ _ _ _ _ _ _ _ _ _ _ r h => by simp [spec_Layout.j3] at h, fun _ _ _ _ _ _ _ _ _ _ _ r h => by simp [spec_Layout.j4] at h, fun _ _ _ _ _ _ _ _ _ _ _ r h => by simp [spec_Layout.l1] at h, fun _ _ _ _ _ r h => by simp [spec_Layout.l2] at h⟩
 | k + 1 => by
  obtain ⟨ih0, ih1, ih2, ih3, ih4, ih5, ih6, ih7⟩ := spec_Layout.mono_l k
  refine ⟨?_, ?_, ?_, ?_, ?_, ?_, ?_, ?_⟩
  ·intro y0 y1 y2 y3 y4
   unfold spec_Layout.j0
   repeat' first
   | (with_reducible exact ih0 _ _ _ _ _)
   | (with_reducible exact ih1 _ _ _ _ _ _ _ _)
   | (with_reducible exact ih2 _ _ _ _ _ _ _ _ _ _ _ _)
   | (with_reducible exact ih3 _ _ _ _ _ _ _ _ _ _ _)
   | (with_reducible exact ih4 _ _ _ _ _ _ _ _ _ _ _)
   | (with_reducible exact ih5 _ _ _ _ _ _ _ _ _ _ _)
   | (with_reducible exact ih6 _ _ _ _ _ _ _ _ _ _ _)
   | (with_reducible exact ih7 _ _ _ _ _)
   | (with_reducible exact spec_l16Brackets.mono _ _ _)
   | (with_reducible exact spec_l1Has.mono _ _ _)
   | (with_reducible exact LeO.refl _)
   | (with_reducible exact LeO.none _)
   | (with_reducible refine LeO.ite ?_ ?_)
   | (with_reducible refine LeO.bind ?_ (fun _ => ?_))
   | exact ih0 _ _ _ _ _
   | exact ih1 _ _ _ _ _ _ _ _
   | exact ih2 _ _ _ _ _ _ _ _ _ _ _ _
   | exact ih3 _ _ _ _ _ _ _ _ _ _ _
   | exact ih4 _ _ _ _ _ _ _ _ _ _ _
   | exact ih5 _ _ _ _ _ _ _ _ _ _ _
   | exact ih6 _ _ _ _ _ _ _ _ _ _ _
   | exact ih7 _ _ _ _ _
   | exact spec_l16Brackets.mono _ _ _
   | exact spec_l1Has.mono _ _ _
   | exact LeO.none _
   | refine LeO.ite ?_ ?_
   | refine LeO.bind ?_ (fun _ => ?_)
  ·intro y0 y1 y2 y3 y4 y5 y6 y7
   unfold spec_Layout.l0
   repeat' first
   | (with_reducible exact ih0 _ _ _ _ _)
   | (with_reducible exact ih1 _ _ _ _ _ _ _ _)
   | (with_reducible exact ih2 _ _ _ _ _ _ _ _ _ _ _ _)
   | (with_reducible exact ih3 _ _ _ _ _ _ _ _ _ _ _)
   | (with_reducible exact ih4 _ _ _ _ _ _ _ _ _ _ _)
   | (with_reducible exact ih5 _ _ _ _ _ _ _ _ _ _ _)
   | (with_reducible exact ih6 _ _ _ _ _ _ _ _ _ _ _)
   | (with_reducible exact ih7 _ _ _ _ _)
   | (with_reducible exact spec_l16Brackets.mono _ _ _)
   | (with_reducible exact spec_l1Has.mono _ _ _)
   | (with_reducible exact LeO.refl _)
   | (with_reducible exact LeO.none _)
   | (with_reducible refine LeO.ite ?_ ?_)
   | (with_reducible refine LeO.bind ?_ (fun _ => ?_))
   | exact ih0 _ _ _ _ _
   | exact ih1 _ _ _ _ _ _ _ _
   | exact ih2 _ _ _ _ _ _ _ _ _ _ _ _
   | exact ih3 _ _ _ _ _ _ _ _ _ _ _
   | exact ih4 _ _ _ _ _ _ _ _ _ _ _
   | exact ih5 _ _ _ _ _ _ _ _ _ _ _
   | exact ih6 _ _ _ _ _ _ _ _ _ _ _
   | exact ih7 _ _ _ _ _
   | exact spec_l16Brackets.mono _ _ _
   | exact spec_l1Has.mono _ _ _
   | exact LeO.none _
   | refine LeO.ite ?_ ?_
   | refine LeO.bind ?_ (fun _ => ?_)
  ·intro y0 y1 y2 y3 y4 y5 y6 y7 y8 y9 y10 y11
   unfold spec_Layout.j2
   repeat' first
   | (with_reducible exact ih0 _ _ _ _ _)
   | (with_reducible exact ih1 _ _ _ _ _ _ _ _)
   | (with_reducible exact ih2 _ _ _ _ _ _ _ _ _ _ _ _)
   | (with_reducible exact ih3 _ _ _ _ _ _ _ _ _ _ _)
   | (with_reducible exact ih4 _ _ _ _ _ _ _ _ _ _ _)
   | (with_reducible exact ih5 _ _ _ _ _ _ _ _ _ _ _)
   | (with_reducible exact ih6 _ _ _ _ _ _ _ _ _ _ _)
   | (with_reducible exact ih7 _ _ _ _ _)
   | (with_reducible exact spec_l16Brackets.mono _ _ _)
   | (with_reducible exact spec_l1Has.mono _ _ _)
   | (with_reducible exact LeO.refl _)
   | (with_reducible exact LeO.none _)
   | (with_reducible refine LeO.ite ?_ ?_)
   | (with_reducible refine LeO.bind ?_ (fun _ => ?_))
   | exact ih0 _ _ _ _ _
   | exact ih1 _ _ _ _ _ _ _ _
   | exact ih2 _ _ _ _ _ _ _ _ _ _ _ _
   | exact ih3 _ _ _ _ _ _ _ _ _ _ _
   | exact ih4 _ _ _ _ _ _ _ _ _ _ _
   | exact ih5 _ _ _ _ _ _ _ _ _ _ _
   | exact ih6 _ _ _ _ _ _ _ _ _ _ _
   | exact ih7 _ _ _ _ _
   | exact spec_l16Brackets.mono _ _ _
   | exact spec_l1Has.mono _ _ _
   | exact LeO.none _
   | refine LeO.ite ?_ ?_
   | refine LeO.bind ?_ (fun _ => ?_)
  ·intro y0 y1 y2 y3 y4 y5 y6 y7 y8 y9 y10
   unfold spec_Layout.j6
   repeat' first
   | (with_reducible exact ih0 _ _ _ _ _)
   | (with_reducible exact ih1 _ _ _ _ _ _ _ _)
   | (with_reducible exact ih2 _ _ _ _ _ _ _ _ _ _ _ _)
   | (with_reducible exact ih3 _ _ _ _ _ _ _ _ _ _ _)
   | (with_reducible exact ih4 _ _ _ _ _ _ _ _ _ _ _)
   | (with_reducible exact ih5 _ _ _ _ _ _ _ _ _ _ _)
   | (with_reducible exact ih6 _ _ _ _ _ _ _ _ _ _ _)
   | (with_reducible exact ih7 _ _ _ _ _)
   | (with_reducible exact spec_l16Brackets.mono _ _ _)
   | (with_reducible exact spec_l1Has.mono _ _ _)
   | (with_reducible exact LeO.refl _)
   | (with_reducible exact LeO.none _)
   | (with_reducible refine LeO.ite ?_ ?_)
   | (with_reducible refine LeO.bind ?_ (fun _ => ?_))
   | exact ih0 _ _ _ _ _
   | exact ih1 _ _ _ _ _ _ _ _
   | exact ih2 _ _ _ _ _ _ _ _ _ _ _ _
   | exact ih3 _ _ _ _ _ _ _ _ _ _ _
   | exact ih4 _ _ _ _ _ _ _ _ _ _ _
   | exact ih5 _ _ _ _ _ _ _ _ _ _ _
   | exact ih6 _ _ _ _ _ _ _ _ _ _ _
   | exact ih7 _ _ _ _ _
   | exact spec_l16Brackets.mono _ _ _
   | exact spec_l1Has.mono _ _ _
   | exact LeO.none _
   | refine LeO.ite ?_ ?_
   | refine LeO.bind ?_ (fun _ => ?_)
  ·intro y0 y1 y2 y3 y4 y5 y6 y7 y8 y9 y10
   unfold spec_Layout.j3
   repeat' first
   | (with_reducible exact ih0 _ _ _ _ _)
   | (with_reducible exact ih1 _ _ _ _ _ _ _ _)
   | (with_reducible exact ih2 _ _ _ _ _ _ _ _ _ _ _ _)
   | (with_reducible exact ih3 _ _ _ _ _ _ _ _ _ _ _)
   | (with_reducible exact ih4 _ _ _ _ _ _ _ _ _ _ _)
   | (with_reducible exact ih5 _ _ _ _ _ _ _ _ _ _ _)
   | (with_reducible exact ih6 _ _ _ _ _ _ _ _ _ _ _)
   | (with_reducible exact ih7 _ _ _ _ _)
   | (with_reducible exact spec_l16Brackets.mono _ _ _)
   | (with_reducible exact spec_l1Has.mono _ _ _)
   | (with_reducible exact LeO.refl _)
   | (with_reducible exact LeO.none _)
   | (with_reducible refine LeO.ite ?_ ?_)
   | (with_reducible refine LeO.bind ?_ (fun _ => ?_))
   | exact ih0 _ _ _ _ _
   | exact ih1 _ _ _ _ _ _ _ _
   | exact ih2 _ _ _ _ _ _ _ _ _ _ _ _
   | exact ih3 _ _ _ _ _ _ _ _ _ _ _
   | exact ih4 _ _ _ _ _ _ _ _ _ _ _
   | exact ih5 _ _ _ _ _ _ _ _ _ _ _
   | exact ih6 _ _ _ _ _ _ _ _ _ _ _
   | exact ih7 _ _ _ _ _
   | exact spec_l16Brackets.mono _ _ _
   | exact spec_l1Has.mono _ _ _
   | exact LeO.none _
   | refine LeO.ite ?_ ?_
   | refine LeO.bind ?_ (fun _ => ?_)
  ·intro y0 y1 y2 y3 y4 y5 y6 y7 y8 y9 y10
   unfold spec_Layout.j4
   repeat' first
   | (with_reducible exact ih0 _ _ _ _ _)
   | (with_reducible exact ih1 _ _ _ _ _ _ _ _)
   | (with_reducible exact ih2 _ _ _ _ _ _ _ _ _ _ _ _)
   | (with_reducible exact ih3 _ _ _ _ _ _ _ _ _ _ _)
   | (with_reducible exact ih4 _ _ _ _ _ _ _ _ _ _ _)
   | (with_reducible exact ih5 _ _ _ _ _ _ _ _ _ _ _)
   | (with_reducible exact ih6 _ _ _ _ _ _ _ _ _ _ _)
   | (with_reducible exact ih7 _ _ _ _ _)
   | (with_reducible exact spec_l16Brackets.mono _ _ _)
   | (with_reducible exact spec_l1Has.mono _ _ _)
   | (with_reducible exact LeO.refl _)
   | (with_reducible exact LeO.none _)
   | (with_reducible refine LeO.ite ?_ ?_)
   | (with_reducible refine LeO.bind ?_ (fun _ => ?_))
   | exact ih0 _ _ _ _ _
   | exact ih1 _ _ _ _ _ _ _ _
   | exact ih2 _ _ _ _ _ _ _ _ _ _ _ _
   | exact ih3 _ _ _ _ _ _ _ _ _ _ _
   | exact ih4 _ _ _ _ _ _ _ _ _ _ _
   | exact ih5 _ _ _ _ _ _ _ _ _ _ _
   | exact ih6 _ _ _ _ _ _ _ _ _ _ _
   | exact ih7 _ _ _ _ _
   | exact spec_l16Brackets.mono _ _ _
   | exact spec_l1Has.mono _ _ _
   | exact LeO.none _
   | refine LeO.ite ?_ ?_
   | refine LeO.bind ?_ (fun _ => ?_)
  ·intro y0 y1 y2 y3 y4 y5 y6 y7 y8 y9 y10
   unfold spec_Layout.l1
   repeat' first
   | (with_reducible exact ih0 _ _ _ _ _)
   | (with_reducible exact ih1 _ _ _ _ _ _ _ _)
   | (with_reducible exact ih2 _ _ _ _ _ _ _ _ _ _ _ _)
   | (with_reducible exact ih3 _ _ _ _ _ _ _ _ _ _ _)
   | (with_reducible exact ih4 _ _ _ _ _ _ _ _ _ _ _)
   | (with_reducible exact ih5 _ _ _ _ _ _ _ _ _ _ _)
   | (with_reducible exact ih6 _ _ _ _ _ _ _ _ _ _ _)
   | (with_reducible exact ih7 _ _ _ _ _)
   | (with_reducible exact spec_l16Brackets.mono _ _ _)
   | (with_reducible exact spec_l1Has.mono _ _ _)
   | (with_reducible exact LeO.refl _)
   | (with_reducible exact LeO.none _)
   | (with_reducible refine LeO.ite ?_ ?_)
   | (with_reducible refine LeO.bind ?_ (fun _ => ?_))
   | exact ih0 _ _ _ _ _
   | exact ih1 _ _ _ _ _ _ _ _
   | exact ih2 _ _ _ _ _ _ _ _ _ _ _ _
   | exact ih3 _ _ _ _ _ _ _ _ _ _ _
   | exact ih4 _ _ _ _ _ _ _ _ _ _ _
   | exact ih5 _ _ _ _ _ _ _ _ _ _ _
   | exact ih6 _ _ _ _ _ _ _ _ _ _ _
   | exact ih7 _ _ _ _ _
   | exact spec_l16Brackets.mono _ _ _
   | exact spec_l1Has.mono _ _ _
   | exact LeO.none _
   | refine LeO.ite ?_ ?_
   | refine LeO.bind ?_ (fun _ => ?_)
  ·intro y0 y1 y2 y3 y4
   unfold spec_Layout.l2
   repeat' first
   | (with_reducible exact ih0 _ _ _ _ _)
   | (with_reducible exact ih1 _ _ _ _ _ _ _ _)
   | (with_reducible exact ih2 _ _ _ _ _ _ _ _ _ _ _ _)
   | (with_reducible exact ih3 _ _ _ _ _ _ _ _ _ _ _)
   | (with_reducible exact ih4 _ _ _ _ _ _ _ _ _ _ _)
   | (with_reducible exact ih5 _ _ _ _ _ _ _ _ _ _ _)
   | (with_reducible exact ih6 _ _ _ _ _ _ _ _ _ _ _)
   | (with_reducible exact ih7 _ _ _ _ _)
   | (with_reducible exact spec_l16Brackets.mono _ _ _)
   | (with_reducible exact spec_l1Has.mono _ _ _)
   | (with_reducible exact LeO.refl _)
   | (with_reducible exact LeO.none _)
   | (with_reducible refine LeO.ite ?_ ?_)
   | (with_reducible refine LeO.bind ?_ (fun _ => ?_))
   | exact ih0 _ _ _ _ _
   | exact ih1 _ _ _ _ _ _ _ _
   | exact ih2 _ _ _ _ _ _ _ _ _ _ _ _
   | exact ih3 _ _ _ _ _ _ _ _ _ _ _
   | exact ih4 _ _ _ _ _ _ _ _ _ _ _
   | exact ih5 _ _ _ _ _ _ _ _ _ _ _
   | exact ih6 _ _ _ _ _ _ _ _ _ _ _
   | exact ih7 _ _ _ _ _
   | exact spec_l16Brackets.mono _ _ _
   | exact spec_l1Has.mono _ _ _
   | exact LeO.none _
   | refine LeO.ite ?_ ?_
   | refine LeO.bind ?_ (fun _ => ?_)
theorem spec_Layout.mono : ∀ a0 a1 a2 k, LeO (spec_Layout.f k a0 a1 a2) (spec_Layout.f (k + 1) a0 a1 a2) := by
 intro a0 a1 a2 k
 obtain ⟨ih0, ih1, ih2, ih3, ih4, ih5, ih6, ih7⟩ := spec_Layout.mono_l k
 unfold spec_Layout.f
 repeat' first
   | (with_reducible exact ih0 _ _ _ _ _)
   | (with_reducible exact ih1 _ _ _ _ _ _ _ _)
   | (with_reducible exact ih2 _ _ _ _ _ _ _ _ _ _ _ _)
   | (with_reducible exact ih3 _ _ _ _ _ _ _ _ _ _ _)
   | (with_reducible exact ih4 _ _ _ _ _ _ _ _ _ _ _)
   | (with_reducible exact ih5 _ _ _ _ _ _ _ _ _ _ _)
   | (with_reducible exact ih6 _ _ _ _ _ _ _ _ _ _ _)
   | (with_reducible exact ih7 _ _ _ _ _)
   | (with_reducible exact spec_l16Brackets.mono _ _ _)
   | (with_reducible exact spec_l1Has.mono _ _ _)
   | (with_reducible exact LeO.refl _)
   | (with_reducible exact LeO.none _)
   | (with_reducible refine LeO.ite ?_ ?_)
   | (with_reducible refine LeO.bind ?_ (fun _ => ?_))
   | exact ih0 _ _ _ _ _
   | exact ih1 _ _ _ _ _ _ _ _
   | exact ih2 _ _ _ _ _ _ _ _ _ _ _ _
   | exact ih3 _ _ _ _ _ _ _ _ _ _ _
   | exact ih4 _ _ _ _ _ _ _ _ _ _ _
   | exact ih5 _ _ _ _ _ _ _ _ _ _ _
   | exact ih6 _ _ _ _ _ _ _ _ _ _ _
   | exact ih7 _ _ _ _ _
   | exact spec_l16Brackets.mono _ _ _
   | exact spec_l1Has.mono _ _ _
   | exact LeO.none _
   | refine LeO.ite ?_ ?_
   | refine LeO.bind ?_ (fun _ => ?_)
set_option maxHeartbeats 8000000 in
set_option maxRecDepth 100000 in
theorem spec_Layout.calls (k : Nat) (A0 : Option Addr) (c0 : Nat) (l0 : List (S46)) (A1_0 : Option Addr) (c1_0 : Nat) (l1_0 : List Int) (A1_1 : Option Addr) (c1_1 : Nat) (l1_1 : List Int) (r1 : List (S46)) (r2 : Int) (r3 : Int) (w : World) (hr0 : Kd.C k46 w A0 l0.length l0) (hc0 : l0.length ≤ c0) (hr1_0 : Kd.C (Kd.int .i64) w A1_0 l1_0.length l1_0) (hc1_0 : l1_0.length ≤ c1_0) (hr1_1 : Kd.C (Kd.int .i64) w A1_1 l1_1.length l1_1) (hc1_1 : l1_1.length ≤ c1_1) (h : spec_Layout.f k l0 l1_0 l1_1 = some (r1, r2, r3)) :
  Calls Try.prog 7 #[.slice A0 l0.length c0, .agg #[.slice A1_0 l1_0.length c1_0, .slice A1_1 l1_1.length c1_1]] w fun e w' => ∃ v0_ : Value, e = .returned (.tuple #[v0_, .int .i64 r2, .int .i64 r3]) ∧ Kd.R k46 46 w' w.heap.size (fun _ => True) v0_ r1 ∧ Below w.heap.size w w' := by
 have hu32 := Try.underlying32
 have hu46 := Try.underlying46
 have HR0 := Aside0.mk hr0
 have HC0 := Aside0.mk hc0
 clear hr0 hc0
 have HR1_0 := Aside0.mk hr1_0
 have HC1_0 := Aside0.mk hc1_0
 clear hr1_0 hc1_0
 have HR1_1 := Aside0.mk hr1_1
 have HC1_1 := Aside0.mk hc1_1
 clear hr1_1 hc1_1
 have HB := Aside0.mk (Below.refl w.heap.size w)
 have H : ((some (([] : List (S46)) : List (S46))).bind fun y102 => ((spec_l16Items.f l0).bind fun t105 => (if t105 = true then ((spec_l16Brackets.f k l1_0 l1_1).bind fun t106 => (spec_Layout.j0 k l0 y102 (!t106) l1_0 l1_1)) else (spec_Layout.j0 k l0 y102 true l1_0 l1_1)))) = some (r1, r2, r3) := h
 clear h
 obtain ⟨y102, hy102⟩ : ∃ y_ : List (S46), y_ = (([] : List (S46))) := ⟨_, rfl⟩
 replace H : ((spec_l16Items.f l0).bind fun t105 => (if t105 = true then ((spec_l16Brackets.f k l1_0 l1_1).bind fun t106 => (spec_Layout.j0 k l0 y102 (!t106) l1_0 l1_1)) else (spec_Layout.j0 k l0 y102 true l1_0 l1_1))) = some (r1, r2, r3) := by first | (rw [hy102]; with_reducible exact H) | (have H2_ := (Option.bind_some _ _).symm.trans H; rw [hy102]; with_reducible exact H2_) | (have H2_ := (Option.bind_some _ _).symm.trans H; with_reducible exact H2_) | with_reducible exact H | (rw [hy102]; exact H) | exact H
 have Ny102 := Aside0.mk hy102
 clear hy102
 have HC3 := Aside0.mk H
 clear H
 go_enter Try.func7, Try.ntmps7
 go_upto_region 2 with (first | ((with_reducible refine gate_dst (N := 3) rfl ?_); refine box_event ?hg (N := 3) ?hd (cs := #[.slice A1_0 l1_0.length c1_0, .slice A1_1 l1_1.length c1_1]) (t := 32) ?hr ?_; (case hd => rfl); (case hg => rfl); (case hr => first | (go_simp; done) | (go_simp; rfl)); intro gb101 hg w4 hbox hb; have n0_ := Aside0.mk (below_step (by repeat (first | (with_reducible first | exact HB.out | apply below_alloc | apply pw_below_drewN | apply below_drew1) | exact HB.out)) hb); have n1_ := Aside0.mk (hbox); have n2_ := Aside0.mk ((by rw [hg]; exact (below_size (by repeat (first | (with_reducible first | exact HB.out | apply below_alloc | apply pw_below_drewN | apply below_drew1) | exact HB.out))) : w.heap.size ≤ gb101)); have n3_ := Aside0.mk ((by rw [hg]; exact (below_size (by repeat (first | (with_reducible first | exact HB.out | apply below_alloc | apply pw_below_drewN | apply below_drew1) | exact HB.out))) : w.heap.size ≤ gb101)); clear HB; have HB := n0_; have BK101 := n1_; have GW101 := n2_; have GE101 := n3_; clear n0_ n1_ n2_ n3_; clear hb hbox hg) | ((with_reducible refine gate_dst (N := 15) rfl ?_); refine Kd.R_lit k46 _ 46 ?hg (N := 15) ?hd (xs := ([] : List (S46))) (inner := []) (ok := fun _ => True) (okp := fun _ => True) ?hr ?hp (fun _ hk => hk) trivial (Below.refl _ _) (Nat.le_refl _) (by simp) ?_; (case hd => rfl); (case hg => rfl); (case hr => first | (go_simp; done) | (go_simp; rfl)); (case hp => exact (Reps.none _ _)); intro v103 w5 ho6 hb hg_ hnew_; clear hg_ hnew_; (first | rw [← Ny102.out] at ho6 | (simp only [Int.reduceToNat] at ho6; rw [← Ny102.out] at ho6)); have n0_ := Aside0.mk (Kd.R_lower ho6 (below_size (by repeat (first | (with_reducible first | exact HB.out | apply below_alloc | apply pw_below_drewN | apply below_drew1 | refine below_set ?_ GE101.out) | exact HB.out)))); have n1_ := Aside0.mk (blk_below (g := gb101) (o := .cells #[.slice A1_0 l1_0.length c1_0, .slice A1_1 l1_1.length c1_1] 32 (0, 0)) (by (with_reducible repeat (first | refine blk_drewN ?_ _ | refine blk_drew ?_ | refine blk_alloc ?_ _)); exact BK101.out) hb); have n2_ := Aside0.mk (below_step (by repeat (first | (with_reducible first | exact HB.out | apply below_alloc | apply pw_below_drewN | apply below_drew1 | refine below_set ?_ GE101.out) | exact HB.out)) hb); clear BK101; clear HB; have HO104 := n0_; have BK101 := n1_; have HB := n2_; clear n0_ n1_ n2_; clear hb ho6))
 repeat (go_quiet (fail); go_upto_region 2 with (fail))
 (try simp only [Act.put, List.setIfInBounds_toArray, List.set_cons_zero, List.set_cons_succ])
 go_cut [23] (fun v23 wc => ∃ (kq : Nat) (x23_2 : Bool), v23 = .bool x23_2 ∧ Aside0 (spec_Layout.j0 kq l0 y102 x23_2 l1_0 l1_1 = some (r1, r2, r3)) ∧ Aside0 (kq ≤ k) ∧ Aside0 (Kd.R k46 46 wc w.heap.size (fun _ => True) v103 y102) ∧ Aside0 (wc.heap[gb101]? = some (.cells #[(.slice A1_0 l1_0.length c1_0), (.slice A1_1 l1_1.length c1_1)] 32 (0, 0))) ∧ Aside0 (Below w.heap.size w wc))
 case first =>
  have H := HC3.out
  clear HC3
  replace H := Option.bind_eq_some_iff.mp H
  obtain ⟨t105, A70, H⟩ := H
  replace H : (if t105 = true then ((spec_l16Brackets.f k l1_0 l1_1).bind fun t106 => (spec_Layout.j0 k l0 y102 (!t106) l1_0 l1_1)) else (spec_Layout.j0 k l0 y102 true l1_0 l1_1)) = some (r1, r2, r3) := H
  have A7 := Aside0.mk A70
  clear A70
  by_cases c8 : t105 = true
  ·subst c8
   have H1 : ((spec_l16Brackets.f k l1_0 l1_1).bind fun t106 => (spec_Layout.j0 k l0 y102 (!t106) l1_0 l1_1)) = some (r1, r2, r3) := by rw [if_pos rfl] at H; exact H
   clear H
   have H := H1
   clear H1
   replace H := Option.bind_eq_some_iff.mp H
   obtain ⟨t106, A90, H⟩ := H
   replace H : (spec_Layout.j0 k l0 y102 (!t106) l1_0 l1_1) = some (r1, r2, r3) := H
   have A9 := Aside0.mk A90
   clear A90
   have H' := Aside0.mk H
   clear H
   go_wp2_with (first | (go_at_call 22; (with_reducible refine (spec_l16Items.calls _ _ l0 true _ ?side1 ?side2 A7.out).mono ?_); (case side1 => repeat (first | exact (Kd.C_below HR0.out HB.out) | (with_reducible refine Kd.C_alloc ?_ _) | (with_reducible refine Kd.C_drewN ?_ _) | (with_reducible refine Kd.C_drew ?_))); (case side2 => exact HC0.out); rintro e w10 ⟨rfl, hb⟩; have n0_ := Aside0.mk (Kd.R_below (by (with_reducible repeat (first | apply Kd.R_alloc | apply Kd.R_drewN | apply Kd.R_drew)); exact HO104.out) hb); have n1_ := Aside0.mk (blk_below (g := gb101) (o := .cells #[.slice A1_0 l1_0.length c1_0, .slice A1_1 l1_1.length c1_1] 32 (0, 0)) (by (with_reducible repeat (first | refine blk_drewN ?_ _ | refine blk_drew ?_ | refine blk_alloc ?_ _)); exact BK101.out) hb); have n2_ := Aside0.mk (below_step (by repeat (first | (with_reducible first | exact HB.out | apply below_alloc | apply pw_below_drewN | apply below_drew1 | refine below_set ?_ GE101.out) | exact HB.out)) hb); clear HO104; clear BK101; clear HB; have HO104 := n0_; have BK101 := n1_; have HB := n2_; clear n0_ n1_ n2_; (try clear hb); (try clear hb2); (try clear hk); (try clear hi); have hcz11_0 : w10.cell? ⟨gb101, 0, none⟩ = some (.slice A1_0 l1_0.length c1_0) := (blk_cell BK101.out 0).trans rfl; have hcz11_1 : w10.cell? ⟨gb101, 1, none⟩ = some (.slice A1_1 l1_1.length c1_1) := (blk_cell BK101.out 1).trans rfl; have hfz11_0 := blk_frozen BK101.out 0; have hfz11_1 := blk_frozen BK101.out 1) | (go_at_call 23; (with_reducible refine (spec_l16Brackets.calls k _ _ l1_0 _ _ l1_1 t106 _ ?side1 ?side2 ?side3 ?side4 A9.out).mono ?_); (case side1 => repeat (first | exact (Kd.C_below HR1_0.out HB.out) | (with_reducible refine Kd.C_alloc ?_ _) | (with_reducible refine Kd.C_drewN ?_ _) | (with_reducible refine Kd.C_drew ?_))); (case side2 => exact HC1_0.out); (case side3 => repeat (first | exact (Kd.C_below HR1_1.out HB.out) | (with_reducible refine Kd.C_alloc ?_ _) | (with_reducible refine Kd.C_drewN ?_ _) | (with_reducible refine Kd.C_drew ?_))); (case side4 => exact HC1_1.out); rintro e w12 ⟨rfl, hb⟩; have n0_ := Aside0.mk (Kd.R_below (by (with_reducible repeat (first | apply Kd.R_alloc | apply Kd.R_drewN | apply Kd.R_drew)); exact HO104.out) hb); have n1_ := Aside0.mk (blk_below (g := gb101) (o := .cells #[.slice A1_0 l1_0.length c1_0, .slice A1_1 l1_1.length c1_1] 32 (0, 0)) (by (with_reducible repeat (first | refine blk_drewN ?_ _ | refine blk_drew ?_ | refine blk_alloc ?_ _)); exact BK101.out) hb); have n2_ := Aside0.mk (below_step (by repeat (first | (with_reducible first | exact HB.out | apply below_alloc | apply pw_below_drewN | apply below_drew1 | refine below_set ?_ GE101.out) | exact HB.out)) hb); clear HO104; clear BK101; clear HB; have HO104 := n0_; have BK101 := n1_; have HB := n2_; clear n0_ n1_ n2_; (try clear hb); (try clear hb2); (try clear hk); (try clear hi)))
   repeat (go_quiet (fail); try go_wp2_with (fail))
   go_meet
   case rel => exact ⟨_, (!t106), (by first | rfl | (simp; done) | (simp [*]; done)), H', ⟨by first | omega | exact Nat.le_refl _⟩, ⟨by (with_reducible repeat (first | apply Kd.R_alloc | apply Kd.R_drewN | apply Kd.R_drew)); exact HO104.out⟩, ⟨by (with_reducible repeat (first | refine blk_drewN ?_ _ | refine blk_drew ?_ | refine blk_alloc ?_ _)); exact BK101.out⟩, ⟨by repeat (first | (with_reducible first | exact HB.out | apply below_alloc | apply pw_below_drewN | apply below_drew1 | refine below_set ?_ GE101.out) | exact HB.out)⟩⟩
  ·replace c8 := Bool.eq_false_iff.mpr c8
   subst c8
   have H1 : (spec_Layout.j0 k l0 y102 true l1_0 l1_1) = some (r1, r2, r3) := by rw [if_neg (show ¬ (false = true) by decide)] at H; exact H
   clear H
   have H := H1
   clear H1
   have H' := Aside0.mk H
   clear H
   go_wp2_with ((go_at_call 22; (with_reducible refine (spec_l16Items.calls _ _ l0 false _ ?side1 ?side2 A7.out).mono ?_); (case side1 => repeat (first | exact (Kd.C_below HR0.out HB.out) | (with_reducible refine Kd.C_alloc ?_ _) | (with_reducible refine Kd.C_drewN ?_ _) | (with_reducible refine Kd.C_drew ?_))); (case side2 => exact HC0.out); rintro e w13 ⟨rfl, hb⟩; have n0_ := Aside0.mk (Kd.R_below (by (with_reducible repeat (first | apply Kd.R_alloc | apply Kd.R_drewN | apply Kd.R_drew)); exact HO104.out) hb); have n1_ := Aside0.mk (blk_below (g := gb101) (o := .cells #[.slice A1_0 l1_0.length c1_0, .slice A1_1 l1_1.length c1_1] 32 (0, 0)) (by (with_reducible repeat (first | refine blk_drewN ?_ _ | refine blk_drew ?_ | refine blk_alloc ?_ _)); exact BK101.out) hb); have n2_ := Aside0.mk (below_step (by repeat (first | (with_reducible first | exact HB.out | apply below_alloc | apply pw_below_drewN | apply below_drew1 | refine below_set ?_ GE101.out) | exact HB.out)) hb); clear HO104; clear BK101; clear HB; have HO104 := n0_; have BK101 := n1_; have HB := n2_; clear n0_ n1_ n2_; (try clear hb); (try clear hb2); (try clear hk); (try clear hi)))
   repeat (go_quiet (fail); try go_wp2_with (fail))
   go_meet
   case rel => exact ⟨_, (true), (by first | rfl | (simp; done) | (simp [*]; done)), H', ⟨by first | omega | exact Nat.le_refl _⟩, ⟨by (with_reducible repeat (first | apply Kd.R_alloc | apply Kd.R_drewN | apply Kd.R_drew)); exact HO104.out⟩, ⟨by (with_reducible repeat (first | refine blk_drewN ?_ _ | refine blk_drew ?_ | refine blk_alloc ?_ _)); exact BK101.out⟩, ⟨by repeat (first | (with_reducible first | exact HB.out | apply below_alloc | apply pw_below_drewN | apply below_drew1 | refine below_set ?_ GE101.out) | exact HB.out)⟩⟩
 case rest =>
  clear HC3
  try clear c1
  try clear p2
  try clear c7
  try clear c8
  try clear hcz11_0
  try clear hcz11_1
  try clear hfz11_0
  try clear hfz11_1
  obtain ⟨kq, x23_2, rfl, HA, HJ2, HO_7, BK101, HB⟩ := hcut
  cases kq with
  | zero => exact absurd HA.out (by simp [spec_Layout.j0])
  | succ kj2 =>
   have H := HA.out
   clear HA
   simp only [spec_Layout.j0] at H
   by_cases c14 : x23_2 = true
   ·subst c14
    have H1 : (some (y102, 1, (-1))) = some (r1, r2, r3) := by rw [if_pos rfl] at H; exact H
    clear H
    have H := H1
    clear H1
    simp only [Option.some.injEq, Prod.mk.injEq] at H
    obtain ⟨rfl, rfl, rfl⟩ := H
    go_wp2
    repeat (go_quiet (fail); try go_wp2)
    go_ret3
    exact ⟨_, by first | rfl | (simp [errW_none, errW_some] <;> rfl) | (simp [*, errW_none, errW_some] <;> rfl), by (with_reducible repeat (first | apply Kd.R_alloc | apply Kd.R_drewN | apply Kd.R_drew)); exact HO_7.out, by repeat (first | (with_reducible first | exact HB.out | apply below_alloc | apply pw_below_drewN | apply below_drew1 | refine below_set ?_ GE101.out) | exact HB.out)⟩
   ·replace c14 := Bool.eq_false_iff.mpr c14
    subst c14
    have H1 : (spec_Layout.l0 kj2 l0 y102 (([] : List (S46))) (([1] : List Int)) 0 0 l1_0 l1_1) = some (r1, r2, r3) := by rw [if_neg (show ¬ (false = true) by decide)] at H; exact H
    clear H
    have H := H1
    clear H1
    obtain ⟨y107, hy107⟩ : ∃ y_ : List (S46), y_ = (([] : List (S46))) := ⟨_, rfl⟩
    replace H : (spec_Layout.l0 kj2 l0 y102 y107 (([1] : List Int)) 0 0 l1_0 l1_1) = some (r1, r2, r3) := by first | (rw [hy107]; with_reducible exact H) | (have H2_ := (Option.bind_some _ _).symm.trans H; rw [hy107]; with_reducible exact H2_) | (have H2_ := (Option.bind_some _ _).symm.trans H; with_reducible exact H2_) | with_reducible exact H | (rw [hy107]; exact H) | exact H
    have Ny107 := Aside0.mk hy107
    clear hy107
    obtain ⟨y110, hy110⟩ : ∃ y_ : List Int, y_ = (([1] : List Int)) := ⟨_, rfl⟩
    replace H : (spec_Layout.l0 kj2 l0 y102 y107 y110 0 0 l1_0 l1_1) = some (r1, r2, r3) := by first | (rw [hy110]; with_reducible exact H) | (have H2_ := (Option.bind_some _ _).symm.trans H; rw [hy110]; with_reducible exact H2_) | (have H2_ := (Option.bind_some _ _).symm.trans H; with_reducible exact H2_) | with_reducible exact H | (rw [hy110]; exact H) | exact H
    have Ny110 := Aside0.mk hy110
    clear hy110
    have H' := Aside0.mk H
    clear H
    go_wp2_with (first | ((with_reducible refine gate_dst (N := 25) rfl ?_); refine Kd.R_lit k46 _ 46 ?hg (N := 25) ?hd (xs := ([] : List (S46))) (inner := []) (ok := fun _ => True) (okp := fun _ => True) ?hr ?hp (fun _ hk => hk) trivial (Below.refl _ _) (Nat.le_refl _) (by simp) ?_; (case hd => rfl); (case hg => rfl); (case hr => first | (go_simp; done) | (go_simp; rfl)); (case hp => exact (Reps.none _ _)); intro v108 w15 ho16 hb hg_ hnew_; clear hg_ hnew_; (first | rw [← Ny107.out] at ho16 | (simp only [Int.reduceToNat] at ho16; rw [← Ny107.out] at ho16)); have n0_ := Aside0.mk (Kd.R_elder' (by (with_reducible repeat (first | apply Kd.R_alloc | apply Kd.R_drewN | apply Kd.R_drew)); exact HO_7.out) (Kd.R_base ho16) hb); have n1_ := Aside0.mk (Kd.R_lower (Kd.R_new' ho16 (Kd.R_lt (by (with_reducible repeat (first | apply Kd.R_alloc | apply Kd.R_drewN | apply Kd.R_drew)); exact HO_7.out))) (below_size (by repeat (first | (with_reducible first | exact HB.out | apply below_alloc | apply pw_below_drewN | apply below_drew1 | refine below_set ?_ GE101.out) | exact HB.out)))); have n2_ := Aside0.mk (blk_below (g := gb101) (o := .cells #[.slice A1_0 l1_0.length c1_0, .slice A1_1 l1_1.length c1_1] 32 (0, 0)) (by (with_reducible repeat (first | refine blk_drewN ?_ _ | refine blk_drew ?_ | refine blk_alloc ?_ _)); exact BK101.out) hb); have n3_ := Aside0.mk (below_step (by repeat (first | (with_reducible first | exact HB.out | apply below_alloc | apply pw_below_drewN | apply below_drew1 | refine below_set ?_ GE101.out) | exact HB.out)) hb); clear HO_7; clear BK101; clear HB; have HO_7 := n0_; have HO109 := n1_; have BK101 := n2_; have HB := n3_; clear n0_ n1_ n2_ n3_; clear hb ho16) | ((with_reducible refine gate_dst (N := 26) rfl ?_); refine Kd.R_lit (Kd.int .i64) _ 2 ?hg (N := 26) ?hd (xs := ([1] : List Int)) (inner := [.int .i64 1]) (ok := fun _ => True) (okp := fun _ => True) ?hr ?hp (fun _ hk => hk) trivial (Below.refl _ _) (Nat.le_refl _) (by simp) ?_; (case hd => rfl); (case hg => rfl); (case hr => first | (go_simp; done) | (go_simp; rfl)); (case hp => exact (Reps.one (show Kd.M (Kd.int .i64) _ _ _ 1 [.int .i64 1] from rfl) (Reps.none _ _))); intro v111 w17 ho18 hb hg_ hnew_; clear hg_ hnew_; (first | rw [← Ny110.out] at ho18 | (simp only [Int.reduceToNat] at ho18; rw [← Ny110.out] at ho18)); have n0_ := Aside0.mk (Kd.R_below (by (with_reducible repeat (first | apply Kd.R_alloc | apply Kd.R_drewN | apply Kd.R_drew)); exact HO_7.out) hb); have n1_ := Aside0.mk (Kd.R_below (by (with_reducible repeat (first | apply Kd.R_alloc | apply Kd.R_drewN | apply Kd.R_drew)); exact HO109.out) hb); have n2_ := Aside0.mk (Kd.R_lower ho18 (below_size (by repeat (first | (with_reducible first | exact HB.out | apply below_alloc | apply pw_below_drewN | apply below_drew1 | refine below_set ?_ GE101.out) | exact HB.out)))); have n3_ := Aside0.mk (blk_below (g := gb101) (o := .cells #[.slice A1_0 l1_0.length c1_0, .slice A1_1 l1_1.length c1_1] 32 (0, 0)) (by (with_reducible repeat (first | refine blk_drewN ?_ _ | refine blk_drew ?_ | refine blk_alloc ?_ _)); exact BK101.out) hb); have n4_ := Aside0.mk (below_step (by repeat (first | (with_reducible first | exact HB.out | apply below_alloc | apply pw_below_drewN | apply below_drew1 | refine below_set ?_ GE101.out) | exact HB.out)) hb); clear HO_7; clear HO109; clear BK101; clear HB; have HO_7 := n0_; have HO109 := n1_; have HO112 := n2_; have BK101 := n3_; have HB := n4_; clear n0_ n1_ n2_ n3_ n4_; clear hb ho18))
    repeat (go_quiet (fail); try go_wp2_with (fail))
    go_loopg [8, 9, 10, 11] kj2 (fun kq v8 v9 v10 v11 w' => ∃ (x8_2 : List (S46)) (x9_2 : List Int) (x10_2 : Int) (x11_2 : Int), v10 = .int .i64 x10_2 ∧ v11 = .int .i64 x11_2 ∧ Aside0 (spec_Layout.l0 kq l0 y102 x8_2 x9_2 x10_2 x11_2 l1_0 l1_1 = some (r1, r2, r3)) ∧ Aside0 (kq ≤ kj2) ∧ Aside0 (Kd.R k46 46 w' w.heap.size (fun k_ => some k_ ≠ (v8 : Value).ownBlock) v103 y102) ∧ Aside0 (Kd.R k46 46 w' w.heap.size (fun k_ => some k_ ≠ (v103 : Value).ownBlock) v8 x8_2) ∧ Aside0 (Kd.R (Kd.int .i64) 2 w' w.heap.size (fun _ => True) v9 x9_2) ∧ Aside0 (w'.heap[gb101]? = some (.cells #[(.slice A1_0 l1_0.length c1_0), (.slice A1_1 l1_1.length c1_1)] 32 (0, 0))) ∧ Aside0 (Below w.heap.size w w'))
    case atStart => exact ⟨(y107), (y110), (0), (0), (by first | rfl | (simp; done) | (simp [*]; done)), (by first | rfl | (simp; done) | (simp [*]; done)), H', ⟨Nat.le_refl _⟩, ⟨by (with_reducible repeat (first | apply Kd.R_alloc | apply Kd.R_drewN | apply Kd.R_drew)); exact Kd.R_mono HO_7.out (fun _ hk => hk.2)⟩, ⟨by (with_reducible repeat (first | apply Kd.R_alloc | apply Kd.R_drewN | apply Kd.R_drew)); exact Kd.R_mono HO109.out (fun _ hk => hk.2)⟩, ⟨by (with_reducible repeat (first | apply Kd.R_alloc | apply Kd.R_drewN | apply Kd.R_drew)); exact HO112.out⟩, ⟨by (with_reducible repeat (first | refine blk_drewN ?_ _ | refine blk_drew ?_ | refine blk_alloc ?_ _)); exact BK101.out⟩, ⟨by repeat (first | (with_reducible first | exact HB.out | apply below_alloc | apply pw_below_drewN | apply below_drew1 | refine below_set ?_ GE101.out) | exact HB.out)⟩⟩
    case round =>
     clear H'
     try clear c1
     try clear p2
     try clear c7
     try clear c8
     try clear c14
     try clear hcz11_0
     try clear hcz11_1
     try clear hfz11_0
     try clear hfz11_1
     try clear p2
     obtain ⟨x8_2, x9_2, x10_2, x11_2, rfl, rfl, HA, HK2, HO_7, HO_8, HO_9, BK101, HB⟩ := hrel
     cases gk with
     | zero => exact absurd HA.out (by simp [spec_Layout.l0])
     | succ k2 =>
      have H := HA.out
      clear HA
      simp only [spec_Layout.l0] at H
      by_cases c19 : x11_2 < (l0.length : Int)
      ·rw [if_pos c19] at H
       have c19b0 : decide (x11_2 < (l0.length : Int)) = true := decide_eq_true c19
       clear c19
       by_cases c20 : 0 ≤ x11_2
       ·rw [if_pos c20] at H
        have c20b0 : decide (0 ≤ x11_2) = true := decide_eq_true c20
        clear c20
        have HC21 := Aside0.mk H
        clear H
        have p113 : 0 ≤ (x11_2 : Int) := of_decide_eq_true (by first | (with_reducible assumption) | assumption)
        have q113 : x11_2 < (l0.length : Int) := of_decide_eq_true (by first | (with_reducible assumption) | assumption)
        obtain ⟨ad113, e113, hx113_0, hx113_1, hx113_2⟩ := at_T46 HR0.out x11_2 p113 q113
        cases e113
        replace hx113_0 := (HB.out.cell (World.block_lt_of_cell? w _ hx113_0)).trans hx113_0
        replace hx113_1 := (HB.out.cell (World.block_lt_of_cell? w _ hx113_1)).trans hx113_1
        replace hx113_2 := (HB.out.cell (World.block_lt_of_cell? w _ hx113_2)).trans hx113_2
        replace p113 := eq_true p113
        replace q113 := eq_true q113
        go_upto_region 11 with (((with_reducible refine gate_dst (N := 12) rfl ?_); refine box_event ?hg (N := 12) ?hd (cs := #[.int .i64 0, .int .i64 0, .int .i64 0]) (t := 46) ?hr ?_; (case hd => rfl); (case hg => rfl); (case hr => first | (go_simp; done) | (go_simp; rfl)); intro gb114 hg w22 hbox hb; have n0_ := Aside0.mk (Kd.R_below (Kd.R_elderB (by (with_reducible repeat (first | apply Kd.R_alloc | apply Kd.R_drewN | apply Kd.R_drew)); exact HO_7.out) gb114 (Nat.le_of_eq hg.symm)) hb); have n1_ := Aside0.mk (Kd.R_below (Kd.R_elderB (by (with_reducible repeat (first | apply Kd.R_alloc | apply Kd.R_drewN | apply Kd.R_drew)); exact HO_8.out) gb114 (Nat.le_of_eq hg.symm)) hb); have n2_ := Aside0.mk (Kd.R_below (by (with_reducible repeat (first | apply Kd.R_alloc | apply Kd.R_drewN | apply Kd.R_drew)); exact HO_9.out) hb); have n3_ := Aside0.mk (blk_below (g := gb101) (o := .cells #[.slice A1_0 l1_0.length c1_0, .slice A1_1 l1_1.length c1_1] 32 (0, 0)) (by (with_reducible repeat (first | refine blk_drewN ?_ _ | refine blk_drew ?_ | refine blk_alloc ?_ _)); exact BK101.out) hb); have n4_ := Aside0.mk (below_step (by repeat (first | (with_reducible first | exact HB.out | apply below_alloc | apply pw_below_drewN | apply below_drew1 | refine below_set ?_ GE101.out) | exact HB.out)) hb); have n5_ := Aside0.mk (hbox); have n6_ := Aside0.mk ((by rw [hg]; exact (below_size (by repeat (first | (with_reducible first | exact HB.out | apply below_alloc | apply pw_below_drewN | apply below_drew1 | refine below_set ?_ GE101.out) | exact HB.out))) : w.heap.size ≤ gb114)); have n7_ := Aside0.mk ((by rw [hg]; exact (below_size (by repeat (first | (with_reducible first | exact HB.out | apply below_alloc | apply pw_below_drewN | apply below_drew1 | refine below_set ?_ GE101.out) | exact HB.out))) : w.heap.size ≤ gb114)); have n8_ := Aside0.mk ((by rw [hg]; exact Nat.ne_of_lt (blk_lt (g := gb101) (o := .cells #[.slice A1_0 l1_0.length c1_0, .slice A1_1 l1_1.length c1_1] 32 (0, 0)) (by (with_reducible repeat (first | refine blk_drewN ?_ _ | refine blk_drew ?_ | refine blk_alloc ?_ _)); exact BK101.out)) : gb101 ≠ gb114)); have n9_ := Aside0.mk ((by rw [hg]; exact Nat.ne_of_gt (blk_lt (g := gb101) (o := .cells #[.slice A1_0 l1_0.length c1_0, .slice A1_1 l1_1.length c1_1] 32 (0, 0)) (by (with_reducible repeat (first | refine blk_drewN ?_ _ | refine blk_drew ?_ | refine blk_alloc ?_ _)); exact BK101.out)) : gb114 ≠ gb101)); clear HO_7; clear HO_8; clear HO_9; clear BK101; clear HB; have HO_7 := n0_; have HO_8 := n1_; have HO_9 := n2_; have BK101 := n3_; have HB := n4_; have BK114 := n5_; have GW114 := n6_; have GE114 := n7_; have NB101_114 := n8_; have NB114_101 := n9_; clear n0_ n1_ n2_ n3_ n4_ n5_ n6_ n7_ n8_ n9_; clear hb hbox hg; have hnb23 := NB114_101.out; have hnc23 := NB101_114.out; have hcz24_0 : w22.cell? ⟨gb114, 0, none⟩ = some (.int .i64 0) := (blk_cell BK114.out 0).trans rfl; have hcz24_1 : w22.cell? ⟨gb114, 1, none⟩ = some (.int .i64 0) := (blk_cell BK114.out 1).trans rfl; have hcz24_2 : w22.cell? ⟨gb114, 2, none⟩ = some (.int .i64 0) := (blk_cell BK114.out 2).trans rfl; have hfz24_0 := blk_frozen BK114.out 0; have hfz24_1 := blk_frozen BK114.out 1; have hfz24_2 := blk_frozen BK114.out 2))
        repeat (go_quiet (fail); go_upto_region 11 with (fail))
        (try simp only [Act.put, List.setIfInBounds_toArray, List.set_cons_zero, List.set_cons_succ])
        go_cut [53] (fun v53 wc => ∃ (kq : Nat) (x53_20 : Bool), v53 = .bool x53_20 ∧ Aside0 (spec_Layout.j2 kq l0 y102 x8_2 x9_2 x10_2 x11_2 x53_20 l1_0 l1_1 ((rd_T46 l0 x11_2).f0) ((rd_T46 l0 x11_2).f1) ((rd_T46 l0 x11_2).f2) = some (r1, r2, r3)) ∧ Aside0 (kq ≤ k2) ∧ Aside0 (Kd.R k46 46 wc w.heap.size (fun k_ => some k_ ≠ (u8 : Value).ownBlock ∧ k_ ≠ gb114) v103 y102) ∧ Aside0 (Kd.R k46 46 wc w.heap.size (fun k_ => some k_ ≠ (v103 : Value).ownBlock ∧ k_ ≠ gb114) u8 x8_2) ∧ Aside0 (Kd.R (Kd.int .i64) 2 wc w.heap.size (fun _ => True) u9 x9_2) ∧ Aside0 (wc.heap[gb101]? = some (.cells #[(.slice A1_0 l1_0.length c1_0), (.slice A1_1 l1_1.length c1_1)] 32 (0, 0))) ∧ Aside0 (wc.heap[gb114]? = some (.cells #[.int .i64 ((rd_T46 l0 x11_2).f0), .int .i64 ((rd_T46 l0 x11_2).f1), .int .i64 ((rd_T46 l0 x11_2).f2)] 46 (0, 0))) ∧ Aside0 (Below w.heap.size w wc))
        case first =>
         have H := HC21.out
         clear HC21
         by_cases c25 : x10_2 = 0
         ·rw [if_pos c25] at H
          have c25b0 : (x10_2 == 0) = true := beq_iff_eq.mpr c25
          have c25b1 : (x10_2 != 0) = false := bne_eq_false_iff_eq.mpr c25
          clear c25
          (first | rw [c25b0] | (simp only [i64_w, i32_w]; rw [c25b0]) | skip)
          by_cases c26 : x11_2 = 0
          ·rw [if_pos c26] at H
           have c26b0 : (x11_2 == 0) = true := beq_iff_eq.mpr c26
           have c26b1 : (x11_2 != 0) = false := bne_eq_false_iff_eq.mpr c26
           clear c26
           have H' := Aside0.mk H
           clear H
           go_wp2
           repeat (go_quiet (fail); try go_wp2)
           go_meet
           case rel => exact ⟨_, (true), (by first | rfl | (simp; done) | (simp [*]; done)), H', ⟨by have := HJ2.out; have := HK2.out; first | omega | exact Nat.le_refl _⟩, ⟨by (with_reducible repeat (first | apply Kd.R_alloc | apply Kd.R_drewN | apply Kd.R_drew)); exact Kd.R_mono (Kd.R_far (p := ⟨gb114, 2, none⟩) (Kd.R_far (p := ⟨gb114, 1, none⟩) (Kd.R_far (p := ⟨gb114, 0, none⟩) (Kd.R_mono HO_7.out (fun k_ hk => (⟨hk, hk.2⟩ : _ ∧ k_ ≠ gb114))) (fun _ hk => hk.2) (.int .i64 ((rd_T46 l0 x11_2).f0))) (fun _ hk => hk.2) (.int .i64 ((rd_T46 l0 x11_2).f1))) (fun _ hk => hk.2) (.int .i64 ((rd_T46 l0 x11_2).f2))) (fun _ hk => ⟨hk.1.1, hk.1.2⟩)⟩, ⟨by (with_reducible repeat (first | apply Kd.R_alloc | apply Kd.R_drewN | apply Kd.R_drew)); exact Kd.R_mono (Kd.R_far (p := ⟨gb114, 2, none⟩) (Kd.R_far (p := ⟨gb114, 1, none⟩) (Kd.R_far (p := ⟨gb114, 0, none⟩) (Kd.R_mono HO_8.out (fun k_ hk => (⟨hk, hk.2⟩ : _ ∧ k_ ≠ gb114))) (fun _ hk => hk.2) (.int .i64 ((rd_T46 l0 x11_2).f0))) (fun _ hk => hk.2) (.int .i64 ((rd_T46 l0 x11_2).f1))) (fun _ hk => hk.2) (.int .i64 ((rd_T46 l0 x11_2).f2))) (fun _ hk => ⟨hk.1.1, hk.1.2⟩)⟩, ⟨by (with_reducible repeat (first | apply Kd.R_alloc | apply Kd.R_drewN | apply Kd.R_drew)); exact Kd.R_mono (Kd.R_far (p := ⟨gb114, 2, none⟩) (Kd.R_far (p := ⟨gb114, 1, none⟩) (Kd.R_far (p := ⟨gb114, 0, none⟩) (Kd.R_types HO_9.out BK114.out (by decide)) (fun _ hk => hk.2) (.int .i64 ((rd_T46 l0 x11_2).f0))) (fun _ hk => hk.2) (.int .i64 ((rd_T46 l0 x11_2).f1))) (fun _ hk => hk.2) (.int .i64 ((rd_T46 l0 x11_2).f2))) (fun _ hk => trivial)⟩, ⟨by (with_reducible repeat (first | refine blk_drewN ?_ _ | refine blk_drew ?_ | refine blk_alloc ?_ _)); refine blk_far ?_ NB101_114.out _; (with_reducible repeat (first | refine blk_drewN ?_ _ | refine blk_drew ?_ | refine blk_alloc ?_ _)); refine blk_far ?_ NB101_114.out _; (with_reducible repeat (first | refine blk_drewN ?_ _ | refine blk_drew ?_ | refine blk_alloc ?_ _)); refine blk_far ?_ NB101_114.out _; (with_reducible repeat (first | refine blk_drewN ?_ _ | refine blk_drew ?_ | refine blk_alloc ?_ _)); exact BK101.out⟩, ⟨by (with_reducible repeat (first | refine blk_drewN ?_ _ | refine blk_drew ?_ | refine blk_alloc ?_ _)); refine blk_put (cs := #[.int .i64 ((rd_T46 l0 x11_2).f0), .int .i64 ((rd_T46 l0 x11_2).f1), .int .i64 0]) ?_ 2 _ rfl; (with_reducible repeat (first | refine blk_drewN ?_ _ | refine blk_drew ?_ | refine blk_alloc ?_ _)); refine blk_put (cs := #[.int .i64 ((rd_T46 l0 x11_2).f0), .int .i64 0, .int .i64 0]) ?_ 1 _ rfl; (with_reducible repeat (first | refine blk_drewN ?_ _ | refine blk_drew ?_ | refine blk_alloc ?_ _)); refine blk_put (cs := #[.int .i64 0, .int .i64 0, .int .i64 0]) ?_ 0 _ rfl; (with_reducible repeat (first | refine blk_drewN ?_ _ | refine blk_drew ?_ | refine blk_alloc ?_ _)); exact BK114.out⟩, ⟨by repeat (first | (with_reducible first | exact HB.out | apply below_alloc | apply pw_below_drewN | apply below_drew1 | refine below_set ?_ GE101.out | refine below_set ?_ GE114.out) | exact HB.out)⟩⟩
          ·rw [if_neg c26] at H
           have c26b0 : (x11_2 == 0) = false := beq_eq_false_iff_ne.mpr c26
           have c26b1 : (x11_2 != 0) = true := bne_iff_ne.mpr c26
           obtain ⟨ji27, hji27⟩ : ∃ j_ : Int, (wrap64 (x11_2 - 1)) = j_ := ⟨_, rfl⟩
           replace H : (if 0 ≤ (ji27) then (if (ji27) < (l0.length : Int) then (spec_Layout.j2 k2 l0 y102 x8_2 x9_2 x10_2 x11_2 (decide (((rd_T46 l0 x11_2).f1) > ((rd_T46 l0 (ji27)).f1))) l1_0 l1_1 ((rd_T46 l0 x11_2).f0) ((rd_T46 l0 x11_2).f1) ((rd_T46 l0 x11_2).f2)) else (none)) else (none)) = some (r1, r2, r3) := by first | (rw [hji27] at H; exact H) | (simp only [hji27] at H ⊢; exact H)
           have hji27w : (IntKind.i64.wrap (x11_2 - 1)) = ji27 := (i64_w _).trans hji27
           by_cases c28 : 0 ≤ (ji27)
           ·rw [if_pos c28] at H
            have c28b0 : decide (0 ≤ (ji27)) = true := decide_eq_true c28
            clear c28
            by_cases c29 : (ji27) < (l0.length : Int)
            ·rw [if_pos c29] at H
             have c29b0 : decide ((ji27) < (l0.length : Int)) = true := decide_eq_true c29
             clear c29
             have H' := Aside0.mk H
             clear H
             have hnb30 := NB114_101.out
             have hnc30 := NB101_114.out
             have hcz31_0 : w22.cell? ⟨gb114, 0, none⟩ = some (.int .i64 0) := (blk_cell BK114.out 0).trans rfl
             have hcz31_1 : w22.cell? ⟨gb114, 1, none⟩ = some (.int .i64 0) := (blk_cell BK114.out 1).trans rfl
             have hcz31_2 : w22.cell? ⟨gb114, 2, none⟩ = some (.int .i64 0) := (blk_cell BK114.out 2).trans rfl
             have hfz31_0 := blk_frozen BK114.out 0
             have hfz31_1 := blk_frozen BK114.out 1
             have hfz31_2 := blk_frozen BK114.out 2
             have p115 : 0 ≤ ((ji27) : Int) := of_decide_eq_true (by first | (with_reducible assumption) | assumption)
             have q115 : (ji27) < (l0.length : Int) := of_decide_eq_true (by first | (with_reducible assumption) | assumption)
             obtain ⟨ad115, e115, hx115_0, hx115_1, hx115_2⟩ := at_T46 HR0.out (ji27) p115 q115
             obtain rfl : ad113 = ad115 := (by injection e115)
             have hn115_0 : ad113.block ≠ gb114 := Nat.ne_of_lt (Nat.lt_of_lt_of_le (by have := World.block_lt_of_cell? _ _ hx115_0; first | rwa [add_block] at this | exact this) GW114.out)
             have hn115_1 : ad113.block ≠ gb114 := Nat.ne_of_lt (Nat.lt_of_lt_of_le (by have := World.block_lt_of_cell? _ _ hx115_0; first | rwa [add_block] at this | exact this) GW114.out)
             have hn115_2 : ad113.block ≠ gb114 := Nat.ne_of_lt (Nat.lt_of_lt_of_le (by have := World.block_lt_of_cell? _ _ hx115_0; first | rwa [add_block] at this | exact this) GW114.out)
             replace hx115_0 := (HB.out.cell (World.block_lt_of_cell? w _ hx115_0)).trans hx115_0
             replace hx115_1 := (HB.out.cell (World.block_lt_of_cell? w _ hx115_1)).trans hx115_1
             replace hx115_2 := (HB.out.cell (World.block_lt_of_cell? w _ hx115_2)).trans hx115_2
             replace hx115_0 := (cell_far (p := ⟨gb114, 0, none⟩) (by first | (rw [add_block]; exact hn115_0) | (show (Addr.add _ _).block ≠ _; rw [add_block]; exact hn115_0) | exact hn115_0) (.int .i64 ((rd_T46 l0 x11_2).f0))).trans hx115_0
             replace hx115_1 := (cell_far (p := ⟨gb114, 0, none⟩) (by first | (rw [add_block]; exact hn115_0) | (show (Addr.add _ _).block ≠ _; rw [add_block]; exact hn115_0) | exact hn115_0) (.int .i64 ((rd_T46 l0 x11_2).f0))).trans hx115_1
             replace hx115_2 := (cell_far (p := ⟨gb114, 0, none⟩) (by first | (rw [add_block]; exact hn115_0) | (show (Addr.add _ _).block ≠ _; rw [add_block]; exact hn115_0) | exact hn115_0) (.int .i64 ((rd_T46 l0 x11_2).f0))).trans hx115_2
             replace hx115_0 := (cell_far (p := ⟨gb114, 1, none⟩) (by first | (rw [add_block]; exact hn115_1) | (show (Addr.add _ _).block ≠ _; rw [add_block]; exact hn115_1) | exact hn115_1) (.int .i64 ((rd_T46 l0 x11_2).f1))).trans hx115_0
             replace hx115_1 := (cell_far (p := ⟨gb114, 1, none⟩) (by first | (rw [add_block]; exact hn115_1) | (show (Addr.add _ _).block ≠ _; rw [add_block]; exact hn115_1) | exact hn115_1) (.int .i64 ((rd_T46 l0 x11_2).f1))).trans hx115_1
             replace hx115_2 := (cell_far (p := ⟨gb114, 1, none⟩) (by first | (rw [add_block]; exact hn115_1) | (show (Addr.add _ _).block ≠ _; rw [add_block]; exact hn115_1) | exact hn115_1) (.int .i64 ((rd_T46 l0 x11_2).f1))).trans hx115_2
             replace hx115_0 := (cell_far (p := ⟨gb114, 2, none⟩) (by first | (rw [add_block]; exact hn115_2) | (show (Addr.add _ _).block ≠ _; rw [add_block]; exact hn115_2) | exact hn115_2) (.int .i64 ((rd_T46 l0 x11_2).f2))).trans hx115_0
             replace hx115_1 := (cell_far (p := ⟨gb114, 2, none⟩) (by first | (rw [add_block]; exact hn115_2) | (show (Addr.add _ _).block ≠ _; rw [add_block]; exact hn115_2) | exact hn115_2) (.int .i64 ((rd_T46 l0 x11_2).f2))).trans hx115_1
             replace hx115_2 := (cell_far (p := ⟨gb114, 2, none⟩) (by first | (rw [add_block]; exact hn115_2) | (show (Addr.add _ _).block ≠ _; rw [add_block]; exact hn115_2) | exact hn115_2) (.int .i64 ((rd_T46 l0 x11_2).f2))).trans hx115_2
             (try have hy115_0 := fun (n_ : Nat) => (show (((((w22.drewN n_).setCell ⟨gb114, 0, none⟩ (.int .i64 ((rd_T46 l0 x11_2).f0))).setCell ⟨gb114, 1, none⟩ (.int .i64 ((rd_T46 l0 x11_2).f1))).setCell ⟨gb114, 2, none⟩ (.int .i64 ((rd_T46 l0 x11_2).f2)))).cell? _ = some _ from hx115_0))
             (try have hy115_1 := fun (n_ : Nat) => (show (((((w22.drewN n_).setCell ⟨gb114, 0, none⟩ (.int .i64 ((rd_T46 l0 x11_2).f0))).setCell ⟨gb114, 1, none⟩ (.int .i64 ((rd_T46 l0 x11_2).f1))).setCell ⟨gb114, 2, none⟩ (.int .i64 ((rd_T46 l0 x11_2).f2)))).cell? _ = some _ from hx115_1))
             (try have hy115_2 := fun (n_ : Nat) => (show (((((w22.drewN n_).setCell ⟨gb114, 0, none⟩ (.int .i64 ((rd_T46 l0 x11_2).f0))).setCell ⟨gb114, 1, none⟩ (.int .i64 ((rd_T46 l0 x11_2).f1))).setCell ⟨gb114, 2, none⟩ (.int .i64 ((rd_T46 l0 x11_2).f2)))).cell? _ = some _ from hx115_2))
             clear hn115_0
             clear hn115_1
             clear hn115_2
             replace p115 := eq_true p115
             replace q115 := eq_true q115
             go_wp2
             repeat (go_quiet (fail); try go_wp2)
             go_meet
             case rel => exact ⟨_, (decide (((rd_T46 l0 x11_2).f1) > ((rd_T46 l0 (ji27)).f1))), (by first | rfl | (simp; done) | (simp only [← hji27] <;> (first | rfl | simp)) | (simp [*]; done)), H', ⟨by have := HJ2.out; have := HK2.out; first | omega | exact Nat.le_refl _⟩, ⟨by (with_reducible repeat (first | apply Kd.R_alloc | apply Kd.R_drewN | apply Kd.R_drew)); exact Kd.R_mono (Kd.R_far (p := ⟨gb114, 2, none⟩) (Kd.R_far (p := ⟨gb114, 1, none⟩) (Kd.R_far (p := ⟨gb114, 0, none⟩) (Kd.R_mono HO_7.out (fun k_ hk => (⟨hk, hk.2⟩ : _ ∧ k_ ≠ gb114))) (fun _ hk => hk.2) (.int .i64 ((rd_T46 l0 x11_2).f0))) (fun _ hk => hk.2) (.int .i64 ((rd_T46 l0 x11_2).f1))) (fun _ hk => hk.2) (.int .i64 ((rd_T46 l0 x11_2).f2))) (fun _ hk => ⟨hk.1.1, hk.1.2⟩)⟩, ⟨by (with_reducible repeat (first | apply Kd.R_alloc | apply Kd.R_drewN | apply Kd.R_drew)); exact Kd.R_mono (Kd.R_far (p := ⟨gb114, 2, none⟩) (Kd.R_far (p := ⟨gb114, 1, none⟩) (Kd.R_far (p := ⟨gb114, 0, none⟩) (Kd.R_mono HO_8.out (fun k_ hk => (⟨hk, hk.2⟩ : _ ∧ k_ ≠ gb114))) (fun _ hk => hk.2) (.int .i64 ((rd_T46 l0 x11_2).f0))) (fun _ hk => hk.2) (.int .i64 ((rd_T46 l0 x11_2).f1))) (fun _ hk => hk.2) (.int .i64 ((rd_T46 l0 x11_2).f2))) (fun _ hk => ⟨hk.1.1, hk.1.2⟩)⟩, ⟨by (with_reducible repeat (first | apply Kd.R_alloc | apply Kd.R_drewN | apply Kd.R_drew)); exact Kd.R_mono (Kd.R_far (p := ⟨gb114, 2, none⟩) (Kd.R_far (p := ⟨gb114, 1, none⟩) (Kd.R_far (p := ⟨gb114, 0, none⟩) (Kd.R_types HO_9.out BK114.out (by decide)) (fun _ hk => hk.2) (.int .i64 ((rd_T46 l0 x11_2).f0))) (fun _ hk => hk.2) (.int .i64 ((rd_T46 l0 x11_2).f1))) (fun _ hk => hk.2) (.int .i64 ((rd_T46 l0 x11_2).f2))) (fun _ hk => trivial)⟩, ⟨by (with_reducible repeat (first | refine blk_drewN ?_ _ | refine blk_drew ?_ | refine blk_alloc ?_ _)); refine blk_far ?_ NB101_114.out _; (with_reducible repeat (first | refine blk_drewN ?_ _ | refine blk_drew ?_ | refine blk_alloc ?_ _)); refine blk_far ?_ NB101_114.out _; (with_reducible repeat (first | refine blk_drewN ?_ _ | refine blk_drew ?_ | refine blk_alloc ?_ _)); refine blk_far ?_ NB101_114.out _; (with_reducible repeat (first | refine blk_drewN ?_ _ | refine blk_drew ?_ | refine blk_alloc ?_ _)); exact BK101.out⟩, ⟨by (with_reducible repeat (first | refine blk_drewN ?_ _ | refine blk_drew ?_ | refine blk_alloc ?_ _)); refine blk_put (cs := #[.int .i64 ((rd_T46 l0 x11_2).f0), .int .i64 ((rd_T46 l0 x11_2).f1), .int .i64 0]) ?_ 2 _ rfl; (with_reducible repeat (first | refine blk_drewN ?_ _ | refine blk_drew ?_ | refine blk_alloc ?_ _)); refine blk_put (cs := #[.int .i64 ((rd_T46 l0 x11_2).f0), .int .i64 0, .int .i64 0]) ?_ 1 _ rfl; (with_reducible repeat (first | refine blk_drewN ?_ _ | refine blk_drew ?_ | refine blk_alloc ?_ _)); refine blk_put (cs := #[.int .i64 0, .int .i64 0, .int .i64 0]) ?_ 0 _ rfl; (with_reducible repeat (first | refine blk_drewN ?_ _ | refine blk_drew ?_ | refine blk_alloc ?_ _)); exact BK114.out⟩, ⟨by repeat (first | (with_reducible first | exact HB.out | apply below_alloc | apply pw_below_drewN | apply below_drew1 | refine below_set ?_ GE101.out | refine below_set ?_ GE114.out) | exact HB.out)⟩⟩
            ·rw [if_neg c29] at H
             exact absurd H (by simp)
           ·rw [if_neg c28] at H
            exact absurd H (by simp)
         ·rw [if_neg c25] at H
          have c25b0 : (x10_2 == 0) = false := beq_eq_false_iff_ne.mpr c25
          have c25b1 : (x10_2 != 0) = true := bne_iff_ne.mpr c25
          (first | rw [c25b0] | (simp only [i64_w, i32_w]; rw [c25b0]) | skip)
          have H' := Aside0.mk H
          clear H
          go_wp2
          repeat (go_quiet (fail); try go_wp2)
          go_meet
          case rel => exact ⟨_, (false), (by first | rfl | (simp; done) | (simp [*]; done)), H', ⟨by have := HJ2.out; have := HK2.out; first | omega | exact Nat.le_refl _⟩, ⟨by (with_reducible repeat (first | apply Kd.R_alloc | apply Kd.R_drewN | apply Kd.R_drew)); exact Kd.R_mono (Kd.R_far (p := ⟨gb114, 2, none⟩) (Kd.R_far (p := ⟨gb114, 1, none⟩) (Kd.R_far (p := ⟨gb114, 0, none⟩) (Kd.R_mono HO_7.out (fun k_ hk => (⟨hk, hk.2⟩ : _ ∧ k_ ≠ gb114))) (fun _ hk => hk.2) (.int .i64 ((rd_T46 l0 x11_2).f0))) (fun _ hk => hk.2) (.int .i64 ((rd_T46 l0 x11_2).f1))) (fun _ hk => hk.2) (.int .i64 ((rd_T46 l0 x11_2).f2))) (fun _ hk => ⟨hk.1.1, hk.1.2⟩)⟩, ⟨by (with_reducible repeat (first | apply Kd.R_alloc | apply Kd.R_drewN | apply Kd.R_drew)); exact Kd.R_mono (Kd.R_far (p := ⟨gb114, 2, none⟩) (Kd.R_far (p := ⟨gb114, 1, none⟩) (Kd.R_far (p := ⟨gb114, 0, none⟩) (Kd.R_mono HO_8.out (fun k_ hk => (⟨hk, hk.2⟩ : _ ∧ k_ ≠ gb114))) (fun _ hk => hk.2) (.int .i64 ((rd_T46 l0 x11_2).f0))) (fun _ hk => hk.2) (.int .i64 ((rd_T46 l0 x11_2).f1))) (fun _ hk => hk.2) (.int .i64 ((rd_T46 l0 x11_2).f2))) (fun _ hk => ⟨hk.1.1, hk.1.2⟩)⟩, ⟨by (with_reducible repeat (first | apply Kd.R_alloc | apply Kd.R_drewN | apply Kd.R_drew)); exact Kd.R_mono (Kd.R_far (p := ⟨gb114, 2, none⟩) (Kd.R_far (p := ⟨gb114, 1, none⟩) (Kd.R_far (p := ⟨gb114, 0, none⟩) (Kd.R_types HO_9.out BK114.out (by decide)) (fun _ hk => hk.2) (.int .i64 ((rd_T46 l0 x11_2).f0))) (fun _ hk => hk.2) (.int .i64 ((rd_T46 l0 x11_2).f1))) (fun _ hk => hk.2) (.int .i64 ((rd_T46 l0 x11_2).f2))) (fun _ hk => trivial)⟩, ⟨by (with_reducible repeat (first | refine blk_drewN ?_ _ | refine blk_drew ?_ | refine blk_alloc ?_ _)); refine blk_far ?_ NB101_114.out _; (with_reducible repeat (first | refine blk_drewN ?_ _ | refine blk_drew ?_ | refine blk_alloc ?_ _)); refine blk_far ?_ NB101_114.out _; (with_reducible repeat (first | refine blk_drewN ?_ _ | refine blk_drew ?_ | refine blk_alloc ?_ _)); refine blk_far ?_ NB101_114.out _; (with_reducible repeat (first | refine blk_drewN ?_ _ | refine blk_drew ?_ | refine blk_alloc ?_ _)); exact BK101.out⟩, ⟨by (with_reducible repeat (first | refine blk_drewN ?_ _ | refine blk_drew ?_ | refine blk_alloc ?_ _)); refine blk_put (cs := #[.int .i64 ((rd_T46 l0 x11_2).f0), .int .i64 ((rd_T46 l0 x11_2).f1), .int .i64 0]) ?_ 2 _ rfl; (with_reducible repeat (first | refine blk_drewN ?_ _ | refine blk_drew ?_ | refine blk_alloc ?_ _)); refine blk_put (cs := #[.int .i64 ((rd_T46 l0 x11_2).f0), .int .i64 0, .int .i64 0]) ?_ 1 _ rfl; (with_reducible repeat (first | refine blk_drewN ?_ _ | refine blk_drew ?_ | refine blk_alloc ?_ _)); refine blk_put (cs := #[.int .i64 0, .int .i64 0, .int .i64 0]) ?_ 0 _ rfl; (with_reducible repeat (first | refine blk_drewN ?_ _ | refine blk_drew ?_ | refine blk_alloc ?_ _)); exact BK114.out⟩, ⟨by repeat (first | (with_reducible first | exact HB.out | apply below_alloc | apply pw_below_drewN | apply below_drew1 | refine below_set ?_ GE101.out | refine below_set ?_ GE114.out) | exact HB.out)⟩⟩
        case rest =>
         clear HC21
         try clear c1
         try clear p1
         try clear q1
         try clear hx1
         try clear c2
         try clear p2
         try clear c3
         try clear p6
         try clear c7
         try clear c8
         try clear p11
         try clear q11
         try clear hx11
         try clear c14
         try clear c19
         try clear c19b0
         try clear c20
         try clear c20b0
         try clear c23
         try clear c25
         try clear c25b0
         try clear c25b1
         try clear c26
         try clear c26b0
         try clear c26b1
         try clear c28
         try clear c28b0
         try clear c29
         try clear c29b0
         try clear c30
         try clear hcz11_0
         try clear hcz11_1
         try clear hcz24_0
         try clear hcz24_1
         try clear hcz24_2
         try clear hcz31_0
         try clear hcz31_1
         try clear hcz31_2
         try clear hfz11_0
         try clear hfz11_1
         try clear hfz24_0
         try clear hfz24_1
         try clear hfz24_2
         try clear hfz31_0
         try clear hfz31_1
         try clear hfz31_2
         try clear hx113_0
         try clear hx113_1
         try clear hx113_2
         try clear hx115_0
         try clear hx115_1
         try clear hx115_2
         try clear p113
         try clear p115
         try clear p2
         try clear q113
         try clear q115
         obtain ⟨kq, x53_20, rfl, HA, HJ20, HO_7, HO_8, HO_9, BK101, BK114, HB⟩ := hcut
         cases kq with
         | zero => exact absurd HA.out (by simp [spec_Layout.j2])
         | succ kj20 =>
          have H := HA.out
          clear HA
          simp only [spec_Layout.j2] at H
          have HC32 := Aside0.mk H
          clear H
          go_upto_if 53 with (fail)
          repeat (go_quiet (fail); go_upto_if 53 with (fail))
          go_cut [8, 9] (fun v8 v9 wc => ∃ (kq : Nat) (x8_31 : List (S46)) (x9_31 : List Int), Aside0 (spec_Layout.j6 kq l0 y102 x8_31 x9_31 x10_2 x11_2 l1_0 l1_1 ((rd_T46 l0 x11_2).f0) ((rd_T46 l0 x11_2).f1) ((rd_T46 l0 x11_2).f2) = some (r1, r2, r3)) ∧ Aside0 (kq ≤ kj20) ∧ Aside0 (Kd.R k46 46 wc w.heap.size (fun k_ => some k_ ≠ (v8 : Value).ownBlock ∧ k_ ≠ gb114) v103 y102) ∧ Aside0 (Kd.R k46 46 wc w.heap.size (fun k_ => some k_ ≠ (v103 : Value).ownBlock ∧ k_ ≠ gb114) v8 x8_31) ∧ Aside0 (Kd.R (Kd.int .i64) 2 wc w.heap.size (fun _ => True) v9 x9_31) ∧ Aside0 (wc.heap[gb101]? = some (.cells #[(.slice A1_0 l1_0.length c1_0), (.slice A1_1 l1_1.length c1_1)] 32 (0, 0))) ∧ Aside0 (wc.heap[gb114]? = some (.cells #[.int .i64 ((rd_T46 l0 x11_2).f0), .int .i64 ((rd_T46 l0 x11_2).f1), .int .i64 ((rd_T46 l0 x11_2).f2)] 46 (0, 0))) ∧ Aside0 (Below w.heap.size w wc))
          case first =>
           have H := HC32.out
           clear HC32
           by_cases c33 : x53_20 = true
           ·subst c33
            have H1 : (if x11_2 > 0 then (if 0 ≤ (wrap64 (x11_2 - 1)) then (if (wrap64 (x11_2 - 1)) < (l0.length : Int) then ((spec_l16Made.f (-1) ((rd_T46 l0 (wrap64 (x11_2 - 1))).f0) ((rd_T46 l0 (wrap64 (x11_2 - 1))).f1) ((rd_T46 l0 (wrap64 (x11_2 - 1))).f2)).bind fun bt117 => (if x8_2.length < 5864062014805 then (spec_Layout.j3 kj20 l0 y102 (x8_2 ++ [(⟨bt117.1, bt117.2.1, bt117.2.2⟩ : S46)]) x9_2 x10_2 x11_2 l1_0 l1_1 ((rd_T46 l0 x11_2).f0) ((rd_T46 l0 x11_2).f1) ((rd_T46 l0 x11_2).f2)) else (none))) else (none)) else (none)) else (spec_Layout.j3 kj20 l0 y102 x8_2 x9_2 x10_2 x11_2 l1_0 l1_1 ((rd_T46 l0 x11_2).f0) ((rd_T46 l0 x11_2).f1) ((rd_T46 l0 x11_2).f2))) = some (r1, r2, r3) := by rw [if_pos rfl] at H; exact H
            clear H
            have H := H1
            clear H1
            have HC34 := Aside0.mk H
            clear H
            go_upto_if 55 with (fail)
            repeat (go_quiet (fail); go_upto_if 55 with (fail))
            go_cut [8] (fun v8 wc => ∃ (kq : Nat) (x8_33 : List (S46)), Aside0 (spec_Layout.j3 kq l0 y102 x8_33 x9_2 x10_2 x11_2 l1_0 l1_1 ((rd_T46 l0 x11_2).f0) ((rd_T46 l0 x11_2).f1) ((rd_T46 l0 x11_2).f2) = some (r1, r2, r3)) ∧ Aside0 (kq ≤ kj20) ∧ Aside0 (Kd.R k46 46 wc w.heap.size (fun k_ => some k_ ≠ (v8 : Value).ownBlock ∧ k_ ≠ gb114) v103 y102) ∧ Aside0 (Kd.R k46 46 wc w.heap.size (fun k_ => some k_ ≠ (v103 : Value).ownBlock ∧ k_ ≠ gb114) v8 x8_33) ∧ Aside0 (Kd.R (Kd.int .i64) 2 wc w.heap.size (fun _ => True) u9 x9_2) ∧ Aside0 (wc.heap[gb101]? = some (.cells #[(.slice A1_0 l1_0.length c1_0), (.slice A1_1 l1_1.length c1_1)] 32 (0, 0))) ∧ Aside0 (wc.heap[gb114]? = some (.cells #[.int .i64 ((rd_T46 l0 x11_2).f0), .int .i64 ((rd_T46 l0 x11_2).f1), .int .i64 ((rd_T46 l0 x11_2).f2)] 46 (0, 0))) ∧ Aside0 (Below w.heap.size w wc))
            case first =>
             have H := HC34.out
             clear HC34
             by_cases c35 : x11_2 > 0
             ·rw [if_pos c35] at H
              have c35b0 : decide (0 < x11_2) = true := decide_eq_true c35
              clear c35
              (first | rw [c35b0] | (simp only [i64_w, i32_w]; rw [c35b0]) | skip)
              obtain ⟨ji36, hji36⟩ : ∃ j_ : Int, (wrap64 (x11_2 - 1)) = j_ := ⟨_, rfl⟩
              replace H : (if 0 ≤ (ji36) then (if (ji36) < (l0.length : Int) then ((spec_l16Made.f (-1) ((rd_T46 l0 (ji36)).f0) ((rd_T46 l0 (ji36)).f1) ((rd_T46 l0 (ji36)).f2)).bind fun bt117 => (if x8_2.length < 5864062014805 then (spec_Layout.j3 kj20 l0 y102 (x8_2 ++ [(⟨bt117.1, bt117.2.1, bt117.2.2⟩ : S46)]) x9_2 x10_2 x11_2 l1_0 l1_1 ((rd_T46 l0 x11_2).f0) ((rd_T46 l0 x11_2).f1) ((rd_T46 l0 x11_2).f2)) else (none))) else (none)) else (none)) = some (r1, r2, r3) := by first | (rw [hji36] at H; exact H) | (simp only [hji36] at H ⊢; exact H)
              have hji36w : (IntKind.i64.wrap (x11_2 - 1)) = ji36 := (i64_w _).trans hji36
              by_cases c37 : 0 ≤ (ji36)
              ·rw [if_pos c37] at H
               have c37b0 : decide (0 ≤ (ji36)) = true := decide_eq_true c37
               clear c37
               by_cases c38 : (ji36) < (l0.length : Int)
               ·rw [if_pos c38] at H
                have c38b0 : decide ((ji36) < (l0.length : Int)) = true := decide_eq_true c38
                clear c38
                replace H := Option.bind_eq_some_iff.mp H
                obtain ⟨⟨t117, t118, t119⟩, A390, H⟩ := H
                replace H : (if x8_2.length < 5864062014805 then (spec_Layout.j3 kj20 l0 y102 (x8_2 ++ [(⟨t117, t118, t119⟩ : S46)]) x9_2 x10_2 x11_2 l1_0 l1_1 ((rd_T46 l0 x11_2).f0) ((rd_T46 l0 x11_2).f1) ((rd_T46 l0 x11_2).f2)) else (none)) = some (r1, r2, r3) := H
                have A39 := Aside0.mk A390
                clear A390
                by_cases c40 : x8_2.length < 5864062014805
                ·rw [if_pos c40] at H
                 have LMc40 := Aside0.mk c40
                 clear c40
                 obtain ⟨y120, hy120⟩ : ∃ y_ : List (S46), y_ = (x8_2 ++ [(⟨t117, t118, t119⟩ : S46)]) := ⟨_, rfl⟩
                 replace H : (spec_Layout.j3 kj20 l0 y102 y120 x9_2 x10_2 x11_2 l1_0 l1_1 ((rd_T46 l0 x11_2).f0) ((rd_T46 l0 x11_2).f1) ((rd_T46 l0 x11_2).f2)) = some (r1, r2, r3) := by first | (rw [hy120]; with_reducible exact H) | (have H2_ := (Option.bind_some _ _).symm.trans H; rw [hy120]; with_reducible exact H2_) | (have H2_ := (Option.bind_some _ _).symm.trans H; with_reducible exact H2_) | with_reducible exact H | (rw [hy120]; exact H) | exact H
                 have Ny120 := Aside0.mk hy120
                 clear hy120
                 have H' := Aside0.mk H
                 clear H
                 have p116 : 0 ≤ ((ji36) : Int) := of_decide_eq_true (by first | (with_reducible assumption) | assumption)
                 have q116 : (ji36) < (l0.length : Int) := of_decide_eq_true (by first | (with_reducible assumption) | assumption)
                 obtain ⟨ad116, e116, hx116_0, hx116_1, hx116_2⟩ := at_T46 HR0.out (ji36) p116 q116
                 obtain rfl : ad113 = ad116 := (by injection e116)
                 replace hx116_0 := (HB.out.cell (World.block_lt_of_cell? w _ hx116_0)).trans hx116_0
                 replace hx116_1 := (HB.out.cell (World.block_lt_of_cell? w _ hx116_1)).trans hx116_1
                 replace hx116_2 := (HB.out.cell (World.block_lt_of_cell? w _ hx116_2)).trans hx116_2
                 replace p116 := eq_true p116
                 replace q116 := eq_true q116
                 go_wp2_with (first | (go_at_call 24; (with_reducible refine (spec_l16Made.calls (-1) ((rd_T46 l0 (ji36)).f0) ((rd_T46 l0 (ji36)).f1) ((rd_T46 l0 (ji36)).f2) t117 t118 t119 _ A39.out).mono ?_); rintro e w41 ⟨rfl, hb⟩; have n0_ := Aside0.mk (Kd.R_below (by (with_reducible repeat (first | apply Kd.R_alloc | apply Kd.R_drewN | apply Kd.R_drew)); exact HO_7.out) hb); have n1_ := Aside0.mk (Kd.R_below (by (with_reducible repeat (first | apply Kd.R_alloc | apply Kd.R_drewN | apply Kd.R_drew)); exact HO_8.out) hb); have n2_ := Aside0.mk (Kd.R_below (by (with_reducible repeat (first | apply Kd.R_alloc | apply Kd.R_drewN | apply Kd.R_drew)); exact HO_9.out) hb); have n3_ := Aside0.mk (blk_below (g := gb101) (o := .cells #[.slice A1_0 l1_0.length c1_0, .slice A1_1 l1_1.length c1_1] 32 (0, 0)) (by (with_reducible repeat (first | refine blk_drewN ?_ _ | refine blk_drew ?_ | refine blk_alloc ?_ _)); exact BK101.out) hb); have n4_ := Aside0.mk (blk_below (g := gb114) (o := .cells #[.int .i64 ((rd_T46 l0 x11_2).f0), .int .i64 ((rd_T46 l0 x11_2).f1), .int .i64 ((rd_T46 l0 x11_2).f2)] 46 (0, 0)) (by (with_reducible repeat (first | refine blk_drewN ?_ _ | refine blk_drew ?_ | refine blk_alloc ?_ _)); exact BK114.out) hb); have n5_ := Aside0.mk (below_step (by repeat (first | (with_reducible first | exact HB.out | apply below_alloc | apply pw_below_drewN | apply below_drew1 | refine below_set ?_ GE101.out | refine below_set ?_ GE114.out) | exact HB.out)) hb); clear HO_7; clear HO_8; clear HO_9; clear BK101; clear BK114; clear HB; have HO_7 := n0_; have HO_8 := n1_; have HO_9 := n2_; have BK101 := n3_; have BK114 := n4_; have HB := n5_; clear n0_ n1_ n2_ n3_ n4_ n5_; (try clear hb); (try clear hb2); (try clear hk); (try clear hi)) | ((with_reducible refine gate_builtin (b := .append) (xs := #[.tmp 56, .tmp 63]) rfl ?_); at_builtin; refine Kd.R_append k46 (w0 := w) w.heap.size rfl (.tmp 56) (.tmp 63) 28 46 (.agg #[(.int .i64 0), (.int .i64 0), (.int .i64 0)]) 24 rfl Try.underlying28 info46 rfl (by decide) (by omega) u8 x8_2 (⟨t117, t118, t119⟩ : S46) [.int .i64 t117, .int .i64 t118, .int .i64 t119] (fun k_ => some k_ ≠ (v103 : Value).ownBlock ∧ k_ ≠ gb114) (fun _ => False) rfl rfl ?aP (fun _ hk => hk.elim) ?aF ?aO ?aB ?aS ?aL ?_; (case aP => exact k46_mkM _ _ _ (⟨t117, t118, t119⟩ : S46)); (case aB => exact (by repeat (first | (with_reducible first | exact HB.out | apply below_alloc | apply pw_below_drewN | apply below_drew1 | refine below_set ?_ GE101.out | refine below_set ?_ GE114.out) | exact HB.out))); (case aF => exact (fun k_ hk => ⟨Kd.fresh' (Kd.R_lt (by (with_reducible repeat (first | apply Kd.R_alloc | apply Kd.R_drewN | apply Kd.R_drew)); exact HO_7.out)) k_ hk, Kd.freshB (g := gb114) (o := .cells #[.int .i64 ((rd_T46 l0 x11_2).f0), .int .i64 ((rd_T46 l0 x11_2).f1), .int .i64 ((rd_T46 l0 x11_2).f2)] 46 (0, 0)) (by (with_reducible repeat (first | refine blk_drewN ?_ _ | refine blk_drew ?_ | refine blk_alloc ?_ _)); exact BK114.out) k_ hk⟩)); (case aO => exact (by (with_reducible repeat (first | apply Kd.R_alloc | apply Kd.R_drewN | apply Kd.R_drew)); exact HO_8.out)); (case aS => exact (below_size (by repeat (first | (with_reducible first | exact HB.out | apply below_alloc | apply pw_below_drewN | apply below_drew1 | refine below_set ?_ GE101.out | refine below_set ?_ GE114.out) | exact HB.out)))); (case aL => have := LMc40.out; omega); intro v121 w42 ho hb hg hat; rw [← Ny120.out] at ho; have n0_ := Aside0.mk (Kd.R_after (ok := (fun k_ => k_ ≠ gb114)) (by (with_reducible repeat (first | apply Kd.R_alloc | apply Kd.R_drewN | apply Kd.R_drew)); exact Kd.R_mono HO_7.out (fun _ hk => ⟨hk.2, hk.1⟩)) hg hat); have n1_ := Aside0.mk (Kd.R_over' (by (with_reducible repeat (first | apply Kd.R_alloc | apply Kd.R_drewN | apply Kd.R_drew)); exact HO_9.out) (Kd.R_typed (by (with_reducible repeat (first | apply Kd.R_alloc | apply Kd.R_drewN | apply Kd.R_drew)); exact HO_8.out)) (by decide) hg); have n2_ := Aside0.mk (blk_grown (g := gb101) (o := .cells #[.slice A1_0 l1_0.length c1_0, .slice A1_1 l1_1.length c1_1] 32 (0, 0)) (by (with_reducible repeat (first | refine blk_drewN ?_ _ | refine blk_drew ?_ | refine blk_alloc ?_ _)); exact BK101.out) hg (Kd.R_ne HO_8.out BK101.out (by decide))); have n3_ := Aside0.mk (blk_grown (g := gb114) (o := .cells #[.int .i64 ((rd_T46 l0 x11_2).f0), .int .i64 ((rd_T46 l0 x11_2).f1), .int .i64 ((rd_T46 l0 x11_2).f2)] 46 (0, 0)) (by (with_reducible repeat (first | refine blk_drewN ?_ _ | refine blk_drew ?_ | refine blk_alloc ?_ _)); exact BK114.out) hg (Kd.R_away HO_8.out (fun _ hk => hk.2))); have n4_ := Aside0.mk (hb); have n5_ := Aside0.mk (ho); clear HO_7; clear HO_9; clear BK101; clear BK114; clear HB; clear HO_8; have HO_7 := n0_; have HO_9 := n1_; have BK101 := n2_; have BK114 := n3_; have HB := n4_; have HO122 := n5_; clear n0_ n1_ n2_ n3_ n4_ n5_; clear ho hb hg hat))
                 repeat (go_quiet (fail); try go_wp2_with (fail))
                 go_meet
                 case rel => exact ⟨_, (y120), H', ⟨by have := HJ2.out; have := HK2.out; have := HJ20.out; first | omega | exact Nat.le_refl _⟩, ⟨by (with_reducible repeat (first | apply Kd.R_alloc | apply Kd.R_drewN | apply Kd.R_drew)); exact Kd.R_mono HO_7.out (fun _ hk => ⟨hk.2, hk.1⟩)⟩, ⟨by (with_reducible repeat (first | apply Kd.R_alloc | apply Kd.R_drewN | apply Kd.R_drew)); exact HO122.out⟩, ⟨by (with_reducible repeat (first | apply Kd.R_alloc | apply Kd.R_drewN | apply Kd.R_drew)); exact HO_9.out⟩, ⟨by (with_reducible repeat (first | refine blk_drewN ?_ _ | refine blk_drew ?_ | refine blk_alloc ?_ _)); exact BK101.out⟩, ⟨by (with_reducible repeat (first | refine blk_drewN ?_ _ | refine blk_drew ?_ | refine blk_alloc ?_ _)); exact BK114.out⟩, ⟨by repeat (first | (with_reducible first | exact HB.out | apply below_alloc | apply pw_below_drewN | apply below_drew1 | refine below_set ?_ GE101.out | refine below_set ?_ GE114.out) | exact HB.out)⟩⟩
                ·rw [if_neg c40] at H
                 exact absurd H (by simp)
               ·rw [if_neg c38] at H
                exact absurd H (by simp)
              ·rw [if_neg c37] at H
               exact absurd H (by simp)
             ·rw [if_neg c35] at H
              have c35b0 : decide (0 < x11_2) = false := decide_eq_false c35
              clear c35
              (first | rw [c35b0] | (simp only [i64_w, i32_w]; rw [c35b0]) | skip)
              have H' := Aside0.mk H
              clear H
              go_wp2
              repeat (go_quiet (fail); try go_wp2)
              go_meet
              case rel => exact ⟨_, (x8_2), H', ⟨by have := HJ2.out; have := HK2.out; have := HJ20.out; first | omega | exact Nat.le_refl _⟩, ⟨by (with_reducible repeat (first | apply Kd.R_alloc | apply Kd.R_drewN | apply Kd.R_drew)); exact HO_7.out⟩, ⟨by (with_reducible repeat (first | apply Kd.R_alloc | apply Kd.R_drewN | apply Kd.R_drew)); exact HO_8.out⟩, ⟨by (with_reducible repeat (first | apply Kd.R_alloc | apply Kd.R_drewN | apply Kd.R_drew)); exact HO_9.out⟩, ⟨by (with_reducible repeat (first | refine blk_drewN ?_ _ | refine blk_drew ?_ | refine blk_alloc ?_ _)); exact BK101.out⟩, ⟨by (with_reducible repeat (first | refine blk_drewN ?_ _ | refine blk_drew ?_ | refine blk_alloc ?_ _)); exact BK114.out⟩, ⟨by repeat (first | (with_reducible first | exact HB.out | apply below_alloc | apply pw_below_drewN | apply below_drew1 | refine below_set ?_ GE101.out | refine below_set ?_ GE114.out) | exact HB.out)⟩⟩
            case rest =>
             clear HC34
             try clear c1
             try clear p1
             try clear q1
             try clear hx1
             try clear c2
             try clear p2
             try clear c3
             try clear c4
             try clear p6
             try clear c7
             try clear c8
             try clear p11
             try clear q11
             try clear hx11
             try clear c14
             try clear c19
             try clear c19b0
             try clear c20
             try clear c20b0
             try clear c23
             try clear c25
             try clear c25b0
             try clear c25b1
             try clear c26
             try clear c26b0
             try clear c26b1
             try clear c28
             try clear c28b0
             try clear c29
             try clear c29b0
             try clear c30
             try clear c33
             try clear c35
             try clear c35b0
             try clear c37
             try clear c37b0
             try clear c38
             try clear c38b0
             try clear c40
             try clear hcz11_0
             try clear hcz11_1
             try clear hcz24_0
             try clear hcz24_1
             try clear hcz24_2
             try clear hcz31_0
             try clear hcz31_1
             try clear hcz31_2
             try clear hfz11_0
             try clear hfz11_1
             try clear hfz24_0
             try clear hfz24_1
             try clear hfz24_2
             try clear hfz31_0
             try clear hfz31_1
             try clear hfz31_2
             try clear hx113_0
             try clear hx113_1
             try clear hx113_2
             try clear hx115_0
             try clear hx115_1
             try clear hx115_2
             try clear hx116_0
             try clear hx116_1
             try clear hx116_2
             try clear p1
             try clear p11
             try clear p113
             try clear p115
             try clear p116
             try clear p2
             try clear p6
             try clear q1
             try clear q11
             try clear q113
             try clear q115
             try clear q116
             obtain ⟨kq, x8_33, HA, HJ33, HO_7, HO_8, HO_9, BK101, BK114, HB⟩ := hcut
             cases kq with
             | zero => exact absurd HA.out (by simp [spec_Layout.j3])
             | succ kj33 =>
              have H := HA.out
              clear HA
              simp only [spec_Layout.j3] at H
              obtain ⟨ji43, hji43⟩ : ∃ j_ : Int, (wrap64 ((x9_2.length : Int) - 1)) = j_ := ⟨_, rfl⟩
              replace H : (if 0 ≤ (ji43) then (if (ji43) < (x9_2.length : Int) then (if ((rd_T46 l0 x11_2).f2) > (rd x9_2 (ji43)) then (if x9_2.length < 17592186044416 then ((spec_l16Made.f (-2) ((rd_T46 l0 x11_2).f0) ((rd_T46 l0 x11_2).f1) ((rd_T46 l0 x11_2).f2)).bind fun bt127 => (if x8_33.length < 5864062014805 then (spec_Layout.j4 kj33 l0 y102 (x8_33 ++ [(⟨bt127.1, bt127.2.1, bt127.2.2⟩ : S46)]) (x9_2 ++ [((rd_T46 l0 x11_2).f2)]) x10_2 x11_2 l1_0 l1_1 ((rd_T46 l0 x11_2).f0) ((rd_T46 l0 x11_2).f1) ((rd_T46 l0 x11_2).f2)) else (none))) else (none)) else (spec_Layout.j4 kj33 l0 y102 x8_33 x9_2 x10_2 x11_2 l1_0 l1_1 ((rd_T46 l0 x11_2).f0) ((rd_T46 l0 x11_2).f1) ((rd_T46 l0 x11_2).f2))) else (none)) else (none)) = some (r1, r2, r3) := by first | (rw [hji43] at H; exact H) | (simp only [hji43] at H ⊢; exact H)
              have hji43w : (IntKind.i64.wrap ((x9_2.length : Int) - 1)) = ji43 := (i64_w _).trans hji43
              by_cases c44 : 0 ≤ (ji43)
              ·rw [if_pos c44] at H
               have c44b0 : decide (0 ≤ (ji43)) = true := decide_eq_true c44
               clear c44
               by_cases c45 : (ji43) < (x9_2.length : Int)
               ·rw [if_pos c45] at H
                have c45b0 : decide ((ji43) < (x9_2.length : Int)) = true := decide_eq_true c45
                clear c45
                have HC46 := Aside0.mk H
                clear H
                have hnb47 := NB114_101.out
                have hnc47 := NB101_114.out
                have hcz48_0 : wc.cell? ⟨gb114, 0, none⟩ = some (.int .i64 ((rd_T46 l0 x11_2).f0)) := (blk_cell BK114.out 0).trans rfl
                have hcz48_1 : wc.cell? ⟨gb114, 1, none⟩ = some (.int .i64 ((rd_T46 l0 x11_2).f1)) := (blk_cell BK114.out 1).trans rfl
                have hcz48_2 : wc.cell? ⟨gb114, 2, none⟩ = some (.int .i64 ((rd_T46 l0 x11_2).f2)) := (blk_cell BK114.out 2).trans rfl
                have hfz48_0 := blk_frozen BK114.out 0
                have hfz48_1 := blk_frozen BK114.out 1
                have hfz48_2 := blk_frozen BK114.out 2
                obtain ⟨Ao49, co49, eo49⟩ := Kd.R_slice HO_9.out
                subst eo49
                have p123 : 0 ≤ ((ji43) : Int) := of_decide_eq_true (by first | (with_reducible assumption) | assumption)
                have q123 : (ji43) < (x9_2.length : Int) := of_decide_eq_true (by first | (with_reducible assumption) | assumption)
                obtain ⟨ad123, e123, hx123_0⟩ := Kd.at_int (Kd.R_reads' HO_9.out).2.2 (ji43) p123 q123
                cases e123
                replace p123 := eq_true p123
                replace q123 := eq_true q123
                go_upto_if 73 with (fail)
                repeat (go_quiet (fail); go_upto_if 73 with (fail))
                go_cut [8, 9] (fun v8 v9 wc => ∃ (kq : Nat) (x8_45 : List (S46)) (x9_45 : List Int), Aside0 (spec_Layout.j4 kq l0 y102 x8_45 x9_45 x10_2 x11_2 l1_0 l1_1 ((rd_T46 l0 x11_2).f0) ((rd_T46 l0 x11_2).f1) ((rd_T46 l0 x11_2).f2) = some (r1, r2, r3)) ∧ Aside0 (kq ≤ kj33) ∧ Aside0 (Kd.R k46 46 wc w.heap.size (fun k_ => some k_ ≠ (v8 : Value).ownBlock ∧ k_ ≠ gb114) v103 y102) ∧ Aside0 (Kd.R k46 46 wc w.heap.size (fun k_ => some k_ ≠ (v103 : Value).ownBlock ∧ k_ ≠ gb114) v8 x8_45) ∧ Aside0 (Kd.R (Kd.int .i64) 2 wc w.heap.size (fun _ => True) v9 x9_45) ∧ Aside0 (wc.heap[gb101]? = some (.cells #[(.slice A1_0 l1_0.length c1_0), (.slice A1_1 l1_1.length c1_1)] 32 (0, 0))) ∧ Aside0 (wc.heap[gb114]? = some (.cells #[.int .i64 ((rd_T46 l0 x11_2).f0), .int .i64 ((rd_T46 l0 x11_2).f1), .int .i64 ((rd_T46 l0 x11_2).f2)] 46 (0, 0))) ∧ Aside0 (Below w.heap.size w wc))
                case first =>
                 have H := HC46.out
                 clear HC46
                 by_cases c50 : ((rd_T46 l0 x11_2).f2) > (rd x9_2 (ji43))
                 ·rw [if_pos c50] at H
                  have c50b0 : decide ((rd x9_2 (ji43)) < ((rd_T46 l0 x11_2).f2)) = true := decide_eq_true c50
                  clear c50
                  (first | rw [c50b0] | (simp only [i64_w, i32_w]; rw [c50b0]) | skip)
                  by_cases c51 : x9_2.length < 17592186044416
                  ·rw [if_pos c51] at H
                   have LMc51 := Aside0.mk c51
                   clear c51
                   obtain ⟨y124, hy124⟩ : ∃ y_ : List Int, y_ = (x9_2 ++ [((rd_T46 l0 x11_2).f2)]) := ⟨_, rfl⟩
                   replace H : ((spec_l16Made.f (-2) ((rd_T46 l0 x11_2).f0) ((rd_T46 l0 x11_2).f1) ((rd_T46 l0 x11_2).f2)).bind fun bt127 => (if x8_33.length < 5864062014805 then (spec_Layout.j4 kj33 l0 y102 (x8_33 ++ [(⟨bt127.1, bt127.2.1, bt127.2.2⟩ : S46)]) y124 x10_2 x11_2 l1_0 l1_1 ((rd_T46 l0 x11_2).f0) ((rd_T46 l0 x11_2).f1) ((rd_T46 l0 x11_2).f2)) else (none))) = some (r1, r2, r3) := by first | (rw [hy124]; with_reducible exact H) | (have H2_ := (Option.bind_some _ _).symm.trans H; rw [hy124]; with_reducible exact H2_) | (have H2_ := (Option.bind_some _ _).symm.trans H; with_reducible exact H2_) | with_reducible exact H | (rw [hy124]; exact H) | exact H
                   have Ny124 := Aside0.mk hy124
                   clear hy124
                   replace H := Option.bind_eq_some_iff.mp H
                   obtain ⟨⟨t127, t128, t129⟩, A520, H⟩ := H
                   replace H : (if x8_33.length < 5864062014805 then (spec_Layout.j4 kj33 l0 y102 (x8_33 ++ [(⟨t127, t128, t129⟩ : S46)]) y124 x10_2 x11_2 l1_0 l1_1 ((rd_T46 l0 x11_2).f0) ((rd_T46 l0 x11_2).f1) ((rd_T46 l0 x11_2).f2)) else (none)) = some (r1, r2, r3) := H
                   have A52 := Aside0.mk A520
                   clear A520
                   by_cases c53 : x8_33.length < 5864062014805
                   ·rw [if_pos c53] at H
                    have LMc53 := Aside0.mk c53
                    clear c53
                    obtain ⟨y130, hy130⟩ : ∃ y_ : List (S46), y_ = (x8_33 ++ [(⟨t127, t128, t129⟩ : S46)]) := ⟨_, rfl⟩
                    replace H : (spec_Layout.j4 kj33 l0 y102 y130 y124 x10_2 x11_2 l1_0 l1_1 ((rd_T46 l0 x11_2).f0) ((rd_T46 l0 x11_2).f1) ((rd_T46 l0 x11_2).f2)) = some (r1, r2, r3) := by first | (rw [hy130]; with_reducible exact H) | (have H2_ := (Option.bind_some _ _).symm.trans H; rw [hy130]; with_reducible exact H2_) | (have H2_ := (Option.bind_some _ _).symm.trans H; with_reducible exact H2_) | with_reducible exact H | (rw [hy130]; exact H) | exact H
                    have Ny130 := Aside0.mk hy130
                    clear hy130
                    have H' := Aside0.mk H
                    clear H
                    have hnb54 := NB114_101.out
                    have hnc54 := NB101_114.out
                    have hcz55_0 : wc.cell? ⟨gb114, 0, none⟩ = some (.int .i64 ((rd_T46 l0 x11_2).f0)) := (blk_cell BK114.out 0).trans rfl
                    have hcz55_1 : wc.cell? ⟨gb114, 1, none⟩ = some (.int .i64 ((rd_T46 l0 x11_2).f1)) := (blk_cell BK114.out 1).trans rfl
                    have hcz55_2 : wc.cell? ⟨gb114, 2, none⟩ = some (.int .i64 ((rd_T46 l0 x11_2).f2)) := (blk_cell BK114.out 2).trans rfl
                    have hfz55_0 := blk_frozen BK114.out 0
                    have hfz55_1 := blk_frozen BK114.out 1
                    have hfz55_2 := blk_frozen BK114.out 2
                    go_wp2_with (first | ((with_reducible refine gate_builtin (b := .append) (xs := #[.tmp 74, .tmp 77]) rfl ?_); at_builtin; refine Kd.R_append (Kd.int .i64) (w0 := w) w.heap.size rfl (.tmp 74) (.tmp 77) 23 2 (.int .i64 0) 8 rfl Try.underlying23 info2 rfl (by decide) (by omega) (.slice (some ad123) x9_2.length co49) x9_2 ((rd_T46 l0 x11_2).f2) [.int .i64 ((rd_T46 l0 x11_2).f2)] (fun _ => True) (fun _ => False) rfl rfl ?aP (fun _ hk => hk.elim) ?aF ?aO ?aB ?aS ?aL ?_; (case aP => exact rfl); (case aB => exact (by repeat (first | (with_reducible first | exact HB.out | apply below_alloc | apply pw_below_drewN | apply below_drew1 | refine below_set ?_ GE101.out | refine below_set ?_ GE114.out) | exact HB.out))); (case aF => exact (fun _ _ => trivial)); (case aO => exact (by (with_reducible repeat (first | apply Kd.R_alloc | apply Kd.R_drewN | apply Kd.R_drew)); exact HO_9.out)); (case aS => exact (below_size (by repeat (first | (with_reducible first | exact HB.out | apply below_alloc | apply pw_below_drewN | apply below_drew1 | refine below_set ?_ GE101.out | refine below_set ?_ GE114.out) | exact HB.out)))); (case aL => have := LMc51.out; omega); intro v125 w56 ho hb hg hat; rw [← Ny124.out] at ho; have n0_ := Aside0.mk (Kd.R_over' (by (with_reducible repeat (first | apply Kd.R_alloc | apply Kd.R_drewN | apply Kd.R_drew)); exact HO_7.out) (Kd.R_typed (by (with_reducible repeat (first | apply Kd.R_alloc | apply Kd.R_drewN | apply Kd.R_drew)); exact HO_9.out)) (by decide) hg); have n1_ := Aside0.mk (Kd.R_over' (by (with_reducible repeat (first | apply Kd.R_alloc | apply Kd.R_drewN | apply Kd.R_drew)); exact HO_8.out) (Kd.R_typed (by (with_reducible repeat (first | apply Kd.R_alloc | apply Kd.R_drewN | apply Kd.R_drew)); exact HO_9.out)) (by decide) hg); have n2_ := Aside0.mk (blk_grown (g := gb101) (o := .cells #[.slice A1_0 l1_0.length c1_0, .slice A1_1 l1_1.length c1_1] 32 (0, 0)) (by (with_reducible repeat (first | refine blk_drewN ?_ _ | refine blk_drew ?_ | refine blk_alloc ?_ _)); exact BK101.out) hg (Kd.R_ne HO_9.out BK101.out (by decide))); have n3_ := Aside0.mk (blk_grown (g := gb114) (o := .cells #[.int .i64 ((rd_T46 l0 x11_2).f0), .int .i64 ((rd_T46 l0 x11_2).f1), .int .i64 ((rd_T46 l0 x11_2).f2)] 46 (0, 0)) (by (with_reducible repeat (first | refine blk_drewN ?_ _ | refine blk_drew ?_ | refine blk_alloc ?_ _)); exact BK114.out) hg (Kd.R_ne HO_9.out BK114.out (by decide))); have n4_ := Aside0.mk (hb); have n5_ := Aside0.mk (ho); clear HO_7; clear HO_8; clear BK101; clear BK114; clear HB; clear HO_9; have HO_7 := n0_; have HO_8 := n1_; have BK101 := n2_; have BK114 := n3_; have HB := n4_; have HO126 := n5_; clear n0_ n1_ n2_ n3_ n4_ n5_; clear ho hb hg hat; have hcz57_0 : w56.cell? ⟨gb114, 0, none⟩ = some (.int .i64 ((rd_T46 l0 x11_2).f0)) := (blk_cell BK114.out 0).trans rfl; have hcz57_1 : w56.cell? ⟨gb114, 1, none⟩ = some (.int .i64 ((rd_T46 l0 x11_2).f1)) := (blk_cell BK114.out 1).trans rfl; have hcz57_2 : w56.cell? ⟨gb114, 2, none⟩ = some (.int .i64 ((rd_T46 l0 x11_2).f2)) := (blk_cell BK114.out 2).trans rfl; have hfz57_0 := blk_frozen BK114.out 0; have hfz57_1 := blk_frozen BK114.out 1; have hfz57_2 := blk_frozen BK114.out 2) | (go_at_call 24; (with_reducible refine (spec_l16Made.calls (-2) ((rd_T46 l0 x11_2).f0) ((rd_T46 l0 x11_2).f1) ((rd_T46 l0 x11_2).f2) t127 t128 t129 _ A52.out).mono ?_); rintro e w58 ⟨rfl, hb⟩; have n0_ := Aside0.mk (Kd.R_below (by (with_reducible repeat (first | apply Kd.R_alloc | apply Kd.R_drewN | apply Kd.R_drew)); exact HO_7.out) hb); have n1_ := Aside0.mk (Kd.R_below (by (with_reducible repeat (first | apply Kd.R_alloc | apply Kd.R_drewN | apply Kd.R_drew)); exact HO_8.out) hb); have n2_ := Aside0.mk (Kd.R_below (by (with_reducible repeat (first | apply Kd.R_alloc | apply Kd.R_drewN | apply Kd.R_drew)); exact HO126.out) hb); have n3_ := Aside0.mk (blk_below (g := gb101) (o := .cells #[.slice A1_0 l1_0.length c1_0, .slice A1_1 l1_1.length c1_1] 32 (0, 0)) (by (with_reducible repeat (first | refine blk_drewN ?_ _ | refine blk_drew ?_ | refine blk_alloc ?_ _)); exact BK101.out) hb); have n4_ := Aside0.mk (blk_below (g := gb114) (o := .cells #[.int .i64 ((rd_T46 l0 x11_2).f0), .int .i64 ((rd_T46 l0 x11_2).f1), .int .i64 ((rd_T46 l0 x11_2).f2)] 46 (0, 0)) (by (with_reducible repeat (first | refine blk_drewN ?_ _ | refine blk_drew ?_ | refine blk_alloc ?_ _)); exact BK114.out) hb); have n5_ := Aside0.mk (below_step (by repeat (first | (with_reducible first | exact HB.out | apply below_alloc | apply pw_below_drewN | apply below_drew1 | refine below_set ?_ GE101.out | refine below_set ?_ GE114.out) | exact HB.out)) hb); clear HO_7; clear HO_8; clear HO126; clear BK101; clear BK114; clear HB; have HO_7 := n0_; have HO_8 := n1_; have HO126 := n2_; have BK101 := n3_; have BK114 := n4_; have HB := n5_; clear n0_ n1_ n2_ n3_ n4_ n5_; (try clear hb); (try clear hb2); (try clear hk); (try clear hi)) | ((with_reducible refine gate_builtin (b := .append) (xs := #[.tmp 79, .tmp 82]) rfl ?_); at_builtin; refine Kd.R_append k46 (w0 := w) w.heap.size rfl (.tmp 79) (.tmp 82) 28 46 (.agg #[(.int .i64 0), (.int .i64 0), (.int .i64 0)]) 24 rfl Try.underlying28 info46 rfl (by decide) (by omega) u8 x8_33 (⟨t127, t128, t129⟩ : S46) [.int .i64 t127, .int .i64 t128, .int .i64 t129] (fun k_ => some k_ ≠ (v103 : Value).ownBlock ∧ k_ ≠ gb114) (fun _ => False) rfl rfl ?aP (fun _ hk => hk.elim) ?aF ?aO ?aB ?aS ?aL ?_; (case aP => exact k46_mkM _ _ _ (⟨t127, t128, t129⟩ : S46)); (case aB => exact (by repeat (first | (with_reducible first | exact HB.out | apply below_alloc | apply pw_below_drewN | apply below_drew1 | refine below_set ?_ GE101.out | refine below_set ?_ GE114.out) | exact HB.out))); (case aF => exact (fun k_ hk => ⟨Kd.fresh' (Kd.R_lt (by (with_reducible repeat (first | apply Kd.R_alloc | apply Kd.R_drewN | apply Kd.R_drew)); exact HO_7.out)) k_ hk, Kd.freshB (g := gb114) (o := .cells #[.int .i64 ((rd_T46 l0 x11_2).f0), .int .i64 ((rd_T46 l0 x11_2).f1), .int .i64 ((rd_T46 l0 x11_2).f2)] 46 (0, 0)) (by (with_reducible repeat (first | refine blk_drewN ?_ _ | refine blk_drew ?_ | refine blk_alloc ?_ _)); exact BK114.out) k_ hk⟩)); (case aO => exact (by (with_reducible repeat (first | apply Kd.R_alloc | apply Kd.R_drewN | apply Kd.R_drew)); exact HO_8.out)); (case aS => exact (below_size (by repeat (first | (with_reducible first | exact HB.out | apply below_alloc | apply pw_below_drewN | apply below_drew1 | refine below_set ?_ GE101.out | refine below_set ?_ GE114.out) | exact HB.out)))); (case aL => have := LMc53.out; omega); intro v131 w59 ho hb hg hat; rw [← Ny130.out] at ho; have n0_ := Aside0.mk (Kd.R_after (ok := (fun k_ => k_ ≠ gb114)) (by (with_reducible repeat (first | apply Kd.R_alloc | apply Kd.R_drewN | apply Kd.R_drew)); exact Kd.R_mono HO_7.out (fun _ hk => ⟨hk.2, hk.1⟩)) hg hat); have n1_ := Aside0.mk (blk_grown (g := gb101) (o := .cells #[.slice A1_0 l1_0.length c1_0, .slice A1_1 l1_1.length c1_1] 32 (0, 0)) (by (with_reducible repeat (first | refine blk_drewN ?_ _ | refine blk_drew ?_ | refine blk_alloc ?_ _)); exact BK101.out) hg (Kd.R_ne HO_8.out BK101.out (by decide))); have n2_ := Aside0.mk (blk_grown (g := gb114) (o := .cells #[.int .i64 ((rd_T46 l0 x11_2).f0), .int .i64 ((rd_T46 l0 x11_2).f1), .int .i64 ((rd_T46 l0 x11_2).f2)] 46 (0, 0)) (by (with_reducible repeat (first | refine blk_drewN ?_ _ | refine blk_drew ?_ | refine blk_alloc ?_ _)); exact BK114.out) hg (Kd.R_away HO_8.out (fun _ hk => hk.2))); have n3_ := Aside0.mk (Kd.R_over' (by (with_reducible repeat (first | apply Kd.R_alloc | apply Kd.R_drewN | apply Kd.R_drew)); exact HO126.out) (Kd.R_typed (by (with_reducible repeat (first | apply Kd.R_alloc | apply Kd.R_drewN | apply Kd.R_drew)); exact HO_8.out)) (by decide) hg); have n4_ := Aside0.mk (hb); have n5_ := Aside0.mk (ho); clear HO_7; clear BK101; clear BK114; clear HO126; clear HB; clear HO_8; have HO_7 := n0_; have BK101 := n1_; have BK114 := n2_; have HO126 := n3_; have HB := n4_; have HO132 := n5_; clear n0_ n1_ n2_ n3_ n4_ n5_; clear ho hb hg hat))
                    repeat (go_quiet (fail); try go_wp2_with (fail))
                    go_meet
                    case rel => exact ⟨_, (y130), (y124), H', ⟨by have := HJ2.out; have := HK2.out; have := HJ20.out; have := HJ33.out; first | omega | exact Nat.le_refl _⟩, ⟨by (with_reducible repeat (first | apply Kd.R_alloc | apply Kd.R_drewN | apply Kd.R_drew)); exact Kd.R_mono HO_7.out (fun _ hk => ⟨hk.2, hk.1⟩)⟩, ⟨by (with_reducible repeat (first | apply Kd.R_alloc | apply Kd.R_drewN | apply Kd.R_drew)); exact HO132.out⟩, ⟨by (with_reducible repeat (first | apply Kd.R_alloc | apply Kd.R_drewN | apply Kd.R_drew)); exact HO126.out⟩, ⟨by (with_reducible repeat (first | refine blk_drewN ?_ _ | refine blk_drew ?_ | refine blk_alloc ?_ _)); exact BK101.out⟩, ⟨by (with_reducible repeat (first | refine blk_drewN ?_ _ | refine blk_drew ?_ | refine blk_alloc ?_ _)); exact BK114.out⟩, ⟨by repeat (first | (with_reducible first | exact HB.out | apply below_alloc | apply pw_below_drewN | apply below_drew1 | refine below_set ?_ GE101.out | refine below_set ?_ GE114.out) | exact HB.out)⟩⟩
                   ·rw [if_neg c53] at H
                    exact absurd H (by simp)
                  ·rw [if_neg c51] at H
                   exact absurd H (by simp)
                 ·rw [if_neg c50] at H
                  have c50b0 : decide ((rd x9_2 (ji43)) < ((rd_T46 l0 x11_2).f2)) = false := decide_eq_false c50
                  clear c50
                  (first | rw [c50b0] | (simp only [i64_w, i32_w]; rw [c50b0]) | skip)
                  have H' := Aside0.mk H
                  clear H
                  go_wp2
                  repeat (go_quiet (fail); try go_wp2)
                  go_meet
                  case rel => exact ⟨_, (x8_33), (x9_2), H', ⟨by have := HJ2.out; have := HK2.out; have := HJ20.out; have := HJ33.out; first | omega | exact Nat.le_refl _⟩, ⟨by (with_reducible repeat (first | apply Kd.R_alloc | apply Kd.R_drewN | apply Kd.R_drew)); exact HO_7.out⟩, ⟨by (with_reducible repeat (first | apply Kd.R_alloc | apply Kd.R_drewN | apply Kd.R_drew)); exact HO_8.out⟩, ⟨by (with_reducible repeat (first | apply Kd.R_alloc | apply Kd.R_drewN | apply Kd.R_drew)); exact HO_9.out⟩, ⟨by (with_reducible repeat (first | refine blk_drewN ?_ _ | refine blk_drew ?_ | refine blk_alloc ?_ _)); exact BK101.out⟩, ⟨by (with_reducible repeat (first | refine blk_drewN ?_ _ | refine blk_drew ?_ | refine blk_alloc ?_ _)); exact BK114.out⟩, ⟨by repeat (first | (with_reducible first | exact HB.out | apply below_alloc | apply pw_below_drewN | apply below_drew1 | refine below_set ?_ GE101.out | refine below_set ?_ GE114.out) | exact HB.out)⟩⟩
                case rest =>
                 clear HC46
                 try clear c1
                 try clear p1
                 try clear q1
                 try clear hx1
                 try clear c2
                 try clear p2
                 try clear c3
                 try clear c4
                 try clear c5
                 try clear p6
                 try clear c7
                 try clear c8
                 try clear p11
                 try clear q11
                 try clear hx11
                 try clear p12
                 try clear q12
                 try clear hx12
                 try clear c14
                 try clear c19
                 try clear c19b0
                 try clear c20
                 try clear c20b0
                 try clear c23
                 try clear c25
                 try clear c25b0
                 try clear c25b1
                 try clear c26
                 try clear c26b0
                 try clear c26b1
                 try clear c28
                 try clear c28b0
                 try clear c29
                 try clear c29b0
                 try clear c30
                 try clear c33
                 try clear c35
                 try clear c35b0
                 try clear c37
                 try clear c37b0
                 try clear c38
                 try clear c38b0
                 try clear c40
                 try clear c44
                 try clear c44b0
                 try clear c45
                 try clear c45b0
                 try clear c47
                 try clear c50
                 try clear c50b0
                 try clear c51
                 try clear c53
                 try clear c54
                 try clear hcz11_0
                 try clear hcz11_1
                 try clear hcz24_0
                 try clear hcz24_1
                 try clear hcz24_2
                 try clear hcz31_0
                 try clear hcz31_1
                 try clear hcz31_2
                 try clear hcz48_0
                 try clear hcz48_1
                 try clear hcz48_2
                 try clear hcz55_0
                 try clear hcz55_1
                 try clear hcz55_2
                 try clear hcz57_0
                 try clear hcz57_1
                 try clear hcz57_2
                 try clear hfz11_0
                 try clear hfz11_1
                 try clear hfz24_0
                 try clear hfz24_1
                 try clear hfz24_2
                 try clear hfz31_0
                 try clear hfz31_1
                 try clear hfz31_2
                 try clear hfz48_0
                 try clear hfz48_1
                 try clear hfz48_2
                 try clear hfz55_0
                 try clear hfz55_1
                 try clear hfz55_2
                 try clear hfz57_0
                 try clear hfz57_1
                 try clear hfz57_2
                 try clear hx113_0
                 try clear hx113_1
                 try clear hx113_2
                 try clear hx115_0
                 try clear hx115_1
                 try clear hx115_2
                 try clear hx116_0
                 try clear hx116_1
                 try clear hx116_2
                 try clear hx123_0
                 try clear p1
                 try clear p11
                 try clear p113
                 try clear p115
                 try clear p116
                 try clear p123
                 try clear p2
                 try clear p6
                 try clear q1
                 try clear q11
                 try clear q113
                 try clear q115
                 try clear q116
                 try clear q123
                 obtain ⟨kq, x8_45, x9_45, HA, HJ45, HO_7, HO_8, HO_9, BK101, BK114, HB⟩ := hcut
                 cases kq with
                 | zero => exact absurd HA.out (by simp [spec_Layout.j4])
                 | succ kj45 =>
                  have H := HA.out
                  clear HA
                  simp only [spec_Layout.j4] at H
                  have H' := Aside0.mk H
                  clear H
                  go_wp2
                  repeat (go_quiet (fail); try go_wp2)
                  go_loopg [8, 9] kj45 (fun kq v8 v9 w' => ∃ (x8_6 : List (S46)) (x9_6 : List Int), Aside0 (spec_Layout.l1 kq l0 y102 x8_6 x9_6 x10_2 x11_2 l1_0 l1_1 ((rd_T46 l0 x11_2).f0) ((rd_T46 l0 x11_2).f1) ((rd_T46 l0 x11_2).f2) = some (r1, r2, r3)) ∧ Aside0 (kq ≤ kj45) ∧ Aside0 (Kd.R k46 46 w' w.heap.size (fun k_ => some k_ ≠ (v8 : Value).ownBlock ∧ k_ ≠ gb114) v103 y102) ∧ Aside0 (Kd.R k46 46 w' w.heap.size (fun k_ => some k_ ≠ (v103 : Value).ownBlock ∧ k_ ≠ gb114) v8 x8_6) ∧ Aside0 (Kd.R (Kd.int .i64) 2 w' w.heap.size (fun _ => True) v9 x9_6) ∧ Aside0 (w'.heap[gb101]? = some (.cells #[(.slice A1_0 l1_0.length c1_0), (.slice A1_1 l1_1.length c1_1)] 32 (0, 0))) ∧ Aside0 (w'.heap[gb114]? = some (.cells #[.int .i64 ((rd_T46 l0 x11_2).f0), .int .i64 ((rd_T46 l0 x11_2).f1), .int .i64 ((rd_T46 l0 x11_2).f2)] 46 (0, 0))) ∧ Aside0 (Below w.heap.size w w'))
                  case atStart => exact ⟨(x8_45), (x9_45), H', ⟨Nat.le_refl _⟩, ⟨by (with_reducible repeat (first | apply Kd.R_alloc | apply Kd.R_drewN | apply Kd.R_drew)); exact HO_7.out⟩, ⟨by (with_reducible repeat (first | apply Kd.R_alloc | apply Kd.R_drewN | apply Kd.R_drew)); exact HO_8.out⟩, ⟨by (with_reducible repeat (first | apply Kd.R_alloc | apply Kd.R_drewN | apply Kd.R_drew)); exact HO_9.out⟩, ⟨by (with_reducible repeat (first | refine blk_drewN ?_ _ | refine blk_drew ?_ | refine blk_alloc ?_ _)); exact BK101.out⟩, ⟨by (with_reducible repeat (first | refine blk_drewN ?_ _ | refine blk_drew ?_ | refine blk_alloc ?_ _)); exact BK114.out⟩, ⟨by repeat (first | (with_reducible first | exact HB.out | apply below_alloc | apply pw_below_drewN | apply below_drew1 | refine below_set ?_ GE101.out | refine below_set ?_ GE114.out) | exact HB.out)⟩⟩
                  case round =>
                   clear H'
                   try clear c1
                   try clear p1
                   try clear q1
                   try clear hx1
                   try clear c2
                   try clear p2
                   try clear c3
                   try clear c4
                   try clear c5
                   try clear p6
                   try clear c7
                   try clear c8
                   try clear p11
                   try clear q11
                   try clear hx11
                   try clear p12
                   try clear q12
                   try clear hx12
                   try clear c14
                   try clear c19
                   try clear c19b0
                   try clear c20
                   try clear c20b0
                   try clear c23
                   try clear c25
                   try clear c25b0
                   try clear c25b1
                   try clear c26
                   try clear c26b0
                   try clear c26b1
                   try clear c28
                   try clear c28b0
                   try clear c29
                   try clear c29b0
                   try clear c30
                   try clear c33
                   try clear c35
                   try clear c35b0
                   try clear c37
                   try clear c37b0
                   try clear c38
                   try clear c38b0
                   try clear c40
                   try clear c44
                   try clear c44b0
                   try clear c45
                   try clear c45b0
                   try clear c47
                   try clear c50
                   try clear c50b0
                   try clear c51
                   try clear c53
                   try clear c54
                   try clear hcz11_0
                   try clear hcz11_1
                   try clear hcz24_0
                   try clear hcz24_1
                   try clear hcz24_2
                   try clear hcz31_0
                   try clear hcz31_1
                   try clear hcz31_2
                   try clear hcz48_0
                   try clear hcz48_1
                   try clear hcz48_2
                   try clear hcz55_0
                   try clear hcz55_1
                   try clear hcz55_2
                   try clear hcz57_0
                   try clear hcz57_1
                   try clear hcz57_2
                   try clear hfz11_0
                   try clear hfz11_1
                   try clear hfz24_0
                   try clear hfz24_1
                   try clear hfz24_2
                   try clear hfz31_0
                   try clear hfz31_1
                   try clear hfz31_2
                   try clear hfz48_0
                   try clear hfz48_1
                   try clear hfz48_2
                   try clear hfz55_0
                   try clear hfz55_1
                   try clear hfz55_2
                   try clear hfz57_0
                   try clear hfz57_1
                   try clear hfz57_2
                   try clear hx113_0
                   try clear hx113_1
                   try clear hx113_2
                   try clear hx115_0
                   try clear hx115_1
                   try clear hx115_2
                   try clear hx116_0
                   try clear hx116_1
                   try clear hx116_2
                   try clear hx123_0
                   try clear p1
                   try clear p11
                   try clear p113
                   try clear p115
                   try clear p116
                   try clear p12
                   try clear p123
                   try clear p2
                   try clear p6
                   try clear q1
                   try clear q11
                   try clear q113
                   try clear q115
                   try clear q116
                   try clear q12
                   try clear q123
                   obtain ⟨x8_6, x9_6, HA, HK6, HO_7, HO_8, HO_9, BK101, BK114, HB⟩ := hrel
                   cases gk with
                   | zero => exact absurd HA.out (by simp [spec_Layout.l1])
                   | succ k6 =>
                    have H := HA.out
                    clear HA
                    simp only [spec_Layout.l1] at H
                    obtain ⟨ji60, hji60⟩ : ∃ j_ : Int, (wrap64 ((x9_6.length : Int) - 1)) = j_ := ⟨_, rfl⟩
                    replace H : (if 0 ≤ (ji60) then (if (ji60) < (x9_6.length : Int) then (if (rd x9_6 (ji60)) > ((rd_T46 l0 x11_2).f2) then (if (ji60) ≤ (x9_6.length : Int) then ((spec_l16Made.f (-3) ((rd_T46 l0 x11_2).f0) ((rd_T46 l0 x11_2).f1) ((rd_T46 l0 x11_2).f2)).bind fun bt137 => (if x8_6.length < 5864062014805 then (spec_Layout.l1 k6 l0 y102 (x8_6 ++ [(⟨bt137.1, bt137.2.1, bt137.2.2⟩ : S46)]) (x9_6.take ((ji60) : Int).toNat) x10_2 x11_2 l1_0 l1_1 ((rd_T46 l0 x11_2).f0) ((rd_T46 l0 x11_2).f1) ((rd_T46 l0 x11_2).f2)) else (none))) else (none)) else (if (rd x9_6 (ji60)) = ((rd_T46 l0 x11_2).f2) then (spec_Layout.j6 k6 l0 y102 x8_6 x9_6 x10_2 x11_2 l1_0 l1_1 ((rd_T46 l0 x11_2).f0) ((rd_T46 l0 x11_2).f1) ((rd_T46 l0 x11_2).f2)) else (some (y102, 2, x11_2)))) else (none)) else (none)) = some (r1, r2, r3) := by first | (rw [hji60] at H; exact H) | (simp only [hji60] at H ⊢; exact H)
                    have hji60w : (IntKind.i64.wrap ((x9_6.length : Int) - 1)) = ji60 := (i64_w _).trans hji60
                    by_cases c61 : 0 ≤ (ji60)
                    ·rw [if_pos c61] at H
                     have c61b0 : decide (0 ≤ (ji60)) = true := decide_eq_true c61
                     clear c61
                     by_cases c62 : (ji60) < (x9_6.length : Int)
                     ·rw [if_pos c62] at H
                      have c62b0 : decide ((ji60) < (x9_6.length : Int)) = true := decide_eq_true c62
                      clear c62
                      by_cases c63 : (rd x9_6 (ji60)) > ((rd_T46 l0 x11_2).f2)
                      ·rw [if_pos c63] at H
                       have c63b0 : decide (((rd_T46 l0 x11_2).f2) < (rd x9_6 (ji60))) = true := decide_eq_true c63
                       clear c63
                       by_cases c64 : (ji60) ≤ (x9_6.length : Int)
                       ·rw [if_pos c64] at H
                        have c64b0 := eq_true c64
                        have c64b1 : decide ((ji60) ≤ (x9_6.length : Int)) = true := decide_eq_true c64
                        clear c64
                        obtain ⟨y134, hy134⟩ : ∃ y_ : List Int, y_ = (x9_6.take ((ji60) : Int).toNat) := ⟨_, rfl⟩
                        replace H : ((spec_l16Made.f (-3) ((rd_T46 l0 x11_2).f0) ((rd_T46 l0 x11_2).f1) ((rd_T46 l0 x11_2).f2)).bind fun bt137 => (if x8_6.length < 5864062014805 then (spec_Layout.l1 k6 l0 y102 (x8_6 ++ [(⟨bt137.1, bt137.2.1, bt137.2.2⟩ : S46)]) y134 x10_2 x11_2 l1_0 l1_1 ((rd_T46 l0 x11_2).f0) ((rd_T46 l0 x11_2).f1) ((rd_T46 l0 x11_2).f2)) else (none))) = some (r1, r2, r3) := by first | (rw [hy134]; with_reducible exact H) | (have H2_ := (Option.bind_some _ _).symm.trans H; rw [hy134]; with_reducible exact H2_) | (have H2_ := (Option.bind_some _ _).symm.trans H; with_reducible exact H2_) | with_reducible exact H | (rw [hy134]; exact H) | exact H
                        have Ny134 := Aside0.mk hy134
                        clear hy134
                        replace H := Option.bind_eq_some_iff.mp H
                        obtain ⟨⟨t137, t138, t139⟩, A650, H⟩ := H
                        replace H : (if x8_6.length < 5864062014805 then (spec_Layout.l1 k6 l0 y102 (x8_6 ++ [(⟨t137, t138, t139⟩ : S46)]) y134 x10_2 x11_2 l1_0 l1_1 ((rd_T46 l0 x11_2).f0) ((rd_T46 l0 x11_2).f1) ((rd_T46 l0 x11_2).f2)) else (none)) = some (r1, r2, r3) := H
                        have A65 := Aside0.mk A650
                        clear A650
                        by_cases c66 : x8_6.length < 5864062014805
                        ·rw [if_pos c66] at H
                         have LMc66 := Aside0.mk c66
                         clear c66
                         obtain ⟨y140, hy140⟩ : ∃ y_ : List (S46), y_ = (x8_6 ++ [(⟨t137, t138, t139⟩ : S46)]) := ⟨_, rfl⟩
                         replace H : (spec_Layout.l1 k6 l0 y102 y140 y134 x10_2 x11_2 l1_0 l1_1 ((rd_T46 l0 x11_2).f0) ((rd_T46 l0 x11_2).f1) ((rd_T46 l0 x11_2).f2)) = some (r1, r2, r3) := by first | (rw [hy140]; with_reducible exact H) | (have H2_ := (Option.bind_some _ _).symm.trans H; rw [hy140]; with_reducible exact H2_) | (have H2_ := (Option.bind_some _ _).symm.trans H; with_reducible exact H2_) | with_reducible exact H | (rw [hy140]; exact H) | exact H
                         have Ny140 := Aside0.mk hy140
                         clear hy140
                         have H' := Aside0.mk H
                         clear H
                         obtain ⟨Ao67, co67, eo67⟩ := Kd.R_slice HO_9.out
                         subst eo67
                         have p133 : 0 ≤ ((ji60) : Int) := of_decide_eq_true (by first | (with_reducible assumption) | assumption)
                         have q133 : (ji60) < (x9_6.length : Int) := of_decide_eq_true (by first | (with_reducible assumption) | assumption)
                         obtain ⟨ad133, e133, hx133_0⟩ := Kd.at_int (Kd.R_reads' HO_9.out).2.2 (ji60) p133 q133
                         cases e133
                         replace p133 := eq_true p133
                         replace q133 := eq_true q133
                         have hnb68 := NB114_101.out
                         have hnc68 := NB101_114.out
                         have hcz69_0 : wr.cell? ⟨gb114, 0, none⟩ = some (.int .i64 ((rd_T46 l0 x11_2).f0)) := (blk_cell BK114.out 0).trans rfl
                         have hcz69_1 : wr.cell? ⟨gb114, 1, none⟩ = some (.int .i64 ((rd_T46 l0 x11_2).f1)) := (blk_cell BK114.out 1).trans rfl
                         have hcz69_2 : wr.cell? ⟨gb114, 2, none⟩ = some (.int .i64 ((rd_T46 l0 x11_2).f2)) := (blk_cell BK114.out 2).trans rfl
                         have hfz69_0 := blk_frozen BK114.out 0
                         have hfz69_1 := blk_frozen BK114.out 1
                         have hfz69_2 := blk_frozen BK114.out 2
                         have q70 : ((ji60) : Int) ≤ ((x9_6.length : Int) : Int) := of_decide_eq_true (by first | (with_reducible assumption) | assumption)
                         obtain ⟨i070, hi070, _, hsz70, _⟩ := info_parts info2
                         have hcut70 := cut_to (P := Try.prog) 23 2 .i64 Try.underlying23 hi070 (some ad133) x9_6.length co67 (ji60) (of_decide_eq_true (by first | (with_reducible assumption) | assumption)) q70 (Kd.R_reads' HO_9.out).2.1
                         have hr70 := Kd.R_take (m := ((ji60) : Int).toNat) HO_9.out (by omega)
                         have hy70 : y134.length = ((ji60) : Int).toNat := (by rw [Ny134.out, List.length_take]; omega)
                         rw [← Ny134.out] at hr70
                         rw [← hy70] at hr70 hcut70
                         clear hy70 hi070 hsz70 HO_9
                         have HO136 := Aside0.mk hr70
                         clear hr70
                         replace q70 := eq_true q70
                         go_wp2_with (fail)
                         repeat (go_quiet (fail); try go_wp2_with (first | (go_at_call 24; (with_reducible refine (spec_l16Made.calls (-3) ((rd_T46 l0 x11_2).f0) ((rd_T46 l0 x11_2).f1) ((rd_T46 l0 x11_2).f2) t137 t138 t139 _ A65.out).mono ?_); rintro e w71 ⟨rfl, hb⟩; have n0_ := Aside0.mk (Kd.R_below (by (with_reducible repeat (first | apply Kd.R_alloc | apply Kd.R_drewN | apply Kd.R_drew)); exact HO_7.out) hb); have n1_ := Aside0.mk (Kd.R_below (by (with_reducible repeat (first | apply Kd.R_alloc | apply Kd.R_drewN | apply Kd.R_drew)); exact HO_8.out) hb); have n2_ := Aside0.mk (Kd.R_below (by (with_reducible repeat (first | apply Kd.R_alloc | apply Kd.R_drewN | apply Kd.R_drew)); exact HO136.out) hb); have n3_ := Aside0.mk (blk_below (g := gb101) (o := .cells #[.slice A1_0 l1_0.length c1_0, .slice A1_1 l1_1.length c1_1] 32 (0, 0)) (by (with_reducible repeat (first | refine blk_drewN ?_ _ | refine blk_drew ?_ | refine blk_alloc ?_ _)); exact BK101.out) hb); have n4_ := Aside0.mk (blk_below (g := gb114) (o := .cells #[.int .i64 ((rd_T46 l0 x11_2).f0), .int .i64 ((rd_T46 l0 x11_2).f1), .int .i64 ((rd_T46 l0 x11_2).f2)] 46 (0, 0)) (by (with_reducible repeat (first | refine blk_drewN ?_ _ | refine blk_drew ?_ | refine blk_alloc ?_ _)); exact BK114.out) hb); have n5_ := Aside0.mk (below_step (by repeat (first | (with_reducible first | exact HB.out | apply below_alloc | apply pw_below_drewN | apply below_drew1 | refine below_set ?_ GE101.out | refine below_set ?_ GE114.out) | exact HB.out)) hb); clear HO_7; clear HO_8; clear HO136; clear BK101; clear BK114; clear HB; have HO_7 := n0_; have HO_8 := n1_; have HO136 := n2_; have BK101 := n3_; have BK114 := n4_; have HB := n5_; clear n0_ n1_ n2_ n3_ n4_ n5_; (try clear hb); (try clear hb2); (try clear hk); (try clear hi)) | ((with_reducible refine gate_builtin (b := .append) (xs := #[.tmp 98, .tmp 101]) rfl ?_); at_builtin; refine Kd.R_append k46 (w0 := w) w.heap.size rfl (.tmp 98) (.tmp 101) 28 46 (.agg #[(.int .i64 0), (.int .i64 0), (.int .i64 0)]) 24 rfl Try.underlying28 info46 rfl (by decide) (by omega) u8 x8_6 (⟨t137, t138, t139⟩ : S46) [.int .i64 t137, .int .i64 t138, .int .i64 t139] (fun k_ => some k_ ≠ (v103 : Value).ownBlock ∧ k_ ≠ gb114) (fun _ => False) rfl rfl ?aP (fun _ hk => hk.elim) ?aF ?aO ?aB ?aS ?aL ?_; (case aP => exact k46_mkM _ _ _ (⟨t137, t138, t139⟩ : S46)); (case aB => exact (by repeat (first | (with_reducible first | exact HB.out | apply below_alloc | apply pw_below_drewN | apply below_drew1 | refine below_set ?_ GE101.out | refine below_set ?_ GE114.out) | exact HB.out))); (case aF => exact (fun k_ hk => ⟨Kd.fresh' (Kd.R_lt (by (with_reducible repeat (first | apply Kd.R_alloc | apply Kd.R_drewN | apply Kd.R_drew)); exact HO_7.out)) k_ hk, Kd.freshB (g := gb114) (o := .cells #[.int .i64 ((rd_T46 l0 x11_2).f0), .int .i64 ((rd_T46 l0 x11_2).f1), .int .i64 ((rd_T46 l0 x11_2).f2)] 46 (0, 0)) (by (with_reducible repeat (first | refine blk_drewN ?_ _ | refine blk_drew ?_ | refine blk_alloc ?_ _)); exact BK114.out) k_ hk⟩)); (case aO => exact (by (with_reducible repeat (first | apply Kd.R_alloc | apply Kd.R_drewN | apply Kd.R_drew)); exact HO_8.out)); (case aS => exact (below_size (by repeat (first | (with_reducible first | exact HB.out | apply below_alloc | apply pw_below_drewN | apply below_drew1 | refine below_set ?_ GE101.out | refine below_set ?_ GE114.out) | exact HB.out)))); (case aL => have := LMc66.out; omega); intro v141 w72 ho hb hg hat; rw [← Ny140.out] at ho; have n0_ := Aside0.mk (Kd.R_after (ok := (fun k_ => k_ ≠ gb114)) (by (with_reducible repeat (first | apply Kd.R_alloc | apply Kd.R_drewN | apply Kd.R_drew)); exact Kd.R_mono HO_7.out (fun _ hk => ⟨hk.2, hk.1⟩)) hg hat); have n1_ := Aside0.mk (Kd.R_over' (by (with_reducible repeat (first | apply Kd.R_alloc | apply Kd.R_drewN | apply Kd.R_drew)); exact HO136.out) (Kd.R_typed (by (with_reducible repeat (first | apply Kd.R_alloc | apply Kd.R_drewN | apply Kd.R_drew)); exact HO_8.out)) (by decide) hg); have n2_ := Aside0.mk (blk_grown (g := gb101) (o := .cells #[.slice A1_0 l1_0.length c1_0, .slice A1_1 l1_1.length c1_1] 32 (0, 0)) (by (with_reducible repeat (first | refine blk_drewN ?_ _ | refine blk_drew ?_ | refine blk_alloc ?_ _)); exact BK101.out) hg (Kd.R_ne HO_8.out BK101.out (by decide))); have n3_ := Aside0.mk (blk_grown (g := gb114) (o := .cells #[.int .i64 ((rd_T46 l0 x11_2).f0), .int .i64 ((rd_T46 l0 x11_2).f1), .int .i64 ((rd_T46 l0 x11_2).f2)] 46 (0, 0)) (by (with_reducible repeat (first | refine blk_drewN ?_ _ | refine blk_drew ?_ | refine blk_alloc ?_ _)); exact BK114.out) hg (Kd.R_away HO_8.out (fun _ hk => hk.2))); have n4_ := Aside0.mk (hb); have n5_ := Aside0.mk (ho); clear HO_7; clear HO136; clear BK101; clear BK114; clear HB; clear HO_8; have HO_7 := n0_; have HO136 := n1_; have BK101 := n2_; have BK114 := n3_; have HB := n4_; have HO142 := n5_; clear n0_ n1_ n2_ n3_ n4_ n5_; clear ho hb hg hat)))
                         go_roundg k6
                         case measure => have := HJ2.out; have := HK2.out; have := HJ20.out; have := HJ33.out; have := HJ45.out; have := HK6.out; omega
                         case rel => exact ⟨(y140), (y134), H', ⟨by have := HJ2.out; have := HK2.out; have := HJ20.out; have := HJ33.out; have := HJ45.out; have := HK6.out; omega⟩, ⟨by (with_reducible repeat (first | apply Kd.R_alloc | apply Kd.R_drewN | apply Kd.R_drew)); exact Kd.R_mono HO_7.out (fun _ hk => ⟨hk.2, hk.1⟩)⟩, ⟨by (with_reducible repeat (first | apply Kd.R_alloc | apply Kd.R_drewN | apply Kd.R_drew)); exact HO142.out⟩, ⟨by (with_reducible repeat (first | apply Kd.R_alloc | apply Kd.R_drewN | apply Kd.R_drew)); exact HO136.out⟩, ⟨by (with_reducible repeat (first | refine blk_drewN ?_ _ | refine blk_drew ?_ | refine blk_alloc ?_ _)); exact BK101.out⟩, ⟨by (with_reducible repeat (first | refine blk_drewN ?_ _ | refine blk_drew ?_ | refine blk_alloc ?_ _)); exact BK114.out⟩, ⟨by repeat (first | (with_reducible first | exact HB.out | apply below_alloc | apply pw_below_drewN | apply below_drew1 | refine below_set ?_ GE101.out | refine below_set ?_ GE114.out) | exact HB.out)⟩⟩
                        ·rw [if_neg c66] at H
                         exact absurd H (by simp)
                       ·rw [if_neg c64] at H
                        exact absurd H (by simp)
                      ·rw [if_neg c63] at H
                       have c63b0 : decide (((rd_T46 l0 x11_2).f2) < (rd x9_6 (ji60))) = false := decide_eq_false c63
                       clear c63
                       by_cases c73 : (rd x9_6 (ji60)) = ((rd_T46 l0 x11_2).f2)
                       ·rw [if_pos c73] at H
                        have c73b0 : ((rd x9_6 (ji60)) == ((rd_T46 l0 x11_2).f2)) = true := beq_iff_eq.mpr c73
                        have c73b1 : ((rd x9_6 (ji60)) != ((rd_T46 l0 x11_2).f2)) = false := bne_eq_false_iff_eq.mpr c73
                        clear c73
                        have H' := Aside0.mk H
                        clear H
                        obtain ⟨Ao74, co74, eo74⟩ := Kd.R_slice HO_9.out
                        subst eo74
                        have p133 : 0 ≤ ((ji60) : Int) := of_decide_eq_true (by first | (with_reducible assumption) | assumption)
                        have q133 : (ji60) < (x9_6.length : Int) := of_decide_eq_true (by first | (with_reducible assumption) | assumption)
                        obtain ⟨ad133, e133, hx133_0⟩ := Kd.at_int (Kd.R_reads' HO_9.out).2.2 (ji60) p133 q133
                        cases e133
                        replace p133 := eq_true p133
                        replace q133 := eq_true q133
                        have hnb75 := NB114_101.out
                        have hnc75 := NB101_114.out
                        have hcz76_0 : wr.cell? ⟨gb114, 0, none⟩ = some (.int .i64 ((rd_T46 l0 x11_2).f0)) := (blk_cell BK114.out 0).trans rfl
                        have hcz76_1 : wr.cell? ⟨gb114, 1, none⟩ = some (.int .i64 ((rd_T46 l0 x11_2).f1)) := (blk_cell BK114.out 1).trans rfl
                        have hcz76_2 : wr.cell? ⟨gb114, 2, none⟩ = some (.int .i64 ((rd_T46 l0 x11_2).f2)) := (blk_cell BK114.out 2).trans rfl
                        have hfz76_0 := blk_frozen BK114.out 0
                        have hfz76_1 := blk_frozen BK114.out 1
                        have hfz76_2 := blk_frozen BK114.out 2
                        have p143 : 0 ≤ ((ji60) : Int) := of_decide_eq_true (by first | (with_reducible assumption) | assumption)
                        have q143 : (ji60) < (x9_6.length : Int) := of_decide_eq_true (by first | (with_reducible assumption) | assumption)
                        obtain ⟨ad143, e143, hx143_0⟩ := Kd.at_int (Kd.R_reads' HO_9.out).2.2 (ji60) p143 q143
                        obtain rfl : ad133 = ad143 := (by injection e143)
                        replace p143 := eq_true p143
                        replace q143 := eq_true q143
                        go_wp2
                        repeat (go_quiet (fail); try go_wp2)
                        go_meet
                        case rel => exact ⟨_, (x8_6), (x9_6), H', ⟨by have := HJ2.out; have := HK2.out; have := HJ20.out; have := HJ33.out; have := HJ45.out; have := HK6.out; first | omega | exact Nat.le_refl _⟩, ⟨by (with_reducible repeat (first | apply Kd.R_alloc | apply Kd.R_drewN | apply Kd.R_drew)); exact HO_7.out⟩, ⟨by (with_reducible repeat (first | apply Kd.R_alloc | apply Kd.R_drewN | apply Kd.R_drew)); exact HO_8.out⟩, ⟨by (with_reducible repeat (first | apply Kd.R_alloc | apply Kd.R_drewN | apply Kd.R_drew)); exact HO_9.out⟩, ⟨by (with_reducible repeat (first | refine blk_drewN ?_ _ | refine blk_drew ?_ | refine blk_alloc ?_ _)); exact BK101.out⟩, ⟨by (with_reducible repeat (first | refine blk_drewN ?_ _ | refine blk_drew ?_ | refine blk_alloc ?_ _)); exact BK114.out⟩, ⟨by repeat (first | (with_reducible first | exact HB.out | apply below_alloc | apply pw_below_drewN | apply below_drew1 | refine below_set ?_ GE101.out | refine below_set ?_ GE114.out) | exact HB.out)⟩⟩
                       ·rw [if_neg c73] at H
                        have c73b0 : ((rd x9_6 (ji60)) == ((rd_T46 l0 x11_2).f2)) = false := beq_eq_false_iff_ne.mpr c73
                        have c73b1 : ((rd x9_6 (ji60)) != ((rd_T46 l0 x11_2).f2)) = true := bne_iff_ne.mpr c73
                        simp only [Option.some.injEq, Prod.mk.injEq] at H
                        obtain ⟨rfl, rfl, rfl⟩ := H
                        obtain ⟨Ao77, co77, eo77⟩ := Kd.R_slice HO_9.out
                        subst eo77
                        have p133 : 0 ≤ ((ji60) : Int) := of_decide_eq_true (by first | (with_reducible assumption) | assumption)
                        have q133 : (ji60) < (x9_6.length : Int) := of_decide_eq_true (by first | (with_reducible assumption) | assumption)
                        obtain ⟨ad133, e133, hx133_0⟩ := Kd.at_int (Kd.R_reads' HO_9.out).2.2 (ji60) p133 q133
                        cases e133
                        replace p133 := eq_true p133
                        replace q133 := eq_true q133
                        have hnb78 := NB114_101.out
                        have hnc78 := NB101_114.out
                        have hcz79_0 : wr.cell? ⟨gb114, 0, none⟩ = some (.int .i64 ((rd_T46 l0 x11_2).f0)) := (blk_cell BK114.out 0).trans rfl
                        have hcz79_1 : wr.cell? ⟨gb114, 1, none⟩ = some (.int .i64 ((rd_T46 l0 x11_2).f1)) := (blk_cell BK114.out 1).trans rfl
                        have hcz79_2 : wr.cell? ⟨gb114, 2, none⟩ = some (.int .i64 ((rd_T46 l0 x11_2).f2)) := (blk_cell BK114.out 2).trans rfl
                        have hfz79_0 := blk_frozen BK114.out 0
                        have hfz79_1 := blk_frozen BK114.out 1
                        have hfz79_2 := blk_frozen BK114.out 2
                        have p143 : 0 ≤ ((ji60) : Int) := of_decide_eq_true (by first | (with_reducible assumption) | assumption)
                        have q143 : (ji60) < (x9_6.length : Int) := of_decide_eq_true (by first | (with_reducible assumption) | assumption)
                        obtain ⟨ad143, e143, hx143_0⟩ := Kd.at_int (Kd.R_reads' HO_9.out).2.2 (ji60) p143 q143
                        obtain rfl : ad133 = ad143 := (by injection e143)
                        replace p143 := eq_true p143
                        replace q143 := eq_true q143
                        go_wp2
                        repeat (go_quiet (fail); try go_wp2)
                        go_ret3
                        exact ⟨_, by first | rfl | (simp [errW_none, errW_some] <;> rfl) | (simp only [← hji43, ← hji60]; first | rfl | (simp [errW_none, errW_some] <;> rfl)) | (simp [*, errW_none, errW_some] <;> rfl), by (with_reducible repeat (first | apply Kd.R_alloc | apply Kd.R_drewN | apply Kd.R_drew)); exact Kd.R_mono HO_7.out (fun _ hk => trivial), by repeat (first | (with_reducible first | exact HB.out | apply below_alloc | apply pw_below_drewN | apply below_drew1 | refine below_set ?_ GE101.out | refine below_set ?_ GE114.out) | exact HB.out)⟩
                     ·rw [if_neg c62] at H
                      exact absurd H (by simp)
                    ·rw [if_neg c61] at H
                     exact absurd H (by simp)
               ·rw [if_neg c45] at H
                exact absurd H (by simp)
              ·rw [if_neg c44] at H
               exact absurd H (by simp)
           ·replace c33 := Bool.eq_false_iff.mpr c33
            subst c33
            have H1 : (spec_Layout.j6 kj20 l0 y102 x8_2 x9_2 x10_2 x11_2 l1_0 l1_1 ((rd_T46 l0 x11_2).f0) ((rd_T46 l0 x11_2).f1) ((rd_T46 l0 x11_2).f2)) = some (r1, r2, r3) := by rw [if_neg (show ¬ (false = true) by decide)] at H; exact H
            clear H
            have H := H1
            clear H1
            have H' := Aside0.mk H
            clear H
            go_wp2
            repeat (go_quiet (fail); try go_wp2)
            go_meet
            case rel => exact ⟨_, (x8_2), (x9_2), H', ⟨by have := HJ2.out; have := HK2.out; have := HJ20.out; first | omega | exact Nat.le_refl _⟩, ⟨by (with_reducible repeat (first | apply Kd.R_alloc | apply Kd.R_drewN | apply Kd.R_drew)); exact HO_7.out⟩, ⟨by (with_reducible repeat (first | apply Kd.R_alloc | apply Kd.R_drewN | apply Kd.R_drew)); exact HO_8.out⟩, ⟨by (with_reducible repeat (first | apply Kd.R_alloc | apply Kd.R_drewN | apply Kd.R_drew)); exact HO_9.out⟩, ⟨by (with_reducible repeat (first | refine blk_drewN ?_ _ | refine blk_drew ?_ | refine blk_alloc ?_ _)); exact BK101.out⟩, ⟨by (with_reducible repeat (first | refine blk_drewN ?_ _ | refine blk_drew ?_ | refine blk_alloc ?_ _)); exact BK114.out⟩, ⟨by repeat (first | (with_reducible first | exact HB.out | apply below_alloc | apply pw_below_drewN | apply below_drew1 | refine below_set ?_ GE101.out | refine below_set ?_ GE114.out) | exact HB.out)⟩⟩
          case rest =>
           clear HC32
           try clear c1
           try clear p1
           try clear q1
           try clear hx1
           try clear c2
           try clear p2
           try clear c3
           try clear c4
           try clear c5
           try clear c6
           try clear p6
           try clear c7
           try clear q7
           try clear c8
           try clear p11
           try clear q11
           try clear hx11
           try clear p12
           try clear q12
           try clear hx12
           try clear p13
           try clear q13
           try clear hx13
           try clear c14
           try clear p14
           try clear q14
           try clear hx14
           try clear c19
           try clear c19b0
           try clear c20
           try clear c20b0
           try clear c23
           try clear c25
           try clear c25b0
           try clear c25b1
           try clear c26
           try clear c26b0
           try clear c26b1
           try clear c28
           try clear c28b0
           try clear c29
           try clear c29b0
           try clear c30
           try clear c33
           try clear c35
           try clear c35b0
           try clear c37
           try clear c37b0
           try clear c38
           try clear c38b0
           try clear c40
           try clear c44
           try clear c44b0
           try clear c45
           try clear c45b0
           try clear c47
           try clear c50
           try clear c50b0
           try clear c51
           try clear c53
           try clear c54
           try clear c61
           try clear c61b0
           try clear c62
           try clear c62b0
           try clear c63
           try clear c63b0
           try clear c64
           try clear c64b0
           try clear c64b1
           try clear p64
           try clear c66
           try clear c68
           try clear q70
           try clear c73
           try clear c73b0
           try clear c73b1
           try clear c75
           try clear c78
           try clear hcz11_0
           try clear hcz11_1
           try clear hcz24_0
           try clear hcz24_1
           try clear hcz24_2
           try clear hcz31_0
           try clear hcz31_1
           try clear hcz31_2
           try clear hcz48_0
           try clear hcz48_1
           try clear hcz48_2
           try clear hcz55_0
           try clear hcz55_1
           try clear hcz55_2
           try clear hcz57_0
           try clear hcz57_1
           try clear hcz57_2
           try clear hcz69_0
           try clear hcz69_1
           try clear hcz69_2
           try clear hcz76_0
           try clear hcz76_1
           try clear hcz76_2
           try clear hcz79_0
           try clear hcz79_1
           try clear hcz79_2
           try clear hfz11_0
           try clear hfz11_1
           try clear hfz24_0
           try clear hfz24_1
           try clear hfz24_2
           try clear hfz31_0
           try clear hfz31_1
           try clear hfz31_2
           try clear hfz48_0
           try clear hfz48_1
           try clear hfz48_2
           try clear hfz55_0
           try clear hfz55_1
           try clear hfz55_2
           try clear hfz57_0
           try clear hfz57_1
           try clear hfz57_2
           try clear hfz69_0
           try clear hfz69_1
           try clear hfz69_2
           try clear hfz76_0
           try clear hfz76_1
           try clear hfz76_2
           try clear hfz79_0
           try clear hfz79_1
           try clear hfz79_2
           try clear hx113_0
           try clear hx113_1
           try clear hx113_2
           try clear hx115_0
           try clear hx115_1
           try clear hx115_2
           try clear hx116_0
           try clear hx116_1
           try clear hx116_2
           try clear hx123_0
           try clear hx133_0
           try clear hx143_0
           try clear p1
           try clear p11
           try clear p113
           try clear p115
           try clear p116
           try clear p12
           try clear p123
           try clear p133
           try clear p143
           try clear p2
           try clear p6
           try clear q1
           try clear q11
           try clear q113
           try clear q115
           try clear q116
           try clear q12
           try clear q123
           try clear q133
           try clear q143
           try clear q70
           obtain ⟨kq, x8_31, x9_31, HA, HJ31, HO_7, HO_8, HO_9, BK101, BK114, HB⟩ := hcut
           cases kq with
           | zero => exact absurd HA.out (by simp [spec_Layout.j6])
           | succ kj31 =>
            have H := HA.out
            clear HA
            simp only [spec_Layout.j6] at H
            replace H := Option.bind_eq_some_iff.mp H
            obtain ⟨t144, A800, H⟩ := H
            replace H : (if t144 = true then (if x10_2 = 0 then (some (y102, 3, x11_2)) else ((spec_l1Has.f kj31 l1_0 ((rd_T46 l0 x11_2).f0)).bind fun t145 => (if t145 = true then (if x8_31.length < 5864062014805 then (spec_Layout.l0 kj31 l0 y102 (x8_31 ++ [(⟨((rd_T46 l0 x11_2).f0), ((rd_T46 l0 x11_2).f1), ((rd_T46 l0 x11_2).f2)⟩ : S46)]) x9_31 (wrap64 ((wrap64 (x10_2 - 1)) + 1)) (wrap64 (x11_2 + 1)) l1_0 l1_1) else (none)) else (if x8_31.length < 5864062014805 then (spec_Layout.l0 kj31 l0 y102 (x8_31 ++ [(⟨((rd_T46 l0 x11_2).f0), ((rd_T46 l0 x11_2).f1), ((rd_T46 l0 x11_2).f2)⟩ : S46)]) x9_31 (wrap64 (x10_2 - 1)) (wrap64 (x11_2 + 1)) l1_0 l1_1) else (none))))) else ((spec_l1Has.f kj31 l1_0 ((rd_T46 l0 x11_2).f0)).bind fun t152 => (if t152 = true then (if x8_31.length < 5864062014805 then (spec_Layout.l0 kj31 l0 y102 (x8_31 ++ [(⟨((rd_T46 l0 x11_2).f0), ((rd_T46 l0 x11_2).f1), ((rd_T46 l0 x11_2).f2)⟩ : S46)]) x9_31 (wrap64 (x10_2 + 1)) (wrap64 (x11_2 + 1)) l1_0 l1_1) else (none)) else (if x8_31.length < 5864062014805 then (spec_Layout.l0 kj31 l0 y102 (x8_31 ++ [(⟨((rd_T46 l0 x11_2).f0), ((rd_T46 l0 x11_2).f1), ((rd_T46 l0 x11_2).f2)⟩ : S46)]) x9_31 x10_2 (wrap64 (x11_2 + 1)) l1_0 l1_1) else (none))))) = some (r1, r2, r3) := H
            have A80 := Aside0.mk A800
            clear A800
            by_cases c81 : t144 = true
            ·subst c81
             have H1 : (if x10_2 = 0 then (some (y102, 3, x11_2)) else ((spec_l1Has.f kj31 l1_0 ((rd_T46 l0 x11_2).f0)).bind fun t145 => (if t145 = true then (if x8_31.length < 5864062014805 then (spec_Layout.l0 kj31 l0 y102 (x8_31 ++ [(⟨((rd_T46 l0 x11_2).f0), ((rd_T46 l0 x11_2).f1), ((rd_T46 l0 x11_2).f2)⟩ : S46)]) x9_31 (wrap64 ((wrap64 (x10_2 - 1)) + 1)) (wrap64 (x11_2 + 1)) l1_0 l1_1) else (none)) else (if x8_31.length < 5864062014805 then (spec_Layout.l0 kj31 l0 y102 (x8_31 ++ [(⟨((rd_T46 l0 x11_2).f0), ((rd_T46 l0 x11_2).f1), ((rd_T46 l0 x11_2).f2)⟩ : S46)]) x9_31 (wrap64 (x10_2 - 1)) (wrap64 (x11_2 + 1)) l1_0 l1_1) else (none))))) = some (r1, r2, r3) := by rw [if_pos rfl] at H; exact H
             clear H
             have H := H1
             clear H1
             by_cases c82 : x10_2 = 0
             ·rw [if_pos c82] at H
              have c82b0 : (x10_2 == 0) = true := beq_iff_eq.mpr c82
              have c82b1 : (x10_2 != 0) = false := bne_eq_false_iff_eq.mpr c82
              clear c82
              simp only [Option.some.injEq, Prod.mk.injEq] at H
              obtain ⟨rfl, rfl, rfl⟩ := H
              have hnb83 := NB101_114.out
              have hnc83 := NB114_101.out
              have hcz84_0 : wc.cell? ⟨gb101, 0, none⟩ = some (.slice A1_0 l1_0.length c1_0) := (blk_cell BK101.out 0).trans rfl
              have hcz84_1 : wc.cell? ⟨gb101, 1, none⟩ = some (.slice A1_1 l1_1.length c1_1) := (blk_cell BK101.out 1).trans rfl
              have hfz84_0 := blk_frozen BK101.out 0
              have hfz84_1 := blk_frozen BK101.out 1
              have hcz85_0 : wc.cell? ⟨gb114, 0, none⟩ = some (.int .i64 ((rd_T46 l0 x11_2).f0)) := (blk_cell BK114.out 0).trans rfl
              have hcz85_1 : wc.cell? ⟨gb114, 1, none⟩ = some (.int .i64 ((rd_T46 l0 x11_2).f1)) := (blk_cell BK114.out 1).trans rfl
              have hcz85_2 : wc.cell? ⟨gb114, 2, none⟩ = some (.int .i64 ((rd_T46 l0 x11_2).f2)) := (blk_cell BK114.out 2).trans rfl
              have hfz85_0 := blk_frozen BK114.out 0
              have hfz85_1 := blk_frozen BK114.out 1
              have hfz85_2 := blk_frozen BK114.out 2
              go_wp2_with ((go_at_call 25; (with_reducible refine (spec_l1Has.calls kj31 _ _ l1_1 ((rd_T46 l0 x11_2).f0) true _ ?side1 ?side2 A80.out).mono ?_); (case side1 => repeat (first | exact (Kd.C_below HR1_1.out HB.out) | (with_reducible refine Kd.C_alloc ?_ _) | (with_reducible refine Kd.C_drewN ?_ _) | (with_reducible refine Kd.C_drew ?_))); (case side2 => exact HC1_1.out); rintro e w' ⟨rfl, ⟨nd, rfl⟩⟩; (try first | exact ⟨rfl, _, World.drewN_drewN _ _ _⟩ | exact ⟨rfl, _, Eq.trans (World.drewN_drewN _ _ _) (congrArg (World.drewN _) (Nat.add_assoc _ _ _))⟩)))
              repeat (go_quiet (fail); try go_wp2_with (fail))
              go_ret3
              exact ⟨_, by first | rfl | (simp [errW_none, errW_some] <;> rfl) | (simp [*, errW_none, errW_some] <;> rfl), by (with_reducible repeat (first | apply Kd.R_alloc | apply Kd.R_drewN | apply Kd.R_drew)); exact Kd.R_mono HO_7.out (fun _ hk => trivial), by repeat (first | (with_reducible first | exact HB.out | apply below_alloc | apply pw_below_drewN | apply below_drew1 | refine below_set ?_ GE101.out | refine below_set ?_ GE114.out) | exact HB.out)⟩
             ·rw [if_neg c82] at H
              have c82b0 : (x10_2 == 0) = false := beq_eq_false_iff_ne.mpr c82
              have c82b1 : (x10_2 != 0) = true := bne_iff_ne.mpr c82
              replace H := Option.bind_eq_some_iff.mp H
              obtain ⟨t145, A860, H⟩ := H
              replace H : (if t145 = true then (if x8_31.length < 5864062014805 then (spec_Layout.l0 kj31 l0 y102 (x8_31 ++ [(⟨((rd_T46 l0 x11_2).f0), ((rd_T46 l0 x11_2).f1), ((rd_T46 l0 x11_2).f2)⟩ : S46)]) x9_31 (wrap64 ((wrap64 (x10_2 - 1)) + 1)) (wrap64 (x11_2 + 1)) l1_0 l1_1) else (none)) else (if x8_31.length < 5864062014805 then (spec_Layout.l0 kj31 l0 y102 (x8_31 ++ [(⟨((rd_T46 l0 x11_2).f0), ((rd_T46 l0 x11_2).f1), ((rd_T46 l0 x11_2).f2)⟩ : S46)]) x9_31 (wrap64 (x10_2 - 1)) (wrap64 (x11_2 + 1)) l1_0 l1_1) else (none))) = some (r1, r2, r3) := H
              have A86 := Aside0.mk A860
              clear A860
              by_cases c87 : t145 = true
              ·subst c87
               have H1 : (if x8_31.length < 5864062014805 then (spec_Layout.l0 kj31 l0 y102 (x8_31 ++ [(⟨((rd_T46 l0 x11_2).f0), ((rd_T46 l0 x11_2).f1), ((rd_T46 l0 x11_2).f2)⟩ : S46)]) x9_31 (wrap64 ((wrap64 (x10_2 - 1)) + 1)) (wrap64 (x11_2 + 1)) l1_0 l1_1) else (none)) = some (r1, r2, r3) := by rw [if_pos rfl] at H; exact H
               clear H
               have H := H1
               clear H1
               by_cases c88 : x8_31.length < 5864062014805
               ·rw [if_pos c88] at H
                have LMc88 := Aside0.mk c88
                clear c88
                obtain ⟨y146, hy146⟩ : ∃ y_ : List (S46), y_ = (x8_31 ++ [(⟨((rd_T46 l0 x11_2).f0), ((rd_T46 l0 x11_2).f1), ((rd_T46 l0 x11_2).f2)⟩ : S46)]) := ⟨_, rfl⟩
                replace H : (spec_Layout.l0 kj31 l0 y102 y146 x9_31 (wrap64 ((wrap64 (x10_2 - 1)) + 1)) (wrap64 (x11_2 + 1)) l1_0 l1_1) = some (r1, r2, r3) := by first | (rw [hy146]; with_reducible exact H) | (have H2_ := (Option.bind_some _ _).symm.trans H; rw [hy146]; with_reducible exact H2_) | (have H2_ := (Option.bind_some _ _).symm.trans H; with_reducible exact H2_) | with_reducible exact H | (rw [hy146]; exact H) | exact H
                have Ny146 := Aside0.mk hy146
                clear hy146
                have H' := Aside0.mk H
                clear H
                have hnb89 := NB101_114.out
                have hnc89 := NB114_101.out
                have hcz90_0 : wc.cell? ⟨gb101, 0, none⟩ = some (.slice A1_0 l1_0.length c1_0) := (blk_cell BK101.out 0).trans rfl
                have hcz90_1 : wc.cell? ⟨gb101, 1, none⟩ = some (.slice A1_1 l1_1.length c1_1) := (blk_cell BK101.out 1).trans rfl
                have hfz90_0 := blk_frozen BK101.out 0
                have hfz90_1 := blk_frozen BK101.out 1
                have hcz91_0 : wc.cell? ⟨gb114, 0, none⟩ = some (.int .i64 ((rd_T46 l0 x11_2).f0)) := (blk_cell BK114.out 0).trans rfl
                have hcz91_1 : wc.cell? ⟨gb114, 1, none⟩ = some (.int .i64 ((rd_T46 l0 x11_2).f1)) := (blk_cell BK114.out 1).trans rfl
                have hcz91_2 : wc.cell? ⟨gb114, 2, none⟩ = some (.int .i64 ((rd_T46 l0 x11_2).f2)) := (blk_cell BK114.out 2).trans rfl
                have hfz91_0 := blk_frozen BK114.out 0
                have hfz91_1 := blk_frozen BK114.out 1
                have hfz91_2 := blk_frozen BK114.out 2
                go_wp2_with (first | (go_at_call 25; (with_reducible refine (spec_l1Has.calls kj31 _ _ l1_1 ((rd_T46 l0 x11_2).f0) true _ ?side1 ?side2 A80.out).mono ?_); (case side1 => repeat (first | exact (Kd.C_below HR1_1.out HB.out) | (with_reducible refine Kd.C_alloc ?_ _) | (with_reducible refine Kd.C_drewN ?_ _) | (with_reducible refine Kd.C_drew ?_))); (case side2 => exact HC1_1.out); rintro e w' ⟨rfl, ⟨nd, rfl⟩⟩; (try first | exact ⟨rfl, _, World.drewN_drewN _ _ _⟩ | exact ⟨rfl, _, Eq.trans (World.drewN_drewN _ _ _) (congrArg (World.drewN _) (Nat.add_assoc _ _ _))⟩)) | (go_at_call 25; (with_reducible refine (spec_l1Has.calls kj31 _ _ l1_0 ((rd_T46 l0 x11_2).f0) true _ ?side1 ?side2 A86.out).mono ?_); (case side1 => repeat (first | exact (Kd.C_below HR1_0.out (by repeat (first | (with_reducible first | exact HB.out | apply below_alloc | apply pw_below_drewN | apply below_drew1 | refine below_set ?_ GE101.out | refine below_set ?_ GE114.out) | exact HB.out))) | (with_reducible refine Kd.C_alloc ?_ _) | (with_reducible refine Kd.C_drewN ?_ _) | (with_reducible refine Kd.C_drew ?_))); (case side2 => exact HC1_0.out); rintro e w' ⟨rfl, ⟨nd, rfl⟩⟩; (try first | exact ⟨rfl, _, World.drewN_drewN _ _ _⟩ | exact ⟨rfl, _, Eq.trans (World.drewN_drewN _ _ _) (congrArg (World.drewN _) (Nat.add_assoc _ _ _))⟩)) | ((with_reducible refine gate_builtin (b := .append) (xs := #[.tmp 132, .tmp 134]) rfl ?_); at_builtin; refine Kd.R_append k46 (w0 := w) w.heap.size rfl (.tmp 132) (.tmp 134) 28 46 (.agg #[(.int .i64 0), (.int .i64 0), (.int .i64 0)]) 24 rfl Try.underlying28 info46 rfl (by decide) (by omega) u8 x8_31 (⟨((rd_T46 l0 x11_2).f0), ((rd_T46 l0 x11_2).f1), ((rd_T46 l0 x11_2).f2)⟩ : S46) [.int .i64 ((rd_T46 l0 x11_2).f0), .int .i64 ((rd_T46 l0 x11_2).f1), .int .i64 ((rd_T46 l0 x11_2).f2)] (fun k_ => some k_ ≠ (v103 : Value).ownBlock ∧ k_ ≠ gb114) (fun _ => False) rfl rfl ?aP (fun _ hk => hk.elim) ?aF ?aO ?aB ?aS ?aL ?_; (case aP => exact k46_mkM _ _ _ (⟨((rd_T46 l0 x11_2).f0), ((rd_T46 l0 x11_2).f1), ((rd_T46 l0 x11_2).f2)⟩ : S46)); (case aB => exact (by repeat (first | (with_reducible first | exact HB.out | apply below_alloc | apply pw_below_drewN | apply below_drew1 | refine below_set ?_ GE101.out | refine below_set ?_ GE114.out) | exact HB.out))); (case aF => exact (fun k_ hk => ⟨Kd.fresh' (Kd.R_lt (by (with_reducible repeat (first | apply Kd.R_alloc | apply Kd.R_drewN | apply Kd.R_drew)); exact HO_7.out)) k_ hk, Kd.freshB (g := gb114) (o := .cells #[.int .i64 ((rd_T46 l0 x11_2).f0), .int .i64 ((rd_T46 l0 x11_2).f1), .int .i64 ((rd_T46 l0 x11_2).f2)] 46 (0, 0)) (by (with_reducible repeat (first | refine blk_drewN ?_ _ | refine blk_drew ?_ | refine blk_alloc ?_ _)); exact BK114.out) k_ hk⟩)); (case aO => exact (by (with_reducible repeat (first | apply Kd.R_alloc | apply Kd.R_drewN | apply Kd.R_drew)); exact HO_8.out)); (case aS => exact (below_size (by repeat (first | (with_reducible first | exact HB.out | apply below_alloc | apply pw_below_drewN | apply below_drew1 | refine below_set ?_ GE101.out | refine below_set ?_ GE114.out) | exact HB.out)))); (case aL => have := LMc88.out; omega); intro v147 w92 ho hb hg hat; rw [← Ny146.out] at ho; have n0_ := Aside0.mk (Kd.R_after (ok := (fun k_ => k_ ≠ gb114)) (by (with_reducible repeat (first | apply Kd.R_alloc | apply Kd.R_drewN | apply Kd.R_drew)); exact Kd.R_mono HO_7.out (fun _ hk => ⟨hk.2, hk.1⟩)) hg hat); have n1_ := Aside0.mk (Kd.R_over' (by (with_reducible repeat (first | apply Kd.R_alloc | apply Kd.R_drewN | apply Kd.R_drew)); exact HO_9.out) (Kd.R_typed (by (with_reducible repeat (first | apply Kd.R_alloc | apply Kd.R_drewN | apply Kd.R_drew)); exact HO_8.out)) (by decide) hg); have n2_ := Aside0.mk (blk_grown (g := gb101) (o := .cells #[.slice A1_0 l1_0.length c1_0, .slice A1_1 l1_1.length c1_1] 32 (0, 0)) (by (with_reducible repeat (first | refine blk_drewN ?_ _ | refine blk_drew ?_ | refine blk_alloc ?_ _)); exact BK101.out) hg (Kd.R_ne HO_8.out BK101.out (by decide))); have n3_ := Aside0.mk (blk_grown (g := gb114) (o := .cells #[.int .i64 ((rd_T46 l0 x11_2).f0), .int .i64 ((rd_T46 l0 x11_2).f1), .int .i64 ((rd_T46 l0 x11_2).f2)] 46 (0, 0)) (by (with_reducible repeat (first | refine blk_drewN ?_ _ | refine blk_drew ?_ | refine blk_alloc ?_ _)); exact BK114.out) hg (Kd.R_away HO_8.out (fun _ hk => hk.2))); have n4_ := Aside0.mk (hb); have n5_ := Aside0.mk (ho); clear HO_7; clear HO_9; clear BK101; clear BK114; clear HB; clear HO_8; have HO_7 := n0_; have HO_9 := n1_; have BK101 := n2_; have BK114 := n3_; have HB := n4_; have HO148 := n5_; clear n0_ n1_ n2_ n3_ n4_ n5_; clear ho hb hg hat))
                repeat (go_quiet (fail); try go_wp2_with (fail))
                go_roundg kj31
                case measure => have := HJ2.out; have := HK2.out; have := HJ20.out; have := HJ31.out; omega
                case rel => exact ⟨(y146), (x9_31), (wrap64 ((wrap64 (x10_2 - 1)) + 1)), (wrap64 (x11_2 + 1)), (by first | rfl | (simp; done) | (simp [*]; done)), (by first | rfl | (simp; done) | (simp [*]; done)), H', ⟨by have := HJ2.out; have := HK2.out; have := HJ20.out; have := HJ31.out; omega⟩, ⟨by (with_reducible repeat (first | apply Kd.R_alloc | apply Kd.R_drewN | apply Kd.R_drew)); exact Kd.R_mono HO_7.out (fun _ hk => hk.2)⟩, ⟨by (with_reducible repeat (first | apply Kd.R_alloc | apply Kd.R_drewN | apply Kd.R_drew)); exact Kd.R_mono HO148.out (fun _ hk => hk.1)⟩, ⟨by (with_reducible repeat (first | apply Kd.R_alloc | apply Kd.R_drewN | apply Kd.R_drew)); exact HO_9.out⟩, ⟨by (with_reducible repeat (first | refine blk_drewN ?_ _ | refine blk_drew ?_ | refine blk_alloc ?_ _)); exact BK101.out⟩, ⟨by repeat (first | (with_reducible first | exact HB.out | apply below_alloc | apply pw_below_drewN | apply below_drew1 | refine below_set ?_ GE101.out | refine below_set ?_ GE114.out) | exact HB.out)⟩⟩
               ·rw [if_neg c88] at H
                exact absurd H (by simp)
              ·replace c87 := Bool.eq_false_iff.mpr c87
               subst c87
               have H1 : (if x8_31.length < 5864062014805 then (spec_Layout.l0 kj31 l0 y102 (x8_31 ++ [(⟨((rd_T46 l0 x11_2).f0), ((rd_T46 l0 x11_2).f1), ((rd_T46 l0 x11_2).f2)⟩ : S46)]) x9_31 (wrap64 (x10_2 - 1)) (wrap64 (x11_2 + 1)) l1_0 l1_1) else (none)) = some (r1, r2, r3) := by rw [if_neg (show ¬ (false = true) by decide)] at H; exact H
               clear H
               have H := H1
               clear H1
               by_cases c93 : x8_31.length < 5864062014805
               ·rw [if_pos c93] at H
                have LMc93 := Aside0.mk c93
                clear c93
                obtain ⟨y149, hy149⟩ : ∃ y_ : List (S46), y_ = (x8_31 ++ [(⟨((rd_T46 l0 x11_2).f0), ((rd_T46 l0 x11_2).f1), ((rd_T46 l0 x11_2).f2)⟩ : S46)]) := ⟨_, rfl⟩
                replace H : (spec_Layout.l0 kj31 l0 y102 y149 x9_31 (wrap64 (x10_2 - 1)) (wrap64 (x11_2 + 1)) l1_0 l1_1) = some (r1, r2, r3) := by first | (rw [hy149]; with_reducible exact H) | (have H2_ := (Option.bind_some _ _).symm.trans H; rw [hy149]; with_reducible exact H2_) | (have H2_ := (Option.bind_some _ _).symm.trans H; with_reducible exact H2_) | with_reducible exact H | (rw [hy149]; exact H) | exact H
                have Ny149 := Aside0.mk hy149
                clear hy149
                have H' := Aside0.mk H
                clear H
                have hnb94 := NB101_114.out
                have hnc94 := NB114_101.out
                have hcz95_0 : wc.cell? ⟨gb101, 0, none⟩ = some (.slice A1_0 l1_0.length c1_0) := (blk_cell BK101.out 0).trans rfl
                have hcz95_1 : wc.cell? ⟨gb101, 1, none⟩ = some (.slice A1_1 l1_1.length c1_1) := (blk_cell BK101.out 1).trans rfl
                have hfz95_0 := blk_frozen BK101.out 0
                have hfz95_1 := blk_frozen BK101.out 1
                have hcz96_0 : wc.cell? ⟨gb114, 0, none⟩ = some (.int .i64 ((rd_T46 l0 x11_2).f0)) := (blk_cell BK114.out 0).trans rfl
                have hcz96_1 : wc.cell? ⟨gb114, 1, none⟩ = some (.int .i64 ((rd_T46 l0 x11_2).f1)) := (blk_cell BK114.out 1).trans rfl
                have hcz96_2 : wc.cell? ⟨gb114, 2, none⟩ = some (.int .i64 ((rd_T46 l0 x11_2).f2)) := (blk_cell BK114.out 2).trans rfl
                have hfz96_0 := blk_frozen BK114.out 0
                have hfz96_1 := blk_frozen BK114.out 1
                have hfz96_2 := blk_frozen BK114.out 2
                go_wp2_with (first | (go_at_call 25; (with_reducible refine (spec_l1Has.calls kj31 _ _ l1_1 ((rd_T46 l0 x11_2).f0) true _ ?side1 ?side2 A80.out).mono ?_); (case side1 => repeat (first | exact (Kd.C_below HR1_1.out HB.out) | (with_reducible refine Kd.C_alloc ?_ _) | (with_reducible refine Kd.C_drewN ?_ _) | (with_reducible refine Kd.C_drew ?_))); (case side2 => exact HC1_1.out); rintro e w' ⟨rfl, ⟨nd, rfl⟩⟩; (try first | exact ⟨rfl, _, World.drewN_drewN _ _ _⟩ | exact ⟨rfl, _, Eq.trans (World.drewN_drewN _ _ _) (congrArg (World.drewN _) (Nat.add_assoc _ _ _))⟩)) | (go_at_call 25; (with_reducible refine (spec_l1Has.calls kj31 _ _ l1_0 ((rd_T46 l0 x11_2).f0) false _ ?side1 ?side2 A86.out).mono ?_); (case side1 => repeat (first | exact (Kd.C_below HR1_0.out (by repeat (first | (with_reducible first | exact HB.out | apply below_alloc | apply pw_below_drewN | apply below_drew1 | refine below_set ?_ GE101.out | refine below_set ?_ GE114.out) | exact HB.out))) | (with_reducible refine Kd.C_alloc ?_ _) | (with_reducible refine Kd.C_drewN ?_ _) | (with_reducible refine Kd.C_drew ?_))); (case side2 => exact HC1_0.out); rintro e w' ⟨rfl, ⟨nd, rfl⟩⟩; (try first | exact ⟨rfl, _, World.drewN_drewN _ _ _⟩ | exact ⟨rfl, _, Eq.trans (World.drewN_drewN _ _ _) (congrArg (World.drewN _) (Nat.add_assoc _ _ _))⟩)) | ((with_reducible refine gate_builtin (b := .append) (xs := #[.tmp 132, .tmp 134]) rfl ?_); at_builtin; refine Kd.R_append k46 (w0 := w) w.heap.size rfl (.tmp 132) (.tmp 134) 28 46 (.agg #[(.int .i64 0), (.int .i64 0), (.int .i64 0)]) 24 rfl Try.underlying28 info46 rfl (by decide) (by omega) u8 x8_31 (⟨((rd_T46 l0 x11_2).f0), ((rd_T46 l0 x11_2).f1), ((rd_T46 l0 x11_2).f2)⟩ : S46) [.int .i64 ((rd_T46 l0 x11_2).f0), .int .i64 ((rd_T46 l0 x11_2).f1), .int .i64 ((rd_T46 l0 x11_2).f2)] (fun k_ => some k_ ≠ (v103 : Value).ownBlock ∧ k_ ≠ gb114) (fun _ => False) rfl rfl ?aP (fun _ hk => hk.elim) ?aF ?aO ?aB ?aS ?aL ?_; (case aP => exact k46_mkM _ _ _ (⟨((rd_T46 l0 x11_2).f0), ((rd_T46 l0 x11_2).f1), ((rd_T46 l0 x11_2).f2)⟩ : S46)); (case aB => exact (by repeat (first | (with_reducible first | exact HB.out | apply below_alloc | apply pw_below_drewN | apply below_drew1 | refine below_set ?_ GE101.out | refine below_set ?_ GE114.out) | exact HB.out))); (case aF => exact (fun k_ hk => ⟨Kd.fresh' (Kd.R_lt (by (with_reducible repeat (first | apply Kd.R_alloc | apply Kd.R_drewN | apply Kd.R_drew)); exact HO_7.out)) k_ hk, Kd.freshB (g := gb114) (o := .cells #[.int .i64 ((rd_T46 l0 x11_2).f0), .int .i64 ((rd_T46 l0 x11_2).f1), .int .i64 ((rd_T46 l0 x11_2).f2)] 46 (0, 0)) (by (with_reducible repeat (first | refine blk_drewN ?_ _ | refine blk_drew ?_ | refine blk_alloc ?_ _)); exact BK114.out) k_ hk⟩)); (case aO => exact (by (with_reducible repeat (first | apply Kd.R_alloc | apply Kd.R_drewN | apply Kd.R_drew)); exact HO_8.out)); (case aS => exact (below_size (by repeat (first | (with_reducible first | exact HB.out | apply below_alloc | apply pw_below_drewN | apply below_drew1 | refine below_set ?_ GE101.out | refine below_set ?_ GE114.out) | exact HB.out)))); (case aL => have := LMc93.out; omega); intro v150 w97 ho hb hg hat; rw [← Ny149.out] at ho; have n0_ := Aside0.mk (Kd.R_after (ok := (fun k_ => k_ ≠ gb114)) (by (with_reducible repeat (first | apply Kd.R_alloc | apply Kd.R_drewN | apply Kd.R_drew)); exact Kd.R_mono HO_7.out (fun _ hk => ⟨hk.2, hk.1⟩)) hg hat); have n1_ := Aside0.mk (Kd.R_over' (by (with_reducible repeat (first | apply Kd.R_alloc | apply Kd.R_drewN | apply Kd.R_drew)); exact HO_9.out) (Kd.R_typed (by (with_reducible repeat (first | apply Kd.R_alloc | apply Kd.R_drewN | apply Kd.R_drew)); exact HO_8.out)) (by decide) hg); have n2_ := Aside0.mk (blk_grown (g := gb101) (o := .cells #[.slice A1_0 l1_0.length c1_0, .slice A1_1 l1_1.length c1_1] 32 (0, 0)) (by (with_reducible repeat (first | refine blk_drewN ?_ _ | refine blk_drew ?_ | refine blk_alloc ?_ _)); exact BK101.out) hg (Kd.R_ne HO_8.out BK101.out (by decide))); have n3_ := Aside0.mk (blk_grown (g := gb114) (o := .cells #[.int .i64 ((rd_T46 l0 x11_2).f0), .int .i64 ((rd_T46 l0 x11_2).f1), .int .i64 ((rd_T46 l0 x11_2).f2)] 46 (0, 0)) (by (with_reducible repeat (first | refine blk_drewN ?_ _ | refine blk_drew ?_ | refine blk_alloc ?_ _)); exact BK114.out) hg (Kd.R_away HO_8.out (fun _ hk => hk.2))); have n4_ := Aside0.mk (hb); have n5_ := Aside0.mk (ho); clear HO_7; clear HO_9; clear BK101; clear BK114; clear HB; clear HO_8; have HO_7 := n0_; have HO_9 := n1_; have BK101 := n2_; have BK114 := n3_; have HB := n4_; have HO151 := n5_; clear n0_ n1_ n2_ n3_ n4_ n5_; clear ho hb hg hat))
                repeat (go_quiet (fail); try go_wp2_with (fail))
                go_roundg kj31
                case measure => have := HJ2.out; have := HK2.out; have := HJ20.out; have := HJ31.out; omega
                case rel => exact ⟨(y149), (x9_31), (wrap64 (x10_2 - 1)), (wrap64 (x11_2 + 1)), (by first | rfl | (simp; done) | (simp [*]; done)), (by first | rfl | (simp; done) | (simp [*]; done)), H', ⟨by have := HJ2.out; have := HK2.out; have := HJ20.out; have := HJ31.out; omega⟩, ⟨by (with_reducible repeat (first | apply Kd.R_alloc | apply Kd.R_drewN | apply Kd.R_drew)); exact Kd.R_mono HO_7.out (fun _ hk => hk.2)⟩, ⟨by (with_reducible repeat (first | apply Kd.R_alloc | apply Kd.R_drewN | apply Kd.R_drew)); exact Kd.R_mono HO151.out (fun _ hk => hk.1)⟩, ⟨by (with_reducible repeat (first | apply Kd.R_alloc | apply Kd.R_drewN | apply Kd.R_drew)); exact HO_9.out⟩, ⟨by (with_reducible repeat (first | refine blk_drewN ?_ _ | refine blk_drew ?_ | refine blk_alloc ?_ _)); exact BK101.out⟩, ⟨by repeat (first | (with_reducible first | exact HB.out | apply below_alloc | apply pw_below_drewN | apply below_drew1 | refine below_set ?_ GE101.out | refine below_set ?_ GE114.out) | exact HB.out)⟩⟩
               ·rw [if_neg c93] at H
                exact absurd H (by simp)
            ·replace c81 := Bool.eq_false_iff.mpr c81
             subst c81
             have H1 : ((spec_l1Has.f kj31 l1_0 ((rd_T46 l0 x11_2).f0)).bind fun t152 => (if t152 = true then (if x8_31.length < 5864062014805 then (spec_Layout.l0 kj31 l0 y102 (x8_31 ++ [(⟨((rd_T46 l0 x11_2).f0), ((rd_T46 l0 x11_2).f1), ((rd_T46 l0 x11_2).f2)⟩ : S46)]) x9_31 (wrap64 (x10_2 + 1)) (wrap64 (x11_2 + 1)) l1_0 l1_1) else (none)) else (if x8_31.length < 5864062014805 then (spec_Layout.l0 kj31 l0 y102 (x8_31 ++ [(⟨((rd_T46 l0 x11_2).f0), ((rd_T46 l0 x11_2).f1), ((rd_T46 l0 x11_2).f2)⟩ : S46)]) x9_31 x10_2 (wrap64 (x11_2 + 1)) l1_0 l1_1) else (none)))) = some (r1, r2, r3) := by rw [if_neg (show ¬ (false = true) by decide)] at H; exact H
             clear H
             have H := H1
             clear H1
             replace H := Option.bind_eq_some_iff.mp H
             obtain ⟨t152, A980, H⟩ := H
             replace H : (if t152 = true then (if x8_31.length < 5864062014805 then (spec_Layout.l0 kj31 l0 y102 (x8_31 ++ [(⟨((rd_T46 l0 x11_2).f0), ((rd_T46 l0 x11_2).f1), ((rd_T46 l0 x11_2).f2)⟩ : S46)]) x9_31 (wrap64 (x10_2 + 1)) (wrap64 (x11_2 + 1)) l1_0 l1_1) else (none)) else (if x8_31.length < 5864062014805 then (spec_Layout.l0 kj31 l0 y102 (x8_31 ++ [(⟨((rd_T46 l0 x11_2).f0), ((rd_T46 l0 x11_2).f1), ((rd_T46 l0 x11_2).f2)⟩ : S46)]) x9_31 x10_2 (wrap64 (x11_2 + 1)) l1_0 l1_1) else (none))) = some (r1, r2, r3) := H
             have A98 := Aside0.mk A980
             clear A980
             by_cases c99 : t152 = true
             ·subst c99
              have H1 : (if x8_31.length < 5864062014805 then (spec_Layout.l0 kj31 l0 y102 (x8_31 ++ [(⟨((rd_T46 l0 x11_2).f0), ((rd_T46 l0 x11_2).f1), ((rd_T46 l0 x11_2).f2)⟩ : S46)]) x9_31 (wrap64 (x10_2 + 1)) (wrap64 (x11_2 + 1)) l1_0 l1_1) else (none)) = some (r1, r2, r3) := by rw [if_pos rfl] at H; exact H
              clear H
              have H := H1
              clear H1
              by_cases c100 : x8_31.length < 5864062014805
              ·rw [if_pos c100] at H
               have LMc100 := Aside0.mk c100
               clear c100
               obtain ⟨y153, hy153⟩ : ∃ y_ : List (S46), y_ = (x8_31 ++ [(⟨((rd_T46 l0 x11_2).f0), ((rd_T46 l0 x11_2).f1), ((rd_T46 l0 x11_2).f2)⟩ : S46)]) := ⟨_, rfl⟩
               replace H : (spec_Layout.l0 kj31 l0 y102 y153 x9_31 (wrap64 (x10_2 + 1)) (wrap64 (x11_2 + 1)) l1_0 l1_1) = some (r1, r2, r3) := by first | (rw [hy153]; with_reducible exact H) | (have H2_ := (Option.bind_some _ _).symm.trans H; rw [hy153]; with_reducible exact H2_) | (have H2_ := (Option.bind_some _ _).symm.trans H; with_reducible exact H2_) | with_reducible exact H | (rw [hy153]; exact H) | exact H
               have Ny153 := Aside0.mk hy153
               clear hy153
               have H' := Aside0.mk H
               clear H
               have hnb101 := NB101_114.out
               have hnc101 := NB114_101.out
               have hcz102_0 : wc.cell? ⟨gb101, 0, none⟩ = some (.slice A1_0 l1_0.length c1_0) := (blk_cell BK101.out 0).trans rfl
               have hcz102_1 : wc.cell? ⟨gb101, 1, none⟩ = some (.slice A1_1 l1_1.length c1_1) := (blk_cell BK101.out 1).trans rfl
               have hfz102_0 := blk_frozen BK101.out 0
               have hfz102_1 := blk_frozen BK101.out 1
               have hcz103_0 : wc.cell? ⟨gb114, 0, none⟩ = some (.int .i64 ((rd_T46 l0 x11_2).f0)) := (blk_cell BK114.out 0).trans rfl
               have hcz103_1 : wc.cell? ⟨gb114, 1, none⟩ = some (.int .i64 ((rd_T46 l0 x11_2).f1)) := (blk_cell BK114.out 1).trans rfl
               have hcz103_2 : wc.cell? ⟨gb114, 2, none⟩ = some (.int .i64 ((rd_T46 l0 x11_2).f2)) := (blk_cell BK114.out 2).trans rfl
               have hfz103_0 := blk_frozen BK114.out 0
               have hfz103_1 := blk_frozen BK114.out 1
               have hfz103_2 := blk_frozen BK114.out 2
               go_wp2_with (first | (go_at_call 25; (with_reducible refine (spec_l1Has.calls kj31 _ _ l1_1 ((rd_T46 l0 x11_2).f0) false _ ?side1 ?side2 A80.out).mono ?_); (case side1 => repeat (first | exact (Kd.C_below HR1_1.out HB.out) | (with_reducible refine Kd.C_alloc ?_ _) | (with_reducible refine Kd.C_drewN ?_ _) | (with_reducible refine Kd.C_drew ?_))); (case side2 => exact HC1_1.out); rintro e w' ⟨rfl, ⟨nd, rfl⟩⟩; (try first | exact ⟨rfl, _, World.drewN_drewN _ _ _⟩ | exact ⟨rfl, _, Eq.trans (World.drewN_drewN _ _ _) (congrArg (World.drewN _) (Nat.add_assoc _ _ _))⟩)) | (go_at_call 25; (with_reducible refine (spec_l1Has.calls kj31 _ _ l1_0 ((rd_T46 l0 x11_2).f0) true _ ?side1 ?side2 A98.out).mono ?_); (case side1 => repeat (first | exact (Kd.C_below HR1_0.out (by repeat (first | (with_reducible first | exact HB.out | apply below_alloc | apply pw_below_drewN | apply below_drew1 | refine below_set ?_ GE101.out | refine below_set ?_ GE114.out) | exact HB.out))) | (with_reducible refine Kd.C_alloc ?_ _) | (with_reducible refine Kd.C_drewN ?_ _) | (with_reducible refine Kd.C_drew ?_))); (case side2 => exact HC1_0.out); rintro e w' ⟨rfl, ⟨nd, rfl⟩⟩; (try first | exact ⟨rfl, _, World.drewN_drewN _ _ _⟩ | exact ⟨rfl, _, Eq.trans (World.drewN_drewN _ _ _) (congrArg (World.drewN _) (Nat.add_assoc _ _ _))⟩)) | ((with_reducible refine gate_builtin (b := .append) (xs := #[.tmp 132, .tmp 134]) rfl ?_); at_builtin; refine Kd.R_append k46 (w0 := w) w.heap.size rfl (.tmp 132) (.tmp 134) 28 46 (.agg #[(.int .i64 0), (.int .i64 0), (.int .i64 0)]) 24 rfl Try.underlying28 info46 rfl (by decide) (by omega) u8 x8_31 (⟨((rd_T46 l0 x11_2).f0), ((rd_T46 l0 x11_2).f1), ((rd_T46 l0 x11_2).f2)⟩ : S46) [.int .i64 ((rd_T46 l0 x11_2).f0), .int .i64 ((rd_T46 l0 x11_2).f1), .int .i64 ((rd_T46 l0 x11_2).f2)] (fun k_ => some k_ ≠ (v103 : Value).ownBlock ∧ k_ ≠ gb114) (fun _ => False) rfl rfl ?aP (fun _ hk => hk.elim) ?aF ?aO ?aB ?aS ?aL ?_; (case aP => exact k46_mkM _ _ _ (⟨((rd_T46 l0 x11_2).f0), ((rd_T46 l0 x11_2).f1), ((rd_T46 l0 x11_2).f2)⟩ : S46)); (case aB => exact (by repeat (first | (with_reducible first | exact HB.out | apply below_alloc | apply pw_below_drewN | apply below_drew1 | refine below_set ?_ GE101.out | refine below_set ?_ GE114.out) | exact HB.out))); (case aF => exact (fun k_ hk => ⟨Kd.fresh' (Kd.R_lt (by (with_reducible repeat (first | apply Kd.R_alloc | apply Kd.R_drewN | apply Kd.R_drew)); exact HO_7.out)) k_ hk, Kd.freshB (g := gb114) (o := .cells #[.int .i64 ((rd_T46 l0 x11_2).f0), .int .i64 ((rd_T46 l0 x11_2).f1), .int .i64 ((rd_T46 l0 x11_2).f2)] 46 (0, 0)) (by (with_reducible repeat (first | refine blk_drewN ?_ _ | refine blk_drew ?_ | refine blk_alloc ?_ _)); exact BK114.out) k_ hk⟩)); (case aO => exact (by (with_reducible repeat (first | apply Kd.R_alloc | apply Kd.R_drewN | apply Kd.R_drew)); exact HO_8.out)); (case aS => exact (below_size (by repeat (first | (with_reducible first | exact HB.out | apply below_alloc | apply pw_below_drewN | apply below_drew1 | refine below_set ?_ GE101.out | refine below_set ?_ GE114.out) | exact HB.out)))); (case aL => have := LMc100.out; omega); intro v154 w104 ho hb hg hat; rw [← Ny153.out] at ho; have n0_ := Aside0.mk (Kd.R_after (ok := (fun k_ => k_ ≠ gb114)) (by (with_reducible repeat (first | apply Kd.R_alloc | apply Kd.R_drewN | apply Kd.R_drew)); exact Kd.R_mono HO_7.out (fun _ hk => ⟨hk.2, hk.1⟩)) hg hat); have n1_ := Aside0.mk (Kd.R_over' (by (with_reducible repeat (first | apply Kd.R_alloc | apply Kd.R_drewN | apply Kd.R_drew)); exact HO_9.out) (Kd.R_typed (by (with_reducible repeat (first | apply Kd.R_alloc | apply Kd.R_drewN | apply Kd.R_drew)); exact HO_8.out)) (by decide) hg); have n2_ := Aside0.mk (blk_grown (g := gb101) (o := .cells #[.slice A1_0 l1_0.length c1_0, .slice A1_1 l1_1.length c1_1] 32 (0, 0)) (by (with_reducible repeat (first | refine blk_drewN ?_ _ | refine blk_drew ?_ | refine blk_alloc ?_ _)); exact BK101.out) hg (Kd.R_ne HO_8.out BK101.out (by decide))); have n3_ := Aside0.mk (blk_grown (g := gb114) (o := .cells #[.int .i64 ((rd_T46 l0 x11_2).f0), .int .i64 ((rd_T46 l0 x11_2).f1), .int .i64 ((rd_T46 l0 x11_2).f2)] 46 (0, 0)) (by (with_reducible repeat (first | refine blk_drewN ?_ _ | refine blk_drew ?_ | refine blk_alloc ?_ _)); exact BK114.out) hg (Kd.R_away HO_8.out (fun _ hk => hk.2))); have n4_ := Aside0.mk (hb); have n5_ := Aside0.mk (ho); clear HO_7; clear HO_9; clear BK101; clear BK114; clear HB; clear HO_8; have HO_7 := n0_; have HO_9 := n1_; have BK101 := n2_; have BK114 := n3_; have HB := n4_; have HO155 := n5_; clear n0_ n1_ n2_ n3_ n4_ n5_; clear ho hb hg hat))
               repeat (go_quiet (fail); try go_wp2_with (fail))
               go_roundg kj31
               case measure => have := HJ2.out; have := HK2.out; have := HJ20.out; have := HJ31.out; omega
               case rel => exact ⟨(y153), (x9_31), (wrap64 (x10_2 + 1)), (wrap64 (x11_2 + 1)), (by first | rfl | (simp; done) | (simp [*]; done)), (by first | rfl | (simp; done) | (simp [*]; done)), H', ⟨by have := HJ2.out; have := HK2.out; have := HJ20.out; have := HJ31.out; omega⟩, ⟨by (with_reducible repeat (first | apply Kd.R_alloc | apply Kd.R_drewN | apply Kd.R_drew)); exact Kd.R_mono HO_7.out (fun _ hk => hk.2)⟩, ⟨by (with_reducible repeat (first | apply Kd.R_alloc | apply Kd.R_drewN | apply Kd.R_drew)); exact Kd.R_mono HO155.out (fun _ hk => hk.1)⟩, ⟨by (with_reducible repeat (first | apply Kd.R_alloc | apply Kd.R_drewN | apply Kd.R_drew)); exact HO_9.out⟩, ⟨by (with_reducible repeat (first | refine blk_drewN ?_ _ | refine blk_drew ?_ | refine blk_alloc ?_ _)); exact BK101.out⟩, ⟨by repeat (first | (with_reducible first | exact HB.out | apply below_alloc | apply pw_below_drewN | apply below_drew1 | refine below_set ?_ GE101.out | refine below_set ?_ GE114.out) | exact HB.out)⟩⟩
              ·rw [if_neg c100] at H
               exact absurd H (by simp)
             ·replace c99 := Bool.eq_false_iff.mpr c99
              subst c99
              have H1 : (if x8_31.length < 5864062014805 then (spec_Layout.l0 kj31 l0 y102 (x8_31 ++ [(⟨((rd_T46 l0 x11_2).f0), ((rd_T46 l0 x11_2).f1), ((rd_T46 l0 x11_2).f2)⟩ : S46)]) x9_31 x10_2 (wrap64 (x11_2 + 1)) l1_0 l1_1) else (none)) = some (r1, r2, r3) := by rw [if_neg (show ¬ (false = true) by decide)] at H; exact H
              clear H
              have H := H1
              clear H1
              by_cases c105 : x8_31.length < 5864062014805
              ·rw [if_pos c105] at H
               have LMc105 := Aside0.mk c105
               clear c105
               obtain ⟨y156, hy156⟩ : ∃ y_ : List (S46), y_ = (x8_31 ++ [(⟨((rd_T46 l0 x11_2).f0), ((rd_T46 l0 x11_2).f1), ((rd_T46 l0 x11_2).f2)⟩ : S46)]) := ⟨_, rfl⟩
               replace H : (spec_Layout.l0 kj31 l0 y102 y156 x9_31 x10_2 (wrap64 (x11_2 + 1)) l1_0 l1_1) = some (r1, r2, r3) := by first | (rw [hy156]; with_reducible exact H) | (have H2_ := (Option.bind_some _ _).symm.trans H; rw [hy156]; with_reducible exact H2_) | (have H2_ := (Option.bind_some _ _).symm.trans H; with_reducible exact H2_) | with_reducible exact H | (rw [hy156]; exact H) | exact H
               have Ny156 := Aside0.mk hy156
               clear hy156
               have H' := Aside0.mk H
               clear H
               have hnb106 := NB101_114.out
               have hnc106 := NB114_101.out
               have hcz107_0 : wc.cell? ⟨gb101, 0, none⟩ = some (.slice A1_0 l1_0.length c1_0) := (blk_cell BK101.out 0).trans rfl
               have hcz107_1 : wc.cell? ⟨gb101, 1, none⟩ = some (.slice A1_1 l1_1.length c1_1) := (blk_cell BK101.out 1).trans rfl
               have hfz107_0 := blk_frozen BK101.out 0
               have hfz107_1 := blk_frozen BK101.out 1
               have hcz108_0 : wc.cell? ⟨gb114, 0, none⟩ = some (.int .i64 ((rd_T46 l0 x11_2).f0)) := (blk_cell BK114.out 0).trans rfl
               have hcz108_1 : wc.cell? ⟨gb114, 1, none⟩ = some (.int .i64 ((rd_T46 l0 x11_2).f1)) := (blk_cell BK114.out 1).trans rfl
               have hcz108_2 : wc.cell? ⟨gb114, 2, none⟩ = some (.int .i64 ((rd_T46 l0 x11_2).f2)) := (blk_cell BK114.out 2).trans rfl
               have hfz108_0 := blk_frozen BK114.out 0
               have hfz108_1 := blk_frozen BK114.out 1
               have hfz108_2 := blk_frozen BK114.out 2
               go_wp2_with (first | (go_at_call 25; (with_reducible refine (spec_l1Has.calls kj31 _ _ l1_1 ((rd_T46 l0 x11_2).f0) false _ ?side1 ?side2 A80.out).mono ?_); (case side1 => repeat (first | exact (Kd.C_below HR1_1.out HB.out) | (with_reducible refine Kd.C_alloc ?_ _) | (with_reducible refine Kd.C_drewN ?_ _) | (with_reducible refine Kd.C_drew ?_))); (case side2 => exact HC1_1.out); rintro e w' ⟨rfl, ⟨nd, rfl⟩⟩; (try first | exact ⟨rfl, _, World.drewN_drewN _ _ _⟩ | exact ⟨rfl, _, Eq.trans (World.drewN_drewN _ _ _) (congrArg (World.drewN _) (Nat.add_assoc _ _ _))⟩)) | (go_at_call 25; (with_reducible refine (spec_l1Has.calls kj31 _ _ l1_0 ((rd_T46 l0 x11_2).f0) false _ ?side1 ?side2 A98.out).mono ?_); (case side1 => repeat (first | exact (Kd.C_below HR1_0.out (by repeat (first | (with_reducible first | exact HB.out | apply below_alloc | apply pw_below_drewN | apply below_drew1 | refine below_set ?_ GE101.out | refine below_set ?_ GE114.out) | exact HB.out))) | (with_reducible refine Kd.C_alloc ?_ _) | (with_reducible refine Kd.C_drewN ?_ _) | (with_reducible refine Kd.C_drew ?_))); (case side2 => exact HC1_0.out); rintro e w' ⟨rfl, ⟨nd, rfl⟩⟩; (try first | exact ⟨rfl, _, World.drewN_drewN _ _ _⟩ | exact ⟨rfl, _, Eq.trans (World.drewN_drewN _ _ _) (congrArg (World.drewN _) (Nat.add_assoc _ _ _))⟩)) | ((with_reducible refine gate_builtin (b := .append) (xs := #[.tmp 132, .tmp 134]) rfl ?_); at_builtin; refine Kd.R_append k46 (w0 := w) w.heap.size rfl (.tmp 132) (.tmp 134) 28 46 (.agg #[(.int .i64 0), (.int .i64 0), (.int .i64 0)]) 24 rfl Try.underlying28 info46 rfl (by decide) (by omega) u8 x8_31 (⟨((rd_T46 l0 x11_2).f0), ((rd_T46 l0 x11_2).f1), ((rd_T46 l0 x11_2).f2)⟩ : S46) [.int .i64 ((rd_T46 l0 x11_2).f0), .int .i64 ((rd_T46 l0 x11_2).f1), .int .i64 ((rd_T46 l0 x11_2).f2)] (fun k_ => some k_ ≠ (v103 : Value).ownBlock ∧ k_ ≠ gb114) (fun _ => False) rfl rfl ?aP (fun _ hk => hk.elim) ?aF ?aO ?aB ?aS ?aL ?_; (case aP => exact k46_mkM _ _ _ (⟨((rd_T46 l0 x11_2).f0), ((rd_T46 l0 x11_2).f1), ((rd_T46 l0 x11_2).f2)⟩ : S46)); (case aB => exact (by repeat (first | (with_reducible first | exact HB.out | apply below_alloc | apply pw_below_drewN | apply below_drew1 | refine below_set ?_ GE101.out | refine below_set ?_ GE114.out) | exact HB.out))); (case aF => exact (fun k_ hk => ⟨Kd.fresh' (Kd.R_lt (by (with_reducible repeat (first | apply Kd.R_alloc | apply Kd.R_drewN | apply Kd.R_drew)); exact HO_7.out)) k_ hk, Kd.freshB (g := gb114) (o := .cells #[.int .i64 ((rd_T46 l0 x11_2).f0), .int .i64 ((rd_T46 l0 x11_2).f1), .int .i64 ((rd_T46 l0 x11_2).f2)] 46 (0, 0)) (by (with_reducible repeat (first | refine blk_drewN ?_ _ | refine blk_drew ?_ | refine blk_alloc ?_ _)); exact BK114.out) k_ hk⟩)); (case aO => exact (by (with_reducible repeat (first | apply Kd.R_alloc | apply Kd.R_drewN | apply Kd.R_drew)); exact HO_8.out)); (case aS => exact (below_size (by repeat (first | (with_reducible first | exact HB.out | apply below_alloc | apply pw_below_drewN | apply below_drew1 | refine below_set ?_ GE101.out | refine below_set ?_ GE114.out) | exact HB.out)))); (case aL => have := LMc105.out; omega); intro v157 w109 ho hb hg hat; rw [← Ny156.out] at ho; have n0_ := Aside0.mk (Kd.R_after (ok := (fun k_ => k_ ≠ gb114)) (by (with_reducible repeat (first | apply Kd.R_alloc | apply Kd.R_drewN | apply Kd.R_drew)); exact Kd.R_mono HO_7.out (fun _ hk => ⟨hk.2, hk.1⟩)) hg hat); have n1_ := Aside0.mk (Kd.R_over' (by (with_reducible repeat (first | apply Kd.R_alloc | apply Kd.R_drewN | apply Kd.R_drew)); exact HO_9.out) (Kd.R_typed (by (with_reducible repeat (first | apply Kd.R_alloc | apply Kd.R_drewN | apply Kd.R_drew)); exact HO_8.out)) (by decide) hg); have n2_ := Aside0.mk (blk_grown (g := gb101) (o := .cells #[.slice A1_0 l1_0.length c1_0, .slice A1_1 l1_1.length c1_1] 32 (0, 0)) (by (with_reducible repeat (first | refine blk_drewN ?_ _ | refine blk_drew ?_ | refine blk_alloc ?_ _)); exact BK101.out) hg (Kd.R_ne HO_8.out BK101.out (by decide))); have n3_ := Aside0.mk (blk_grown (g := gb114) (o := .cells #[.int .i64 ((rd_T46 l0 x11_2).f0), .int .i64 ((rd_T46 l0 x11_2).f1), .int .i64 ((rd_T46 l0 x11_2).f2)] 46 (0, 0)) (by (with_reducible repeat (first | refine blk_drewN ?_ _ | refine blk_drew ?_ | refine blk_alloc ?_ _)); exact BK114.out) hg (Kd.R_away HO_8.out (fun _ hk => hk.2))); have n4_ := Aside0.mk (hb); have n5_ := Aside0.mk (ho); clear HO_7; clear HO_9; clear BK101; clear BK114; clear HB; clear HO_8; have HO_7 := n0_; have HO_9 := n1_; have BK101 := n2_; have BK114 := n3_; have HB := n4_; have HO158 := n5_; clear n0_ n1_ n2_ n3_ n4_ n5_; clear ho hb hg hat))
               repeat (go_quiet (fail); try go_wp2_with (fail))
               go_roundg kj31
               case measure => have := HJ2.out; have := HK2.out; have := HJ20.out; have := HJ31.out; omega
               case rel => exact ⟨(y156), (x9_31), (x10_2), (wrap64 (x11_2 + 1)), (by first | rfl | (simp; done) | (simp [*]; done)), (by first | rfl | (simp; done) | (simp [*]; done)), H', ⟨by have := HJ2.out; have := HK2.out; have := HJ20.out; have := HJ31.out; omega⟩, ⟨by (with_reducible repeat (first | apply Kd.R_alloc | apply Kd.R_drewN | apply Kd.R_drew)); exact Kd.R_mono HO_7.out (fun _ hk => hk.2)⟩, ⟨by (with_reducible repeat (first | apply Kd.R_alloc | apply Kd.R_drewN | apply Kd.R_drew)); exact Kd.R_mono HO158.out (fun _ hk => hk.1)⟩, ⟨by (with_reducible repeat (first | apply Kd.R_alloc | apply Kd.R_drewN | apply Kd.R_drew)); exact HO_9.out⟩, ⟨by (with_reducible repeat (first | refine blk_drewN ?_ _ | refine blk_drew ?_ | refine blk_alloc ?_ _)); exact BK101.out⟩, ⟨by repeat (first | (with_reducible first | exact HB.out | apply below_alloc | apply pw_below_drewN | apply below_drew1 | refine below_set ?_ GE101.out | refine below_set ?_ GE114.out) | exact HB.out)⟩⟩
              ·rw [if_neg c105] at H
               exact absurd H (by simp)
       ·rw [if_neg c20] at H
        exact absurd H (by simp)
      ·rw [if_neg c19] at H
       have c19b0 : decide (x11_2 < (l0.length : Int)) = false := decide_eq_false c19
       clear c19
       by_cases c110 : x10_2 = 0
       ·rw [if_pos c110] at H
        have c110b0 : (x10_2 == 0) = true := beq_iff_eq.mpr c110
        have c110b1 : (x10_2 != 0) = false := bne_eq_false_iff_eq.mpr c110
        clear c110
        by_cases c111 : (l0.length : Int) > 0
        ·rw [if_pos c111] at H
         have c111b0 : decide (0 < (l0.length : Int)) = true := decide_eq_true c111
         have c111b1 : decide (0 < l0.length) = true := decide_eq_true (by omega)
         clear c111
         obtain ⟨ji112, hji112⟩ : ∃ j_ : Int, (wrap64 ((l0.length : Int) - 1)) = j_ := ⟨_, rfl⟩
         replace H : (if 0 ≤ (ji112) then (if (ji112) < (l0.length : Int) then ((spec_l16Made.f (-1) ((rd_T46 l0 (ji112)).f0) ((rd_T46 l0 (ji112)).f1) ((rd_T46 l0 (ji112)).f2)).bind fun bt161 => (if x8_2.length < 5864062014805 then (spec_Layout.l2 k2 (x8_2 ++ [(⟨bt161.1, bt161.2.1, bt161.2.2⟩ : S46)]) (wrap64 ((x9_2.length : Int) - 1)) ((rd_T46 l0 (ji112)).f0) ((rd_T46 l0 (ji112)).f1) ((rd_T46 l0 (ji112)).f2)) else (none))) else (none)) else (none)) = some (r1, r2, r3) := by first | (rw [hji112] at H; exact H) | (simp only [hji112] at H ⊢; exact H)
         have hji112w : (IntKind.i64.wrap ((l0.length : Int) - 1)) = ji112 := (i64_w _).trans hji112
         by_cases c113 : 0 ≤ (ji112)
         ·rw [if_pos c113] at H
          have c113b0 : decide (0 ≤ (ji112)) = true := decide_eq_true c113
          clear c113
          by_cases c114 : (ji112) < (l0.length : Int)
          ·rw [if_pos c114] at H
           have c114b0 : decide ((ji112) < (l0.length : Int)) = true := decide_eq_true c114
           clear c114
           replace H := Option.bind_eq_some_iff.mp H
           obtain ⟨⟨t161, t162, t163⟩, A1150, H⟩ := H
           replace H : (if x8_2.length < 5864062014805 then (spec_Layout.l2 k2 (x8_2 ++ [(⟨t161, t162, t163⟩ : S46)]) (wrap64 ((x9_2.length : Int) - 1)) ((rd_T46 l0 (ji112)).f0) ((rd_T46 l0 (ji112)).f1) ((rd_T46 l0 (ji112)).f2)) else (none)) = some (r1, r2, r3) := H
           have A115 := Aside0.mk A1150
           clear A1150
           by_cases c116 : x8_2.length < 5864062014805
           ·rw [if_pos c116] at H
            have LMc116 := Aside0.mk c116
            clear c116
            obtain ⟨y164, hy164⟩ : ∃ y_ : List (S46), y_ = (x8_2 ++ [(⟨t161, t162, t163⟩ : S46)]) := ⟨_, rfl⟩
            replace H : (spec_Layout.l2 k2 y164 (wrap64 ((x9_2.length : Int) - 1)) ((rd_T46 l0 (ji112)).f0) ((rd_T46 l0 (ji112)).f1) ((rd_T46 l0 (ji112)).f2)) = some (r1, r2, r3) := by first | (rw [hy164]; with_reducible exact H) | (have H2_ := (Option.bind_some _ _).symm.trans H; rw [hy164]; with_reducible exact H2_) | (have H2_ := (Option.bind_some _ _).symm.trans H; with_reducible exact H2_) | with_reducible exact H | (rw [hy164]; exact H) | exact H
            have Ny164 := Aside0.mk hy164
            clear hy164
            have H' := Aside0.mk H
            clear H
            have p159 : 0 ≤ ((ji112) : Int) := of_decide_eq_true (by first | (with_reducible assumption) | assumption)
            have q159 : (ji112) < (l0.length : Int) := of_decide_eq_true (by first | (with_reducible assumption) | assumption)
            obtain ⟨ad159, e159, hx159_0, hx159_1, hx159_2⟩ := at_T46 HR0.out (ji112) p159 q159
            cases e159
            replace hx159_0 := (HB.out.cell (World.block_lt_of_cell? w _ hx159_0)).trans hx159_0
            replace hx159_1 := (HB.out.cell (World.block_lt_of_cell? w _ hx159_1)).trans hx159_1
            replace hx159_2 := (HB.out.cell (World.block_lt_of_cell? w _ hx159_2)).trans hx159_2
            replace p159 := eq_true p159
            replace q159 := eq_true q159
            go_wp2_with (first | ((with_reducible refine gate_dst (N := 13) rfl ?_); refine box_event ?hg (N := 13) ?hd (cs := #[.int .i64 0, .int .i64 0, .int .i64 0]) (t := 46) ?hr ?_; (case hd => rfl); (case hg => rfl); (case hr => first | (go_simp; done) | (go_simp; rfl)); intro gb160 hg w117 hbox hb; have n0_ := Aside0.mk (Kd.R_below (Kd.R_elderB (by (with_reducible repeat (first | apply Kd.R_alloc | apply Kd.R_drewN | apply Kd.R_drew)); exact HO_7.out) gb160 (Nat.le_of_eq hg.symm)) hb); have n1_ := Aside0.mk (Kd.R_below (Kd.R_elderB (by (with_reducible repeat (first | apply Kd.R_alloc | apply Kd.R_drewN | apply Kd.R_drew)); exact HO_8.out) gb160 (Nat.le_of_eq hg.symm)) hb); have n2_ := Aside0.mk (Kd.R_below (by (with_reducible repeat (first | apply Kd.R_alloc | apply Kd.R_drewN | apply Kd.R_drew)); exact HO_9.out) hb); have n3_ := Aside0.mk (blk_below (g := gb101) (o := .cells #[.slice A1_0 l1_0.length c1_0, .slice A1_1 l1_1.length c1_1] 32 (0, 0)) (by (with_reducible repeat (first | refine blk_drewN ?_ _ | refine blk_drew ?_ | refine blk_alloc ?_ _)); exact BK101.out) hb); have n4_ := Aside0.mk (below_step (by repeat (first | (with_reducible first | exact HB.out | apply below_alloc | apply pw_below_drewN | apply below_drew1 | refine below_set ?_ GE101.out) | exact HB.out)) hb); have n5_ := Aside0.mk (hbox); have n6_ := Aside0.mk ((by rw [hg]; exact (below_size (by repeat (first | (with_reducible first | exact HB.out | apply below_alloc | apply pw_below_drewN | apply below_drew1 | refine below_set ?_ GE101.out) | exact HB.out))) : w.heap.size ≤ gb160)); have n7_ := Aside0.mk ((by rw [hg]; exact (below_size (by repeat (first | (with_reducible first | exact HB.out | apply below_alloc | apply pw_below_drewN | apply below_drew1 | refine below_set ?_ GE101.out) | exact HB.out))) : w.heap.size ≤ gb160)); have n8_ := Aside0.mk ((by rw [hg]; exact Nat.ne_of_lt (blk_lt (g := gb101) (o := .cells #[.slice A1_0 l1_0.length c1_0, .slice A1_1 l1_1.length c1_1] 32 (0, 0)) (by (with_reducible repeat (first | refine blk_drewN ?_ _ | refine blk_drew ?_ | refine blk_alloc ?_ _)); exact BK101.out)) : gb101 ≠ gb160)); have n9_ := Aside0.mk ((by rw [hg]; exact Nat.ne_of_gt (blk_lt (g := gb101) (o := .cells #[.slice A1_0 l1_0.length c1_0, .slice A1_1 l1_1.length c1_1] 32 (0, 0)) (by (with_reducible repeat (first | refine blk_drewN ?_ _ | refine blk_drew ?_ | refine blk_alloc ?_ _)); exact BK101.out)) : gb160 ≠ gb101)); clear HO_7; clear HO_8; clear HO_9; clear BK101; clear HB; have HO_7 := n0_; have HO_8 := n1_; have HO_9 := n2_; have BK101 := n3_; have HB := n4_; have BK160 := n5_; have GW160 := n6_; have GE160 := n7_; have NB101_160 := n8_; have NB160_101 := n9_; clear n0_ n1_ n2_ n3_ n4_ n5_ n6_ n7_ n8_ n9_; clear hb hbox hg; have hnb118 := NB160_101.out; have hnc118 := NB101_160.out; have hcz119_0 : w117.cell? ⟨gb160, 0, none⟩ = some (.int .i64 0) := (blk_cell BK160.out 0).trans rfl; have hcz119_1 : w117.cell? ⟨gb160, 1, none⟩ = some (.int .i64 0) := (blk_cell BK160.out 1).trans rfl; have hcz119_2 : w117.cell? ⟨gb160, 2, none⟩ = some (.int .i64 0) := (blk_cell BK160.out 2).trans rfl; have hfz119_0 := blk_frozen BK160.out 0; have hfz119_1 := blk_frozen BK160.out 1; have hfz119_2 := blk_frozen BK160.out 2) | (go_at_call 24; (with_reducible refine (spec_l16Made.calls (-1) ((rd_T46 l0 (ji112)).f0) ((rd_T46 l0 (ji112)).f1) ((rd_T46 l0 (ji112)).f2) t161 t162 t163 _ A115.out).mono ?_); rintro e w120 ⟨rfl, hb⟩; have n0_ := Aside0.mk (Kd.R_below (by (with_reducible repeat (first | apply Kd.R_alloc | apply Kd.R_drewN | apply Kd.R_drew)); exact (Kd.R_mono (Kd.R_far (p := ⟨gb160, 2, none⟩) (Kd.R_far (p := ⟨gb160, 1, none⟩) (Kd.R_far (p := ⟨gb160, 0, none⟩) (Kd.R_mono HO_7.out (fun k_ hk => (⟨hk, hk.2⟩ : _ ∧ k_ ≠ gb160))) (fun _ hk => hk.2) (.int .i64 ((rd_T46 l0 (ji112)).f0))) (fun _ hk => hk.2) (.int .i64 ((rd_T46 l0 (ji112)).f1))) (fun _ hk => hk.2) (.int .i64 ((rd_T46 l0 (ji112)).f2))) (fun _ h_ => h_.1))) hb); have n1_ := Aside0.mk (Kd.R_below (by (with_reducible repeat (first | apply Kd.R_alloc | apply Kd.R_drewN | apply Kd.R_drew)); exact (Kd.R_mono (Kd.R_far (p := ⟨gb160, 2, none⟩) (Kd.R_far (p := ⟨gb160, 1, none⟩) (Kd.R_far (p := ⟨gb160, 0, none⟩) (Kd.R_mono HO_8.out (fun k_ hk => (⟨hk, hk.2⟩ : _ ∧ k_ ≠ gb160))) (fun _ hk => hk.2) (.int .i64 ((rd_T46 l0 (ji112)).f0))) (fun _ hk => hk.2) (.int .i64 ((rd_T46 l0 (ji112)).f1))) (fun _ hk => hk.2) (.int .i64 ((rd_T46 l0 (ji112)).f2))) (fun _ h_ => h_.1))) hb); have n2_ := Aside0.mk (Kd.R_below (by (with_reducible repeat (first | apply Kd.R_alloc | apply Kd.R_drewN | apply Kd.R_drew)); exact (Kd.R_mono (Kd.R_far (p := ⟨gb160, 2, none⟩) (Kd.R_far (p := ⟨gb160, 1, none⟩) (Kd.R_far (p := ⟨gb160, 0, none⟩) (Kd.R_types HO_9.out BK160.out (by decide)) (fun _ hk => hk.2) (.int .i64 ((rd_T46 l0 (ji112)).f0))) (fun _ hk => hk.2) (.int .i64 ((rd_T46 l0 (ji112)).f1))) (fun _ hk => hk.2) (.int .i64 ((rd_T46 l0 (ji112)).f2))) (fun _ h_ => h_.1))) hb); have n3_ := Aside0.mk (blk_below (g := gb101) (o := .cells #[.slice A1_0 l1_0.length c1_0, .slice A1_1 l1_1.length c1_1] 32 (0, 0)) (by (with_reducible repeat (first | refine blk_drewN ?_ _ | refine blk_drew ?_ | refine blk_alloc ?_ _)); refine blk_far ?_ NB101_160.out _; (with_reducible repeat (first | refine blk_drewN ?_ _ | refine blk_drew ?_ | refine blk_alloc ?_ _)); refine blk_far ?_ NB101_160.out _; (with_reducible repeat (first | refine blk_drewN ?_ _ | refine blk_drew ?_ | refine blk_alloc ?_ _)); refine blk_far ?_ NB101_160.out _; (with_reducible repeat (first | refine blk_drewN ?_ _ | refine blk_drew ?_ | refine blk_alloc ?_ _)); exact BK101.out) hb); have n4_ := Aside0.mk (blk_below (g := gb160) (o := .cells #[.int .i64 ((rd_T46 l0 (ji112)).f0), .int .i64 ((rd_T46 l0 (ji112)).f1), .int .i64 ((rd_T46 l0 (ji112)).f2)] 46 (0, 0)) (by (with_reducible repeat (first | refine blk_drewN ?_ _ | refine blk_drew ?_ | refine blk_alloc ?_ _)); refine blk_put (cs := #[.int .i64 ((rd_T46 l0 (ji112)).f0), .int .i64 ((rd_T46 l0 (ji112)).f1), .int .i64 0]) ?_ 2 _ rfl; (with_reducible repeat (first | refine blk_drewN ?_ _ | refine blk_drew ?_ | refine blk_alloc ?_ _)); refine blk_put (cs := #[.int .i64 ((rd_T46 l0 (ji112)).f0), .int .i64 0, .int .i64 0]) ?_ 1 _ rfl; (with_reducible repeat (first | refine blk_drewN ?_ _ | refine blk_drew ?_ | refine blk_alloc ?_ _)); refine blk_put (cs := #[.int .i64 0, .int .i64 0, .int .i64 0]) ?_ 0 _ rfl; (with_reducible repeat (first | refine blk_drewN ?_ _ | refine blk_drew ?_ | refine blk_alloc ?_ _)); exact BK160.out) hb); have n5_ := Aside0.mk (below_step (by repeat (first | (with_reducible first | exact HB.out | apply below_alloc | apply pw_below_drewN | apply below_drew1 | refine below_set ?_ GE101.out | refine below_set ?_ GE160.out) | exact HB.out)) hb); clear HO_7; clear HO_8; clear HO_9; clear BK101; clear BK160; clear HB; have HO_7 := n0_; have HO_8 := n1_; have HO_9 := n2_; have BK101 := n3_; have BK160 := n4_; have HB := n5_; clear n0_ n1_ n2_ n3_ n4_ n5_; (try clear hb); (try clear hb2); (try clear hk); (try clear hi)) | ((with_reducible refine gate_builtin (b := .append) (xs := #[.tmp 150, .tmp 153]) rfl ?_); at_builtin; refine Kd.R_append k46 (w0 := w) w.heap.size rfl (.tmp 150) (.tmp 153) 28 46 (.agg #[(.int .i64 0), (.int .i64 0), (.int .i64 0)]) 24 rfl Try.underlying28 info46 rfl (by decide) (by omega) u8 x8_2 (⟨t161, t162, t163⟩ : S46) [.int .i64 t161, .int .i64 t162, .int .i64 t163] (fun k_ => some k_ ≠ (v103 : Value).ownBlock ∧ k_ ≠ gb160) (fun _ => False) rfl rfl ?aP (fun _ hk => hk.elim) ?aF ?aO ?aB ?aS ?aL ?_; (case aP => exact k46_mkM _ _ _ (⟨t161, t162, t163⟩ : S46)); (case aB => exact (by repeat (first | (with_reducible first | exact HB.out | apply below_alloc | apply pw_below_drewN | apply below_drew1 | refine below_set ?_ GE101.out | refine below_set ?_ GE160.out) | exact HB.out))); (case aF => exact (fun k_ hk => ⟨Kd.fresh' (Kd.R_lt (by (with_reducible repeat (first | apply Kd.R_alloc | apply Kd.R_drewN | apply Kd.R_drew)); exact HO_7.out)) k_ hk, Kd.freshB (g := gb160) (o := .cells #[.int .i64 ((rd_T46 l0 (ji112)).f0), .int .i64 ((rd_T46 l0 (ji112)).f1), .int .i64 ((rd_T46 l0 (ji112)).f2)] 46 (0, 0)) (by (with_reducible repeat (first | refine blk_drewN ?_ _ | refine blk_drew ?_ | refine blk_alloc ?_ _)); exact BK160.out) k_ hk⟩)); (case aO => exact (by (with_reducible repeat (first | apply Kd.R_alloc | apply Kd.R_drewN | apply Kd.R_drew)); exact HO_8.out)); (case aS => exact (below_size (by repeat (first | (with_reducible first | exact HB.out | apply below_alloc | apply pw_below_drewN | apply below_drew1 | refine below_set ?_ GE101.out | refine below_set ?_ GE160.out) | exact HB.out)))); (case aL => have := LMc116.out; omega); intro v165 w121 ho hb hg hat; rw [← Ny164.out] at ho; have n0_ := Aside0.mk (Kd.R_after (ok := (fun k_ => k_ ≠ gb160)) (by (with_reducible repeat (first | apply Kd.R_alloc | apply Kd.R_drewN | apply Kd.R_drew)); exact Kd.R_mono HO_7.out (fun _ hk => ⟨hk.2, hk.1⟩)) hg hat); have n1_ := Aside0.mk (Kd.R_over' (by (with_reducible repeat (first | apply Kd.R_alloc | apply Kd.R_drewN | apply Kd.R_drew)); exact HO_9.out) (Kd.R_typed (by (with_reducible repeat (first | apply Kd.R_alloc | apply Kd.R_drewN | apply Kd.R_drew)); exact HO_8.out)) (by decide) hg); have n2_ := Aside0.mk (blk_grown (g := gb101) (o := .cells #[.slice A1_0 l1_0.length c1_0, .slice A1_1 l1_1.length c1_1] 32 (0, 0)) (by (with_reducible repeat (first | refine blk_drewN ?_ _ | refine blk_drew ?_ | refine blk_alloc ?_ _)); exact BK101.out) hg (Kd.R_ne HO_8.out BK101.out (by decide))); have n3_ := Aside0.mk (blk_grown (g := gb160) (o := .cells #[.int .i64 ((rd_T46 l0 (ji112)).f0), .int .i64 ((rd_T46 l0 (ji112)).f1), .int .i64 ((rd_T46 l0 (ji112)).f2)] 46 (0, 0)) (by (with_reducible repeat (first | refine blk_drewN ?_ _ | refine blk_drew ?_ | refine blk_alloc ?_ _)); exact BK160.out) hg (Kd.R_away HO_8.out (fun _ hk => hk.2))); have n4_ := Aside0.mk (hb); have n5_ := Aside0.mk (ho); clear HO_7; clear HO_9; clear BK101; clear BK160; clear HB; clear HO_8; have HO_7 := n0_; have HO_9 := n1_; have BK101 := n2_; have BK160 := n3_; have HB := n4_; have HO166 := n5_; clear n0_ n1_ n2_ n3_ n4_ n5_; clear ho hb hg hat; obtain ⟨Ao122, co122, eo122⟩ := Kd.R_slice HO_9.out; subst eo122))
            repeat (go_quiet (fail); try go_wp2_with (fail))
            go_loopg [8, 14] k2 (fun kq v8 v14 w' => ∃ (x8_3 : List (S46)) (x14_3 : Int), v14 = .int .i64 x14_3 ∧ Aside0 (spec_Layout.l2 kq x8_3 x14_3 ((rd_T46 l0 (ji112)).f0) ((rd_T46 l0 (ji112)).f1) ((rd_T46 l0 (ji112)).f2) = some (r1, r2, r3)) ∧ Aside0 (kq ≤ k2) ∧ Aside0 (Kd.R k46 46 w' w.heap.size (fun k_ => k_ ≠ gb160) v8 x8_3) ∧ Aside0 (w'.heap[gb101]? = some (.cells #[(.slice A1_0 l1_0.length c1_0), (.slice A1_1 l1_1.length c1_1)] 32 (0, 0))) ∧ Aside0 (w'.heap[gb160]? = some (.cells #[.int .i64 ((rd_T46 l0 (ji112)).f0), .int .i64 ((rd_T46 l0 (ji112)).f1), .int .i64 ((rd_T46 l0 (ji112)).f2)] 46 (0, 0))) ∧ Aside0 (Below w.heap.size w w'))
            case atStart => exact ⟨(y164), (wrap64 ((x9_2.length : Int) - 1)), (by first | rfl | (simp; done) | (simp [*]; done)), H', ⟨Nat.le_refl _⟩, ⟨by (with_reducible repeat (first | apply Kd.R_alloc | apply Kd.R_drewN | apply Kd.R_drew)); exact Kd.R_mono HO166.out (fun _ hk => hk.2)⟩, ⟨by (with_reducible repeat (first | refine blk_drewN ?_ _ | refine blk_drew ?_ | refine blk_alloc ?_ _)); exact BK101.out⟩, ⟨by (with_reducible repeat (first | refine blk_drewN ?_ _ | refine blk_drew ?_ | refine blk_alloc ?_ _)); exact BK160.out⟩, ⟨by repeat (first | (with_reducible first | exact HB.out | apply below_alloc | apply pw_below_drewN | apply below_drew1 | refine below_set ?_ GE101.out | refine below_set ?_ GE160.out) | exact HB.out)⟩⟩
            case round =>
             clear H'
             try clear c1
             try clear p1
             try clear q1
             try clear hx1
             try clear c2
             try clear p2
             try clear c3
             try clear c4
             try clear c5
             try clear c6
             try clear p6
             try clear c7
             try clear q7
             try clear c8
             try clear c9
             try clear c10
             try clear c11
             try clear p11
             try clear q11
             try clear hx11
             try clear p12
             try clear q12
             try clear hx12
             try clear p13
             try clear q13
             try clear hx13
             try clear c14
             try clear p14
             try clear q14
             try clear hx14
             try clear p15
             try clear q15
             try clear hx15
             try clear c19
             try clear c19b0
             try clear c20
             try clear c20b0
             try clear c23
             try clear c25
             try clear c25b0
             try clear c25b1
             try clear c26
             try clear c26b0
             try clear c26b1
             try clear c28
             try clear c28b0
             try clear c29
             try clear c29b0
             try clear c30
             try clear c33
             try clear c35
             try clear c35b0
             try clear c37
             try clear c37b0
             try clear c38
             try clear c38b0
             try clear c40
             try clear c44
             try clear c44b0
             try clear c45
             try clear c45b0
             try clear c47
             try clear c50
             try clear c50b0
             try clear c51
             try clear c53
             try clear c54
             try clear c61
             try clear c61b0
             try clear c62
             try clear c62b0
             try clear c63
             try clear c63b0
             try clear c64
             try clear c64b0
             try clear c64b1
             try clear p64
             try clear c66
             try clear c68
             try clear q70
             try clear c73
             try clear c73b0
             try clear c73b1
             try clear c75
             try clear c78
             try clear c81
             try clear c82
             try clear c82b0
             try clear c82b1
             try clear c83
             try clear c87
             try clear c88
             try clear c89
             try clear c93
             try clear c94
             try clear c99
             try clear c100
             try clear c101
             try clear c105
             try clear c106
             try clear c110
             try clear c110b0
             try clear c110b1
             try clear c111
             try clear c111b0
             try clear c111b1
             try clear c113
             try clear c113b0
             try clear p113
             try clear q113
             try clear hx113
             try clear c114
             try clear c114b0
             try clear p115
             try clear q115
             try clear hx115
             try clear c116
             try clear p116
             try clear q116
             try clear hx116
             try clear c118
             try clear hcz102_0
             try clear hcz102_1
             try clear hcz103_0
             try clear hcz103_1
             try clear hcz103_2
             try clear hcz107_0
             try clear hcz107_1
             try clear hcz108_0
             try clear hcz108_1
             try clear hcz108_2
             try clear hcz119_0
             try clear hcz119_1
             try clear hcz119_2
             try clear hcz11_0
             try clear hcz11_1
             try clear hcz24_0
             try clear hcz24_1
             try clear hcz24_2
             try clear hcz31_0
             try clear hcz31_1
             try clear hcz31_2
             try clear hcz48_0
             try clear hcz48_1
             try clear hcz48_2
             try clear hcz55_0
             try clear hcz55_1
             try clear hcz55_2
             try clear hcz57_0
             try clear hcz57_1
             try clear hcz57_2
             try clear hcz69_0
             try clear hcz69_1
             try clear hcz69_2
             try clear hcz76_0
             try clear hcz76_1
             try clear hcz76_2
             try clear hcz79_0
             try clear hcz79_1
             try clear hcz79_2
             try clear hcz84_0
             try clear hcz84_1
             try clear hcz85_0
             try clear hcz85_1
             try clear hcz85_2
             try clear hcz90_0
             try clear hcz90_1
             try clear hcz91_0
             try clear hcz91_1
             try clear hcz91_2
             try clear hcz95_0
             try clear hcz95_1
             try clear hcz96_0
             try clear hcz96_1
             try clear hcz96_2
             try clear hfz102_0
             try clear hfz102_1
             try clear hfz103_0
             try clear hfz103_1
             try clear hfz103_2
             try clear hfz107_0
             try clear hfz107_1
             try clear hfz108_0
             try clear hfz108_1
             try clear hfz108_2
             try clear hfz119_0
             try clear hfz119_1
             try clear hfz119_2
             try clear hfz11_0
             try clear hfz11_1
             try clear hfz24_0
             try clear hfz24_1
             try clear hfz24_2
             try clear hfz31_0
             try clear hfz31_1
             try clear hfz31_2
             try clear hfz48_0
             try clear hfz48_1
             try clear hfz48_2
             try clear hfz55_0
             try clear hfz55_1
             try clear hfz55_2
             try clear hfz57_0
             try clear hfz57_1
             try clear hfz57_2
             try clear hfz69_0
             try clear hfz69_1
             try clear hfz69_2
             try clear hfz76_0
             try clear hfz76_1
             try clear hfz76_2
             try clear hfz79_0
             try clear hfz79_1
             try clear hfz79_2
             try clear hfz84_0
             try clear hfz84_1
             try clear hfz85_0
             try clear hfz85_1
             try clear hfz85_2
             try clear hfz90_0
             try clear hfz90_1
             try clear hfz91_0
             try clear hfz91_1
             try clear hfz91_2
             try clear hfz95_0
             try clear hfz95_1
             try clear hfz96_0
             try clear hfz96_1
             try clear hfz96_2
             try clear hx113_0
             try clear hx113_1
             try clear hx113_2
             try clear hx115_0
             try clear hx115_1
             try clear hx115_2
             try clear hx116_0
             try clear hx116_1
             try clear hx116_2
             try clear hx123_0
             try clear hx133_0
             try clear hx143_0
             try clear hx159_0
             try clear hx159_1
             try clear hx159_2
             try clear p1
             try clear p11
             try clear p113
             try clear p115
             try clear p116
             try clear p12
             try clear p123
             try clear p13
             try clear p133
             try clear p14
             try clear p143
             try clear p159
             try clear p2
             try clear p6
             try clear p64
             try clear q1
             try clear q11
             try clear q113
             try clear q115
             try clear q116
             try clear q12
             try clear q123
             try clear q13
             try clear q133
             try clear q14
             try clear q143
             try clear q159
             try clear q7
             try clear q70
             obtain ⟨x8_3, x14_3, rfl, HA, HK3, HO_8, BK101, BK160, HB⟩ := hrel
             cases gk with
             | zero => exact absurd HA.out (by simp [spec_Layout.l2])
             | succ k3 =>
              have H := HA.out
              clear HA
              simp only [spec_Layout.l2] at H
              by_cases c123 : x14_3 > 0
              ·rw [if_pos c123] at H
               have c123b0 : decide (0 < x14_3) = true := decide_eq_true c123
               clear c123
               replace H := Option.bind_eq_some_iff.mp H
               obtain ⟨⟨t167, t168, t169⟩, A1240, H⟩ := H
               replace H : (if x8_3.length < 5864062014805 then (spec_Layout.l2 k3 (x8_3 ++ [(⟨t167, t168, t169⟩ : S46)]) (wrap64 (x14_3 - 1)) ((rd_T46 l0 (ji112)).f0) ((rd_T46 l0 (ji112)).f1) ((rd_T46 l0 (ji112)).f2)) else (none)) = some (r1, r2, r3) := H
               have A124 := Aside0.mk A1240
               clear A1240
               by_cases c125 : x8_3.length < 5864062014805
               ·rw [if_pos c125] at H
                have LMc125 := Aside0.mk c125
                clear c125
                obtain ⟨y170, hy170⟩ : ∃ y_ : List (S46), y_ = (x8_3 ++ [(⟨t167, t168, t169⟩ : S46)]) := ⟨_, rfl⟩
                replace H : (spec_Layout.l2 k3 y170 (wrap64 (x14_3 - 1)) ((rd_T46 l0 (ji112)).f0) ((rd_T46 l0 (ji112)).f1) ((rd_T46 l0 (ji112)).f2)) = some (r1, r2, r3) := by first | (rw [hy170]; with_reducible exact H) | (have H2_ := (Option.bind_some _ _).symm.trans H; rw [hy170]; with_reducible exact H2_) | (have H2_ := (Option.bind_some _ _).symm.trans H; with_reducible exact H2_) | with_reducible exact H | (rw [hy170]; exact H) | exact H
                have Ny170 := Aside0.mk hy170
                clear hy170
                have H' := Aside0.mk H
                clear H
                have hnb126 := NB160_101.out
                have hnc126 := NB101_160.out
                have hcz127_0 : wr.cell? ⟨gb160, 0, none⟩ = some (.int .i64 ((rd_T46 l0 (ji112)).f0)) := (blk_cell BK160.out 0).trans rfl
                have hcz127_1 : wr.cell? ⟨gb160, 1, none⟩ = some (.int .i64 ((rd_T46 l0 (ji112)).f1)) := (blk_cell BK160.out 1).trans rfl
                have hcz127_2 : wr.cell? ⟨gb160, 2, none⟩ = some (.int .i64 ((rd_T46 l0 (ji112)).f2)) := (blk_cell BK160.out 2).trans rfl
                have hfz127_0 := blk_frozen BK160.out 0
                have hfz127_1 := blk_frozen BK160.out 1
                have hfz127_2 := blk_frozen BK160.out 2
                go_wp2_with (first | (go_at_call 24; (with_reducible refine (spec_l16Made.calls (-3) ((rd_T46 l0 (ji112)).f0) ((rd_T46 l0 (ji112)).f1) ((rd_T46 l0 (ji112)).f2) t167 t168 t169 _ A124.out).mono ?_); rintro e w128 ⟨rfl, hb⟩; have n0_ := Aside0.mk (Kd.R_below (by (with_reducible repeat (first | apply Kd.R_alloc | apply Kd.R_drewN | apply Kd.R_drew)); exact HO_8.out) hb); have n1_ := Aside0.mk (blk_below (g := gb101) (o := .cells #[.slice A1_0 l1_0.length c1_0, .slice A1_1 l1_1.length c1_1] 32 (0, 0)) (by (with_reducible repeat (first | refine blk_drewN ?_ _ | refine blk_drew ?_ | refine blk_alloc ?_ _)); exact BK101.out) hb); have n2_ := Aside0.mk (blk_below (g := gb160) (o := .cells #[.int .i64 ((rd_T46 l0 (ji112)).f0), .int .i64 ((rd_T46 l0 (ji112)).f1), .int .i64 ((rd_T46 l0 (ji112)).f2)] 46 (0, 0)) (by (with_reducible repeat (first | refine blk_drewN ?_ _ | refine blk_drew ?_ | refine blk_alloc ?_ _)); exact BK160.out) hb); have n3_ := Aside0.mk (below_step (by repeat (first | (with_reducible first | exact HB.out | apply below_alloc | apply pw_below_drewN | apply below_drew1 | refine below_set ?_ GE101.out | refine below_set ?_ GE160.out) | exact HB.out)) hb); clear HO_8; clear BK101; clear BK160; clear HB; have HO_8 := n0_; have BK101 := n1_; have BK160 := n2_; have HB := n3_; clear n0_ n1_ n2_ n3_; (try clear hb); (try clear hb2); (try clear hk); (try clear hi)) | ((with_reducible refine gate_builtin (b := .append) (xs := #[.tmp 162, .tmp 165]) rfl ?_); at_builtin; refine Kd.R_append k46 (w0 := w) w.heap.size rfl (.tmp 162) (.tmp 165) 28 46 (.agg #[(.int .i64 0), (.int .i64 0), (.int .i64 0)]) 24 rfl Try.underlying28 info46 rfl (by decide) (by omega) u8 x8_3 (⟨t167, t168, t169⟩ : S46) [.int .i64 t167, .int .i64 t168, .int .i64 t169] (fun k_ => k_ ≠ gb160) (fun _ => False) rfl rfl ?aP (fun _ hk => hk.elim) ?aF ?aO ?aB ?aS ?aL ?_; (case aP => exact k46_mkM _ _ _ (⟨t167, t168, t169⟩ : S46)); (case aB => exact (by repeat (first | (with_reducible first | exact HB.out | apply below_alloc | apply pw_below_drewN | apply below_drew1 | refine below_set ?_ GE101.out | refine below_set ?_ GE160.out) | exact HB.out))); (case aF => exact (fun k_ hk => Kd.freshB (g := gb160) (o := .cells #[.int .i64 ((rd_T46 l0 (ji112)).f0), .int .i64 ((rd_T46 l0 (ji112)).f1), .int .i64 ((rd_T46 l0 (ji112)).f2)] 46 (0, 0)) (by (with_reducible repeat (first | refine blk_drewN ?_ _ | refine blk_drew ?_ | refine blk_alloc ?_ _)); exact BK160.out) k_ hk)); (case aO => exact (by (with_reducible repeat (first | apply Kd.R_alloc | apply Kd.R_drewN | apply Kd.R_drew)); exact HO_8.out)); (case aS => exact (below_size (by repeat (first | (with_reducible first | exact HB.out | apply below_alloc | apply pw_below_drewN | apply below_drew1 | refine below_set ?_ GE101.out | refine below_set ?_ GE160.out) | exact HB.out)))); (case aL => have := LMc125.out; omega); intro v171 w129 ho hb hg hat; rw [← Ny170.out] at ho; have n0_ := Aside0.mk (blk_grown (g := gb101) (o := .cells #[.slice A1_0 l1_0.length c1_0, .slice A1_1 l1_1.length c1_1] 32 (0, 0)) (by (with_reducible repeat (first | refine blk_drewN ?_ _ | refine blk_drew ?_ | refine blk_alloc ?_ _)); exact BK101.out) hg (Kd.R_ne HO_8.out BK101.out (by decide))); have n1_ := Aside0.mk (blk_grown (g := gb160) (o := .cells #[.int .i64 ((rd_T46 l0 (ji112)).f0), .int .i64 ((rd_T46 l0 (ji112)).f1), .int .i64 ((rd_T46 l0 (ji112)).f2)] 46 (0, 0)) (by (with_reducible repeat (first | refine blk_drewN ?_ _ | refine blk_drew ?_ | refine blk_alloc ?_ _)); exact BK160.out) hg (Kd.R_away HO_8.out (fun _ hk => hk))); have n2_ := Aside0.mk (hb); have n3_ := Aside0.mk (ho); clear BK101; clear BK160; clear HB; clear HO_8; have BK101 := n0_; have BK160 := n1_; have HB := n2_; have HO172 := n3_; clear n0_ n1_ n2_ n3_; clear ho hb hg hat))
                repeat (go_quiet (fail); try go_wp2_with (fail))
                go_roundg k3
                case measure => have := HJ2.out; have := HK2.out; have := HK3.out; omega
                case rel => exact ⟨(y170), (wrap64 (x14_3 - 1)), (by first | rfl | (simp; done) | (simp [*]; done)), H', ⟨by have := HJ2.out; have := HK2.out; have := HK3.out; omega⟩, ⟨by (with_reducible repeat (first | apply Kd.R_alloc | apply Kd.R_drewN | apply Kd.R_drew)); exact HO172.out⟩, ⟨by (with_reducible repeat (first | refine blk_drewN ?_ _ | refine blk_drew ?_ | refine blk_alloc ?_ _)); exact BK101.out⟩, ⟨by (with_reducible repeat (first | refine blk_drewN ?_ _ | refine blk_drew ?_ | refine blk_alloc ?_ _)); exact BK160.out⟩, ⟨by repeat (first | (with_reducible first | exact HB.out | apply below_alloc | apply pw_below_drewN | apply below_drew1 | refine below_set ?_ GE101.out | refine below_set ?_ GE160.out) | exact HB.out)⟩⟩
               ·rw [if_neg c125] at H
                exact absurd H (by simp)
              ·rw [if_neg c123] at H
               have c123b0 : decide (0 < x14_3) = false := decide_eq_false c123
               clear c123
               simp only [Option.some.injEq, Prod.mk.injEq] at H
               obtain ⟨rfl, rfl, rfl⟩ := H
               go_wp2
               repeat (go_quiet (fail); try go_wp2)
               go_ret3
               exact ⟨_, by first | rfl | (simp [errW_none, errW_some] <;> rfl) | (simp only [← hji112]; first | rfl | (simp [errW_none, errW_some] <;> rfl)) | (simp [*, errW_none, errW_some] <;> rfl), by (with_reducible repeat (first | apply Kd.R_alloc | apply Kd.R_drewN | apply Kd.R_drew)); exact Kd.R_mono HO_8.out (fun _ hk => trivial), by repeat (first | (with_reducible first | exact HB.out | apply below_alloc | apply pw_below_drewN | apply below_drew1 | refine below_set ?_ GE101.out | refine below_set ?_ GE160.out) | exact HB.out)⟩
           ·rw [if_neg c116] at H
            exact absurd H (by simp)
          ·rw [if_neg c114] at H
           exact absurd H (by simp)
         ·rw [if_neg c113] at H
          exact absurd H (by simp)
        ·rw [if_neg c111] at H
         have c111b0 : decide (0 < (l0.length : Int)) = false := decide_eq_false c111
         have c111b1 : decide (0 < l0.length) = false := decide_eq_false (by omega)
         clear c111
         simp only [Option.some.injEq, Prod.mk.injEq] at H
         obtain ⟨rfl, rfl, rfl⟩ := H
         go_wp2
         repeat (go_quiet (fail); try go_wp2)
         go_ret3
         exact ⟨_, by first | rfl | (simp [errW_none, errW_some] <;> rfl) | (simp [*, errW_none, errW_some] <;> rfl), by (with_reducible repeat (first | apply Kd.R_alloc | apply Kd.R_drewN | apply Kd.R_drew)); exact Kd.R_mono HO_8.out (fun _ hk => trivial), by repeat (first | (with_reducible first | exact HB.out | apply below_alloc | apply pw_below_drewN | apply below_drew1 | refine below_set ?_ GE101.out) | exact HB.out)⟩
       ·rw [if_neg c110] at H
        have c110b0 : (x10_2 == 0) = false := beq_eq_false_iff_ne.mpr c110
        have c110b1 : (x10_2 != 0) = true := bne_iff_ne.mpr c110
        simp only [Option.some.injEq, Prod.mk.injEq] at H
        obtain ⟨rfl, rfl, rfl⟩ := H
        go_wp2
        repeat (go_quiet (fail); try go_wp2)
        go_ret3
        exact ⟨_, by first | rfl | (simp [errW_none, errW_some] <;> rfl) | (simp [*, errW_none, errW_some] <;> rfl), by (with_reducible repeat (first | apply Kd.R_alloc | apply Kd.R_drewN | apply Kd.R_drew)); exact Kd.R_mono HO_7.out (fun _ hk => trivial), by repeat (first | (with_reducible first | exact HB.out | apply below_alloc | apply pw_below_drewN | apply below_drew1 | refine below_set ?_ GE101.out) | exact HB.out)⟩

end Go.Proofs.Ytlbjdpahhgokkaa.P
/- The walk of layouter's put: an item more is put out. -/
namespace Go.Proofs.Ytlbjdpahhgokkaa.P
open Go.RowKit Go.Shelf Go.Proofs.YtlbjdpahhgokkaaW.PrintWords Go.Proofs.YtlbjdpahhgokkaaW.PrintLast Go.Proofs.YtlbjdpahhgokkaaW.PrintMore Go.Proofs.YtlbjdpahhgokkaaEv
set_option linter.unusedVariables false
set_option linter.unusedSimpArgs false
/-- The state of a layouter at a block: what it has put out, the columns on its stack, its depth; its rows' blocks are told by ok. -/
def LyS (w0 w : World) (ok : Nat → Prop) (g : Nat) (out : List S46) (st : List Int) (dep : Int) : Prop :=
  ∃ v0 v1, w.heap[g]? = some (.cells #[v0, v1, .int .i64 dep] 58 (0, 0)) ∧ w0.heap.size ≤ g ∧ Kd.R k46 46 w w0.heap.size ok v0 out ∧ Kd.R (Kd.int .i64) 2 w w0.heap.size ok v1 st
/-- What stays: all blocks but the state's own. -/
def KeepOk (w w' : World) (ok : Nat → Prop) (g : Nat) : Prop := ∀ k, k < w.heap.size → k ≠ g → ¬ ok k → w'.heap[k]? = w.heap[k]?
set_option maxHeartbeats 4000000 in
set_option maxRecDepth 100000 in
theorem put_hand {w0 : World} (ok : Nat → Prop) (g : Nat) (out : List S46) (st : List Int) (d kind : Int) (x : S46) (w : World) (hI : LyS w0 w ok g out st d) (hB : Below w0.heap.size w0 w) (hF : ∀ k, w.heap.size ≤ k → ok k) (hl : out.length ≤ 1000000) :
    Calls Try.prog 30 #[.pointer (some ⟨g, 0, none⟩), .int .i64 kind, .agg #[.int .i64 x.f0, .int .i64 x.f1, .int .i64 x.f2]] w fun e w' => e = .returned (.tuple #[]) ∧ LyS w0 w' ok g (out ++ [⟨kind, x.f1, x.f2⟩]) st d ∧ Below w0.heap.size w0 w' ∧ KeepOk w w' ok g := by
  obtain ⟨v0, v1, hG, hg, hR0, hR1⟩ := hI
  obtain ⟨A0, c0, rfl⟩ := Kd.R_slice hR0
  have HL0 := Aside0.mk (Kd.R_lt hR0)
  have GE := Aside0.mk hg
  have BK1 := Aside0.mk (blk_drew (blk_alloc hG (.cells #[.int .i64 x.f0, .int .i64 x.f1, .int .i64 x.f2] 46)))
  have BX := Aside0.mk (blk_drew (blk_new w (.cells #[.int .i64 x.f0, .int .i64 x.f1, .int .i64 x.f2] 46)))
  have HO0 := Aside0.mk (Kd.R_drew (Kd.R_alloc hR0 (.cells #[.int .i64 x.f0, .int .i64 x.f1, .int .i64 x.f2] 46)))
  have HO1 := Aside0.mk (Kd.R_drew (Kd.R_alloc hR1 (.cells #[.int .i64 x.f0, .int .i64 x.f1, .int .i64 x.f2] 46)))
  have HB1 := Aside0.mk (below_drew1 (below_alloc hB (.cells #[.int .i64 x.f0, .int .i64 x.f1, .int .i64 x.f2] 46)))
  have SZ : Aside0 ((w.alloc (.cells #[.int .i64 x.f0, .int .i64 x.f1, .int .i64 x.f2] 46)).drew.heap.size = w.heap.size + 1) := ⟨by simp⟩
  have KP1 : Aside0 (∀ k, k < w.heap.size → (w.alloc (.cells #[.int .i64 x.f0, .int .i64 x.f1, .int .i64 x.f2] 46)).drew.heap[k]? = w.heap[k]?) := ⟨fun k hk => Below.heap_alloc w _ k hk⟩
  have HF : Aside0 (∀ k, (w.alloc (.cells #[.int .i64 x.f0, .int .i64 x.f1, .int .i64 x.f2] 46)).drew.heap.size ≤ k → ok k) := ⟨fun k hk => hF k (by rw [SZ.out] at hk; omega)⟩
  clear hG hg hR0 hR1 hB hF
  go_enter Try.func30, Try.ntmps30
  go_wp2_with fail
  refine start_ (n := 16) (S := fun w' => w'.cell? ⟨g, 0, none⟩ = some (.slice A0 out.length c0) ∧ w'.cell? ⟨w.heap.size, 1, none⟩ = some (.int .i64 x.f1) ∧ w'.cell? ⟨w.heap.size, 2, none⟩ = some (.int .i64 x.f2)) (ds := [15]) #[false, false, false, false, false, false, false, false, false, false, false, false, false, false, false, false] (by kernel_rfl) rfl rfl ⟨(blk_cell BK1.out 0).trans rfl, (blk_cell BX.out 1).trans rfl, (blk_cell BX.out 2).trans rfl⟩ (fun hHeld => ?_)
  generalize (w.alloc (.cells #[.int .i64 x.f0, .int .i64 x.f1, .int .i64 x.f2] 46)).drew = W1 at BK1 BX HO0 HO1 HB1 SZ KP1 HF hHeld ⊢
  refine pure_ (i := 0) (N := (some 6)) (v := ?_) (a' := ?_) #[true, false, false, false, false, false, false, false, false, false, false, false, false, false, false, false] rfl rfl (by kernel_rfl) (fun _ _ _ h => h) (Or.inl ⟨by rfl, ?_⟩) ?_ ?_
  rotate_left
  · intro w'
    go_simp
    with_reducible rfl
  rotate_left
  · simp only [Act.put, List.setIfInBounds_toArray, List.set_cons_zero, List.set_cons_succ, i64_w, i32_w]
    rfl
  refine pure_ (i := 1) (N := (some 7)) (v := ?_) (a' := ?_) #[true, true, false, false, false, false, false, false, false, false, false, false, false, false, false, false] rfl rfl (by kernel_rfl) (fun _ _ _ h => h) (Or.inl ⟨by rfl, ?_⟩) ?_ ?_
  rotate_left
  · intro w'
    go_simp
    with_reducible rfl
  rotate_left
  · simp only [Act.put, List.setIfInBounds_toArray, List.set_cons_zero, List.set_cons_succ, i64_w, i32_w]
    rfl
  refine pure_ (i := 2) (N := (some 8)) (v := ?_) (a' := ?_) #[true, true, true, false, false, false, false, false, false, false, false, false, false, false, false, false] rfl rfl (by kernel_rfl) (fun _ _ _ h => h) (Or.inl ⟨by rfl, ?_⟩) ?_ ?_
  rotate_left
  · intro w'
    go_simp
    with_reducible rfl
  rotate_left
  · simp only [Act.put, List.setIfInBounds_toArray, List.set_cons_zero, List.set_cons_succ, i64_w, i32_w]
    rfl
  refine pure_ (i := 3) (N := (some 9)) (v := ?_) (a' := ?_) #[true, true, true, true, false, false, false, false, false, false, false, false, false, false, false, false] rfl rfl (by kernel_rfl) (fun _ _ _ h => h) (Or.inl ⟨by rfl, ?_⟩) ?_ ?_
  rotate_left
  · intro w'
    go_simp
    with_reducible rfl
  rotate_left
  · simp only [Act.put, List.setIfInBounds_toArray, List.set_cons_zero, List.set_cons_succ, i64_w, i32_w]
    rfl
  refine pure_ (i := 5) (N := (some 11)) (v := ?_) (a' := ?_) #[true, true, true, true, false, true, false, false, false, false, false, false, false, false, false, false] rfl rfl (by kernel_rfl) (fun _ _ _ h => h) (Or.inl ⟨by rfl, ?_⟩) ?_ ?_
  rotate_left
  · intro w'
    go_simp
    with_reducible rfl
  rotate_left
  · simp only [Act.put, List.setIfInBounds_toArray, List.set_cons_zero, List.set_cons_succ, i64_w, i32_w]
    rfl
  refine pure_ (i := 6) (N := (some 12)) (v := ?_) (a' := ?_) #[true, true, true, true, false, true, true, false, false, false, false, false, false, false, false, false] rfl rfl (by kernel_rfl) (fun _ _ _ h => h) (Or.inl ⟨by rfl, ?_⟩) ?_ ?_
  rotate_left
  · intro w'
    go_simp
    with_reducible rfl
  rotate_left
  · simp only [Act.put, List.setIfInBounds_toArray, List.set_cons_zero, List.set_cons_succ, i64_w, i32_w]
    rfl
  refine pure_ (i := 8) (N := (some 14)) (v := ?_) (a' := ?_) #[true, true, true, true, false, true, true, false, true, false, false, false, false, false, false, false] rfl rfl (by kernel_rfl) (fun _ _ _ h => h) (Or.inl ⟨by rfl, ?_⟩) ?_ ?_
  rotate_left
  · intro w'
    go_simp
    with_reducible rfl
  rotate_left
  · simp only [Act.put, List.setIfInBounds_toArray, List.set_cons_zero, List.set_cons_succ, i64_w, i32_w]
    rfl
  refine take_ (i := 4) (N := (some 10)) (v := ?_) (a' := ?_) #[true, true, true, true, true, true, true, false, true, false, false, false, false, false, false, false] rfl rfl (by kernel_rfl) (fun _ _ _ h => h) (Or.inl ⟨by rfl, ?_⟩) hHeld ?_ ?_
  rotate_left
  · rintro w' ⟨s0, s1, s2⟩
    go_simp
    with_reducible rfl
  rotate_left
  · simp only [Act.put, List.setIfInBounds_toArray, List.set_cons_zero, List.set_cons_succ, i64_w, i32_w]
    rfl
  refine take_ (i := 7) (N := (some 13)) (v := ?_) (a' := ?_) #[true, true, true, true, true, true, true, true, true, false, false, false, false, false, false, false] rfl rfl (by kernel_rfl) (fun _ _ _ h => h) (Or.inl ⟨by rfl, ?_⟩) hHeld ?_ ?_
  rotate_left
  · rintro w' ⟨s0, s1, s2⟩
    go_simp
    with_reducible rfl
  rotate_left
  · simp only [Act.put, List.setIfInBounds_toArray, List.set_cons_zero, List.set_cons_succ, i64_w, i32_w]
    rfl
  refine take_ (i := 9) (N := (some 15)) (v := ?_) (a' := ?_) #[true, true, true, true, true, true, true, true, true, true, false, false, false, false, false, false] rfl rfl (by kernel_rfl) (fun _ _ _ h => h) (Or.inl ⟨by rfl, ?_⟩) hHeld ?_ ?_
  rotate_left
  · rintro w' ⟨s0, s1, s2⟩
    go_simp
    with_reducible rfl
  rotate_left
  · simp only [Act.put, List.setIfInBounds_toArray, List.set_cons_zero, List.set_cons_succ, i64_w, i32_w]
    rfl
  refine pure_ (i := 10) (N := (some 16)) (v := ?_) (a' := ?_) #[true, true, true, true, true, true, true, true, true, true, true, false, false, false, false, false] rfl rfl (by kernel_rfl) (fun _ _ _ h => h) (Or.inl ⟨by rfl, ?_⟩) ?_ ?_
  rotate_left
  · intro w'
    go_simp
    with_reducible rfl
  rotate_left
  · simp only [Act.put, List.setIfInBounds_toArray, List.set_cons_zero, List.set_cons_succ, i64_w, i32_w]
    rfl
  refine one_ (i := 11) (N := (some 17)) #[true, true, true, true, true, true, true, true, true, true, true, true, false, false, false, false] rfl rfl (by kernel_rfl) (by decide) (fun K hK => ?_)
  refine value_ (w1 := ?_) (v := ?_) (by rfl) rfl ?_ ?_
  rotate_left 2
  · go_simp
    constructor
    · rfl
    · rfl
  refine hK.out _ _ ⟨(World.cell?_alloc_lt _ _ _ (World.block_lt_of_cell? _ _ (hHeld.1))).trans (hHeld.1), (World.cell?_alloc_lt _ _ _ (World.block_lt_of_cell? _ _ (hHeld.2.1))).trans (hHeld.2.1), (World.cell?_alloc_lt _ _ _ (World.block_lt_of_cell? _ _ (hHeld.2.2))).trans (hHeld.2.2)⟩ (fun hHeld => ?_)
  clear hK K
  refine norm_ (a' := ?_) ?_ ?_
  rotate_left
  · show Act.put _ (some 17) _ = _
    simp only [Act.put, List.setIfInBounds_toArray, List.set_cons_zero, List.set_cons_succ, i64_w, i32_w]
    rfl
  refine one_ (i := 12) (N := (some 18)) #[true, true, true, true, true, true, true, true, true, true, true, true, true, false, false, false] rfl rfl (by kernel_rfl) (by decide) (fun K hK => ?_)
  refine Kd.R_append_step k46 (w0 := w0) w0.heap.size (by rfl) (.tmp 10) (.tmp 17) 28 46 (.agg #[(.int .i64 0), (.int .i64 0), (.int .i64 0)]) 24 rfl Try.underlying28 info46 rfl (by decide) (by omega) (.slice A0 out.length c0) out (⟨kind, x.f1, x.f2⟩ : S46) [.int .i64 kind, .int .i64 x.f1, .int .i64 x.f2] ok (fun _ => False) rfl rfl ?aP (fun _ hk => hk.elim) HF.out HO0.out HB1.out (below_size HB1.out) ?aL ?_
  (case aP => exact k46_mkM _ _ _ (⟨kind, x.f1, x.f2⟩ : S46))
  (case aL => omega)
  intro v2 w2 ho hb hgr hat
  have hne := Kd.R_ne HO0.out BK1.out (by decide)
  have HOb := Aside0.mk (Kd.R_over' HO1.out (Kd.R_typed HO0.out) (by decide) hgr)
  have BK2 := Aside0.mk (blk_grown BK1.out hgr hne)
  have KP2 : Aside0 (KeepOk w w2 ok g) := ⟨fun k hk hkg hko => (hgr.block k (by rw [SZ.out]; omega) (fun e => hko (HO0.out.1 k e.symm))).trans (KP1.out k hk)⟩
  have hnx : some w.heap.size ≠ (Value.slice A0 out.length c0).ownBlock := fun e => by have := HL0.out _ e.symm; omega
  have BX2 := Aside0.mk (blk_grown BX.out hgr hnx)
  obtain ⟨A2, c2, rfl⟩ := Kd.R_slice ho
  have hln : (out ++ [(⟨kind, x.f1, x.f2⟩ : S46)]).length = out.length + 1 := by simp
  rw [hln] at ho ⊢
  refine hK.out _ _ ⟨(blk_cell BK2.out 0).trans rfl, (blk_cell BX2.out 1).trans rfl, (blk_cell BX2.out 2).trans rfl⟩ (fun hHeld => ?_)
  have hx0 := (blk_cell BK2.out 0)
  have hf0 := blk_frozen BK2.out 0
  clear hK K
  refine norm_ (a' := ?_) ?_ ?_
  rotate_left
  · show Act.put _ (some 18) _ = _
    simp only [Act.put, List.setIfInBounds_toArray, List.set_cons_zero, List.set_cons_succ, i64_w, i32_w]
    rfl
  refine pure_ (i := 13) (N := (some 19)) (v := ?_) (a' := ?_) #[true, true, true, true, true, true, true, true, true, true, true, true, true, true, false, false] rfl rfl (by kernel_rfl) (fun _ _ _ h => h) (Or.inl ⟨by rfl, ?_⟩) ?_ ?_
  rotate_left
  · intro w'
    go_simp
    with_reducible rfl
  rotate_left
  · simp only [Act.put, List.setIfInBounds_toArray, List.set_cons_zero, List.set_cons_succ, i64_w, i32_w]
    rfl
  refine pure_ (i := 14) (N := (some 20)) (v := ?_) (a' := ?_) #[true, true, true, true, true, true, true, true, true, true, true, true, true, true, true, false] rfl rfl (by kernel_rfl) (fun _ _ _ h => h) (Or.inl ⟨by rfl, ?_⟩) ?_ ?_
  rotate_left
  · intro w'
    go_simp
    with_reducible rfl
  rotate_left
  · simp only [Act.put, List.setIfInBounds_toArray, List.set_cons_zero, List.set_cons_succ, i64_w, i32_w]
    rfl
  refine last_ (i := 15) (N := none) #[true, true, true, true, true, true, true, true, true, true, true, true, true, true, true, true] rfl rfl (by kernel_rfl) (by decide) (fun K hK => ?_)
  refine skip_ (w1 := ?_) (by rfl) rfl ?_ ?_
  rotate_left
  · go_simp
    rfl
  refine hK.out _ _ ?_
  clear hK K
  refine done_ (by kernel_rfl) ?_
  go_wp2_with fail
  go_end0
  exact ⟨rfl, ⟨_, _, (blk_set BK2.out 0 _).trans rfl, GE.out, Kd.R_set ho BK2.out (by decide) 0 _, Kd.R_set HOb.out BK2.out (by decide) 0 _⟩, below_set hb GE.out, fun k hk hkg hko => (Below.heap_setCell w2 _ _ k hkg).trans (KP2.out k hk hkg hko)⟩
end Go.Proofs.Ytlbjdpahhgokkaa.P
/- What the reference's check of items answers (walked by hand). -/
namespace Go.Proofs.Ytlbjdpahhgokkaa.P
open Go.RowKit Go.Proofs.YtlbjdpahhgokkaaW.PrintWords Go.Proofs.YtlbjdpahhgokkaaW.PrintLast Go.Proofs.YtlbjdpahhgokkaaEv
set_option linter.unusedVariables false
set_option linter.unusedSimpArgs false

theorem spec_l16Items_ev (l : List S46) : Ev (fun _ => spec_l16Items.f l) (itemsB l) := ev_some.2 rfl
theorem itemsB_len {l : List S46} (h : itemsB l = true) : l.length ≤ 5000 := by
  simp only [itemsB, Bool.and_eq_true, decide_eq_true_eq] at h
  exact h.1
end Go.Proofs.Ytlbjdpahhgokkaa.P
/- What the reference's check of rising kinds, and her search in a list of numbers, answer. -/
namespace Go.Proofs.Ytlbjdpahhgokkaa.P
open Go.RowKit Go.Proofs.YtlbjdpahhgokkaaW.PrintWords Go.Proofs.YtlbjdpahhgokkaaW.PrintLast Go.Proofs.YtlbjdpahhgokkaaEv
set_option linter.unusedVariables false
set_option linter.unusedSimpArgs false

def kindsR : Int → List Int → Bool
  | _, [] => true
  | last, x :: rest => decide (0 ≤ x) && decide (last < x) && kindsR x rest
def kindsB (l : List Int) : Bool := decide (l.length ≤ 20) && kindsR (-1) l
theorem rd_nat (l : List Int) (i : Nat) : l.getD i 0 = rd l i := by simp [rd]
theorem spec_l16Kinds_ev (l : List Int) : Ev (fun k => spec_l16Kinds.f k l) (kindsB l) := by
  unfold spec_l16Kinds.f kindsB
  simp only [ev_ite]
  by_cases h6 : l.length ≤ 20
  · rw [if_neg (by omega), decide_eq_true h6, Bool.true_and]
    have key := down l.length (fun i => ∀ last : Int, (i = 0 → last = -1) → (0 < i → last = rd l ((i - 1 : Nat) : Int)) → Ev (fun k => spec_l16Kinds.l0 k l (i : Nat)) (kindsR last (l.drop i))) ?_ ?_ 0 (by omega) (-1) (fun _ => rfl) (by omega)
    · exact key
    · intro last _ _
      rw [ev_succ]
      simp only [spec_l16Kinds.l0, ev_ite, ev_some]
      rw [if_neg (by omega), List.drop_length]
      rfl
    · intro i hi ih last hl0 hl1
      rw [ev_succ, drop_cons l 0 i hi, rd_nat]
      have ih2 := ih (rd l i) (by omega) (fun _ => by rw [Nat.add_sub_cancel])
      simp only [spec_l16Kinds.l0, Option.bind_some, ev_ite, ev_some, kindsR]
      rw [if_pos (by omega), if_pos (by omega), wrap_succ hi (by omega)]
      have hprev : 0 < i → (0 ≤ wrap64 ((i : Int) - 1) ∧ wrap64 ((i : Int) - 1) < l.length ∧ rd l (wrap64 ((i : Int) - 1)) = last) := by
        intro hp
        rw [wrap_id (x := (i : Int) - 1) (by omega) (by omega)]
        exact ⟨by omega, by omega, by rw [hl1 hp, show ((i : Int) - 1) = ((i - 1 : Nat) : Int) by omega]⟩
      generalize (l.drop (i + 1)) = T at *
      generalize rd l (i : Int) = a at *
      generalize hG : (fun k => spec_l16Kinds.l0 k l ((i + 1 : Nat) : Int)) = G at *
      by_cases c1 : a < 0
      · rw [if_pos c1]; simp [show ¬ 0 ≤ a by omega]
      rw [if_neg c1]
      have hend : (last < a) → Ev G (decide (0 ≤ a) && decide (last < a) && kindsR a T) := by
        intro h5
        refine ev_congr ih2 ?_
        simp [show 0 ≤ a by omega, h5]
      by_cases h00 : i = 0
      · rw [if_neg (by omega)]
        exact hend (by have := hl0 h00; omega)
      · obtain ⟨h1', h2', h3'⟩ := hprev (by omega)
        rw [if_pos (by omega), if_pos h1', if_pos h2', h3']
        by_cases c5 : a ≤ last
        · rw [if_pos c5]; simp [show ¬ last < a by omega]
        · rw [if_neg c5]
          exact hend (by omega)
  · rw [if_pos (by omega)]
    exact ev_some.2 (by simp [h6])
theorem kindsB_len {l : List Int} (h : kindsB l = true) : l.length ≤ 20 := by
  simp only [kindsB, Bool.and_eq_true, decide_eq_true_eq] at h
  exact h.1

def hasB (l : List Int) (x : Int) : Bool := l.any (· == x)
theorem any_drop {α : Type} (l : List α) (d : α) (p : α → Bool) (i : Nat) (h : i < l.length) : (l.drop i).any p = (p (l.getD i d) || (l.drop (i + 1)).any p) := by
  rw [drop_cons l d i h, List.any_cons]
theorem spec_l1Has_ev (l : List Int) (x : Int) (hl : l.length ≤ 9223372036854775807) : Ev (fun k => spec_l1Has.f k l x) (hasB l x) := by
  unfold spec_l1Has.f hasB
  have key := ev_loop l.length (fun k i => spec_l1Has.l0 k l x (i : Nat)) (fun i => (l.drop i).any (· == x)) ?_ ?_ 0 (by omega)
  · exact key
  · rw [ev_succ]
    simp [spec_l1Has.l0, ev_some]
  · intro i hi ih
    rw [ev_succ, any_drop l 0 _ i hi, rd_nat]
    simp only [spec_l1Has.l0, ev_ite, ev_some]
    rw [if_pos (by omega), if_pos (by omega), wrap_succ hi (by omega)]
    by_cases h : rd l i = x
    · rw [if_pos h]; simp [h]
    · rw [if_neg h, beq_eq_false_iff_ne.2 h, Bool.false_or]
      exact ih
end Go.Proofs.Ytlbjdpahhgokkaa.P
/- Words for layout: what lines, columns and brackets do to what is put out. -/
namespace Go.Proofs.Ytlbjdpahhgokkaa.P
open Go.RowKit Go.Proofs.YtlbjdpahhgokkaaW.PrintWords Go.Proofs.YtlbjdpahhgokkaaW.PrintLast Go.Proofs.YtlbjdpahhgokkaaW.PrintMore Go.Proofs.YtlbjdpahhgokkaaEv
set_option linter.unusedVariables false
set_option linter.unusedSimpArgs false
/-- An item that is made, at another one's place. -/
def madeI (kind : Int) (x : S46) : S46 := ⟨kind, x.f1, x.f2⟩
/-- The last column of a stack. -/
abbrev lastC (st : List Int) : Int := rd st ((st.length : Int) - 1)
/-- Columns above a column come off the stack (its last end first), a dedent for each. -/
def popR (x : S46) : Nat → List Int → List S46 → List Int × List S46
  | 0, st, out => (st, out)
  | n + 1, st, out => if lastC st > x.f2 then popR x n (st.take (st.length - 1)) (out ++ [madeI (-3) x]) else (st, out)
theorem popR_keeps (x : S46) (hx : 1 ≤ x.f2) : ∀ (n : Nat) (st : List Int) (out : List S46), st.length = n + 1 → st[0]? = some 1 → (popR x n st out).1[0]? = some 1 ∧ 1 ≤ (popR x n st out).1.length ∧ (popR x n st out).1.length ≤ st.length ∧ lastC (popR x n st out).1 ≤ x.f2 ∧ (popR x n st out).2.length + (popR x n st out).1.length = out.length + st.length := by
  intro n
  induction n with
  | zero =>
    intro st out hl h0
    simp only [popR]
    refine ⟨h0, by omega, Nat.le_refl _, ?_, trivial⟩
    unfold lastC rd
    rw [hl, List.getD_eq_getElem?_getD]
    simp [h0]
    omega
  | succ n ih =>
    intro st out hl h0
    simp only [popR]
    split
    · have h1 : (st.take (st.length - 1)).length = n + 1 := by simp; omega
      have h2 : (st.take (st.length - 1))[0]? = some 1 := by rw [List.getElem?_take, if_pos (by omega)]; exact h0
      obtain ⟨a, b, c, d, e⟩ := ih _ (out ++ [madeI (-3) x]) h1 h2
      refine ⟨a, b, by omega, d, ?_⟩
      simp only [List.length_append, List.length_cons, List.length_nil] at e
      omega
    · rename_i hgt
      dsimp only
      exact ⟨h0, by omega, Nat.le_refl _, Int.not_lt.mp hgt, rfl⟩
/-- What an item that begins a line does to stack and output. -/
def begR (x : S46) (st : List Int) (out : List S46) : List Int × List S46 :=
  if x.f2 > lastC st then popR x st.length (st ++ [x.f2]) (out ++ [madeI (-2) x]) else popR x (st.length - 1) st out
/-- The end of a line. -/
def nlR (p : Option S46) (out : List S46) : List S46 := match p with
  | none => out
  | some e => out ++ [madeI (-1) e]
/-- The depth behind an item, if it may stand there. -/
def depR (op cl : List Int) (kind d : Int) : Option Int :=
  if hasB cl kind then (if d = 0 then none else some (if hasB op kind then d - 1 + 1 else d - 1)) else some (if hasB op kind then d + 1 else d)
/-- Does an item begin a line? -/
def newR (p : Option S46) (x : S46) : Bool := match p with
  | none => true
  | some e => decide (x.f1 > e.f1)
def endR (p : Option S46) (st : List Int) (out : List S46) : List S46 := match p with
  | none => out
  | some e => out ++ [madeI (-1) e] ++ List.replicate (st.length - 1) (madeI (-3) e)
def layR (op cl : List Int) : Option S46 → List S46 → List S46 → List Int → Int → Int → List S46 × Int × Int
  | p, [], out, st, d, i => if d = 0 then (endR p st out, 0, -1) else ([], 4, i)
  | p, x :: xs, out, st, d, i =>
    if d = 0 ∧ newR p x = true then
      (if lastC (begR x st (nlR p out)).1 = x.f2 then
        (match depR op cl x.f0 d with
          | none => ([], 3, i)
          | some d1 => layR op cl (some x) xs ((begR x st (nlR p out)).2 ++ [x]) (begR x st (nlR p out)).1 d1 (i + 1))
      else ([], 2, i))
    else (match depR op cl x.f0 d with
          | none => ([], 3, i)
          | some d1 => layR op cl (some x) xs (out ++ [x]) st d1 (i + 1))
theorem begR_keeps (x : S46) (hx : 1 ≤ x.f2) (st : List Int) (out : List S46) (h1 : 1 ≤ st.length) (h0 : st[0]? = some 1) : (begR x st out).1[0]? = some 1 ∧ 1 ≤ (begR x st out).1.length ∧ (begR x st out).1.length ≤ st.length + 1 ∧ (begR x st out).2.length + (begR x st out).1.length ≤ out.length + st.length + 2 := by
  unfold begR
  split
  · obtain ⟨a, b, c, _, e⟩ := popR_keeps x hx st.length (st ++ [x.f2]) (out ++ [madeI (-2) x]) (by simp) (by rw [List.getElem?_append_left (by omega)]; exact h0)
    simp only [List.length_append, List.length_cons, List.length_nil] at c e
    exact ⟨a, b, by omega, by omega⟩
  · obtain ⟨a, b, c, _, e⟩ := popR_keeps x hx (st.length - 1) st out (by omega) h0
    exact ⟨a, b, by omega, by omega⟩
theorem depR_bound {op cl : List Int} {kind d d1 : Int} (h0 : 0 ≤ d) (h : depR op cl kind d = some d1) : 0 ≤ d1 ∧ d1 ≤ d + 1 := by
  unfold depR at h
  split at h
  · split at h
    · cases h
    · have := Option.some.inj h
      split at this <;> omega
  · have := Option.some.inj h
    split at this <;> omega
/-- Right brackets. -/
def bracketsB (op cl : List Int) : Bool := kindsB op && kindsB cl && !(op.any fun k => hasB cl k)
def layB (l : List S46) (op cl : List Int) : List S46 × Int × Int := if itemsB l && bracketsB op cl then layR op cl none l [] [1] 0 0 else ([], 1, -1)
theorem layR_few (op cl : List Int) : ∀ (xs : List S46) (p : Option S46) (out : List S46) (st : List Int) (d i : Int), (∀ x ∈ xs, 1 ≤ x.f2) → 1 ≤ st.length → st[0]? = some 1 → (layR op cl p xs out st d i).1.length ≤ out.length + st.length + 1 + 4 * xs.length := by
  intro xs
  induction xs with
  | nil =>
    intro p out st d i _ h1 _
    simp only [layR]
    split
    · unfold endR
      split <;> simp <;> omega
    · simp
  | cons x xs ih =>
    intro p out st d i hx h1 h0
    have hnl : (nlR p out).length ≤ out.length + 1 := by
      unfold nlR
      split <;> simp
    simp only [layR]
    split
    · split
      · split
        · simp
        · obtain ⟨a, b, c, e⟩ := begR_keeps x (hx x (by simp)) st (nlR p out) h1 h0
          have := ih (some x) ((begR x st (nlR p out)).2 ++ [x]) (begR x st (nlR p out)).1 ‹_› (i + 1) (fun y hy => hx y (by simp [hy])) b a
          simp only [List.length_append, List.length_cons, List.length_nil] at this ⊢
          omega
      · simp
    · split
      · simp
      · have := ih (some x) (out ++ [x]) st ‹_› (i + 1) (fun y hy => hx y (by simp [hy])) h1 h0
        simp only [List.length_append, List.length_cons, List.length_nil] at this ⊢
        omega
theorem itemsR_col : ∀ (l : List S46) (last : Int), itemsR last l = true → ∀ x ∈ l, 1 ≤ x.f2 := by
  intro l
  induction l with
  | nil => intro last _ x hx; cases hx
  | cons y l ih =>
    intro last h x hx
    simp only [itemsR, itemB, Bool.and_eq_true, decide_eq_true_eq] at h
    rcases List.mem_cons.1 hx with rfl | hx
    · exact h.1.1.2.1
    · exact ih _ h.2 x hx
theorem layB_few (l : List S46) (op cl : List Int) : (layB l op cl).1.length ≤ 20002 := by
  unfold layB
  split
  · rename_i h
    simp only [Bool.and_eq_true, itemsB, decide_eq_true_eq] at h
    have := layR_few op cl l none [] [1] 0 0 (itemsR_col l 0 h.1.2) (by simp) rfl
    simp at this
    omega
  · simp
end Go.Proofs.Ytlbjdpahhgokkaa.P
/- The walk of layouter's last: the last column of the stack. -/
namespace Go.Proofs.Ytlbjdpahhgokkaa.P
open Go.RowKit Go.Shelf Go.Proofs.YtlbjdpahhgokkaaW.PrintWords Go.Proofs.YtlbjdpahhgokkaaW.PrintLast Go.Proofs.YtlbjdpahhgokkaaW.PrintMore Go.Proofs.YtlbjdpahhgokkaaEv
set_option linter.unusedVariables false
set_option linter.unusedSimpArgs false
set_option maxRecDepth 100000 in
theorem last_hand {w0 : World} {ok : Nat → Prop} (g : Nat) (out : List S46) (st : List Int) (d : Int) (w : World) (hI : LyS w0 w ok g out st d) (h1 : 1 ≤ st.length) (hl : st.length ≤ 1000000) (n : Nat) :
    Calls Try.prog 50 #[.pointer (some ⟨g, 0, none⟩)] (w.drewN n) fun e w' => e = .returned (.int .i64 (lastC st)) ∧ ∃ m, w' = w.drewN m := by
  obtain ⟨v0, v1, hG, hg, hR0, hR1⟩ := hI
  obtain ⟨ad, c1, rfl⟩ := Kd.R_slice1 hR1 (by omega)
  have hC := (Kd.R_reads' hR1).2.2
  have hx1 : w.cell? ⟨g, 1, none⟩ = some (.slice (some ad) st.length c1) := (blk_cell hG 1).trans rfl
  have p1 : 0 ≤ (st.length : Int) - 1 := by omega
  have p2 : (st.length : Int) - 1 < (st.length : Int) := by omega
  obtain ⟨ad2, e2, hy⟩ := Kd.at_int hC ((st.length : Int) - 1) p1 p2
  cases e2
  have hwr : IntKind.i64.wrap ((st.length : Int) - 1) = (st.length : Int) - 1 := by rw [i64_w]; exact wrap_id (by omega) (by omega)
  have hy1 : w.cell? (ad.add ((st.length : Int) - 1).toNat) = some (.int .i64 (lastC st)) := hy
  rw [show ((st.length : Int) - 1).toNat = st.length - 1 by omega] at hy1
  have q1 := eq_true p1
  have q2 := eq_true p2
  have q3 : 1 ≤ (st.length : Int) := by omega
  have q4 : 0 < st.length := by omega
  clear hR0 hR1 hC hG hy hg
  go_enter Try.func50, Try.ntmps50
  go_wp2_with fail
  go_quiet (fail)
  go_wp2_with fail
  go_ret
  exact ⟨rfl, _, World.drewN_drewN _ _ _⟩
theorem last_is {w0 : World} {ok : Nat → Prop} (g : Nat) (out : List S46) (st : List Int) (d c : Int) (w : World) (hI : LyS w0 w ok g out st d) (h1 : 1 ≤ st.length) (hl : st.length ≤ 1000000) (hc : lastC st = c) (n : Nat) :
    Calls Try.prog 50 #[.pointer (some ⟨g, 0, none⟩)] (w.drewN n) fun e w' => e = .returned (.int .i64 c) ∧ ∃ m, w' = w.drewN m := by
  subst hc
  exact last_hand g out st d w hI h1 hl n
end Go.Proofs.Ytlbjdpahhgokkaa.P
/- The walk of layouter's begin where a column is deeper: it goes on the stack. -/
namespace Go.Proofs.Ytlbjdpahhgokkaa.P
open Go.RowKit Go.Shelf Go.Proofs.YtlbjdpahhgokkaaW.PrintWords Go.Proofs.YtlbjdpahhgokkaaW.PrintLast Go.Proofs.YtlbjdpahhgokkaaW.PrintMore Go.Proofs.YtlbjdpahhgokkaaEv
set_option linter.unusedVariables false
set_option linter.unusedSimpArgs false
theorem LyS.alloc {w0 w : World} {ok : Nat → Prop} {g : Nat} {out : List S46} {st : List Int} {d : Int} (h : LyS w0 w ok g out st d) (o : Obj) : LyS w0 (w.alloc o) (fun k => ok k ∧ k ≠ w.heap.size) g out st d := by
  obtain ⟨v0, v1, hG, hg, h0, h1⟩ := h
  exact ⟨v0, v1, blk_alloc hG o, hg, Kd.R_alloc (Kd.R_mono (Kd.R_bound h0) fun k hk => ⟨hk.1, by have := hk.2.2.1; omega⟩) o, Kd.R_alloc (Kd.R_mono (Kd.R_bound h1) fun k hk => ⟨hk.1, by have := hk.2.2.1; omega⟩) o⟩
theorem LyS.drewN {w0 w : World} {ok : Nat → Prop} {g : Nat} {out : List S46} {st : List Int} {d : Int} (h : LyS w0 w ok g out st d) (n : Nat) : LyS w0 (w.drewN n) ok g out st d := by
  obtain ⟨v0, v1, hG, hg, h0, h1⟩ := h
  exact ⟨v0, v1, blk_drewN hG n, hg, Kd.R_drewN h0 n, Kd.R_drewN h1 n⟩
theorem LyS.mono {w0 w : World} {ok ok' : Nat → Prop} {g : Nat} {out : List S46} {st : List Int} {d : Int} (h : LyS w0 w ok g out st d) (hk : ∀ k, ok k → ok' k) : LyS w0 w ok' g out st d := by
  obtain ⟨v0, v1, hG, hg, h0, h1⟩ := h
  exact ⟨v0, v1, hG, hg, Kd.R_mono h0 hk, Kd.R_mono h1 hk⟩
theorem LyS.ne {w0 w : World} {ok : Nat → Prop} {g : Nat} {out : List S46} {st : List Int} {d : Int} (h : LyS w0 w ok g out st d) {b t : Nat} {cs : Array Value} (hb : w.heap[b]? = some (.cells cs t (0, 0))) (ht : t ≠ 58) : b ≠ g := by
  obtain ⟨v0, v1, hG, hg, h0, h1⟩ := h
  exact blk_ne hb hG ht
theorem begR_push {x : S46} {st : List Int} {out : List S46} (h : lastC st < x.f2) : begR x st out = (st ++ [x.f2], out ++ [⟨-2, x.f1, x.f2⟩]) := by
  unfold begR
  rw [if_pos h]
  have hl : lastC (st ++ [x.f2]) = x.f2 := by
    unfold lastC rd
    rw [List.getD_eq_getElem?_getD, List.getElem?_append_right (by simp)]
    simp
  cases hn : st.length with
  | zero => rfl
  | succ n =>
    simp only [popR]
    rw [hl, if_neg (by omega)]
    rfl
set_option maxHeartbeats 8000000 in
set_option maxRecDepth 100000 in
theorem begin_push {w0 : World} (ok : Nat → Prop) (g : Nat) (out : List S46) (st : List Int) (d : Int) (x : S46) (w : World) (hI : LyS w0 w ok g out st d) (hB : Below w0.heap.size w0 w) (hF : ∀ k, w.heap.size ≤ k → ok k) (h1 : 1 ≤ st.length) (hl : out.length + st.length ≤ 500000) (hc : lastC st < x.f2) :
    Calls Try.prog 31 #[.pointer (some ⟨g, 0, none⟩), .agg #[.int .i64 x.f0, .int .i64 x.f1, .int .i64 x.f2]] w fun e w' => e = .returned (.int .i64 0) ∧ LyS w0 w' ok g (out ++ [⟨-2, x.f1, x.f2⟩]) (st ++ [x.f2]) d ∧ Below w0.heap.size w0 w' ∧ KeepOk w w' ok g := by
  have cA : decide (lastC st < x.f2) = true := decide_eq_true hc
  have HI := Aside0.mk (hI.alloc (.cells #[.int .i64 x.f0, .int .i64 x.f1, .int .i64 x.f2] 46))
  have BX := Aside0.mk (blk_new w (.cells #[.int .i64 x.f0, .int .i64 x.f1, .int .i64 x.f2] 46))
  have HB := Aside0.mk (below_alloc hB (.cells #[.int .i64 x.f0, .int .i64 x.f1, .int .i64 x.f2] 46))
  have SZ1 : Aside0 (w.heap.size + 1 ≤ (w.alloc (.cells #[.int .i64 x.f0, .int .i64 x.f1, .int .i64 x.f2] 46)).heap.size) := ⟨by simp⟩
  have KP1 : Aside0 (∀ k, k < w.heap.size → k ≠ g → ¬ ok k → (w.alloc (.cells #[.int .i64 x.f0, .int .i64 x.f1, .int .i64 x.f2] 46)).heap[k]? = w.heap[k]?) := ⟨fun k hk _ _ => Below.heap_alloc w _ k hk⟩
  have HF1 : Aside0 (∀ k, (w.alloc (.cells #[.int .i64 x.f0, .int .i64 x.f1, .int .i64 x.f2] 46)).heap.size ≤ k → ok k ∧ k ≠ w.heap.size) := ⟨fun k hk => ⟨hF k (by have := SZ1.out; omega), by have := SZ1.out; omega⟩⟩
  have hgw : g < w.heap.size := by obtain ⟨v0, v1, hG, _⟩ := hI; exact blk_lt hG
  clear hI hB hF
  go_enter Try.func31, Try.ntmps31
  go_wp2_with fail
  go_quiet ((go_at_call 50; with_reducible exact last_hand g _ st d _ HI.out (by omega) (by omega) _))
  go_wp2_with fail
  obtain ⟨gb, hgb⟩ : ∃ gb, w.heap.size = gb := ⟨_, rfl⟩
  replace HI := Aside0.mk (HI.out.drewN nq)
  replace BX := Aside0.mk (blk_drewN BX.out nq)
  replace HB := Aside0.mk (pw_below_drewN HB.out nq)
  replace SZ1 : Aside0 (w.heap.size + 1 ≤ ((w.alloc (.cells #[.int .i64 x.f0, .int .i64 x.f1, .int .i64 x.f2] 46)).drewN nq).heap.size) := SZ1
  replace KP1 : Aside0 (∀ k, k < w.heap.size → k ≠ g → ¬ ok k → ((w.alloc (.cells #[.int .i64 x.f0, .int .i64 x.f1, .int .i64 x.f2] 46)).drewN nq).heap[k]? = w.heap[k]?) := KP1
  replace HF1 : Aside0 (∀ k, ((w.alloc (.cells #[.int .i64 x.f0, .int .i64 x.f1, .int .i64 x.f2] 46)).drewN nq).heap.size ≤ k → ok k ∧ k ≠ w.heap.size) := HF1
  generalize hW : (w.alloc (.cells #[.int .i64 x.f0, .int .i64 x.f1, .int .i64 x.f2] 46)).drewN nq = W at *
  clear hW
  simp only [hgb] at HI BX HF1 ⊢
  obtain ⟨v0, v1, hG, hg, hR0, hR1⟩ := HI.out
  obtain ⟨A1, c1, rfl⟩ := Kd.R_slice hR1
  have BK1 := Aside0.mk (blk_drew hG)
  have BX1 := Aside0.mk (blk_drew BX.out)
  have HO0 := Aside0.mk (Kd.R_drew hR0)
  have HO1 := Aside0.mk (Kd.R_drew hR1)
  have HB1 := Aside0.mk (below_drew1 HB.out)
  have GE := Aside0.mk hg
  clear hG hg hR0 hR1 HI BX
  replace SZ1 : Aside0 (w.heap.size + 1 ≤ W.drew.heap.size) := SZ1
  replace KP1 : Aside0 (∀ k, k < w.heap.size → k ≠ g → ¬ ok k → W.drew.heap[k]? = w.heap[k]?) := KP1
  replace HF1 : Aside0 (∀ k, W.drew.heap.size ≤ k → ok k ∧ k ≠ gb) := HF1
  refine start_ (n := 12) (S := fun w' => w'.cell? ⟨g, 1, none⟩ = some (.slice A1 st.length c1) ∧ w'.cell? ⟨gb, 2, none⟩ = some (.int .i64 x.f2)) (ds := [11]) #[false, false, false, false, false, false, false, false, false, false, false, false] (by kernel_rfl) rfl rfl ⟨(blk_cell BK1.out 1).trans rfl, (blk_cell BX1.out 2).trans rfl⟩ (fun hHeld => ?_)
  generalize hW1 : W.drew = W1 at BK1 BX1 HO0 HO1 HB1 SZ1 KP1 HF1 hHeld ⊢
  refine pure_ (i := 0) (N := (some 10)) (v := ?_) (a' := ?_) #[true, false, false, false, false, false, false, false, false, false, false, false] rfl rfl (by kernel_rfl) (fun _ _ _ h => h) (Or.inl ⟨by rfl, ?_⟩) ?_ ?_
  rotate_left
  · intro w'
    go_simp
    with_reducible rfl
  rotate_left
  · simp only [Act.put, List.setIfInBounds_toArray, List.set_cons_zero, List.set_cons_succ, i64_w, i32_w]
    rfl
  refine pure_ (i := 1) (N := (some 11)) (v := ?_) (a' := ?_) #[true, true, false, false, false, false, false, false, false, false, false, false] rfl rfl (by kernel_rfl) (fun _ _ _ h => h) (Or.inl ⟨by rfl, ?_⟩) ?_ ?_
  rotate_left
  · intro w'
    go_simp
    with_reducible rfl
  rotate_left
  · simp only [Act.put, List.setIfInBounds_toArray, List.set_cons_zero, List.set_cons_succ, i64_w, i32_w]
    rfl
  refine pure_ (i := 2) (N := (some 12)) (v := ?_) (a' := ?_) #[true, true, true, false, false, false, false, false, false, false, false, false] rfl rfl (by kernel_rfl) (fun _ _ _ h => h) (Or.inl ⟨by rfl, ?_⟩) ?_ ?_
  rotate_left
  · intro w'
    go_simp
    with_reducible rfl
  rotate_left
  · simp only [Act.put, List.setIfInBounds_toArray, List.set_cons_zero, List.set_cons_succ, i64_w, i32_w]
    rfl
  refine pure_ (i := 3) (N := (some 13)) (v := ?_) (a' := ?_) #[true, true, true, true, false, false, false, false, false, false, false, false] rfl rfl (by kernel_rfl) (fun _ _ _ h => h) (Or.inl ⟨by rfl, ?_⟩) ?_ ?_
  rotate_left
  · intro w'
    go_simp
    with_reducible rfl
  rotate_left
  · simp only [Act.put, List.setIfInBounds_toArray, List.set_cons_zero, List.set_cons_succ, i64_w, i32_w]
    rfl
  refine pure_ (i := 5) (N := (some 15)) (v := ?_) (a' := ?_) #[true, true, true, true, false, true, false, false, false, false, false, false] rfl rfl (by kernel_rfl) (fun _ _ _ h => h) (Or.inl ⟨by rfl, ?_⟩) ?_ ?_
  rotate_left
  · intro w'
    go_simp
    with_reducible rfl
  rotate_left
  · simp only [Act.put, List.setIfInBounds_toArray, List.set_cons_zero, List.set_cons_succ, i64_w, i32_w]
    rfl
  refine take_ (i := 4) (N := (some 14)) (v := ?_) (a' := ?_) #[true, true, true, true, true, true, false, false, false, false, false, false] rfl rfl (by kernel_rfl) (fun _ _ _ h => h) (Or.inl ⟨by rfl, ?_⟩) hHeld ?_ ?_
  rotate_left
  · rintro w' ⟨s0, s1⟩
    go_simp
    with_reducible rfl
  rotate_left
  · simp only [Act.put, List.setIfInBounds_toArray, List.set_cons_zero, List.set_cons_succ, i64_w, i32_w]
    rfl
  refine take_ (i := 6) (N := (some 16)) (v := ?_) (a' := ?_) #[true, true, true, true, true, true, true, false, false, false, false, false] rfl rfl (by kernel_rfl) (fun _ _ _ h => h) (Or.inl ⟨by rfl, ?_⟩) hHeld ?_ ?_
  rotate_left
  · rintro w' ⟨s0, s1⟩
    go_simp
    with_reducible rfl
  rotate_left
  · simp only [Act.put, List.setIfInBounds_toArray, List.set_cons_zero, List.set_cons_succ, i64_w, i32_w]
    rfl
  refine one_ (i := 7) (N := (some 17)) #[true, true, true, true, true, true, true, true, false, false, false, false] rfl rfl (by kernel_rfl) (by decide) (fun K hK => ?_)
  refine value_ (w1 := ?_) (v := ?_) (by rfl) rfl ?_ ?_
  rotate_left 2
  · go_simp
    constructor
    · rfl
    · rfl
  refine hK.out _ _ ⟨(World.cell?_alloc_lt _ _ _ (World.block_lt_of_cell? _ _ (hHeld.1))).trans (hHeld.1), (World.cell?_alloc_lt _ _ _ (World.block_lt_of_cell? _ _ (hHeld.2))).trans (hHeld.2)⟩ (fun hHeld => ?_)
  clear hK K
  refine norm_ (a' := ?_) ?_ ?_
  rotate_left
  · show Act.put _ (some 17) _ = _
    simp only [Act.put, List.setIfInBounds_toArray, List.set_cons_zero, List.set_cons_succ, i64_w, i32_w]
    rfl
  refine one_ (i := 8) (N := (some 18)) #[true, true, true, true, true, true, true, true, true, false, false, false] rfl rfl (by kernel_rfl) (by decide) (fun K hK => ?_)
  refine Kd.R_append_step (Kd.int .i64) (w0 := w0) w0.heap.size (by rfl) (.tmp 14) (.tmp 17) 23 2 (.int .i64 0) 8 rfl Try.underlying23 (by kernel_rfl) rfl (by decide) (by omega) (.slice A1 st.length c1) st x.f2 [.int .i64 x.f2] (fun k => ok k ∧ k ≠ gb) (fun _ => False) rfl rfl ?aP (fun _ hk => hk.elim) HF1.out HO1.out HB1.out (below_size HB1.out) ?aL ?_
  (case aP => exact rfl)
  (case aL => omega)
  intro v2 w2 ho hb hgr hat
  have hne := Kd.R_ne HO1.out BK1.out (by decide)
  have hnx := Kd.R_away HO1.out (g := gb) (fun _ hk => hk.2)
  have HOb := Aside0.mk (Kd.R_over' HO0.out (Kd.R_typed HO1.out) (by decide) hgr)
  have BK2 := Aside0.mk (blk_grown BK1.out hgr hne)
  have BX2 := Aside0.mk (blk_grown BX1.out hgr hnx)
  have KP2 : Aside0 (∀ k, k < w.heap.size → k ≠ g → ¬ ok k → w2.heap[k]? = w.heap[k]?) := ⟨fun k hk hkg hko => (hgr.block k (by have := SZ1.out; omega) (fun e => hko (HO1.out.1 k e.symm).1)).trans (KP1.out k hk hkg hko)⟩
  obtain ⟨A2, c2, rfl⟩ := Kd.R_slice ho
  have hln : (st ++ [x.f2]).length = st.length + 1 := by simp
  rw [hln] at ho ⊢
  refine hK.out _ _ ⟨(blk_cell BK2.out 1).trans rfl, (blk_cell BX2.out 2).trans rfl⟩ (fun hHeld => ?_)
  have hx0 := (blk_cell BK2.out 1)
  have hf0 := blk_frozen BK2.out 1
  clear hK K
  refine norm_ (a' := ?_) ?_ ?_
  rotate_left
  · show Act.put _ (some 18) _ = _
    simp only [Act.put, List.setIfInBounds_toArray, List.set_cons_zero, List.set_cons_succ, i64_w, i32_w]
    rfl
  refine pure_ (i := 9) (N := (some 19)) (v := ?_) (a' := ?_) #[true, true, true, true, true, true, true, true, true, true, false, false] rfl rfl (by kernel_rfl) (fun _ _ _ h => h) (Or.inl ⟨by rfl, ?_⟩) ?_ ?_
  rotate_left
  · intro w'
    go_simp
    with_reducible rfl
  rotate_left
  · simp only [Act.put, List.setIfInBounds_toArray, List.set_cons_zero, List.set_cons_succ, i64_w, i32_w]
    rfl
  refine pure_ (i := 10) (N := (some 20)) (v := ?_) (a' := ?_) #[true, true, true, true, true, true, true, true, true, true, true, false] rfl rfl (by kernel_rfl) (fun _ _ _ h => h) (Or.inl ⟨by rfl, ?_⟩) ?_ ?_
  rotate_left
  · intro w'
    go_simp
    with_reducible rfl
  rotate_left
  · simp only [Act.put, List.setIfInBounds_toArray, List.set_cons_zero, List.set_cons_succ, i64_w, i32_w]
    rfl
  refine last_ (i := 11) (N := none) #[true, true, true, true, true, true, true, true, true, true, true, true] rfl rfl (by kernel_rfl) (by decide) (fun K hK => ?_)
  refine skip_ (w1 := ?_) (by rfl) rfl ?_ ?_
  rotate_left
  · go_simp
    rfl
  refine hK.out _ _ ?_
  clear hK K
  refine done_ (by kernel_rfl) ?_
  have HI3 : Aside0 (LyS w0 (w2.setCell ⟨g, 1, none⟩ (.slice A2 (st.length + 1) c2)) (fun k => ok k ∧ k ≠ gb) g out (st ++ [x.f2]) d) := ⟨⟨_, _, (blk_set BK2.out 1 _).trans rfl, GE.out, Kd.R_set HOb.out BK2.out (by decide) 1 _, Kd.R_set ho BK2.out (by decide) 1 _⟩⟩
  have hgg : gb ≠ g := by omega
  have BX3 := Aside0.mk (blk_far BX2.out (p := ⟨g, 1, none⟩) hgg (.slice A2 (st.length + 1) c2))
  have HB3 := Aside0.mk (below_set hb GE.out (j := 1) (v := .slice A2 (st.length + 1) c2))
  have KP3 : Aside0 (∀ k, k < w.heap.size → k ≠ g → ¬ ok k → (w2.setCell ⟨g, 1, none⟩ (.slice A2 (st.length + 1) c2)).heap[k]? = w.heap[k]?) := ⟨fun k hk hkg hko => (Below.heap_setCell w2 _ _ k hkg).trans (KP2.out k hk hkg hko)⟩
  have SZ3 : Aside0 (W1.heap.size ≤ (w2.setCell ⟨g, 1, none⟩ (.slice A2 (st.length + 1) c2)).heap.size) := ⟨by have := hgr.size; simpa using this⟩
  clear HO0 HO1 HB1 BK1 BX1 ho hb hgr hat hne hnx HOb BK2 BX2 KP2 hx0 hf0 hHeld hW1
  generalize w2.setCell ⟨g, 1, none⟩ (.slice A2 (st.length + 1) c2) = w3 at *
  have hy0 := blk_cell BX3.out 0
  have hy1 := blk_cell BX3.out 1
  have hy2 := blk_cell BX3.out 2
  go_wp2_with (go_at_call 30; refine (put_hand (fun k => ok k ∧ k ≠ gb) g out (st ++ [x.f2]) d (-2) x w3 HI3.out HB3.out ?hff (by omega)).mono ?_; (case hff => exact fun k hk => HF1.out k (by have := SZ3.out; omega)); rintro e w' ⟨rfl, hi, hb, hk⟩)
  go_ret
  exact ⟨rfl, hi.mono (fun _ h => h.1), hb, fun k hk1 hkg hko => (hk k (by have := SZ3.out; have := SZ1.out; omega) hkg (fun h => hko h.1)).trans (KP3.out k hk1 hkg hko)⟩
end Go.Proofs.Ytlbjdpahhgokkaa.P
