/- The law FnExactShortest holds for every call: part 7 of 7 of the proof (the row). Conditions: none beyond what the given row says. -/
import Derived.Test.YtijmhelacmjggaaRows
import Derived.Test.YtijmhelacmjggaaMFnExactShortest5
import Derived.WalkKit
import Derived.ProofKit
import Derived.OpenShut
import Derived.ShutString
import Derived.ChangeOld
import Derived.Below
import Derived.SizedLaws
/- The law FnExactShortest holds: every call returns true and leaves its arguments as they were. Conditions: none beyond what the given row says. This text: the row, out of the walk's contract and the pure statement. -/
namespace Go.Proofs.Ytijmhelacmjggaa.fnExactShortest
open Go.ChangeShapes Go.WideShapes Go.ChangeAt Go.RowKit Go.Proofs.YtijmhelacmjggaaW.PrintWords Go.Proofs.YtijmhelacmjggaaOpen Go.Proofs.Ytijmhelacmjggaa.P
open Go.ChangeMaps (open_string shut_string)
set_option linter.unusedVariables false
set_option linter.unusedSimpArgs false
theorem own : ownKnob Try.prog.godebug = none := by kernel_rfl
theorem laidOut : laidOutB Try.prog = true := by kernel_rfl
theorem o210 : Opens Try.prog 210 k210 g210 := opens_imp (opens_iso (fun x : S210 => (x.f0, x.f1)) (fun p => ⟨p.1, p.2⟩) (fun _ => rfl) (opens_struct Try.underlying210 (by kernel_rfl) (fields_cons (opens_int Try.underlying2 (by kernel_rfl)) (fields_one (opens_int Try.underlying2 (by kernel_rfl)))))) (fun _ h => h)
theorem o152 : Opens Try.prog 152 k152 g152 := opens_imp (opens_iso (fun x : S152 => (x.f0, x.f1, x.f2, x.f3, x.f4)) (fun p => ⟨p.1, p.2.1, p.2.2.1, p.2.2.2.1, p.2.2.2.2⟩) (fun _ => rfl) (opens_struct Try.underlying152 (by kernel_rfl) (fields_cons (opens_int Try.underlying2 (by kernel_rfl)) (fields_cons (opens_slice Try.underlying150 (by kernel_rfl) o210) (fields_cons (opens_slice Try.underlying56 (by kernel_rfl) (opens_int Try.underlying2 (by kernel_rfl))) (fields_cons (opens_int Try.underlying2 (by kernel_rfl)) (fields_one (opens_int Try.underlying2 (by kernel_rfl))))))))) (fun _ h => h)
set_option maxRecDepth 100000 in
theorem lifted (os : Os) (started : os.Started) (H : Type) (enc : TypeId × Value → H) :
    ReturnsInHanded {} Try.checked os 3 .any (Rows.fnExactShortestSpec.pre6 enc Try.prog Try.f3 Rows.fnExactShortestRow.domain false) (Rows.fnExactShortestSpec.post enc Try.prog Try.f3 false true false false) := by
  refine returnsInHanded_of_change_sized (C := Try.checked) own started (by kernel_rfl) Try.func3
    (ChangeSpec.witness6 (enc := enc) (C := Try.checked) false ⟨#[], #[.agg #[.slice none 0 0]], []⟩ 8 (by kernel_rfl) (by kernel_rfl) (by kernel_rfl) (by kernel_rfl)) ?_
  intro W base args ds gs before hval0 hW hcnd hsz0 _
  have hsz : (DataW.weightsEach Try.prog (Try.f3.params.toList ++ Rows.fnExactShortestSpec.plain.varTypes Try.prog) (ds ++ gs)).all (· ≤ reachBytes) = true := hsz0
  have hval : ∀ (j : Nat) t v, Try.f3.params[j]? = some t → args[j]? = some v → Value.okWide Try.prog W .any base t v := hval0
  have hW' := hW
  obtain ⟨p, q, hA0, hV, rfl, hfz, hnd⟩ := hW
  have hA : DataW.TrodAll enc Try.prog W 0 (fun _ => true) true Try.f3.params.toList args.toList ds p := hA0
  rw [Try.params3] at hA hval hsz
  obtain ⟨v0, vs0, d0, ds0, p0, q0, hargs, rfl, rfl, h0, r0⟩ := trodAll_cons hA
  obtain ⟨rfl, rfl, rfl⟩ := trodAll_nil r0
  obtain rfl : args = #[v0] := by cases args; simp_all
  obtain ⟨rfl, rfl⟩ := trodVars_none hV
  have k0' := h0
  have lt0 : ∀ x ∈ p0, x.block < W.heap.size := by obtain ⟨m, hm⟩ := k0'; exact DataW.trod_lt m _ _ _ hm
  obtain ⟨cs0, rfl, hn0⟩ := okWide_struct Try.underlying24 (hval 0 24 v0 rfl rfl)
  obtain ⟨fuel0, hf0⟩ := h0
  have hf0' : DataW.trod enc Try.prog W 0 (fun _ => true) true fuel0 24 cs0.toList = some (d0, p0) := hf0
  obtain ⟨x0, hK0, hG0⟩ := (opens_struct Try.underlying24 (by kernel_rfl) (fields_one (opens_slice Try.underlying22 (by kernel_rfl) o152))).op enc W 0 (fun _ => true) true fuel0 _ _ hf0'
  have hG0' := hG0
  obtain ⟨A0_0, c0_0, hs0_0, hl0_0, hC0_0⟩ := hK0
  obtain rfl : cs0 = #[.slice A0_0 x0.length c0_0] := by
    apply Array.ext'
    simp only [hs0_0, List.cons_append, List.nil_append]
  clear hA0 hval0 hsz0 hsz
  obtain ⟨k, hk⟩ := Pure.pure_FnExactShortest _ hG0'
  refine (laws_FnExactShortest.calls k A0_0 c0_0 _ true W hC0_0 hl0_0 hk).mono fun e W' ⟨he, bel0⟩ => ?_
  have bel : Below W.heap.size W W' := bel0
  subst he
  exact ⟨_, rfl, _, _, _, [], _, [], hW', trodAll_mk1 (shut_bool Try.underlying4 _), (trodAll_cons_mk (Below.trod laidOut (by kernel_rfl) (of_decide_eq_true (by kernel_rfl)) k0' bel lt0) trodAll_mk0), rfl, bel.frame _, fun h => by cases h⟩
theorem over : Rows.fnExactShortestRow.holds Try.pinned (OpenSpec.ofChange Rows.fnExactShortestSpec) :=
  OpenClaim.holds_of_wide 3 Try.f3 rfl rfl rfl rfl rfl rfl rfl ⟨rfl, rfl, rfl, rfl, rfl⟩ rfl rfl rfl rfl rfl (by kernel_rfl) Try.func3 (by kernel_rfl)
    (of_decide_eq_true (by kernel_rfl)) (by unfold Func.isWrapper; first | (rw [if_pos (by decide +kernel)]; kernel_rfl) | (rw [if_neg (by decide +kernel)]; exact ⟨rfl, rfl⟩))
    (fun os started H enc _ => lifted os started H enc)
theorem proved : Rows.FnExactShortestSaid := over
#print axioms proved
end Go.Proofs.Ytijmhelacmjggaa.fnExactShortest
namespace Go.Proofs.Ytijmhelacmjggaa
/-- The row, under a short name, for the claim. -/
theorem fnExactShortest_holds : Rows.FnExactShortestSaid := fnExactShortest.proved
end Go.Proofs.Ytijmhelacmjggaa
