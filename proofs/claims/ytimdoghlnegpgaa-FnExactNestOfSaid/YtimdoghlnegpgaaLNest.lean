/- What the printed NestOf of program and reference answer. -/
import Derived.Test.YtimdoghlnegpgaaEv
import Derived.Test.YtimdoghlnegpgaaFspecNestOf
import Derived.Test.YtimdoghlnegpgaaFimplNestOf
namespace Go.Proofs.Ytimdoghlnegpgaa.P
open Go.RowKit Go.Proofs.YtimdoghlnegpgaaW.PrintWords Go.Proofs.YtimdoghlnegpgaaW.PrintLast Go.Proofs.YtimdoghlnegpgaaEv
set_option linter.unusedVariables false
set_option linter.unusedSimpArgs false

def turn (kind : Int) : Int := if kind = -2 then 1 else if kind = -3 then -1 else 0
def nestR (out : List Int) (n : Int) : List S73 → List Int × Bool
  | [] => if n = 0 then (out, true) else ([], false)
  | x :: xs => if n + turn x.f0 < 0 then ([], false) else nestR (out ++ [n]) (n + turn x.f0) xs
def nestB (l : List S73) : List Int × Bool := if 5000 < l.length then ([], false) else nestR [] 0 l

theorem nestR_length (xs : List S73) : ∀ (out : List Int) (n : Int), (nestR out n xs).1.length ≤ out.length + xs.length := by
  induction xs with
  | nil => intro out n; unfold nestR; split <;> simp
  | cons x xs ih =>
    intro out n
    unfold nestR
    split
    · simp
    · have := ih (out ++ [n]) (n + turn x.f0)
      simp at this ⊢
      omega
theorem nestB_length (l : List S73) : (nestB l).1.length ≤ 5000 := by
  unfold nestB
  split
  · simp
  · have := nestR_length l [] 0
    simp at this
    omega

theorem impl_NestOf_ev (l : List S73) : Ev (fun k => impl_NestOf.f k l) (nestB l) := by
  unfold impl_NestOf.f nestB
  simp only [ev_ite]
  by_cases h5 : 5000 < l.length
  · rw [if_pos (by omega), if_pos h5]
    exact ev_some.2 rfl
  · rw [if_neg (by omega), if_neg h5]
    have h := down l.length (fun i => ∀ (out : List Int) (n : Int), out.length = i → 0 ≤ n → n ≤ i → Ev (fun k => impl_NestOf.l0 k out n l l.length (i : Nat)) (nestR out n (l.drop i))) ?_ ?_ 0 (by omega) [] 0 rfl (by omega) (by omega)
    · simpa using h
    · intro out n ho h0 h1
      rw [ev_succ]
      simp [impl_NestOf.l0, ev_some, ev_ite, nestR]
    · intro i hi ih out n ho h0 h1
      rw [ev_succ, drop_cons l z73 i hi]
      have hr : l.getD i z73 = rd_T73 l i := by simp [rd_T73]
      rw [hr]
      simp only [impl_NestOf.l0, ev_ite, Option.bind_some, ev_some]
      rw [if_pos (by omega), if_pos (by omega), if_pos (by omega), if_pos (by omega), wrap_succ hi (by omega), wrap_id (x := n + 1) (by omega) (by omega), wrap_id (x := n - 1) (by omega) (by omega)]
      unfold nestR
      generalize (rd_T73 l i).f0 = kd
      have ih2 : ∀ m : Int, 0 ≤ m → m ≤ i + 1 → Ev (fun k => impl_NestOf.l0 k (out ++ [n]) m l l.length ((i + 1 : Nat) : Int)) (nestR (out ++ [n]) m (l.drop (i + 1))) := fun m hm hm' => ih (out ++ [n]) m (by simp [ho]) hm (by omega)
      by_cases k2 : kd = -2
      · rw [if_pos k2, if_neg (by omega), if_neg (by simp [turn, k2]; omega)]
        simpa [turn, k2] using ih2 (n + 1) (by omega) (by omega)
      · rw [if_neg k2]
        by_cases k3 : kd = -3
        · rw [if_pos k3]
          by_cases hn : n - 1 < 0
          · rw [if_pos hn, if_pos (by simp [turn, k3]; omega)]
          · rw [if_neg hn, if_neg (by simp [turn, k3]; omega)]
            simpa [turn, k3, Int.sub_eq_add_neg] using ih2 (n - 1) (by omega) (by omega)
        · rw [if_neg k3, if_neg (by omega), if_neg (by simp [turn, k2, k3]; omega)]
          simpa [turn, k2, k3] using ih2 n (by omega) (by omega)

theorem spec_NestOf_ev (l : List S73) : Ev (fun k => spec_NestOf.f k l) (nestB l) := by
  unfold spec_NestOf.f nestB
  simp only [ev_ite, Option.bind_some]
  by_cases h5 : 5000 < l.length
  · rw [if_pos (by omega), if_pos h5]
    exact ev_some.2 rfl
  · rw [if_neg (by omega), if_neg h5]
    have h := down l.length (fun i => ∀ (out : List Int) (n : Int), out.length = i → 0 ≤ n → n ≤ i → Ev (fun k => spec_NestOf.l0 k l out n (i : Nat)) (nestR out n (l.drop i))) ?_ ?_ 0 (by omega) [] 0 rfl (by omega) (by omega)
    · simpa using h
    · intro out n ho h0 h1
      rw [ev_succ]
      simp [spec_NestOf.l0, ev_some, ev_ite, nestR]
    · intro i hi ih out n ho h0 h1
      have ih2 : ∀ m : Int, 0 ≤ m → m ≤ i + 1 → Ev (fun k => spec_NestOf.l0 k l (out ++ [n]) m ((i + 1 : Nat) : Int)) (nestR (out ++ [n]) m (l.drop (i + 1))) := fun m hm hm' => ih (out ++ [n]) m (by simp [ho]) hm (by omega)
      have hj : ∀ m : Int, 0 ≤ m → m ≤ i + 1 → ((rd_T73 l i).f0 = -3 → m = n) → Ev (fun k => spec_NestOf.j1 k l (out ++ [n]) m (i : Nat)) (if (rd_T73 l i).f0 = -3 then (if m - 1 < 0 then ([], false) else nestR (out ++ [n]) (m - 1) (l.drop (i + 1))) else nestR (out ++ [n]) m (l.drop (i + 1))) := by
        intro m hm hm' hmn
        rw [ev_succ]
        simp only [spec_NestOf.j1, ev_ite, ev_some]
        rw [if_pos (by omega), if_pos (by omega), wrap_succ hi (by omega), wrap_id (x := m - 1) (by omega) (by omega)]
        split
        · split
          · rfl
          · exact ih2 (m - 1) (by omega) (by omega)
        · rw [if_neg (by omega)]
          exact ih2 m hm hm'
      rw [ev_succ, drop_cons l z73 i hi]
      have hr : l.getD i z73 = rd_T73 l i := by simp [rd_T73]
      rw [hr]
      simp only [spec_NestOf.l0, ev_ite, Option.bind_some, ev_some]
      rw [if_pos (by omega), if_pos (by omega), if_pos (by omega), wrap_id (x := n + 1) (by omega) (by omega)]
      unfold nestR
      by_cases k2 : (rd_T73 l i).f0 = -2
      · rw [if_pos k2, if_neg (by simp [turn, k2]; omega)]
        have := hj (n + 1) (by omega) (by omega) (by omega)
        rw [if_neg (by omega)] at this
        simpa [turn, k2] using this
      · rw [if_neg k2]
        have := hj n (by omega) (by omega) (fun _ => rfl)
        by_cases k3 : (rd_T73 l i).f0 = -3
        · rw [if_pos k3] at this
          simpa [turn, k3, Int.sub_eq_add_neg] using this
        · rw [if_neg k3] at this
          rw [if_neg (by simp [turn, k2, k3]; omega)]
          simpa [turn, k2, k3] using this
end Go.Proofs.Ytimdoghlnegpgaa.P
