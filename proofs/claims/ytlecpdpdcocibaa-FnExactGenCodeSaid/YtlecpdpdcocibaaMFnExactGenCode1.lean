/- The law FnExactGenCode holds for every call: part 2 of 3 of the proof (walks of functions, and what they answer). Conditions: none beyond what the given row says. -/
import Derived.Test.YtlecpdpdcocibaaMFnExactGenCode0
import Derived.Shelf.Abstract
import Derived.Lib.Hide
set_option maxHeartbeats 16000000
set_option maxRecDepth 100000
namespace Go.Proofs.Ytlecpdpdcocibaa.P
open Go.RowKit Go.Proofs.YtlecpdpdcocibaaW.PrintWords Go.Proofs.YtlecpdpdcocibaaW.PrintLast Go.Proofs.YtlecpdpdcocibaaW.PrintMore
attribute [local go_sem] max2_int min2_int max_two min_two max_three min_three max_four min_four
set_option linter.unusedVariables false
set_option linter.unusedSimpArgs false
/-! ### impl_blocksOk: function 98 -/
def impl_blocksOk.l0 : Nat → List Int → Int → List Int → Int → Int → Option (Int × Bool)
 | 0, _, _, _, _, _ => none
 | k + 1, x0, x4, x7, x8, x9 => if x9 < x8 then (if 0 ≤ x9 then (if x9 < (x7.length : Int) then ((impl_within.f (rd x7 x9) 0 (wrap64 (x4 + 1))).bind fun t102 => (if t102 = true then (impl_blocksOk.l0 k x0 (mx x4 (rd x7 x9)) x7 x8 (wrap64 (x9 + 1))) else (some (0, false)))) else (none)) else (none)) else (some (wrap64 (x4 + 1), ((x0.length : Int) == 256)))
def impl_blocksOk.f (k : Nat) (l0 : List Int) : Option (Int × Bool) := impl_blocksOk.l0 k l0 (-1) l0 (l0.length : Int) 0
theorem impl_blocksOk.calls (k : Nat) (A0 : Option Addr) (c0 : Nat) (l0 : List Int) (r1 : Int) (r2 : Bool) (w : World) (hr0 : Kd.C (Kd.int .i64) w A0 l0.length l0) (hc0 : l0.length ≤ c0) (h : impl_blocksOk.f k l0 = some (r1, r2)) :
  Calls Try.prog 98 #[.slice A0 l0.length c0] w fun e w' => e = .returned (.tuple #[.int .i64 r1, .bool r2]) ∧ Below w.heap.size w w' := by
 have HR0 := q_ hr0; have HC0 := q_ hc0; clear hr0 hc0; have HB := q_ (Below.refl w.heap.size w)
 have H : (impl_blocksOk.l0 k l0 (-1) l0 (l0.length : Int) 0) = some (r1, r2) := h
 clear h
 have H' := q_ H
 clear H
 go_enter Try.func98, Try.ntmps98
 go_wp2
 go_loopg [4, 9] k (fun kq v4 v9 w' => ∃ (x4_1 : Int) (x9_1 : Int), v4 = .int .i64 x4_1 ∧ v9 = .int .i64 x9_1 ∧ J0 (impl_blocksOk.l0 kq l0 x4_1 l0 (l0.length : Int) x9_1 = some (r1, r2)) ∧ J0 (kq ≤ k) ∧ J0 (Below w.heap.size w w'))
 case atStart => exact ⟨((-1)), (0), rs_, rs_, H', ⟨Nat.le_refl _⟩, ⟨be_ HB.o⟩⟩
 case round =>
  clear H'; obtain ⟨x4_1, x9_1, rfl, rfl, HA, HK1, HB⟩ := hrel
  cases gk with
  | zero => exact absurd HA.o (by simp [impl_blocksOk.l0])
  | succ k1 =>
   have H := HA.o; clear HA
   simp only [impl_blocksOk.l0] at H
   by_cases c2 : x9_1 < (l0.length : Int)
   ·rw [if_pos c2] at H; have c2b0 := dt_ c2; clear c2
    by_cases c3 : 0 ≤ x9_1
    ·rw [if_pos c3] at H; have c3b0 := dt_ c3; clear c3
     by_cases c4 : x9_1 < (l0.length : Int)
     ·rw [if_pos c4] at H; have c4b0 := dt_ c4; clear c4; obtain ⟨t102, A5, H⟩ := ob_ H
      by_cases c6 : t102 = true
      ·subst c6; rw [if_pos rfl] at H
       obtain ⟨ji7, hji7⟩ : ∃ j_ : Int, (mx x4_1 (rd l0 x9_1)) = j_ := ⟨_, rfl⟩
       replace H : (impl_blocksOk.l0 k1 l0 ji7 l0 (l0.length : Int) (wrap64 (x9_1 + 1))) = some (r1, r2) := by first | (rw [hji7] at H; exact H) | (simp only [hji7] at H ⊢; exact H)
       (try rw [hji7] at A5)
       have hji7_ : (if x4_1 < (rd l0 x9_1) then (rd l0 x9_1) else x4_1) = ji7 := hji7
       have H' := q_ H
       clear H
       have p101 : 0 ≤ (x9_1 : Int) := of_decide_eq_true as_
       have q101 : x9_1 < (l0.length : Int) := of_decide_eq_true as_
       obtain ⟨ad101, e101, hx101_0⟩ := Kd.at_int HR0.o x9_1 p101 q101
       cases e101
       replace hx101_0 := mv_ HB.o hx101_0; replace p101 := eq_true p101; replace q101 := eq_true q101
       go_wp2_with (first | ((with_reducible refine gate_callee (f := 57) rfl ?_); refine gl_ (some 16) rfl rfl Try.func57 #[.int .i64 (rd l0 x9_1), .int .i64 0, .int .i64 (wrap64 (x4_1 + 1))] ?_; (with_reducible refine (impl_within.calls (rd l0 x9_1) 0 (wrap64 (x4_1 + 1)) true _ A5.o).mono ?_); rintro e w' ⟨rfl, ⟨nd, rfl⟩⟩; refine ⟨_, rfl, ?_⟩))
       go_roundg k1
       case measure => have := HK1.o; omega
       case rel => exact ⟨(ji7), (wrap64 (x9_1 + 1)), (by first | rfl | (simp; done) | (simp only [← hji7] <;> (first | rfl | simp)) | (simp [*]; done)), rs_, H', ⟨by have := HK1.o; omega⟩, ⟨be_ HB.o⟩⟩
      ·replace c6 := Bool.eq_false_iff.mpr c6; subst c6; rw [if_neg nft_] at H
       simp only [Option.some.injEq, Prod.mk.injEq] at H
       obtain ⟨rfl, rfl⟩ := H
       have p101 : 0 ≤ (x9_1 : Int) := of_decide_eq_true as_
       have q101 : x9_1 < (l0.length : Int) := of_decide_eq_true as_
       obtain ⟨ad101, e101, hx101_0⟩ := Kd.at_int HR0.o x9_1 p101 q101
       cases e101
       replace hx101_0 := mv_ HB.o hx101_0; replace p101 := eq_true p101; replace q101 := eq_true q101
       go_wp2_with (first | ((with_reducible refine gate_callee (f := 57) rfl ?_); refine gl_ (some 16) rfl rfl Try.func57 #[.int .i64 (rd l0 x9_1), .int .i64 0, .int .i64 (wrap64 (x4_1 + 1))] ?_; (with_reducible refine (impl_within.calls (rd l0 x9_1) 0 (wrap64 (x4_1 + 1)) false _ A5.o).mono ?_); rintro e w' ⟨rfl, ⟨nd, rfl⟩⟩; refine ⟨_, rfl, ?_⟩))
       go_ret2
       exact ⟨rt_, be_ HB.o⟩
     ·rw [if_neg c4] at H
      exact absurd H (by simp)
    ·rw [if_neg c3] at H
     exact absurd H (by simp)
   ·rw [if_neg c2] at H; have c2b0 := df_ c2; clear c2
    simp only [Option.some.injEq, Prod.mk.injEq] at H
    obtain ⟨rfl, rfl⟩ := H
    go_wp2
    go_ret2
    exact ⟨rt_, be_ HB.o⟩
end Go.Proofs.Ytlecpdpdcocibaa.P
namespace Go.Proofs.Ytlecpdpdcocibaa.P
open Go.RowKit Go.Proofs.YtlecpdpdcocibaaW.PrintWords Go.Proofs.YtlecpdpdcocibaaW.PrintLast Go.Proofs.YtlecpdpdcocibaaEv
set_option linter.unusedVariables false
set_option linter.unusedSimpArgs false
def counts (row : List Int) (states i : Nat) : List Int := (List.range states).map fun s : Nat => (((row.take i).count (s : Int) : Nat) : Int)
theorem counts_length (row : List Int) (states i : Nat) : (counts row states i).length = states := by simp [counts]
theorem rd_counts (row : List Int) (states i : Nat) (x : Int) (h0 : 0 ≤ x) (h1 : x < (states : Int)) : rd (counts row states i) x = (((row.take i).count x : Nat) : Int) := by
  obtain ⟨t, rfl⟩ : ∃ t : Nat, x = (t : Int) := ⟨x.toNat, by omega⟩
  have ht : t < states := by omega
  simp [rd, counts, ht]
theorem counts_step (row : List Int) (states i : Nat) (hi : i < row.length) (h0 : 0 ≤ rd row (i : Int)) (h1 : rd row (i : Int) < (states : Int)) : (counts row states i).set (rd row (i : Int)).toNat (rd (counts row states i) (rd row (i : Int)) + 1) = counts row states (i + 1) := by
  have hr : rd row (i : Int) = row[i] := by simp [rd, hi]
  rw [rd_counts row states i _ h0 h1]
  have htk : row.take (i + 1) = row.take i ++ [row[i]] := List.take_succ_eq_append_getElem hi
  rw [hr] at h0 h1 ⊢
  apply List.ext_getElem
  · simp [counts]
  · intro j h2 h3
    have hj : j < states := by simpa [counts] using h3
    simp only [counts, htk, List.getElem_set, List.getElem_map, List.getElem_range, List.count_append]
    by_cases e : row[i] = (j : Int)
    · rw [if_pos (by omega), e]
      simp
    · rw [if_neg (by omega), show [row[i]].count (j : Int) = 0 from List.count_eq_zero_of_not_mem (by simpa using fun h => e h.symm)]
      rfl
theorem spec_l10Default_ev (row : List Int) (states : Nat) (hs : 1 ≤ states ∧ states ≤ 1000) (hl : row.length ≤ 256) (h : ∀ x ∈ row, 0 ≤ x ∧ x < (states : Int)) : Ev (fun k => spec_l10Default.f k row (states : Int)) (bestR row states) := by
  unfold spec_l10Default.f
  simp only [ev_ite]
  rw [if_pos (by omega), if_pos (by omega), Int.toNat_natCast]
  have hz : List.replicate states (0 : Int) = counts row states 0 := by
    apply List.ext_getElem
    · simp [counts]
    · intro j h2 h3
      simp [counts]
  rw [hz]
  refine ev_loop row.length (fun k i => spec_l10Default.l0 k row (states : Int) (counts row states i) (i : Nat)) (fun _ => bestR row states) ?_ ?_ 0 (by omega)
  · rw [ev_succ]
    simp only [spec_l10Default.l0]
    simp only [Int.lt_irrefl, if_false]
    have hc : ∀ t : Nat, t < states → rd (counts row states row.length) (t : Int) = (cntR row t : Int) := fun t ht => by
      rw [rd_counts row states _ _ (by omega) (by omega), List.take_length]
      rfl
    refine ev_loop states (fun k i => spec_l10Default.l1 k (states : Int) (counts row states row.length) (bestUp (cntR row) i : Nat) (i : Nat)) (fun _ => bestR row states) ?_ ?_ 0 (by omega)
    · rw [ev_succ]
      simp only [spec_l10Default.l1]
      simp only [Int.lt_irrefl, if_false]
      exact ev_some.2 rfl
    · intro i hi ih
      have hb : bestUp (cntR row) i < states := by
        cases i with
        | zero => simp [bestUp]; omega
        | succ i => have := bestUp_lt (cntR row) (i + 1) (by omega); omega
      rw [ev_succ]
      simp only [spec_l10Default.l1, ev_ite, counts_length]
      rw [if_pos (by omega), if_pos (by omega), if_pos (by omega), if_pos (by omega), if_pos (by omega), wrap_succ hi (by omega), hc i hi, hc _ hb]
      simp only [bestUp] at ih
      by_cases e : cntR row (bestUp (cntR row) i) < cntR row i
      · rw [if_pos e] at ih
        rw [if_pos (by omega)]
        exact ih
      · rw [if_neg e] at ih
        rw [if_neg (by omega)]
        exact ih
  · intro i hi ih
    have hm : rd row (i : Int) ∈ row := rd_mem (by omega) (by omega)
    obtain ⟨h0, h1⟩ := h _ hm
    rw [ev_succ]
    simp only [spec_l10Default.l0, ev_ite, counts_length]
    have hle : (row.take i).count (rd row (i : Int)) ≤ 256 := Nat.le_trans List.count_le_length (by simp; omega)
    have hw : wrap64 (rd (counts row states i) (rd row (i : Int)) + 1) = rd (counts row states i) (rd row (i : Int)) + 1 := by
      rw [rd_counts row states i _ h0 h1]
      exact wrap_id (by omega) (by omega)
    rw [if_pos (by omega), if_pos (by omega), if_pos h0, if_pos h1, wrap_succ hi (by omega), hw, counts_step row states i hi h0 h1]
    exact ih
def blkS (l0 : List Int) : Int := if l0.length = 256 then (match blk l0 0 with | some m => m | none => -1) else -1
def blkI (l0 : List Int) : Int × Bool := match blk l0 0 with | some m => (m, (l0.length : Int) == 256) | none => (0, false)
theorem drop_rd (l : List Int) (i : Nat) (h : i < l.length) : l.drop i = rd l (i : Int) :: l.drop (i + 1) := by
  rw [drop_cons l 0 i h]
  simp [rd]
theorem spec_l7Blocks_ev (l0 : List Int) : Ev (fun k => spec_l7Blocks.f k l0) (blkS l0) := by
  unfold spec_l7Blocks.f blkS
  simp only [ev_ite]
  by_cases h256 : l0.length = 256
  rotate_left
  · rw [if_neg (by omega), if_neg h256]
    exact ev_some.2 rfl
  rw [if_pos (by omega), if_pos h256]
  have key := down 256 (fun i => ∀ n : Int, 0 ≤ n → n ≤ (i : Int) → Ev (fun k => spec_l7Blocks.l0 k l0 n (i : Nat)) (match blk (l0.drop i) n with | some m => m | none => -1)) ?_ ?_ 0 (by omega) 0 (by omega) (by omega)
  · simpa using key
  · intro n h0 h1
    rw [ev_succ]
    simp only [spec_l7Blocks.l0]
    rw [show l0.drop 256 = [] by rw [List.drop_eq_nil_iff]; omega]
    simp [blk, ev_some]
  · intro i hi ih n h0 h1
    rw [ev_succ, drop_rd l0 i (by omega)]
    simp only [spec_l7Blocks.l0, ev_ite]
    rw [if_pos (by omega), if_pos (by omega), if_pos (by omega), spec_l1In_eq, ev_bind_some]
    simp only [ev_ite, decide_eq_true_eq, blk]
    by_cases hx : 0 ≤ rd l0 (i : Int) ∧ rd l0 (i : Int) ≤ n
    · rw [if_pos hx, if_pos hx, wrap_succ hi (by omega), wrap_id (by omega) (by omega)]
      refine ev_congr (ih _ ?_ ?_) ?_
      · unfold mx; split <;> omega
      · unfold mx; split <;> omega
      · have : mx n (rd l0 (i : Int) + 1) = max n (rd l0 (i : Int) + 1) := by unfold mx; split <;> omega
        rw [this]
    · rw [if_neg hx, if_neg hx]
      exact ev_some.2 rfl
theorem impl_blocksOk_ev (l0 : List Int) (hl : l0.length ≤ 1048576) : Ev (fun k => impl_blocksOk.f k l0) (blkI l0) := by
  unfold impl_blocksOk.f blkI
  have key := down l0.length (fun i => ∀ n : Int, 0 ≤ n → n ≤ (i : Int) → Ev (fun k => impl_blocksOk.l0 k l0 (n - 1) l0 (l0.length : Int) (i : Nat)) (match blk (l0.drop i) n with | some m => (m, (l0.length : Int) == 256) | none => (0, false))) ?_ ?_ 0 (by omega) 0 (by omega) (by omega)
  · simpa using key
  · intro n h0 h1
    rw [ev_succ]
    simp only [impl_blocksOk.l0]
    rw [List.drop_length]
    simp only [Int.lt_irrefl, if_false, blk]
    refine ev_some.2 ?_
    rw [show n - 1 + 1 = n by omega, wrap_id (by omega) (by omega)]
  · intro i hi ih n h0 h1
    rw [ev_succ, drop_rd l0 i hi]
    simp only [impl_blocksOk.l0, ev_ite]
    rw [if_pos (by omega), if_pos (by omega), if_pos (by omega), show n - 1 + 1 = n by omega, wrap_id (x := n) (by omega) (by omega), impl_within_eq, ev_bind_some]
    simp only [ev_ite, decide_eq_true_eq, blk]
    by_cases hx : 0 ≤ rd l0 (i : Int) ∧ rd l0 (i : Int) ≤ n
    · rw [if_pos hx, if_pos hx, wrap_succ hi (by omega)]
      have e : mx (n - 1) (rd l0 (i : Int)) = max n (rd l0 (i : Int) + 1) - 1 := by unfold mx; split <;> omega
      rw [e]
      exact ih _ (by omega) (by omega)
    · rw [if_neg hx, if_neg hx]
      exact ev_some.2 rfl
theorem drop_rd1 (l : List (List Int)) (i : Nat) (h : i < l.length) : l.drop i = rd_L1 l (i : Int) :: l.drop (i + 1) := by
  rw [drop_cons l [] i h]
  simp [rd_L1]
theorem spec_DfaOk_l1_ev (l0 : List Int) (l1 : List (List Int)) (l2 : List Int) (s : Nat) (t : Int) (R : Bool) (hn : 1 ≤ l1.length ∧ l1.length ≤ 1000) (hs : s < l1.length) (hrow : ((rd_L1 l1 (s : Int)).length : Int) = t) (ht : t ≤ 1000000) (hR : Ev (fun k => spec_DfaOk.l0 k (l1.length : Int) t ((s + 1 : Nat) : Int) l0 l1 l2) R) :
    Ev (fun k => spec_DfaOk.l1 k (l1.length : Int) t (s : Int) 0 l0 l1 l2) (((rd_L1 l1 (s : Int)).all fun x => decide (0 ≤ x ∧ x ≤ (l1.length : Int) - 1)) && R) := by
  have h := ev_loop (rd_L1 l1 (s : Int)).length (fun k i => spec_DfaOk.l1 k (l1.length : Int) t (s : Int) (i : Nat) l0 l1 l2) (fun i => (((rd_L1 l1 (s : Int)).drop i).all fun x => decide (0 ≤ x ∧ x ≤ (l1.length : Int) - 1)) && R) ?_ ?_ 0 (by omega)
  · simpa using h
  · rw [ev_succ]
    simp only [spec_DfaOk.l1, ev_ite]
    rw [if_neg (by omega), wrap_succ hs (by omega), List.drop_length]
    simpa using hR
  · intro i hi ih
    rw [ev_succ, drop_rd (rd_L1 l1 (s : Int)) i hi]
    simp only [spec_DfaOk.l1, ev_ite]
    rw [if_pos (by omega), if_pos (by omega), if_pos (by omega), if_pos (by omega), if_pos (by omega), spec_l1In_eq, ev_bind_some, wrap_id (x := (l1.length : Int) - 1) (by omega) (by omega), wrap_succ hi (by omega)]
    simp only [ev_ite, decide_eq_true_eq, List.all_cons]
    by_cases hx : 0 ≤ rd (rd_L1 l1 (s : Int)) (i : Int) ∧ rd (rd_L1 l1 (s : Int)) (i : Int) ≤ (l1.length : Int) - 1
    · rw [if_pos hx, decide_eq_true hx, Bool.true_and]
      exact ih
    · rw [if_neg hx, decide_eq_false hx]
      exact ev_some.2 rfl
theorem spec_DfaOk_l0_ev (l0 : List Int) (l1 : List (List Int)) (l2 : List Int) (t : Int) (hn : 1 ≤ l1.length ∧ l1.length ≤ 1000) (h2 : l2.length = l1.length) (ht : t ≤ 1000000) :
    Ev (fun k => spec_DfaOk.l0 k (l1.length : Int) t 0 l0 l1 l2) ((l2.all fun x => decide (-1 ≤ x ∧ x ≤ 39)) && l1.all (rowB t l1.length)) := by
  have h := ev_loop l1.length (fun k i => spec_DfaOk.l0 k (l1.length : Int) t (i : Nat) l0 l1 l2) (fun i => ((l2.drop i).all fun x => decide (-1 ≤ x ∧ x ≤ 39)) && (l1.drop i).all (rowB t l1.length)) ?_ ?_ 0 (by omega)
  · simpa using h
  · rw [ev_succ]
    simp only [spec_DfaOk.l0, Int.lt_irrefl, if_false]
    rw [List.drop_length, show l2.drop l1.length = [] by rw [List.drop_eq_nil_iff]; omega]
    exact ev_some.2 rfl
  · intro s hs ih
    rw [ev_succ, drop_rd l2 s (by omega), drop_rd1 l1 s hs]
    simp only [spec_DfaOk.l0, ev_ite]
    rw [if_pos (by omega), if_pos (by omega), if_pos (by omega), spec_l1In_eq, ev_bind_some]
    simp only [ev_ite, decide_eq_true_eq, List.all_cons]
    by_cases hx : -1 ≤ rd l2 (s : Int) ∧ rd l2 (s : Int) ≤ 39
    · rw [if_pos hx, decide_eq_true hx, Bool.true_and, if_pos (by omega), ev_succ]
      simp only [spec_DfaOk.j2, ev_ite]
      by_cases e : ((rd_L1 l1 (s : Int)).length : Int) = t
      · rw [if_neg (by simpa using e)]
        refine ev_congr (spec_DfaOk_l1_ev l0 l1 l2 s t _ hn hs e ht ih) ?_
        unfold rowB
        rw [decide_eq_true e, Bool.true_and]
        generalize ((rd_L1 l1 (s : Int)).all fun x => decide (0 ≤ x ∧ x ≤ (l1.length : Int) - 1)) = a
        generalize ((l2.drop (s + 1)).all fun x => decide (-1 ≤ x ∧ x ≤ 39)) = b
        generalize List.all _ _ = c
        cases a <;> cases b <;> cases c <;> rfl
      · rw [if_pos (by simpa using e)]
        refine ev_some.2 ?_
        unfold rowB
        rw [decide_eq_false e]
        simp
    · rw [if_neg hx, decide_eq_false hx, ev_succ]
      simp only [spec_DfaOk.j2, if_true]
      exact ev_some.2 (by simp)
theorem spec_DfaOk_ev (l0 : List Int) (l1 : List (List Int)) (l2 : List Int) (hl : l0.length ≤ 1048576) : Ev (fun k => spec_DfaOk.f k l0 l1 l2) (dfaB l0 l1 l2) := by
  unfold spec_DfaOk.f
  rw [ev_bind (spec_l7Blocks_ev l0)]
  have hj : ∀ t : Int, Ev (fun k => spec_DfaOk.j0 k (l1.length : Int) t true l0 l1 l2) false := fun t => by
    rw [ev_succ]
    simp only [spec_DfaOk.j0, if_true]
    exact ev_some.2 rfl
  unfold dfaB
  simp only [ev_ite]
  by_cases h1 : (l1.length : Int) < 1
  · rw [if_pos h1, decide_eq_false (by omega), Bool.false_and]
    exact hj _
  rw [if_neg h1]
  by_cases h2 : (l1.length : Int) > 1000
  · rw [if_pos h2, decide_eq_false (by omega), Bool.false_and]
    exact hj _
  rw [if_neg h2, decide_eq_true (show 1 ≤ (l1.length : Int) ∧ (l1.length : Int) ≤ 1000 by omega), Bool.true_and]
  by_cases h3 : (l2.length : Int) = l1.length
  rotate_left
  · rw [if_neg h3, decide_eq_false h3, Bool.false_and]
    exact hj _
  rw [if_pos h3, decide_eq_true h3, Bool.true_and, ev_succ]
  unfold blkS
  simp only [spec_DfaOk.j0, ev_ite, decide_eq_true_eq]
  by_cases h256 : l0.length = 256
  rotate_left
  · rw [if_neg h256, if_pos (by omega)]
    refine ev_some.2 ?_
    cases blk l0 0 <;> simp [h256]
  rw [if_pos h256]
  cases hb : blk l0 0 with
  | none =>
    simp only
    rw [if_pos (by omega)]
    exact ev_some.2 (by simp)
  | some m =>
    have hm := blk_nonneg l0 0 m (by omega) hb
    have hm2 := blk_le l0 0 m (by omega) hb
    simp only
    rw [if_neg (by omega), decide_eq_true h256, Bool.true_and]
    exact spec_DfaOk_l0_ev l0 l1 l2 m (by omega) (by omega) (by omega)
end Go.Proofs.Ytlecpdpdcocibaa.P
namespace Go.Proofs.Ytlecpdpdcocibaa.P
open Go.RowKit Go.Proofs.YtlecpdpdcocibaaW.PrintWords Go.Proofs.YtlecpdpdcocibaaW.PrintLast Go.Proofs.YtlecpdpdcocibaaW.PrintMore
attribute [local go_sem] max2_int min2_int max_two min_two max_three min_three max_four min_four
set_option linter.unusedVariables false
set_option linter.unusedSimpArgs false
/-! ### laws_toInt64S: function 42 -/
def laws_toInt64S.l0 : Nat → List Int → List Int → Int → Option (List Int)
 | 0, _, _, _ => none
 | k + 1, x0, x3, x4 => if x4 < (x0.length : Int) then (if 0 ≤ x4 then (if x4 < (x3.length : Int) then (laws_toInt64S.l0 k x0 (x3.set (x4 : Int).toNat (rd x0 x4)) (wrap64 (x4 + 1))) else (none)) else (none)) else (some x3)
def laws_toInt64S.f (k : Nat) (l0 : List Int) : Option (List Int) := if 0 ≤ (l0.length : Int) then (if ((l0.length : Int) : Int).toNat ≤ 35184372088832 then (laws_toInt64S.l0 k l0 (List.replicate ((l0.length : Int) : Int).toNat 0) 0) else (none)) else (none)
theorem laws_toInt64S.calls (k : Nat) (A0 : Option Addr) (c0 : Nat) (l0 : List Int) (r : List Int) (w : World) (hr0 : Kd.C (Kd.int .i64) w A0 l0.length l0) (hc0 : l0.length ≤ c0) (h : laws_toInt64S.f k l0 = some r) :
  Calls Try.prog 42 #[.slice A0 l0.length c0] w fun e w' => ∃ v0_ : Value, e = .returned (v0_) ∧ Kd.R (Kd.int .i64) 2 w' w.heap.size (fun _ => True) v0_ r ∧ Below w.heap.size w w' := by
 have HR0 := q_ hr0; have HC0 := q_ hc0; clear hr0 hc0; have HB := q_ (Below.refl w.heap.size w)
 have H : (if 0 ≤ (l0.length : Int) then (if ((l0.length : Int) : Int).toNat ≤ 35184372088832 then (laws_toInt64S.l0 k l0 (List.replicate ((l0.length : Int) : Int).toNat 0) 0) else (none)) else (none)) = some r := h
 clear h
 by_cases c2 : 0 ≤ (l0.length : Int)
 ·rw [if_pos c2] at H; have c2b0 := eq_true c2; have c2b1 := dt_ c2; clear c2
  by_cases c3 : ((l0.length : Int) : Int).toNat ≤ 35184372088832
  ·rw [if_pos c3] at H; have c3b0 := eq_true c3; have c3b1 := dt_ c3; clear c3
   obtain ⟨y101, hy101⟩ : ∃ y_ : List Int, y_ = (List.replicate ((l0.length : Int) : Int).toNat 0) := ⟨_, rfl⟩
   replace H : (laws_toInt64S.l0 k l0 y101 0) = some r := by first | (rw [hy101]; with_reducible exact H) | (have H2_ := (Option.bind_some _ _).symm.trans H; rw [hy101]; with_reducible exact H2_) | (have H2_ := (Option.bind_some _ _).symm.trans H; with_reducible exact H2_) | with_reducible exact H | (rw [hy101]; exact H) | exact H
   have Ny101 := q_ hy101; clear hy101
   have H' := q_ H
   clear H
   go_enter Try.func42, Try.ntmps42
   go_wp2_with (first | ((with_reducible refine gate_dst (N := 7) rfl ?_); refine Kd.R_make (Kd.int .i64) _ 2 rfl (N := 7) rfl 22 _ _ rfl (l0.length : Int) rfl rfl Try.underlying22 (.int .i64 0) 8 info2 rfl (by decide) (by omega) 0 (ok := fun _ => True) (okp := fun _ => True) rfl (fun _ hk => hk) trivial (of_decide_eq_true as_) (Nat.le_trans (Nat.mul_le_mul_right _ (of_decide_eq_true as_ : (l0.length : Int).toNat ≤ 35184372088832)) (by omega)) (Below.refl _ _) (Nat.le_refl _) ?_; intro v102 w4 ho5 hb hg_ hnew_; clear hg_ hnew_; (first | rw [← Ny101.o] at ho5 | (simp only [Int.reduceToNat] at ho5; rw [← Ny101.o] at ho5)); have HO103 := q_ (Kd.R_lower ho5 (below_size (be_ HB.o))); replace HB := sb_ HB hb; clear hb ho5))
   go_loopg [4] k (fun kq v4 w' => ∃ (x3_1 : List Int) (x4_1 : Int), v4 = .int .i64 x4_1 ∧ J0 (laws_toInt64S.l0 kq l0 x3_1 x4_1 = some r) ∧ J0 (kq ≤ k) ∧ J0 (Kd.R (Kd.int .i64) 2 w' w.heap.size (fun _ => True) v102 x3_1) ∧ J0 (Below w.heap.size w w'))
   case atStart => exact ⟨(y101), (0), rs_, H', ⟨Nat.le_refl _⟩, ⟨ra_ HO103.o⟩, ⟨be_ HB.o⟩⟩
   case round =>
    clear H'; (try clear c2); (try clear c2b0); (try clear c2b1); (try clear c3); (try clear c3b0); (try clear c3b1); obtain ⟨x3_1, x4_1, rfl, HA, HK1, HO_3, HB⟩ := hrel
    cases gk with
    | zero => exact absurd HA.o (by simp [laws_toInt64S.l0])
    | succ k1 =>
     have H := HA.o; clear HA
     simp only [laws_toInt64S.l0] at H
     by_cases c6 : x4_1 < (l0.length : Int)
     ·rw [if_pos c6] at H; have c6b0 := dt_ c6; clear c6
      by_cases c7 : 0 ≤ x4_1
      ·rw [if_pos c7] at H; have c7b0 := dt_ c7; clear c7
       by_cases c8 : x4_1 < (x3_1.length : Int)
       ·rw [if_pos c8] at H; have c8b0 := dt_ c8; clear c8
        obtain ⟨y105, hy105⟩ : ∃ y_ : List Int, y_ = (x3_1.set (x4_1 : Int).toNat (rd l0 x4_1)) := ⟨_, rfl⟩
        replace H : (laws_toInt64S.l0 k1 l0 y105 (wrap64 (x4_1 + 1))) = some r := by first | (rw [hy105]; with_reducible exact H) | (have H2_ := (Option.bind_some _ _).symm.trans H; rw [hy105]; with_reducible exact H2_) | (have H2_ := (Option.bind_some _ _).symm.trans H; with_reducible exact H2_) | with_reducible exact H | (rw [hy105]; exact H) | exact H
        have Ny105 := q_ hy105; clear hy105
        have H' := q_ H
        clear H
        have p104 : 0 ≤ (x4_1 : Int) := of_decide_eq_true as_
        have q104 : x4_1 < (l0.length : Int) := of_decide_eq_true as_
        obtain ⟨ad104, e104, hx104_0⟩ := Kd.at_int HR0.o x4_1 p104 q104
        cases e104
        replace hx104_0 := mv_ HB.o hx104_0; replace p104 := eq_true p104; replace q104 := eq_true q104
        have p9 : 0 ≤ (x4_1 : Int) := of_decide_eq_true as_
        have q9 : (x4_1 : Int) < ((x3_1.length : Int) : Int) := of_decide_eq_true as_
        obtain ⟨go9, co9, eo9, gb9, gl9, cl9, HG9⟩ := Kd.R_form HO_3.o (by omega)
        (first | cases eo9 | (injection eo9 with ea_ en_ ec_; (first | subst ea_ | (injection ea_ with ea_; subst ea_)); subst ec_; clear en_))
        have GB9 := q_ gb9; have GG9 := q_ HG9; clear gb9 gl9 HG9; obtain ⟨hx9_0, hf9_0⟩ := Kd.R_celln 0 HO_3.o (x4_1 : Int) p9 q9; replace p9 := eq_true p9; replace q9 := eq_true q9; have HP10 := Kd.R_putg HO_3.o (x4_1 : Int) (rd l0 x4_1)
        go_wp2_with (first | ((with_reducible refine gate_store (t := 2) (p := 20) rfl ?_); refine store_event (t := 2) (p := 20) (v := ?vo_w11) (w1 := (wr.setCell ⟨go9, (x4_1 : Int).toNat, none⟩ (.int .i64 (rd l0 x4_1)))) ?hg ?ho ?hn ?hr ?_; (case ho => rfl); (case hg => rfl); (case hn => rfl); (case hr => first | (go_simp; done) | (go_simp; rfl)); intro w11 hw; have hg : wr.grownBy w11 (some go9) := (by rw [hw]; exact HP10.2); have hp_ : Kd.R (Kd.int .i64) 2 w11 w.heap.size (fun _ => True) (.slice (some ⟨go9, 0, none⟩) x3_1.length co9) y105 := (by rw [hw, Ny105.o]; exact HP10.1); clear HP10; replace HO_3 := q_ (hp_); replace HB := q_ ((by rw [hw]; exact below_set (HB.o) GB9.out : Below w.heap.size w w11)); clear hg hw hp_))
        go_roundg k1
        case measure => have := HK1.o; omega
        case rel => exact ⟨(y105), (wrap64 (x4_1 + 1)), rs_, H', ⟨by have := HK1.o; omega⟩, ⟨ra_ HO_3.o⟩, ⟨be_ HB.o⟩⟩
       ·rw [if_neg c8] at H
        exact absurd H (by simp)
      ·rw [if_neg c7] at H
       exact absurd H (by simp)
     ·rw [if_neg c6] at H; have c6b0 := df_ c6; clear c6; obtain rfl := Option.some.inj H
      go_wp2
      go_ret
      exact ⟨_, rt_, ra_ HO_3.o, be_ HB.o⟩
  ·rw [if_neg c3] at H
   exact absurd H (by simp)
 ·rw [if_neg c2] at H
  exact absurd H (by simp)
/-! ### laws_eqInt64S: function 46 -/
def laws_eqInt64S.l0 : Nat → List Int → List Int → Int → Option (Bool)
 | 0, _, _, _ => none
 | k + 1, x0, x1, x5 => if x5 < (x0.length : Int) then (if 0 ≤ x5 then (if x5 < (x1.length : Int) then (if (rd x0 x5) = (rd x1 x5) then (laws_eqInt64S.l0 k x0 x1 (wrap64 (x5 + 1))) else (none)) else (none)) else (none)) else (some true)
def laws_eqInt64S.f (k : Nat) (l0 : List Int) (l1 : List Int) : Option (Bool) := if (l0.length : Int) = (l1.length : Int) then (laws_eqInt64S.l0 k l0 l1 0) else (none)
theorem laws_eqInt64S.calls (k : Nat) (A0 : Option Addr) (c0 : Nat) (l0 : List Int) (A1 : Option Addr) (c1 : Nat) (l1 : List Int) (r : Bool) (w : World) (hr0 : Kd.C (Kd.int .i64) w A0 l0.length l0) (hc0 : l0.length ≤ c0) (hr1 : Kd.C (Kd.int .i64) w A1 l1.length l1) (hc1 : l1.length ≤ c1) (h : laws_eqInt64S.f k l0 l1 = some r) :
  Calls Try.prog 46 #[.slice A0 l0.length c0, .slice A1 l1.length c1] w fun e w' => e = .returned (.bool r) ∧ Drawn0 w w' := by
 have HR0 := q_ hr0; have HC0 := q_ hc0; clear hr0 hc0; have HR1 := q_ hr1; have HC1 := q_ hc1; clear hr1 hc1
 have H : (if (l0.length : Int) = (l1.length : Int) then (laws_eqInt64S.l0 k l0 l1 0) else (none)) = some r := h
 clear h
 by_cases c3 : (l0.length : Int) = (l1.length : Int)
 ·rw [if_pos c3] at H
  have c3b0 : ((l0.length : Int) == (l1.length : Int)) = true := beq_iff_eq.mpr c3
  have c3b1 : ((l0.length : Int) != (l1.length : Int)) = false := bne_eq_false_iff_eq.mpr c3
  have c3b2 : (l0.length == l1.length) = true := by first | simpa using c3 | (simp at c3 ⊢; omega)
  clear c3
  have H' := q_ H
  clear H
  go_enter Try.func46, Try.ntmps46
  go_wp2
  repeat (go_quiet (fail); try go_wp2)
  go_loopg [5] k (fun kq v5 w' => ∃ (x5_1 : Int), v5 = .int .i64 x5_1 ∧ J0 (laws_eqInt64S.l0 kq l0 l1 x5_1 = some r) ∧ J0 (kq ≤ k) ∧ Drawn0 w w')
  case atStart => exact ⟨(0), rs_, H', ⟨Nat.le_refl _⟩, by repeat (first | exact Drawn0.refl _ | apply Drawn0.step)⟩
  case round =>
   clear H'; (try clear c1); (try clear c3); (try clear c3b0); (try clear c3b1); (try clear c3b2)
   obtain ⟨x5_1, rfl, HA, HK1, ⟨m1, rfl⟩⟩ := hrel
   cases gk with
   | zero => exact absurd HA.o (by simp [laws_eqInt64S.l0])
   | succ k1 =>
    have H := HA.o; clear HA
    simp only [laws_eqInt64S.l0] at H
    by_cases c4 : x5_1 < (l0.length : Int)
    ·rw [if_pos c4] at H; have c4b0 := dt_ c4; clear c4
     by_cases c5 : 0 ≤ x5_1
     ·rw [if_pos c5] at H; have c5b0 := dt_ c5; clear c5
      by_cases c6 : x5_1 < (l1.length : Int)
      ·rw [if_pos c6] at H; have c6b0 := dt_ c6; clear c6
       by_cases c7 : (rd l0 x5_1) = (rd l1 x5_1)
       ·rw [if_pos c7] at H
        have c7b0 : ((rd l0 x5_1) == (rd l1 x5_1)) = true := beq_iff_eq.mpr c7
        have c7b1 : ((rd l0 x5_1) != (rd l1 x5_1)) = false := bne_eq_false_iff_eq.mpr c7
        clear c7
        have H' := q_ H
        clear H
        have p101 : 0 ≤ (x5_1 : Int) := of_decide_eq_true as_
        have q101 : x5_1 < (l0.length : Int) := of_decide_eq_true as_
        obtain ⟨ad101, e101, hx101_0⟩ := Kd.at_int HR0.o x5_1 p101 q101
        cases e101
        replace p101 := eq_true p101; replace q101 := eq_true q101
        have p102 : 0 ≤ (x5_1 : Int) := of_decide_eq_true as_
        have q102 : x5_1 < (l1.length : Int) := of_decide_eq_true as_
        obtain ⟨ad102, e102, hx102_0⟩ := Kd.at_int HR1.o x5_1 p102 q102
        cases e102
        replace p102 := eq_true p102; replace q102 := eq_true q102
        go_wp2
        repeat (go_quiet (fail); try go_wp2)
        go_roundg k1
        case measure => have := HK1.o; omega
        case rel => exact ⟨(wrap64 (x5_1 + 1)), rs_, H', ⟨by have := HK1.o; omega⟩, by repeat (first | exact Drawn0.refl _ | apply Drawn0.step)⟩
       ·rw [if_neg c7] at H
        have c7b0 : ((rd l0 x5_1) == (rd l1 x5_1)) = false := beq_eq_false_iff_ne.mpr c7
        have c7b1 : ((rd l0 x5_1) != (rd l1 x5_1)) = true := bne_iff_ne.mpr c7
        exact absurd H (by simp)
      ·rw [if_neg c6] at H
       exact absurd H (by simp)
     ·rw [if_neg c5] at H
      exact absurd H (by simp)
    ·rw [if_neg c4] at H; have c4b0 := df_ c4; clear c4; obtain rfl := Option.some.inj H
     go_wp2
     repeat (go_quiet (fail); try go_wp2)
     go_ret
     exact ⟨by first | rfl | (simp; done) | (simp [*]; done), by repeat (first | exact Drawn0.refl _ | apply Drawn0.step)⟩
 ·rw [if_neg c3] at H
  have c3b0 : ((l0.length : Int) == (l1.length : Int)) = false := beq_eq_false_iff_ne.mpr c3
  have c3b1 : ((l0.length : Int) != (l1.length : Int)) = true := bne_iff_ne.mpr c3
  have c3b2 : (l0.length == l1.length) = false := by first | simpa using c3 | (simp at c3 ⊢; omega)
  exact absurd H (by simp)
end Go.Proofs.Ytlecpdpdcocibaa.P
namespace Go.Proofs.Ytlecpdpdcocibaa.P
open Go.RowKit Go.Proofs.YtlecpdpdcocibaaW.PrintWords Go.Proofs.YtlecpdpdcocibaaW.PrintLast Go.Proofs.YtlecpdpdcocibaaEv
set_option linter.unusedVariables false
set_option linter.unusedSimpArgs false
theorem laws_toInt64S_ev (l : List Int) (hl : l.length ≤ 1048576) : Ev (fun k => laws_toInt64S.f k l) l := by
  unfold laws_toInt64S.f
  simp only [ev_ite]
  rw [if_pos (by omega), if_pos (by omega)]
  have h := ev_loop l.length (fun k i => laws_toInt64S.l0 k l (upTo (fun x : Int => x) 0 l i) (i : Nat)) (fun _ => l.map (fun x : Int => x)) ?_ ?_ 0 (by omega)
  · rw [upTo_zero, List.map_id'] at h
    exact h
  · rw [ev_succ, upTo_all]
    simp [laws_toInt64S.l0, ev_some]
  · intro i hi ih
    rw [ev_succ]
    simp only [laws_toInt64S.l0, ev_ite]
    rw [if_pos (by omega), if_pos (by omega), if_pos (by rw [upTo_length _ _ _ _ (by omega)]; omega), wrap_succ hi (by omega)]
    have := upTo_set (fun x : Int => x) 0 l 0 i hi
    have e : l.getD i 0 = rd l i := by simp [rd]
    rw [e] at this
    simp only [Int.toNat_natCast]
    rw [this]
    exact ih
theorem laws_eqInt64S_ev (l : List Int) (hl : l.length ≤ 9223372036854775807) : Ev (fun k => laws_eqInt64S.f k l l) true := by
  unfold laws_eqInt64S.f
  simp only [ev_ite]
  rw [if_pos trivial]
  refine ev_loop l.length (fun k i => laws_eqInt64S.l0 k l l (i : Nat)) (fun _ => true) ?_ ?_ 0 (by omega)
  · rw [ev_succ]
    simp [laws_eqInt64S.l0, ev_some]
  · intro i hi ih
    rw [ev_succ]
    simp only [laws_eqInt64S.l0, if_true, ev_ite]
    rw [if_pos (by omega), if_pos (by omega), wrap_succ hi (by omega), if_pos (by omega)]
    exact ih
end Go.Proofs.Ytlecpdpdcocibaa.P
namespace Go.Proofs.Ytlecpdpdcocibaa.P
open Go.RowKit Go.Proofs.YtlecpdpdcocibaaW.PrintWords Go.Proofs.YtlecpdpdcocibaaW.PrintLast Go.Proofs.YtlecpdpdcocibaaW.PrintMore
attribute [local go_sem] max2_int min2_int max_two min_two max_three min_three max_four min_four
set_option linter.unusedVariables false
set_option linter.unusedSimpArgs false
/-! ### laws_szInt64S: function 38 -/
def laws_szInt64S.f (l0 : List Int) (a1 : Int) : Option (Int) := if (wrap64 (a1 - (l0.length : Int))) < 0 then (some (-1)) else (some (wrap64 (a1 - (l0.length : Int))))
theorem laws_szInt64S.calls (A0 : Option Addr) (c0 : Nat) (l0 : List Int) (a1 : Int) (r : Int) (w : World) (hr0 : Kd.C (Kd.int .i64) w A0 l0.length l0) (hc0 : l0.length ≤ c0) (h : laws_szInt64S.f l0 a1 = some r) :
  Calls Try.prog 38 #[.slice A0 l0.length c0, .int .i64 a1] w fun e w' => e = .returned (.int .i64 r) ∧ Drawn0 w w' := by
 have HR0 := q_ hr0; have HC0 := q_ hc0; clear hr0 hc0
 have H : (if (wrap64 (a1 - (l0.length : Int))) < 0 then (some (-1)) else (some (wrap64 (a1 - (l0.length : Int))))) = some r := h
 clear h
 by_cases c3 : (wrap64 (a1 - (l0.length : Int))) < 0
 ·rw [if_pos c3] at H; have c3b0 := dt_ c3; clear c3; obtain rfl := Option.some.inj H
  go_enter Try.func38, Try.ntmps38
  go_wp2
  go_ret
  exact ⟨by first | rfl | (simp; done) | (simp [*]; done), by repeat (first | exact Drawn0.refl _ | apply Drawn0.step)⟩
 ·rw [if_neg c3] at H; have c3b0 := df_ c3; clear c3; obtain rfl := Option.some.inj H
  go_enter Try.func38, Try.ntmps38
  go_wp2
  go_ret
  exact ⟨by first | rfl | (simp; done) | (simp [*]; done), by repeat (first | exact Drawn0.refl _ | apply Drawn0.step)⟩
end Go.Proofs.Ytlecpdpdcocibaa.P
namespace Go.Proofs.Ytlecpdpdcocibaa.P
open Go.RowKit Go.Proofs.YtlecpdpdcocibaaW.PrintWords Go.Proofs.YtlecpdpdcocibaaW.PrintLast Go.Proofs.YtlecpdpdcocibaaEv
set_option linter.unusedVariables false
set_option linter.unusedSimpArgs false
theorem laws_szInt64S_eq (l : List Int) (a : Int) (hl : l.length ≤ 9223372036854775807) (h0 : 0 ≤ a) (h1 : a ≤ 1048576) : laws_szInt64S.f l a = some (if a < l.length then -1 else a - l.length) := by
  unfold laws_szInt64S.f
  rw [wrap_id (by omega) (by omega)]
  split <;> split <;> first | rfl | omega
end Go.Proofs.Ytlecpdpdcocibaa.P
namespace Go.Proofs.Ytlecpdpdcocibaa.P
open Go.RowKit Go.Proofs.YtlecpdpdcocibaaW.PrintWords Go.Proofs.YtlecpdpdcocibaaW.PrintLast Go.Proofs.YtlecpdpdcocibaaW.PrintMore
attribute [local go_sem] max2_int min2_int max_two min_two max_three min_three max_four min_four
set_option linter.unusedVariables false
set_option linter.unusedSimpArgs false
/-! ### laws_szInt64SS: function 39 -/
def laws_szInt64SS.l0 : Nat → List (List Int) → Int → Int → Option (Int)
 | 0, _, _, _ => none
 | k + 1, x0, x1, x5 => if x5 < (x0.length : Int) then (if 0 ≤ x5 then ((laws_szInt64S.f (rd_L1 x0 x5) x1).bind fun t102 => (if t102 < 0 then (some (-1)) else (laws_szInt64SS.l0 k x0 t102 (wrap64 (x5 + 1))))) else (none)) else (some x1)
def laws_szInt64SS.f (k : Nat) (l0 : List (List Int)) (a1 : Int) : Option (Int) := if (wrap64 (a1 - (l0.length : Int))) < 0 then (some (-1)) else (laws_szInt64SS.l0 k l0 (wrap64 (a1 - (l0.length : Int))) 0)
theorem laws_szInt64SS.calls (k : Nat) (A0 : Option Addr) (c0 : Nat) (l0 : List (List Int)) (a1 : Int) (r : Int) (w : World) (hr0 : Kd.C (Kd.slice 2 (Kd.int .i64)) w A0 l0.length l0) (hc0 : l0.length ≤ c0) (h : laws_szInt64SS.f k l0 a1 = some r) :
  Calls Try.prog 39 #[.slice A0 l0.length c0, .int .i64 a1] w fun e w' => e = .returned (.int .i64 r) ∧ Drawn0 w w' := by
 have HR0 := q_ hr0; have HC0 := q_ hc0; clear hr0 hc0
 have H : (if (wrap64 (a1 - (l0.length : Int))) < 0 then (some (-1)) else (laws_szInt64SS.l0 k l0 (wrap64 (a1 - (l0.length : Int))) 0)) = some r := h
 clear h
 by_cases c3 : (wrap64 (a1 - (l0.length : Int))) < 0
 ·rw [if_pos c3] at H; have c3b0 := dt_ c3; clear c3; obtain rfl := Option.some.inj H
  go_enter Try.func39, Try.ntmps39
  go_wp2
  go_ret
  exact ⟨by first | rfl | (simp; done) | (simp [*]; done), by repeat (first | exact Drawn0.refl _ | apply Drawn0.step)⟩
 ·rw [if_neg c3] at H; have c3b0 := df_ c3; clear c3
  have H' := q_ H
  clear H
  go_enter Try.func39, Try.ntmps39
  go_wp2
  go_loopg [1, 5] k (fun kq v1 v5 w' => ∃ (x1_1 : Int) (x5_1 : Int), v1 = .int .i64 x1_1 ∧ v5 = .int .i64 x5_1 ∧ J0 (laws_szInt64SS.l0 kq l0 x1_1 x5_1 = some r) ∧ J0 (kq ≤ k) ∧ Drawn0 w w')
  case atStart => exact ⟨(wrap64 (a1 - (l0.length : Int))), (0), rs_, rs_, H', ⟨Nat.le_refl _⟩, by repeat (first | exact Drawn0.refl _ | apply Drawn0.step)⟩
  case round =>
   clear H'; (try clear c3); (try clear c3b0)
   obtain ⟨x1_1, x5_1, rfl, rfl, HA, HK1, ⟨m1, rfl⟩⟩ := hrel
   cases gk with
   | zero => exact absurd HA.o (by simp [laws_szInt64SS.l0])
   | succ k1 =>
    have H := HA.o; clear HA
    simp only [laws_szInt64SS.l0] at H
    by_cases c4 : x5_1 < (l0.length : Int)
    ·rw [if_pos c4] at H; have c4b0 := dt_ c4; clear c4
     by_cases c5 : 0 ≤ x5_1
     ·rw [if_pos c5] at H; have c5b0 := dt_ c5; clear c5; obtain ⟨t102, A6, H⟩ := ob_ H
      by_cases c7 : t102 < 0
      ·rw [if_pos c7] at H; have c7b0 := dt_ c7; clear c7; obtain rfl := Option.some.inj H
       have p101 : 0 ≤ (x5_1 : Int) := of_decide_eq_true as_
       have q101 : x5_1 < (l0.length : Int) := of_decide_eq_true as_
       obtain ⟨ad101, A101_0, c101_0, e101, hx101_0, hl101_0, hi101_0⟩ := at_L1 HR0.o x5_1 p101 q101
       cases e101
       have HR101_0 := q_ hi101_0; have HC101_0 := q_ hl101_0; clear hi101_0 hl101_0; replace p101 := eq_true p101; replace q101 := eq_true q101
       go_wp2_with (first | ((with_reducible refine gate_callee (f := 38) rfl ?_); refine gl_ (some 23) rfl rfl Try.func38 #[.slice A101_0 (rd_L1 l0 x5_1).length c101_0, .int .i64 x1_1] ?_; (with_reducible refine (laws_szInt64S.calls _ _ (rd_L1 l0 x5_1) x1_1 t102 _ ?side1 ?side2 A6.o).mono ?_); (case side1 => repeat (first | exact HR101_0.o | (with_reducible refine Kd.C_alloc ?_ _) | (with_reducible refine Kd.C_drewN ?_ _) | (with_reducible refine Kd.C_drew ?_))); (case side2 => exact HC101_0.o); rintro e w' ⟨rfl, ⟨nd, rfl⟩⟩; refine ⟨_, rfl, ?_⟩))
       go_ret
       exact ⟨by first | rfl | (simp; done) | (simp [*]; done), by repeat (first | exact Drawn0.refl _ | apply Drawn0.step)⟩
      ·rw [if_neg c7] at H; have c7b0 := df_ c7; clear c7
       have H' := q_ H
       clear H
       have p101 : 0 ≤ (x5_1 : Int) := of_decide_eq_true as_
       have q101 : x5_1 < (l0.length : Int) := of_decide_eq_true as_
       obtain ⟨ad101, A101_0, c101_0, e101, hx101_0, hl101_0, hi101_0⟩ := at_L1 HR0.o x5_1 p101 q101
       cases e101
       have HR101_0 := q_ hi101_0; have HC101_0 := q_ hl101_0; clear hi101_0 hl101_0; replace p101 := eq_true p101; replace q101 := eq_true q101
       go_wp2_with (first | ((with_reducible refine gate_callee (f := 38) rfl ?_); refine gl_ (some 23) rfl rfl Try.func38 #[.slice A101_0 (rd_L1 l0 x5_1).length c101_0, .int .i64 x1_1] ?_; (with_reducible refine (laws_szInt64S.calls _ _ (rd_L1 l0 x5_1) x1_1 t102 _ ?side1 ?side2 A6.o).mono ?_); (case side1 => repeat (first | exact HR101_0.o | (with_reducible refine Kd.C_alloc ?_ _) | (with_reducible refine Kd.C_drewN ?_ _) | (with_reducible refine Kd.C_drew ?_))); (case side2 => exact HC101_0.o); rintro e w' ⟨rfl, ⟨nd, rfl⟩⟩; refine ⟨_, rfl, ?_⟩))
       go_roundg k1
       case measure => have := HK1.o; omega
       case rel => exact ⟨(t102), (wrap64 (x5_1 + 1)), rs_, rs_, H', ⟨by have := HK1.o; omega⟩, by repeat (first | exact Drawn0.refl _ | apply Drawn0.step)⟩
     ·rw [if_neg c5] at H
      exact absurd H (by simp)
    ·rw [if_neg c4] at H; have c4b0 := df_ c4; clear c4; obtain rfl := Option.some.inj H
     go_wp2
     go_ret
     exact ⟨by first | rfl | (simp; done) | (simp [*]; done), by repeat (first | exact Drawn0.refl _ | apply Drawn0.step)⟩
/-! ### laws_szDfa: function 8 -/
def laws_szDfa.f (k : Nat) (l0_0 : List Int) (l0_1 : List (List Int)) (l0_2 : List Int) (a1 : Int) : Option (Int) := (laws_szInt64S.f l0_0 a1).bind fun t102 => (if t102 < 0 then (some (-1)) else ((laws_szInt64SS.f k l0_1 t102).bind fun t103 => (if t103 < 0 then (some (-1)) else ((laws_szInt64S.f l0_2 t103).bind fun t104 => (if t104 < 0 then (some (-1)) else (some t104))))))
theorem laws_szDfa.calls (k : Nat) (A0_0 : Option Addr) (c0_0 : Nat) (l0_0 : List Int) (A0_1 : Option Addr) (c0_1 : Nat) (l0_1 : List (List Int)) (A0_2 : Option Addr) (c0_2 : Nat) (l0_2 : List Int) (a1 : Int) (r : Int) (w : World) (hr0_0 : Kd.C (Kd.int .i64) w A0_0 l0_0.length l0_0) (hc0_0 : l0_0.length ≤ c0_0) (hr0_1 : Kd.C (Kd.slice 2 (Kd.int .i64)) w A0_1 l0_1.length l0_1) (hc0_1 : l0_1.length ≤ c0_1) (hr0_2 : Kd.C (Kd.int .i64) w A0_2 l0_2.length l0_2) (hc0_2 : l0_2.length ≤ c0_2) (h : laws_szDfa.f k l0_0 l0_1 l0_2 a1 = some r) :
  Calls Try.prog 8 #[.agg #[.slice A0_0 l0_0.length c0_0, .slice A0_1 l0_1.length c0_1, .slice A0_2 l0_2.length c0_2], .int .i64 a1] w fun e w' => e = .returned (.int .i64 r) ∧ Below w.heap.size w w' := by
 have hu25 := Try.underlying25; have HR0_0 := q_ hr0_0; have HC0_0 := q_ hc0_0; clear hr0_0 hc0_0; have HR0_1 := q_ hr0_1; have HC0_1 := q_ hc0_1; clear hr0_1 hc0_1; have HR0_2 := q_ hr0_2; have HC0_2 := q_ hc0_2; clear hr0_2 hc0_2; have HB := q_ (Below.refl w.heap.size w)
 have H : ((laws_szInt64S.f l0_0 a1).bind fun t102 => (if t102 < 0 then (some (-1)) else ((laws_szInt64SS.f k l0_1 t102).bind fun t103 => (if t103 < 0 then (some (-1)) else ((laws_szInt64S.f l0_2 t103).bind fun t104 => (if t104 < 0 then (some (-1)) else (some t104))))))) = some r := h
 clear h; obtain ⟨t102, A3, H⟩ := ob_ H
 by_cases c4 : t102 < 0
 ·rw [if_pos c4] at H; have c4b0 := dt_ c4; clear c4; obtain rfl := Option.some.inj H
  go_enter Try.func8, Try.ntmps8
  go_wp2_with (first | ((with_reducible refine gate_dst (N := 2) rfl ?_); refine bx_ 2 #[.slice A0_0 l0_0.length c0_0, .slice A0_1 l0_1.length c0_1, .slice A0_2 l0_2.length c0_2] 25 ?_; intro gb101 hg w5 hbox hb; have BK101 := q_ (hbox); have GE101 := ge_ hg HB; replace HB := sb_ HB hb; clear hb hbox hg; obtain ⟨hcz6_0, hcz6_1, hcz6_2, hfz6_0, hfz6_1, hfz6_2⟩ := d3_ BK101) | ((with_reducible refine gate_callee (f := 38) rfl ?_); refine gl_ (some 8) rfl rfl Try.func38 #[.slice A0_0 l0_0.length c0_0, .int .i64 a1] ?_; (with_reducible refine (laws_szInt64S.calls _ _ l0_0 a1 t102 _ ?side1 ?side2 A3.o).mono ?_); (case side1 => exact Kd.C_below HR0_0.o (be_ HB.o)); (case side2 => exact HC0_0.o); rintro e w' ⟨rfl, ⟨nd, rfl⟩⟩; refine ⟨_, rfl, ?_⟩))
  go_ret
  exact ⟨rt_, be1_ HB.o GE101.o⟩
 ·rw [if_neg c4] at H; have c4b0 := df_ c4; clear c4; obtain ⟨t103, A7, H⟩ := ob_ H
  by_cases c8 : t103 < 0
  ·rw [if_pos c8] at H; have c8b0 := dt_ c8; clear c8; obtain rfl := Option.some.inj H
   go_enter Try.func8, Try.ntmps8
   go_wp2_with (first | ((with_reducible refine gate_dst (N := 2) rfl ?_); refine bx_ 2 #[.slice A0_0 l0_0.length c0_0, .slice A0_1 l0_1.length c0_1, .slice A0_2 l0_2.length c0_2] 25 ?_; intro gb101 hg w9 hbox hb; have BK101 := q_ (hbox); have GE101 := ge_ hg HB; replace HB := sb_ HB hb; clear hb hbox hg; obtain ⟨hcz10_0, hcz10_1, hcz10_2, hfz10_0, hfz10_1, hfz10_2⟩ := d3_ BK101) | ((with_reducible refine gate_callee (f := 38) rfl ?_); refine gl_ (some 8) rfl rfl Try.func38 #[.slice A0_0 l0_0.length c0_0, .int .i64 a1] ?_; (with_reducible refine (laws_szInt64S.calls _ _ l0_0 a1 t102 _ ?side1 ?side2 A3.o).mono ?_); (case side1 => exact Kd.C_below HR0_0.o (be_ HB.o)); (case side2 => exact HC0_0.o); rintro e w' ⟨rfl, ⟨nd, rfl⟩⟩; refine ⟨_, rfl, ?_⟩) | ((with_reducible refine gate_callee (f := 39) rfl ?_); refine gl_ (some 14) rfl rfl Try.func39 #[.slice A0_1 l0_1.length c0_1, .int .i64 t102] ?_; (with_reducible refine (laws_szInt64SS.calls k _ _ l0_1 t102 t103 _ ?side1 ?side2 A7.o).mono ?_); (case side1 => repeat (first | exact (Kd.C_below HR0_1.o (be1_ HB.o GE101.o)) | (with_reducible refine Kd.C_alloc ?_ _) | (with_reducible refine Kd.C_drewN ?_ _) | (with_reducible refine Kd.C_drew ?_))); (case side2 => exact HC0_1.o); rintro e w' ⟨rfl, ⟨nd, rfl⟩⟩; refine ⟨_, rfl, ?_⟩))
   go_ret
   exact ⟨rt_, be1_ HB.o GE101.o⟩
  ·rw [if_neg c8] at H; have c8b0 := df_ c8; clear c8; obtain ⟨t104, A11, H⟩ := ob_ H
   by_cases c12 : t104 < 0
   ·rw [if_pos c12] at H; have c12b0 := dt_ c12; clear c12; obtain rfl := Option.some.inj H
    go_enter Try.func8, Try.ntmps8
    go_wp2_with (first | ((with_reducible refine gate_dst (N := 2) rfl ?_); refine bx_ 2 #[.slice A0_0 l0_0.length c0_0, .slice A0_1 l0_1.length c0_1, .slice A0_2 l0_2.length c0_2] 25 ?_; intro gb101 hg w13 hbox hb; have BK101 := q_ (hbox); have GE101 := ge_ hg HB; replace HB := sb_ HB hb; clear hb hbox hg; obtain ⟨hcz14_0, hcz14_1, hcz14_2, hfz14_0, hfz14_1, hfz14_2⟩ := d3_ BK101) | ((with_reducible refine gate_callee (f := 38) rfl ?_); refine gl_ (some 8) rfl rfl Try.func38 #[.slice A0_0 l0_0.length c0_0, .int .i64 a1] ?_; (with_reducible refine (laws_szInt64S.calls _ _ l0_0 a1 t102 _ ?side1 ?side2 A3.o).mono ?_); (case side1 => exact Kd.C_below HR0_0.o (be_ HB.o)); (case side2 => exact HC0_0.o); rintro e w' ⟨rfl, ⟨nd, rfl⟩⟩; refine ⟨_, rfl, ?_⟩) | ((with_reducible refine gate_callee (f := 39) rfl ?_); refine gl_ (some 14) rfl rfl Try.func39 #[.slice A0_1 l0_1.length c0_1, .int .i64 t102] ?_; (with_reducible refine (laws_szInt64SS.calls k _ _ l0_1 t102 t103 _ ?side1 ?side2 A7.o).mono ?_); (case side1 => repeat (first | exact (Kd.C_below HR0_1.o (be1_ HB.o GE101.o)) | (with_reducible refine Kd.C_alloc ?_ _) | (with_reducible refine Kd.C_drewN ?_ _) | (with_reducible refine Kd.C_drew ?_))); (case side2 => exact HC0_1.o); rintro e w' ⟨rfl, ⟨nd, rfl⟩⟩; refine ⟨_, rfl, ?_⟩) | ((with_reducible refine gate_callee (f := 38) rfl ?_); refine gl_ (some 20) rfl rfl Try.func38 #[.slice A0_2 l0_2.length c0_2, .int .i64 t103] ?_; (with_reducible refine (laws_szInt64S.calls _ _ l0_2 t103 t104 _ ?side1 ?side2 A11.o).mono ?_); (case side1 => repeat (first | exact (Kd.C_below HR0_2.o (be1_ HB.o GE101.o)) | (with_reducible refine Kd.C_alloc ?_ _) | (with_reducible refine Kd.C_drewN ?_ _) | (with_reducible refine Kd.C_drew ?_))); (case side2 => exact HC0_2.o); rintro e w' ⟨rfl, ⟨nd, rfl⟩⟩; refine ⟨_, rfl, ?_⟩))
    go_ret
    exact ⟨rt_, be1_ HB.o GE101.o⟩
   ·rw [if_neg c12] at H; have c12b0 := df_ c12; clear c12; obtain rfl := Option.some.inj H
    go_enter Try.func8, Try.ntmps8
    go_wp2_with (first | ((with_reducible refine gate_dst (N := 2) rfl ?_); refine bx_ 2 #[.slice A0_0 l0_0.length c0_0, .slice A0_1 l0_1.length c0_1, .slice A0_2 l0_2.length c0_2] 25 ?_; intro gb101 hg w15 hbox hb; have BK101 := q_ (hbox); have GE101 := ge_ hg HB; replace HB := sb_ HB hb; clear hb hbox hg; obtain ⟨hcz16_0, hcz16_1, hcz16_2, hfz16_0, hfz16_1, hfz16_2⟩ := d3_ BK101) | ((with_reducible refine gate_callee (f := 38) rfl ?_); refine gl_ (some 8) rfl rfl Try.func38 #[.slice A0_0 l0_0.length c0_0, .int .i64 a1] ?_; (with_reducible refine (laws_szInt64S.calls _ _ l0_0 a1 t102 _ ?side1 ?side2 A3.o).mono ?_); (case side1 => exact Kd.C_below HR0_0.o (be_ HB.o)); (case side2 => exact HC0_0.o); rintro e w' ⟨rfl, ⟨nd, rfl⟩⟩; refine ⟨_, rfl, ?_⟩) | ((with_reducible refine gate_callee (f := 39) rfl ?_); refine gl_ (some 14) rfl rfl Try.func39 #[.slice A0_1 l0_1.length c0_1, .int .i64 t102] ?_; (with_reducible refine (laws_szInt64SS.calls k _ _ l0_1 t102 t103 _ ?side1 ?side2 A7.o).mono ?_); (case side1 => repeat (first | exact (Kd.C_below HR0_1.o (be1_ HB.o GE101.o)) | (with_reducible refine Kd.C_alloc ?_ _) | (with_reducible refine Kd.C_drewN ?_ _) | (with_reducible refine Kd.C_drew ?_))); (case side2 => exact HC0_1.o); rintro e w' ⟨rfl, ⟨nd, rfl⟩⟩; refine ⟨_, rfl, ?_⟩) | ((with_reducible refine gate_callee (f := 38) rfl ?_); refine gl_ (some 20) rfl rfl Try.func38 #[.slice A0_2 l0_2.length c0_2, .int .i64 t103] ?_; (with_reducible refine (laws_szInt64S.calls _ _ l0_2 t103 t104 _ ?side1 ?side2 A11.o).mono ?_); (case side1 => repeat (first | exact (Kd.C_below HR0_2.o (be1_ HB.o GE101.o)) | (with_reducible refine Kd.C_alloc ?_ _) | (with_reducible refine Kd.C_drewN ?_ _) | (with_reducible refine Kd.C_drew ?_))); (case side2 => exact HC0_2.o); rintro e w' ⟨rfl, ⟨nd, rfl⟩⟩; refine ⟨_, rfl, ?_⟩))
    go_ret
    exact ⟨rt_, be1_ HB.o GE101.o⟩
/-! ### laws_toInt64SS: function 43 -/
def laws_toInt64SS.l0 : Nat → List (List Int) → List (List Int) → Int → Option ((List (List Int)))
 | 0, _, _, _ => none
 | k + 1, x0, x3, x4 => if x4 < (x0.length : Int) then (if 0 ≤ x4 then ((laws_toInt64S.f k (rd_L1 x0 x4)).bind fun t105 => (if x4 < (x3.length : Int) then (laws_toInt64SS.l0 k x0 (x3.set (x4 : Int).toNat t105) (wrap64 (x4 + 1))) else (none))) else (none)) else (some x3)
def laws_toInt64SS.f (k : Nat) (l0 : List (List Int)) : Option ((List (List Int))) := if 0 ≤ (l0.length : Int) then (if ((l0.length : Int) : Int).toNat ≤ 11728124029610 then (laws_toInt64SS.l0 k l0 (List.replicate ((l0.length : Int) : Int).toNat []) 0) else (none)) else (none)
theorem laws_toInt64SS.calls (k : Nat) (A0 : Option Addr) (c0 : Nat) (l0 : List (List Int)) (r : List (List Int)) (w : World) (hr0 : Kd.C (Kd.slice 2 (Kd.int .i64)) w A0 l0.length l0) (hc0 : l0.length ≤ c0) (h : laws_toInt64SS.f k l0 = some r) :
  Calls Try.prog 43 #[.slice A0 l0.length c0] w fun e w' => ∃ v0_ : Value, e = .returned (v0_) ∧ Kd.S (Kd.slice 2 (Kd.int .i64)) 22 w' w.heap.size (fun _ => True) v0_ r ∧ Below w.heap.size w w' := by
 have HR0 := q_ hr0; have HC0 := q_ hc0; clear hr0 hc0; have HB := q_ (Below.refl w.heap.size w)
 have H : (if 0 ≤ (l0.length : Int) then (if ((l0.length : Int) : Int).toNat ≤ 11728124029610 then (laws_toInt64SS.l0 k l0 (List.replicate ((l0.length : Int) : Int).toNat []) 0) else (none)) else (none)) = some r := h
 clear h
 by_cases c2 : 0 ≤ (l0.length : Int)
 ·rw [if_pos c2] at H; have c2b0 := eq_true c2; have c2b1 := dt_ c2; clear c2
  by_cases c3 : ((l0.length : Int) : Int).toNat ≤ 11728124029610
  ·rw [if_pos c3] at H; have c3b0 := eq_true c3; have c3b1 := dt_ c3; clear c3
   obtain ⟨y101, hy101⟩ : ∃ y_ : List (List Int), y_ = (List.replicate ((l0.length : Int) : Int).toNat []) := ⟨_, rfl⟩
   replace H : (laws_toInt64SS.l0 k l0 y101 0) = some r := by first | (rw [hy101]; with_reducible exact H) | (have H2_ := (Option.bind_some _ _).symm.trans H; rw [hy101]; with_reducible exact H2_) | (have H2_ := (Option.bind_some _ _).symm.trans H; with_reducible exact H2_) | with_reducible exact H | (rw [hy101]; exact H) | exact H
   have Ny101 := q_ hy101; clear hy101
   have H' := q_ H
   clear H
   go_enter Try.func43, Try.ntmps43
   go_wp2_with (first | ((with_reducible refine gate_dst (N := 7) rfl ?_); refine Kd.S_make (Kd.slice 2 (Kd.int .i64)) _ 22 rfl (N := 7) rfl 23 _ _ rfl (l0.length : Int) rfl rfl Try.underlying23 (.slice none 0 0) 24 info22 rfl (by decide) (by omega) [] (ok := fun _ => True) (okp := fun _ => True) ⟨_, rfl, Kd.R_nil _ _ _ _ _⟩ (fun _ hk => hk) trivial (of_decide_eq_true as_) (Nat.le_trans (Nat.mul_le_mul_right _ (of_decide_eq_true as_ : (l0.length : Int).toNat ≤ 11728124029610)) (by omega)) (Below.refl _ _) (Nat.le_refl _) ?_; intro v102 w4 ho5 hb hg_ hnew_; clear hg_ hnew_; (first | rw [← Ny101.o] at ho5 | (simp only [Int.reduceToNat] at ho5; rw [← Ny101.o] at ho5)); have HO103 := q_ (Kd.S_lower ho5 (below_size (be_ HB.o))); replace HB := sb_ HB hb; clear hb ho5))
   go_loopg [4] k (fun kq v4 w' => ∃ (x3_1 : List (List Int)) (x4_1 : Int), v4 = .int .i64 x4_1 ∧ J0 (laws_toInt64SS.l0 kq l0 x3_1 x4_1 = some r) ∧ J0 (kq ≤ k) ∧ J0 (Kd.S (Kd.slice 2 (Kd.int .i64)) 22 w' w.heap.size (fun _ => True) v102 x3_1) ∧ J0 (Below w.heap.size w w'))
   case atStart => exact ⟨(y101), (0), rs_, H', ⟨Nat.le_refl _⟩, ⟨by (with_reducible repeat (first | apply Kd.S_alloc | apply Kd.S_drewN | apply Kd.S_drew)); exact HO103.o⟩, ⟨be_ HB.o⟩⟩
   case round =>
    clear H'; (try clear c2); (try clear c2b0); (try clear c2b1); (try clear c3); (try clear c3b0); (try clear c3b1); obtain ⟨x3_1, x4_1, rfl, HA, HK1, HO_3, HB⟩ := hrel
    cases gk with
    | zero => exact absurd HA.o (by simp [laws_toInt64SS.l0])
    | succ k1 =>
     have H := HA.o; clear HA
     simp only [laws_toInt64SS.l0] at H
     by_cases c6 : x4_1 < (l0.length : Int)
     ·rw [if_pos c6] at H; have c6b0 := dt_ c6; clear c6
      by_cases c7 : 0 ≤ x4_1
      ·rw [if_pos c7] at H; have c7b0 := dt_ c7; clear c7; obtain ⟨t105, A8, H⟩ := ob_ H
       by_cases c9 : x4_1 < (x3_1.length : Int)
       ·rw [if_pos c9] at H; have c9b0 := dt_ c9; clear c9
        obtain ⟨y108, hy108⟩ : ∃ y_ : List (List Int), y_ = (x3_1.set (x4_1 : Int).toNat t105) := ⟨_, rfl⟩
        replace H : (laws_toInt64SS.l0 k1 l0 y108 (wrap64 (x4_1 + 1))) = some r := by first | (rw [hy108]; with_reducible exact H) | (have H2_ := (Option.bind_some _ _).symm.trans H; rw [hy108]; with_reducible exact H2_) | (have H2_ := (Option.bind_some _ _).symm.trans H; with_reducible exact H2_) | with_reducible exact H | (rw [hy108]; exact H) | exact H
        have Ny108 := q_ hy108; clear hy108
        have H' := q_ H
        clear H
        have p104 : 0 ≤ (x4_1 : Int) := of_decide_eq_true as_
        have q104 : x4_1 < (l0.length : Int) := of_decide_eq_true as_
        obtain ⟨ad104, A104_0, c104_0, e104, hx104_0, hl104_0, hi104_0⟩ := at_L1 HR0.o x4_1 p104 q104
        cases e104
        replace hx104_0 := mv_ HB.o hx104_0; have HR104_0 := q_ hi104_0; have HC104_0 := q_ hl104_0; clear hi104_0 hl104_0; replace p104 := eq_true p104; replace q104 := eq_true q104
        go_wp2_with (first | ((with_reducible refine gate_callee (f := 42) rfl ?_); refine gl_ (some 20) rfl rfl Try.func42 #[.slice A104_0 (rd_L1 l0 x4_1).length c104_0] ?_; (with_reducible refine (laws_toInt64S.calls k1 _ _ (rd_L1 l0 x4_1) t105 _ ?side1 ?side2 A8.o).mono ?_); (case side1 => exact Kd.C_below HR104_0.o (be_ HB.o)); (case side2 => exact HC104_0.o); rintro e w11 ⟨v106, rfl, ho0, hb⟩; refine ⟨_, rfl, ?_⟩; have HO107 := q_ (Kd.R_lower ho0 (below_size (be_ HB.o))); replace HO_3 := q_ (Kd.S_elder' (by (with_reducible repeat (first | apply Kd.S_alloc | apply Kd.S_drewN | apply Kd.S_drew)); exact HO_3.o) (Kd.R_base ho0) hb); replace HB := sb_ HB hb; (try clear hb); (try clear ho0); have p10 : 0 ≤ (x4_1 : Int) := of_decide_eq_true as_; have q10 : (x4_1 : Int) < ((x3_1.length : Int) : Int) := of_decide_eq_true as_; obtain ⟨go10, co10, eo10, gb10, gl10, cl10, HG10⟩ := Kd.S_form HO_3.o (by omega); (first | cases eo10 | (injection eo10 with ea_ en_ ec_; (first | subst ea_ | (injection ea_ with ea_; subst ea_)); subst ec_; clear en_)); have GB10 := q_ gb10; have GG10 := q_ HG10; clear gb10 gl10 HG10; obtain ⟨_, ce10, hcl10, hM10, hcc10, hfr10, _, _⟩ := Kd.S_elem HO_3.o [] (x4_1 : Int) p10 q10; obtain ⟨ve10_0, rfl, ge10_0⟩ := hM10; have hx10_0 := hcc10 0 _ rfl; have hf10_0 := hfr10 0; (try simp only [show ((Kd.slice 2 (Kd.int .i64))).sz = 1 from rfl, Nat.mul_one, Nat.add_zero] at hx10_0); (try simp only [show ((Kd.slice 2 (Kd.int .i64))).sz = 1 from rfl, Nat.mul_one, Nat.add_zero] at hf10_0); (try clear hM10); clear hcl10 hcc10 hfr10; replace p10 := eq_true p10; replace q10 := eq_true q10; have n_ := q_ (Kd.S_mono (ok' := (fun k_ => some k_ ≠ (v106 : Value).ownBlock)) HO_3.o (fun k_ hk => hk.2)); clear HO_3; have HO_3 := n_; clear n_; have HX12 := q_ (show Kd.S (Kd.slice 2 (Kd.int .i64)) 22 w11 w.heap.size (fun k_ => ((fun _ => True)) k_ ∧ ¬ ((fun k_ => some k_ = (v106 : Value).ownBlock)) k_) (.slice (some ⟨go10, 0, none⟩) x3_1.length co10) x3_1 from (by (with_reducible repeat (first | apply Kd.S_alloc | apply Kd.S_drewN | apply Kd.S_drew)); exact Kd.S_mono HO_3.o (fun k_ hk => ⟨trivial, fun e_ => hk e_⟩))); obtain ⟨oki12, ce12, hcl12, hM12, hcc12, hfr12, hoki12, hH12⟩ := Kd.S_elem HX12.o [] (x4_1 : Int) (of_decide_eq_true as_) (by have h_ : (x4_1 : Int) < ((x3_1.length : Int) : Int) := of_decide_eq_true as_; first | exact h_ | (have e_ := (Kd.S_reads' HO_3.o).1; omega) | simpa using h_); obtain ⟨ve12_0, rfl, ge12_0⟩ := hM12; have HP12 := Kd.S_seg hH12 (of_decide_eq_true as_) (by have h_ : (x4_1 : Int) < ((x3_1.length : Int) : Int) := of_decide_eq_true as_; first | exact h_ | (have e_ := (Kd.S_reads' HO_3.o).1; omega) | simpa using h_) (seg := [v106]) (j := 0) (show 1 ≤ 1 from by decide) (x' := t105) (Kd.M_row (Kd.R_mono (Kd.R_tight rfl (Kd.R_mono (ok' := fun k_ => ((fun _ => True)) k_ ∧ k_ ≠ go10) (Kd.R_apart' (HO107.o) (Kd.S_typed HO_3.o) (by decide)) (fun k_ hk => ⟨trivial, fun e_ => (hk.2) (by rw [e_]; rfl)⟩))) (fun _ h_ => Or.inr (h_)))) (fun _ hk => hk) (fun k_ hk_ => ((Kd.R_mono (ok' := fun k_ => ((fun _ => True)) k_ ∧ k_ ≠ go10) (Kd.R_apart' (HO107.o) (Kd.S_typed HO_3.o) (by decide)) (fun k_ hk => ⟨trivial, fun e_ => (hk.2) (by rw [e_]; rfl)⟩))).1 k_ hk_.symm); have hx12_0 := hcc12 0 _ rfl; (try simp only [show ((Kd.slice 2 (Kd.int .i64))).sz = 1 from rfl, Nat.mul_one, Nat.add_zero] at hx12_0); have hf12_0 := hfr12 0; (try simp only [show ((Kd.slice 2 (Kd.int .i64))).sz = 1 from rfl, Nat.mul_one, Nat.add_zero] at hf12_0); (try clear hM12); clear hcl12 hcc12 hfr12 hoki12 hH12; (try simp only [show ((Kd.slice 2 (Kd.int .i64))).sz = 1 from rfl, Nat.mul_one, Nat.add_zero] at HP12)) | ((with_reducible refine gate_store (t := 22) (p := 21) rfl ?_); refine store_event (t := 22) (p := 21) (v := ?vo_w13) (w1 := (w11.setCell ⟨go10, (x4_1 : Int).toNat, none⟩ (v106))) ?hg ?ho ?hn ?hr ?_; (case ho => rfl); (case hg => rfl); (case hn => rfl); (case hr => obtain ⟨_, _, rfl⟩ := (by first | exact Kd.R_slice HO107.o | exact Kd.S_slice HO107.out : ∃ A_ c_, v106 = .slice A_ _ c_); first | (go_simp; done) | (go_simp; rfl)); intro w13 hw; have hg : w11.grownBy w13 (some go10) := (by rw [hw]; exact HP12.2); have hp_ : Kd.S (Kd.slice 2 (Kd.int .i64)) 22 w13 w.heap.size (fun _ => True) (.slice (some ⟨go10, 0, none⟩) x3_1.length co10) y108 := (by rw [hw, Ny108.o]; exact HP12.1); clear HP12; replace HO_3 := q_ (hp_); replace HB := q_ ((by rw [hw]; exact below_set (HB.o) GB10.out : Below w.heap.size w w13)); clear HO107; clear hg hw hp_))
        go_roundg k1
        case measure => have := HK1.o; omega
        case rel => exact ⟨(y108), (wrap64 (x4_1 + 1)), rs_, H', ⟨by have := HK1.o; omega⟩, ⟨by (with_reducible repeat (first | apply Kd.S_alloc | apply Kd.S_drewN | apply Kd.S_drew)); exact HO_3.o⟩, ⟨be_ HB.o⟩⟩
       ·rw [if_neg c9] at H
        exact absurd H (by simp)
      ·rw [if_neg c7] at H
       exact absurd H (by simp)
     ·rw [if_neg c6] at H; have c6b0 := df_ c6; clear c6; obtain rfl := Option.some.inj H
      go_wp2
      go_ret
      exact ⟨_, rt_, by (with_reducible repeat (first | apply Kd.S_alloc | apply Kd.S_drewN | apply Kd.S_drew)); exact HO_3.o, be_ HB.o⟩
  ·rw [if_neg c3] at H
   exact absurd H (by simp)
 ·rw [if_neg c2] at H
  exact absurd H (by simp)
/-! ### laws_toDfa: function 10 -/
def laws_toDfa.f (k : Nat) (l0_0 : List Int) (l0_1 : List (List Int)) (l0_2 : List Int) : Option (List Int × (List (List Int)) × List Int) := (laws_toInt64S.f k l0_0).bind fun t104 => ((laws_toInt64SS.f k l0_1).bind fun t107 => ((laws_toInt64S.f k l0_2).bind fun t110 => (some (t104, t107, t110))))
theorem laws_toDfa.calls (k : Nat) (A0_0 : Option Addr) (c0_0 : Nat) (l0_0 : List Int) (A0_1 : Option Addr) (c0_1 : Nat) (l0_1 : List (List Int)) (A0_2 : Option Addr) (c0_2 : Nat) (l0_2 : List Int) (r1 : List Int) (r2 : List (List Int)) (r3 : List Int) (w : World) (hr0_0 : Kd.C (Kd.int .i64) w A0_0 l0_0.length l0_0) (hc0_0 : l0_0.length ≤ c0_0) (hr0_1 : Kd.C (Kd.slice 2 (Kd.int .i64)) w A0_1 l0_1.length l0_1) (hc0_1 : l0_1.length ≤ c0_1) (hr0_2 : Kd.C (Kd.int .i64) w A0_2 l0_2.length l0_2) (hc0_2 : l0_2.length ≤ c0_2) (h : laws_toDfa.f k l0_0 l0_1 l0_2 = some (r1, r2, r3)) :
  Calls Try.prog 10 #[.agg #[.slice A0_0 l0_0.length c0_0, .slice A0_1 l0_1.length c0_1, .slice A0_2 l0_2.length c0_2]] w fun e w' => ∃ v0_ v1_ v2_ : Value, e = .returned (.agg #[v0_, v1_, v2_]) ∧ Kd.R (Kd.int .i64) 2 w' w.heap.size (fun k_ => some k_ ≠ (v2_ : Value).ownBlock) v0_ r1 ∧ Kd.S (Kd.slice 2 (Kd.int .i64)) 22 w' w.heap.size (fun k_ => some k_ ≠ (v0_ : Value).ownBlock ∧ some k_ ≠ (v2_ : Value).ownBlock) v1_ r2 ∧ Kd.R (Kd.int .i64) 2 w' w.heap.size (fun k_ => some k_ ≠ (v0_ : Value).ownBlock) v2_ r3 ∧ Below w.heap.size w w' := by
 have hu25 := Try.underlying25; have hu32 := Try.underlying32; have HR0_0 := q_ hr0_0; have HC0_0 := q_ hc0_0; clear hr0_0 hc0_0; have HR0_1 := q_ hr0_1; have HC0_1 := q_ hc0_1; clear hr0_1 hc0_1; have HR0_2 := q_ hr0_2; have HC0_2 := q_ hc0_2; clear hr0_2 hc0_2; have HB := q_ (Below.refl w.heap.size w)
 have H : ((laws_toInt64S.f k l0_0).bind fun t104 => ((laws_toInt64SS.f k l0_1).bind fun t107 => ((laws_toInt64S.f k l0_2).bind fun t110 => (some (t104, t107, t110))))) = some (r1, r2, r3) := h
 clear h; obtain ⟨t104, A2, H⟩ := ob_ H; obtain ⟨t107, A3, H⟩ := ob_ H; obtain ⟨t110, A4, H⟩ := ob_ H
 simp only [Option.some.injEq, Prod.mk.injEq] at H
 obtain ⟨rfl, rfl, rfl⟩ := H
 go_enter Try.func10, Try.ntmps10
 go_wp2_with (first | ((with_reducible refine gate_dst (N := 1) rfl ?_); refine bx_ 1 #[.slice A0_0 l0_0.length c0_0, .slice A0_1 l0_1.length c0_1, .slice A0_2 l0_2.length c0_2] 25 ?_; intro gb101 hg w5 hbox hb; have BK101 := q_ (hbox); have GE101 := ge_ hg HB; replace HB := sb_ HB hb; clear hb hbox hg) | ((with_reducible refine gate_dst (N := 2) rfl ?_); refine bx_ 2 #[.slice none 0 0, .slice none 0 0, .slice none 0 0] 32 ?_; intro gb102 hg w6 hbox hb; have BK102 := q_ (hbox); have GE102 := ge1_ hg HB GE101; have NB101_102 := nl_ hg BK101; have NB102_101 := ng_ hg BK101; replace BK101 := lb_ BK101 hb; replace HB := sb1_ HB GE101 hb; clear hb hbox hg) | ((with_reducible refine gate_dst (N := 3) rfl ?_); refine bx_ 3 #[.slice none 0 0, .slice none 0 0, .slice none 0 0] 32 ?_; intro gb103 hg w7 hbox hb; have BK103 := q_ (hbox); have GE103 := ge2_ hg HB GE101 GE102; have NB101_103 := nl_ hg BK101; have NB103_101 := ng_ hg BK101; have NB102_103 := nl_ hg BK102; have NB103_102 := ng_ hg BK102; replace BK101 := lb_ BK101 hb; replace BK102 := lb_ BK102 hb; replace HB := sb2_ HB GE101 GE102 hb; clear hb hbox hg; have hnb8 := NB101_102.o; have hnc8 := NB102_101.o; have hnb9 := NB101_103.o; have hnc9 := NB103_101.o; obtain ⟨hcz10_0, hcz10_1, hcz10_2, hfz10_0, hfz10_1, hfz10_2⟩ := d3_ BK101) | ((with_reducible refine gate_callee (f := 42) rfl ?_); refine gl_ (some 6) rfl rfl Try.func42 #[.slice A0_0 l0_0.length c0_0] ?_; (with_reducible refine (laws_toInt64S.calls k _ _ l0_0 t104 _ ?side1 ?side2 A2.o).mono ?_); (case side1 => exact Kd.C_below HR0_0.o (be_ HB.o)); (case side2 => exact HC0_0.o); rintro e w11 ⟨v105, rfl, ho0, hb⟩; refine ⟨_, rfl, ?_⟩; have HO106 := q_ (Kd.R_lower ho0 (below_size (be3_ HB.o GE101.o GE102.o GE103.o))); replace BK101 := lb_ BK101 hb; replace BK102 := lb_ BK102 hb; replace BK103 := lb_ BK103 hb; replace HB := sb3_ HB GE101 GE102 GE103 hb; (try clear hb); (try clear ho0); obtain ⟨Ao12, co12, eo12⟩ := Kd.R_slice HO106.o; subst eo12; have hnb13 := NB103_102.o; have hnc13 := NB102_103.o; obtain ⟨hcz14_0, hcz14_1, hcz14_2, hfz14_0, hfz14_1, hfz14_2⟩ := d3_ BK103; obtain ⟨hcz15_0, hcz15_1, hcz15_2, hfz15_0, hfz15_1, hfz15_2⟩ := d3_ BK101) | ((with_reducible refine gate_callee (f := 43) rfl ?_); refine gl_ (some 10) rfl rfl Try.func43 #[.slice A0_1 l0_1.length c0_1] ?_; (with_reducible refine (laws_toInt64SS.calls k _ _ l0_1 t107 _ ?side1 ?side2 A3.o).mono ?_); (case side1 => exact Kd.C_below HR0_1.o (be3_ HB.o GE101.o GE102.o GE103.o)); (case side2 => exact HC0_1.o); rintro e w16 ⟨v108, rfl, ho0, hb⟩; refine ⟨_, rfl, ?_⟩; have HO109 := q_ (Kd.S_lower (Kd.S_new' ho0 (Kd.R_lt (by (with_reducible repeat (first | apply Kd.R_alloc | apply Kd.R_drewN | apply Kd.R_drew)); exact (Kd.R_mono (Kd.R_far (p := ⟨gb103, 0, none⟩) (Kd.R_types HO106.o BK103.o (by decide)) (fun _ hk => hk.2) (.slice Ao12 t104.length co12)) (fun _ h_ => h_.1))))) (below_size (be3_ HB.o GE101.o GE102.o GE103.o))); replace HO106 := q_ (Kd.R_below (by (with_reducible repeat (first | apply Kd.R_alloc | apply Kd.R_drewN | apply Kd.R_drew)); exact (Kd.R_mono (Kd.R_far (p := ⟨gb103, 0, none⟩) (Kd.R_types HO106.o BK103.o (by decide)) (fun _ hk => hk.2) (.slice Ao12 t104.length co12)) (fun _ h_ => h_.1))) hb); replace BK101 := q_ (blk_below (g := gb101) (o := .cells #[.slice A0_0 l0_0.length c0_0, .slice A0_1 l0_1.length c0_1, .slice A0_2 l0_2.length c0_2] 25 (0, 0)) (by (with_reducible repeat (first | refine blk_drewN ?_ _ | refine blk_drew ?_ | refine blk_alloc ?_ _)); refine blk_far ?_ NB101_103.o _; (with_reducible repeat (first | refine blk_drewN ?_ _ | refine blk_drew ?_ | refine blk_alloc ?_ _)); exact BK101.o) hb); replace BK102 := q_ (blk_below (g := gb102) (o := .cells #[.slice none 0 0, .slice none 0 0, .slice none 0 0] 32 (0, 0)) (by (with_reducible repeat (first | refine blk_drewN ?_ _ | refine blk_drew ?_ | refine blk_alloc ?_ _)); refine blk_far ?_ NB102_103.o _; (with_reducible repeat (first | refine blk_drewN ?_ _ | refine blk_drew ?_ | refine blk_alloc ?_ _)); exact BK102.o) hb); replace BK103 := q_ (blk_below (g := gb103) (o := .cells #[.slice Ao12 t104.length co12, .slice none 0 0, .slice none 0 0] 32 (0, 0)) (by (with_reducible repeat (first | refine blk_drewN ?_ _ | refine blk_drew ?_ | refine blk_alloc ?_ _)); refine blk_put (cs := #[.slice none 0 0, .slice none 0 0, .slice none 0 0]) ?_ 0 _ rfl; (with_reducible repeat (first | refine blk_drewN ?_ _ | refine blk_drew ?_ | refine blk_alloc ?_ _)); exact BK103.o) hb); replace HB := sb3_ HB GE101 GE102 GE103 hb; (try clear hb); (try clear ho0); obtain ⟨Ao17, co17, eo17⟩ := Kd.S_slice HO109.o; subst eo17; obtain ⟨hcz18_0, hcz18_1, hcz18_2, hfz18_0, hfz18_1, hfz18_2⟩ := d3_ BK103; obtain ⟨hcz19_0, hcz19_1, hcz19_2, hfz19_0, hfz19_1, hfz19_2⟩ := d3_ BK101) | ((with_reducible refine gate_callee (f := 42) rfl ?_); refine gl_ (some 14) rfl rfl Try.func42 #[.slice A0_2 l0_2.length c0_2] ?_; (with_reducible refine (laws_toInt64S.calls k _ _ l0_2 t110 _ ?side1 ?side2 A4.o).mono ?_); (case side1 => exact Kd.C_below HR0_2.o (be3_ HB.o GE101.o GE102.o GE103.o)); (case side2 => exact HC0_2.o); rintro e w20 ⟨v111, rfl, ho0, hb⟩; refine ⟨_, rfl, ?_⟩; have HO112 := q_ (Kd.R_lower (Kd.R_new' ho0 (Kd.R_lt (by (with_reducible repeat (first | apply Kd.R_alloc | apply Kd.R_drewN | apply Kd.R_drew)); exact (Kd.R_mono (Kd.R_far (p := ⟨gb103, 1, none⟩) (Kd.R_types HO106.o BK103.o (by decide)) (fun _ hk => hk.2) (.slice Ao17 t107.length co17)) (fun _ h_ => h_.1))))) (below_size (be3_ HB.o GE101.o GE102.o GE103.o))); replace HO106 := q_ (Kd.R_elder' (by (with_reducible repeat (first | apply Kd.R_alloc | apply Kd.R_drewN | apply Kd.R_drew)); exact (Kd.R_mono (Kd.R_far (p := ⟨gb103, 1, none⟩) (Kd.R_types HO106.o BK103.o (by decide)) (fun _ hk => hk.2) (.slice Ao17 t107.length co17)) (fun _ h_ => h_.1))) (Kd.R_base ho0) hb); replace HO109 := q_ (Kd.S_elder' (by (with_reducible repeat (first | apply Kd.S_alloc | apply Kd.S_drewN | apply Kd.S_drew)); exact (Kd.S_mono (Kd.S_far (p := ⟨gb103, 1, none⟩) (Kd.S_types HO109.o BK103.o (by decide)) (fun _ hk => hk.2) (.slice Ao17 t107.length co17)) (fun _ h_ => h_.1))) (Kd.R_base ho0) hb); replace BK101 := q_ (blk_below (g := gb101) (o := .cells #[.slice A0_0 l0_0.length c0_0, .slice A0_1 l0_1.length c0_1, .slice A0_2 l0_2.length c0_2] 25 (0, 0)) (by (with_reducible repeat (first | refine blk_drewN ?_ _ | refine blk_drew ?_ | refine blk_alloc ?_ _)); refine blk_far ?_ NB101_103.o _; (with_reducible repeat (first | refine blk_drewN ?_ _ | refine blk_drew ?_ | refine blk_alloc ?_ _)); exact BK101.o) hb); replace BK102 := q_ (blk_below (g := gb102) (o := .cells #[.slice none 0 0, .slice none 0 0, .slice none 0 0] 32 (0, 0)) (by (with_reducible repeat (first | refine blk_drewN ?_ _ | refine blk_drew ?_ | refine blk_alloc ?_ _)); refine blk_far ?_ NB102_103.o _; (with_reducible repeat (first | refine blk_drewN ?_ _ | refine blk_drew ?_ | refine blk_alloc ?_ _)); exact BK102.o) hb); replace BK103 := q_ (blk_below (g := gb103) (o := .cells #[.slice Ao12 t104.length co12, .slice Ao17 t107.length co17, .slice none 0 0] 32 (0, 0)) (by (with_reducible repeat (first | refine blk_drewN ?_ _ | refine blk_drew ?_ | refine blk_alloc ?_ _)); refine blk_put (cs := #[.slice Ao12 t104.length co12, .slice none 0 0, .slice none 0 0]) ?_ 1 _ rfl; (with_reducible repeat (first | refine blk_drewN ?_ _ | refine blk_drew ?_ | refine blk_alloc ?_ _)); exact BK103.o) hb); replace HB := sb3_ HB GE101 GE102 GE103 hb; (try clear hb); (try clear ho0); obtain ⟨Ao21, co21, eo21⟩ := Kd.R_slice HO112.o; subst eo21; obtain ⟨hcz22_0, hcz22_1, hcz22_2, hfz22_0, hfz22_1, hfz22_2⟩ := d3_ BK103; obtain ⟨hcz23_0, hcz23_1, hcz23_2, hfz23_0, hfz23_1, hfz23_2⟩ := d3_ BK102))
 refine bodyPost_ret (results_cell_row rfl _ _ gb102 32 #[.slice Ao12 t104.length co12, .slice Ao17 t107.length co17, .slice Ao21 t110.length co21] (0, 0) _ rfl (by (with_reducible repeat (first | refine blk_drewN ?_ _ | refine blk_drew ?_ | refine blk_alloc ?_ _)); refine blk_put (cs := #[.slice Ao12 t104.length co12, .slice Ao17 t107.length co17, .slice none 0 0]) ?_ 2 _ rfl; (with_reducible repeat (first | refine blk_drewN ?_ _ | refine blk_drew ?_ | refine blk_alloc ?_ _)); refine blk_put (cs := #[.slice Ao12 t104.length co12, .slice none 0 0, .slice none 0 0]) ?_ 1 _ rfl; (with_reducible repeat (first | refine blk_drewN ?_ _ | refine blk_drew ?_ | refine blk_alloc ?_ _)); refine blk_put (cs := #[.slice none 0 0, .slice none 0 0, .slice none 0 0]) ?_ 0 _ rfl; (with_reducible repeat (first | refine blk_drewN ?_ _ | refine blk_drew ?_ | refine blk_alloc ?_ _)); refine blk_far ?_ NB102_103.o _; (with_reducible repeat (first | refine blk_drewN ?_ _ | refine blk_drew ?_ | refine blk_alloc ?_ _)); exact BK102.o) Try.underlying32 rfl (by kernel_rfl)) rfl ?_
 exact ⟨_, _, _, rt_, by (with_reducible repeat (first | apply Kd.R_alloc | apply Kd.R_drewN | apply Kd.R_drew)); exact Kd.R_mono (Kd.R_far (p := ⟨gb102, 2, none⟩) (Kd.R_far (p := ⟨gb102, 1, none⟩) (Kd.R_far (p := ⟨gb102, 0, none⟩) (Kd.R_far (p := ⟨gb103, 2, none⟩) (Kd.R_types (Kd.R_types HO106.o BK103.o (by decide)) BK102.o (by decide)) (fun _ hk => hk.1.2) (.slice Ao21 t110.length co21)) (fun _ hk => hk.2) (.slice Ao12 t104.length co12)) (fun _ hk => hk.2) (.slice Ao17 t107.length co17)) (fun _ hk => hk.2) (.slice Ao21 t110.length co21)) (fun _ hk => hk.1.1.2), by (with_reducible repeat (first | apply Kd.S_alloc | apply Kd.S_drewN | apply Kd.S_drew)); exact Kd.S_mono (Kd.S_far (p := ⟨gb102, 2, none⟩) (Kd.S_far (p := ⟨gb102, 1, none⟩) (Kd.S_far (p := ⟨gb102, 0, none⟩) (Kd.S_far (p := ⟨gb103, 2, none⟩) (Kd.S_types (Kd.S_types HO109.o BK103.o (by decide)) BK102.o (by decide)) (fun _ hk => hk.1.2) (.slice Ao21 t110.length co21)) (fun _ hk => hk.2) (.slice Ao12 t104.length co12)) (fun _ hk => hk.2) (.slice Ao17 t107.length co17)) (fun _ hk => hk.2) (.slice Ao21 t110.length co21)) (fun _ hk => ⟨hk.1.1.1.2, hk.1.1.2⟩), by (with_reducible repeat (first | apply Kd.R_alloc | apply Kd.R_drewN | apply Kd.R_drew)); exact Kd.R_mono (Kd.R_far (p := ⟨gb102, 2, none⟩) (Kd.R_far (p := ⟨gb102, 1, none⟩) (Kd.R_far (p := ⟨gb102, 0, none⟩) (Kd.R_far (p := ⟨gb103, 2, none⟩) (Kd.R_types (Kd.R_types HO112.o BK103.o (by decide)) BK102.o (by decide)) (fun _ hk => hk.1.2) (.slice Ao21 t110.length co21)) (fun _ hk => hk.2) (.slice Ao12 t104.length co12)) (fun _ hk => hk.2) (.slice Ao17 t107.length co17)) (fun _ hk => hk.2) (.slice Ao21 t110.length co21)) (fun _ hk => hk.1.1.2), be3_ HB.o GE101.o GE102.o GE103.o⟩
/-! ### laws_eqInt64SS: function 47 -/
def laws_eqInt64SS.l0 : Nat → List (List Int) → List (List Int) → Int → Option (Bool)
 | 0, _, _, _ => none
 | k + 1, x0, x1, x5 => if x5 < (x0.length : Int) then (if 0 ≤ x5 then (if x5 < (x1.length : Int) then ((laws_eqInt64S.f k (rd_L1 x0 x5) (rd_L1 x1 x5)).bind fun t103 => (if t103 = true then (laws_eqInt64SS.l0 k x0 x1 (wrap64 (x5 + 1))) else (none))) else (none)) else (none)) else (some true)
def laws_eqInt64SS.f (k : Nat) (l0 : List (List Int)) (l1 : List (List Int)) : Option (Bool) := if (l0.length : Int) = (l1.length : Int) then (laws_eqInt64SS.l0 k l0 l1 0) else (none)
theorem laws_eqInt64SS.calls (k : Nat) (A0 : Option Addr) (c0 : Nat) (l0 : List (List Int)) (A1 : Option Addr) (c1 : Nat) (l1 : List (List Int)) (r : Bool) (w : World) (hr0 : Kd.C (Kd.slice 2 (Kd.int .i64)) w A0 l0.length l0) (hc0 : l0.length ≤ c0) (hr1 : Kd.C (Kd.slice 2 (Kd.int .i64)) w A1 l1.length l1) (hc1 : l1.length ≤ c1) (h : laws_eqInt64SS.f k l0 l1 = some r) :
  Calls Try.prog 47 #[.slice A0 l0.length c0, .slice A1 l1.length c1] w fun e w' => e = .returned (.bool r) ∧ Drawn0 w w' := by
 have HR0 := q_ hr0; have HC0 := q_ hc0; clear hr0 hc0; have HR1 := q_ hr1; have HC1 := q_ hc1; clear hr1 hc1
 have H : (if (l0.length : Int) = (l1.length : Int) then (laws_eqInt64SS.l0 k l0 l1 0) else (none)) = some r := h
 clear h
 by_cases c3 : (l0.length : Int) = (l1.length : Int)
 ·rw [if_pos c3] at H
  have c3b0 : ((l0.length : Int) == (l1.length : Int)) = true := beq_iff_eq.mpr c3
  have c3b1 : ((l0.length : Int) != (l1.length : Int)) = false := bne_eq_false_iff_eq.mpr c3
  have c3b2 : (l0.length == l1.length) = true := by first | simpa using c3 | (simp at c3 ⊢; omega)
  clear c3
  have H' := q_ H
  clear H
  go_enter Try.func47, Try.ntmps47
  go_wp2
  repeat (go_quiet (fail); try go_wp2)
  go_loopg [5] k (fun kq v5 w' => ∃ (x5_1 : Int), v5 = .int .i64 x5_1 ∧ J0 (laws_eqInt64SS.l0 kq l0 l1 x5_1 = some r) ∧ J0 (kq ≤ k) ∧ Drawn0 w w')
  case atStart => exact ⟨(0), rs_, H', ⟨Nat.le_refl _⟩, by repeat (first | exact Drawn0.refl _ | apply Drawn0.step)⟩
  case round =>
   clear H'; (try clear c1); (try clear c3); (try clear c3b0); (try clear c3b1); (try clear c3b2)
   obtain ⟨x5_1, rfl, HA, HK1, ⟨m1, rfl⟩⟩ := hrel
   cases gk with
   | zero => exact absurd HA.o (by simp [laws_eqInt64SS.l0])
   | succ k1 =>
    have H := HA.o; clear HA
    simp only [laws_eqInt64SS.l0] at H
    by_cases c4 : x5_1 < (l0.length : Int)
    ·rw [if_pos c4] at H; have c4b0 := dt_ c4; clear c4
     by_cases c5 : 0 ≤ x5_1
     ·rw [if_pos c5] at H; have c5b0 := dt_ c5; clear c5
      by_cases c6 : x5_1 < (l1.length : Int)
      ·rw [if_pos c6] at H; have c6b0 := dt_ c6; clear c6; obtain ⟨t103, A7, H⟩ := ob_ H
       by_cases c8 : t103 = true
       ·subst c8; rw [if_pos rfl] at H
        have H' := q_ H
        clear H
        have p101 : 0 ≤ (x5_1 : Int) := of_decide_eq_true as_
        have q101 : x5_1 < (l0.length : Int) := of_decide_eq_true as_
        obtain ⟨ad101, A101_0, c101_0, e101, hx101_0, hl101_0, hi101_0⟩ := at_L1 HR0.o x5_1 p101 q101
        cases e101
        have HR101_0 := q_ hi101_0; have HC101_0 := q_ hl101_0; clear hi101_0 hl101_0; replace p101 := eq_true p101; replace q101 := eq_true q101
        have p102 : 0 ≤ (x5_1 : Int) := of_decide_eq_true as_
        have q102 : x5_1 < (l1.length : Int) := of_decide_eq_true as_
        obtain ⟨ad102, A102_0, c102_0, e102, hx102_0, hl102_0, hi102_0⟩ := at_L1 HR1.o x5_1 p102 q102
        cases e102
        have HR102_0 := q_ hi102_0; have HC102_0 := q_ hl102_0; clear hi102_0 hl102_0; replace p102 := eq_true p102; replace q102 := eq_true q102
        go_wp2_with (first | (go_at_call 46; (with_reducible refine (laws_eqInt64S.calls k1 _ _ (rd_L1 l0 x5_1) _ _ (rd_L1 l1 x5_1) true _ ?side1 ?side2 ?side3 ?side4 A7.o).mono ?_); (case side1 => repeat (first | exact HR101_0.o | (with_reducible refine Kd.C_alloc ?_ _) | (with_reducible refine Kd.C_drewN ?_ _) | (with_reducible refine Kd.C_drew ?_))); (case side2 => exact HC101_0.o); (case side3 => repeat (first | exact HR102_0.o | (with_reducible refine Kd.C_alloc ?_ _) | (with_reducible refine Kd.C_drewN ?_ _) | (with_reducible refine Kd.C_drew ?_))); (case side4 => exact HC102_0.o); rintro e w' ⟨rfl, ⟨nd, rfl⟩⟩; (try first | exact ⟨rfl, _, World.drewN_drewN _ _ _⟩ | exact ⟨rfl, _, Eq.trans (World.drewN_drewN _ _ _) (congrArg (World.drewN _) (Nat.add_assoc _ _ _))⟩)))
        repeat (go_quiet (first | (go_at_call 46; (with_reducible refine (laws_eqInt64S.calls k1 _ _ (rd_L1 l0 x5_1) _ _ (rd_L1 l1 x5_1) true _ ?side1 ?side2 ?side3 ?side4 A7.o).mono ?_); (case side1 => repeat (first | exact HR101_0.o | (with_reducible refine Kd.C_alloc ?_ _) | (with_reducible refine Kd.C_drewN ?_ _) | (with_reducible refine Kd.C_drew ?_))); (case side2 => exact HC101_0.o); (case side3 => repeat (first | exact HR102_0.o | (with_reducible refine Kd.C_alloc ?_ _) | (with_reducible refine Kd.C_drewN ?_ _) | (with_reducible refine Kd.C_drew ?_))); (case side4 => exact HC102_0.o); rintro e w' ⟨rfl, ⟨nd, rfl⟩⟩; (try first | exact ⟨rfl, _, World.drewN_drewN _ _ _⟩ | exact ⟨rfl, _, Eq.trans (World.drewN_drewN _ _ _) (congrArg (World.drewN _) (Nat.add_assoc _ _ _))⟩))); try go_wp2_with (first | (go_at_call 46; (with_reducible refine (laws_eqInt64S.calls k1 _ _ (rd_L1 l0 x5_1) _ _ (rd_L1 l1 x5_1) true _ ?side1 ?side2 ?side3 ?side4 A7.o).mono ?_); (case side1 => repeat (first | exact HR101_0.o | (with_reducible refine Kd.C_alloc ?_ _) | (with_reducible refine Kd.C_drewN ?_ _) | (with_reducible refine Kd.C_drew ?_))); (case side2 => exact HC101_0.o); (case side3 => repeat (first | exact HR102_0.o | (with_reducible refine Kd.C_alloc ?_ _) | (with_reducible refine Kd.C_drewN ?_ _) | (with_reducible refine Kd.C_drew ?_))); (case side4 => exact HC102_0.o); rintro e w' ⟨rfl, ⟨nd, rfl⟩⟩; (try first | exact ⟨rfl, _, World.drewN_drewN _ _ _⟩ | exact ⟨rfl, _, Eq.trans (World.drewN_drewN _ _ _) (congrArg (World.drewN _) (Nat.add_assoc _ _ _))⟩))))
        go_roundg k1
        case measure => have := HK1.o; omega
        case rel => exact ⟨(wrap64 (x5_1 + 1)), rs_, H', ⟨by have := HK1.o; omega⟩, by repeat (first | exact Drawn0.refl _ | apply Drawn0.step)⟩
       ·replace c8 := Bool.eq_false_iff.mpr c8; subst c8; rw [if_neg nft_] at H
        exact absurd H (by simp)
      ·rw [if_neg c6] at H
       exact absurd H (by simp)
     ·rw [if_neg c5] at H
      exact absurd H (by simp)
    ·rw [if_neg c4] at H; have c4b0 := df_ c4; clear c4; obtain rfl := Option.some.inj H
     go_wp2
     repeat (go_quiet (fail); try go_wp2)
     go_ret
     exact ⟨by first | rfl | (simp; done) | (simp [*]; done), by repeat (first | exact Drawn0.refl _ | apply Drawn0.step)⟩
 ·rw [if_neg c3] at H
  have c3b0 : ((l0.length : Int) == (l1.length : Int)) = false := beq_eq_false_iff_ne.mpr c3
  have c3b1 : ((l0.length : Int) != (l1.length : Int)) = true := bne_iff_ne.mpr c3
  have c3b2 : (l0.length == l1.length) = false := by first | simpa using c3 | (simp at c3 ⊢; omega)
  exact absurd H (by simp)
/-! ### laws_eqDfa: function 13 -/
def laws_eqDfa.f (k : Nat) (l0_0 : List Int) (l0_1 : List (List Int)) (l0_2 : List Int) (l1_0 : List Int) (l1_1 : List (List Int)) (l1_2 : List Int) : Option (Bool) := (laws_eqInt64S.f k l0_0 l1_0).bind fun t103 => (if t103 = true then ((laws_eqInt64SS.f k l0_1 l1_1).bind fun t104 => (if t104 = true then ((laws_eqInt64S.f k l0_2 l1_2).bind fun t105 => (if t105 = true then (some true) else (none))) else (none))) else (none))
theorem laws_eqDfa.calls (k : Nat) (A0_0 : Option Addr) (c0_0 : Nat) (l0_0 : List Int) (A0_1 : Option Addr) (c0_1 : Nat) (l0_1 : List (List Int)) (A0_2 : Option Addr) (c0_2 : Nat) (l0_2 : List Int) (A1_0 : Option Addr) (c1_0 : Nat) (l1_0 : List Int) (A1_1 : Option Addr) (c1_1 : Nat) (l1_1 : List (List Int)) (A1_2 : Option Addr) (c1_2 : Nat) (l1_2 : List Int) (r : Bool) (w : World) (hr0_0 : Kd.C (Kd.int .i64) w A0_0 l0_0.length l0_0) (hc0_0 : l0_0.length ≤ c0_0) (hr0_1 : Kd.C (Kd.slice 2 (Kd.int .i64)) w A0_1 l0_1.length l0_1) (hc0_1 : l0_1.length ≤ c0_1) (hr0_2 : Kd.C (Kd.int .i64) w A0_2 l0_2.length l0_2) (hc0_2 : l0_2.length ≤ c0_2) (hr1_0 : Kd.C (Kd.int .i64) w A1_0 l1_0.length l1_0) (hc1_0 : l1_0.length ≤ c1_0) (hr1_1 : Kd.C (Kd.slice 2 (Kd.int .i64)) w A1_1 l1_1.length l1_1) (hc1_1 : l1_1.length ≤ c1_1) (hr1_2 : Kd.C (Kd.int .i64) w A1_2 l1_2.length l1_2) (hc1_2 : l1_2.length ≤ c1_2) (h : laws_eqDfa.f k l0_0 l0_1 l0_2 l1_0 l1_1 l1_2 = some r) :
  Calls Try.prog 13 #[.agg #[.slice A0_0 l0_0.length c0_0, .slice A0_1 l0_1.length c0_1, .slice A0_2 l0_2.length c0_2], .agg #[.slice A1_0 l1_0.length c1_0, .slice A1_1 l1_1.length c1_1, .slice A1_2 l1_2.length c1_2]] w fun e w' => e = .returned (.bool r) ∧ Below w.heap.size w w' := by
 have hu32 := Try.underlying32; have HR0_0 := q_ hr0_0; have HC0_0 := q_ hc0_0; clear hr0_0 hc0_0; have HR0_1 := q_ hr0_1; have HC0_1 := q_ hc0_1; clear hr0_1 hc0_1; have HR0_2 := q_ hr0_2; have HC0_2 := q_ hc0_2; clear hr0_2 hc0_2; have HR1_0 := q_ hr1_0; have HC1_0 := q_ hc1_0; clear hr1_0 hc1_0; have HR1_1 := q_ hr1_1; have HC1_1 := q_ hc1_1; clear hr1_1 hc1_1; have HR1_2 := q_ hr1_2; have HC1_2 := q_ hc1_2; clear hr1_2 hc1_2; have HB := q_ (Below.refl w.heap.size w)
 have H : ((laws_eqInt64S.f k l0_0 l1_0).bind fun t103 => (if t103 = true then ((laws_eqInt64SS.f k l0_1 l1_1).bind fun t104 => (if t104 = true then ((laws_eqInt64S.f k l0_2 l1_2).bind fun t105 => (if t105 = true then (some true) else (none))) else (none))) else (none))) = some r := h
 clear h; obtain ⟨t103, A3, H⟩ := ob_ H
 by_cases c4 : t103 = true
 ·subst c4; rw [if_pos rfl] at H; obtain ⟨t104, A5, H⟩ := ob_ H
  by_cases c6 : t104 = true
  ·subst c6; rw [if_pos rfl] at H; obtain ⟨t105, A7, H⟩ := ob_ H
   by_cases c8 : t105 = true
   ·subst c8; rw [if_pos rfl] at H; obtain rfl := Option.some.inj H
    go_enter Try.func13, Try.ntmps13
    go_wp2_with (first | ((with_reducible refine gate_dst (N := 2) rfl ?_); refine bx_ 2 #[.slice A0_0 l0_0.length c0_0, .slice A0_1 l0_1.length c0_1, .slice A0_2 l0_2.length c0_2] 32 ?_; intro gb101 hg w9 hbox hb; have BK101 := q_ (hbox); have GE101 := ge_ hg HB; replace HB := sb_ HB hb; clear hb hbox hg) | ((with_reducible refine gate_dst (N := 3) rfl ?_); refine bx_ 3 #[.slice A1_0 l1_0.length c1_0, .slice A1_1 l1_1.length c1_1, .slice A1_2 l1_2.length c1_2] 32 ?_; intro gb102 hg w10 hbox hb; have BK102 := q_ (hbox); have GE102 := ge1_ hg HB GE101; have NB101_102 := nl_ hg BK101; have NB102_101 := ng_ hg BK101; replace BK101 := lb_ BK101 hb; replace HB := sb1_ HB GE101 hb; clear hb hbox hg; have hnb11 := NB101_102.o; have hnc11 := NB102_101.o; obtain ⟨hcz12_0, hcz12_1, hcz12_2, hfz12_0, hfz12_1, hfz12_2⟩ := d3_ BK101; obtain ⟨hcz13_0, hcz13_1, hcz13_2, hfz13_0, hfz13_1, hfz13_2⟩ := d3_ BK102) | ((with_reducible refine gate_callee (f := 46) rfl ?_); refine gl_ (some 9) rfl rfl Try.func46 #[.slice A0_0 l0_0.length c0_0, .slice A1_0 l1_0.length c1_0] ?_; (with_reducible refine (laws_eqInt64S.calls k _ _ l0_0 _ _ l1_0 true _ ?side1 ?side2 ?side3 ?side4 A3.o).mono ?_); (case side1 => exact Kd.C_below HR0_0.o (be_ HB.o)); (case side2 => exact HC0_0.o); (case side3 => exact Kd.C_below HR1_0.o (be_ HB.o)); (case side4 => exact HC1_0.o); rintro e w' ⟨rfl, ⟨nd, rfl⟩⟩; refine ⟨_, rfl, ?_⟩) | ((with_reducible refine gate_callee (f := 47) rfl ?_); refine gl_ (some 15) rfl rfl Try.func47 #[.slice A0_1 l0_1.length c0_1, .slice A1_1 l1_1.length c1_1] ?_; (with_reducible refine (laws_eqInt64SS.calls k _ _ l0_1 _ _ l1_1 true _ ?side1 ?side2 ?side3 ?side4 A5.o).mono ?_); (case side1 => repeat (first | exact (Kd.C_below HR0_1.o (be2_ HB.o GE101.o GE102.o)) | (with_reducible refine Kd.C_alloc ?_ _) | (with_reducible refine Kd.C_drewN ?_ _) | (with_reducible refine Kd.C_drew ?_))); (case side2 => exact HC0_1.o); (case side3 => repeat (first | exact (Kd.C_below HR1_1.o (be2_ HB.o GE101.o GE102.o)) | (with_reducible refine Kd.C_alloc ?_ _) | (with_reducible refine Kd.C_drewN ?_ _) | (with_reducible refine Kd.C_drew ?_))); (case side4 => exact HC1_1.o); rintro e w' ⟨rfl, ⟨nd, rfl⟩⟩; refine ⟨_, rfl, ?_⟩) | ((with_reducible refine gate_callee (f := 46) rfl ?_); refine gl_ (some 21) rfl rfl Try.func46 #[.slice A0_2 l0_2.length c0_2, .slice A1_2 l1_2.length c1_2] ?_; (with_reducible refine (laws_eqInt64S.calls k _ _ l0_2 _ _ l1_2 true _ ?side1 ?side2 ?side3 ?side4 A7.o).mono ?_); (case side1 => repeat (first | exact (Kd.C_below HR0_2.o (be2_ HB.o GE101.o GE102.o)) | (with_reducible refine Kd.C_alloc ?_ _) | (with_reducible refine Kd.C_drewN ?_ _) | (with_reducible refine Kd.C_drew ?_))); (case side2 => exact HC0_2.o); (case side3 => repeat (first | exact (Kd.C_below HR1_2.o (be2_ HB.o GE101.o GE102.o)) | (with_reducible refine Kd.C_alloc ?_ _) | (with_reducible refine Kd.C_drewN ?_ _) | (with_reducible refine Kd.C_drew ?_))); (case side4 => exact HC1_2.o); rintro e w' ⟨rfl, ⟨nd, rfl⟩⟩; refine ⟨_, rfl, ?_⟩))
    go_ret
    exact ⟨rt_, be2_ HB.o GE101.o GE102.o⟩
   ·replace c8 := Bool.eq_false_iff.mpr c8; subst c8; rw [if_neg nft_] at H
    exact absurd H (by simp)
  ·replace c6 := Bool.eq_false_iff.mpr c6; subst c6; rw [if_neg nft_] at H
   exact absurd H (by simp)
 ·replace c4 := Bool.eq_false_iff.mpr c4; subst c4; rw [if_neg nft_] at H
  exact absurd H (by simp)
end Go.Proofs.Ytlecpdpdcocibaa.P
namespace Go.Proofs.Ytlecpdpdcocibaa.P
open Go.RowKit Go.Proofs.YtlecpdpdcocibaaW.PrintWords Go.Proofs.YtlecpdpdcocibaaW.PrintLast Go.Proofs.YtlecpdpdcocibaaEv
set_option linter.unusedVariables false
set_option linter.unusedSimpArgs false
theorem get_rd1 (l : List (List Int)) (i : Nat) : l.getD i [] = rd_L1 l (i : Int) := by simp [rd_L1]
theorem laws_szInt64SS_ev (l : List (List Int)) (a : Int) (h0 : 0 ≤ a) (h1 : a ≤ 1048576) (hl : l.length ≤ 9223372036854775807) (hg : ∀ x ∈ l, x.length ≤ 9223372036854775807) : Ev (fun k => laws_szInt64SS.f k l a) (if a < ((l.length + ws List.length l : Nat) : Int) then -1 else a - ((l.length + ws List.length l : Nat) : Int)) := by
  unfold laws_szInt64SS.f
  rw [wrap_id (by omega) (by omega)]
  simp only [ev_ite]
  by_cases c0 : a - (l.length : Int) < 0
  · rw [if_pos c0]
    exact ev_some.2 (by rw [if_pos (by omega)])
  rw [if_neg c0]
  have key := down l.length (fun i => ∀ x1 : Int, 0 ≤ x1 → x1 ≤ 1048576 → Ev (fun k => laws_szInt64SS.l0 k l x1 (i : Nat)) (if x1 < ((ws List.length (l.drop i) : Nat) : Int) then -1 else x1 - ((ws List.length (l.drop i) : Nat) : Int))) ?_ ?_ 0 (by omega) (a - (l.length : Int)) (by omega) (by omega)
  · refine ev_congr key ?_
    rw [List.drop_zero]
    split <;> split <;> first | rfl | omega
  · intro x1 h0 h1
    rw [ev_succ]
    simp only [laws_szInt64SS.l0, ev_ite, ev_some]
    rw [if_neg (by omega), List.drop_length]
    simp [ws]
    omega
  · intro i hi ih x1 h0 h1
    rw [ev_succ, ws_drop List.length l [] i hi, get_rd1]
    have hgy : (rd_L1 l (i : Int)).length ≤ 9223372036854775807 := by
      rw [← get_rd1, List.getD_eq_getElem?_getD, List.getElem?_eq_getElem hi]
      exact hg _ (List.getElem_mem _)
    simp only [laws_szInt64SS.l0, ev_ite]
    rw [if_pos (by omega), if_pos (by omega), wrap_succ hi (by omega), laws_szInt64S_eq _ x1 hgy h0 h1]
    simp only [Option.bind_some, ev_ite]
    by_cases c : x1 < (((rd_L1 l (i : Int)).length : Nat) : Int)
    · simp only [if_pos c]
      rw [if_pos (by omega)]
      exact ev_some.2 (by rw [if_pos (by omega)])
    · simp only [if_neg c]
      rw [if_neg (by omega)]
      refine ev_congr (ih _ (by omega) (by omega)) ?_
      split <;> split <;> first | rfl | omega
theorem laws_toInt64SS_ev (l : List (List Int)) (hl : l.length + ws List.length l ≤ 1048576) : Ev (fun k => laws_toInt64SS.f k l) l := by
  unfold laws_toInt64SS.f
  simp only [ev_ite]
  rw [if_pos (by omega), if_pos (by omega)]
  have h := ev_loop l.length (fun k i => laws_toInt64SS.l0 k l (upTo id [] l i) (i : Nat)) (fun _ => l) ?_ ?_ 0 (by omega)
  · rw [upTo_zero] at h
    exact h
  · rw [ev_succ, upTo_all]
    simp [laws_toInt64SS.l0, ev_some]
  · intro i hi ih
    have hwi := ws_le List.length l [] i hi
    rw [get_rd1] at hwi
    rw [ev_succ]
    simp only [laws_toInt64SS.l0, ev_ite]
    rw [if_pos (by omega), if_pos (by omega), ev_bind (laws_toInt64S_ev _ (by omega)), ev_ite, if_pos (by rw [upTo_length _ _ _ _ (by omega)]; omega), wrap_succ hi (by omega)]
    have := upTo_set id ([] : List Int) l [] i hi
    rw [get_rd1] at this
    simp only [Int.toNat_natCast]
    simp only [id] at this ih ⊢
    rw [this]
    exact ih
theorem laws_eqInt64SS_ev (l : List (List Int)) (hl : l.length ≤ 9223372036854775807) (hh : ∀ x ∈ l, x.length ≤ 9223372036854775807) : Ev (fun k => laws_eqInt64SS.f k l l) true := by
  unfold laws_eqInt64SS.f
  simp only [ev_ite]
  rw [if_pos trivial]
  refine ev_loop l.length (fun k i => laws_eqInt64SS.l0 k l l (i : Nat)) (fun _ => true) ?_ ?_ 0 (by omega)
  · rw [ev_succ]
    simp [laws_eqInt64SS.l0, ev_some]
  · intro i hi ih
    have hgy : (rd_L1 l (i : Int)).length ≤ 9223372036854775807 := by
      rw [← get_rd1, List.getD_eq_getElem?_getD, List.getElem?_eq_getElem hi]
      exact hh _ (List.getElem_mem _)
    rw [ev_succ]
    simp only [laws_eqInt64SS.l0, ev_ite]
    rw [if_pos (by omega), if_pos (by omega), if_pos (by omega), ev_bind (laws_eqInt64S_ev _ hgy), ev_ite, if_pos rfl, wrap_succ hi (by omega)]
    exact ih
def szD (l0 : List Int) (l1 : List (List Int)) (l2 : List Int) : Nat := l0.length + (l1.length + ws List.length l1) + l2.length
theorem laws_szDfa_ev (l0 : List Int) (l1 : List (List Int)) (l2 : List Int) (a : Int) (h0 : 0 ≤ a) (h1 : a ≤ 1048576) (hl0 : l0.length ≤ 9223372036854775807) (hl1 : l1.length ≤ 9223372036854775807) (hl2 : l2.length ≤ 9223372036854775807) (hg : ∀ x ∈ l1, x.length ≤ 9223372036854775807) : Ev (fun k => laws_szDfa.f k l0 l1 l2 a) (if a < ((szD l0 l1 l2 : Nat) : Int) then -1 else a - ((szD l0 l1 l2 : Nat) : Int)) := by
  unfold laws_szDfa.f szD
  rw [laws_szInt64S_eq l0 a hl0 h0 h1, ev_bind_some]
  simp only [ev_ite]
  by_cases c0 : a < l0.length
  · simp only [if_pos c0]
    rw [if_pos (by omega), if_pos (by omega)]
    exact ev_some.2 rfl
  simp only [if_neg c0]
  rw [if_neg (by omega), ev_bind (laws_szInt64SS_ev l1 (a - l0.length) (by omega) (by omega) hl1 hg)]
  simp only [ev_ite]
  by_cases c1 : a - (l0.length : Int) < ((l1.length + ws List.length l1 : Nat) : Int)
  · simp only [if_pos c1]
    rw [if_pos (by omega), if_pos (by omega)]
    exact ev_some.2 rfl
  simp only [if_neg c1]
  rw [if_neg (by omega), laws_szInt64S_eq l2 _ hl2 (by omega) (by omega), ev_bind_some]
  simp only [ev_ite]
  by_cases c2 : a - (l0.length : Int) - ((l1.length + ws List.length l1 : Nat) : Int) < l2.length
  · simp only [if_pos c2]
    rw [if_pos (by omega), if_pos (by omega)]
    exact ev_some.2 rfl
  simp only [if_neg c2]
  rw [if_neg (by omega), if_neg (by omega)]
  exact ev_some.2 (by omega)
theorem laws_toDfa_ev (l0 : List Int) (l1 : List (List Int)) (l2 : List Int) (h : szD l0 l1 l2 ≤ 1048576) : Ev (fun k => laws_toDfa.f k l0 l1 l2) (l0, l1, l2) := by
  unfold szD at h
  unfold laws_toDfa.f
  rw [ev_bind (laws_toInt64S_ev l0 (by omega)), ev_bind (laws_toInt64SS_ev l1 (by omega)), ev_bind (laws_toInt64S_ev l2 (by omega))]
  exact ev_some.2 rfl
theorem laws_eqDfa_ev (l0 : List Int) (l1 : List (List Int)) (l2 : List Int) (hl0 : l0.length ≤ 9223372036854775807) (hl1 : l1.length ≤ 9223372036854775807) (hl2 : l2.length ≤ 9223372036854775807) (hg : ∀ x ∈ l1, x.length ≤ 9223372036854775807) : Ev (fun k => laws_eqDfa.f k l0 l1 l2 l0 l1 l2) true := by
  unfold laws_eqDfa.f
  rw [ev_bind (laws_eqInt64S_ev l0 hl0), ev_ite, if_pos rfl, ev_bind (laws_eqInt64SS_ev l1 hl1 hg), ev_ite, if_pos rfl, ev_bind (laws_eqInt64S_ev l2 hl2), ev_ite, if_pos rfl]
  exact ev_some.2 rfl
end Go.Proofs.Ytlecpdpdcocibaa.P
namespace Go.Proofs.Ytlecpdpdcocibaa.P
open Go.RowKit Go.Proofs.YtlecpdpdcocibaaW.PrintWords Go.Proofs.YtlecpdpdcocibaaW.PrintLast Go.Proofs.YtlecpdpdcocibaaW.PrintMore
attribute [local go_sem] max2_int min2_int max_two min_two max_three min_three max_four min_four
set_option linter.unusedVariables false
set_option linter.unusedSimpArgs false
/-! ### laws_markArmS: function 105 -/
def laws_markArmS.l0 : Nat → List (S81) → Int → Int → Option (Int × (List (S81)))
 | 0, _, _, _ => none
 | k + 1, x0, x1, x5 => if x5 < (x0.length : Int) then (if 0 ≤ x5 then ((some (x0.set (x5 : Int).toNat (⟨x1, (rd_T81 x0 x5).f1, (rd_T81 x0 x5).f2⟩ : S81) : List (S81))).bind fun y101 => ((some (y101.set (x5 : Int).toNat (⟨(rd_T81 y101 x5).f0, wrap64 (x1 + 1), (rd_T81 y101 x5).f2⟩ : S81) : List (S81))).bind fun y102 => (laws_markArmS.l0 k (y102.set (x5 : Int).toNat (⟨(rd_T81 y102 x5).f0, (rd_T81 y102 x5).f1, wrap64 ((wrap64 (x1 + 1)) + 1)⟩ : S81)) (wrap64 ((wrap64 ((wrap64 (x1 + 1)) + 1)) + 1)) (wrap64 (x5 + 1))))) else (none)) else (some (x1, x0))
def laws_markArmS.f (k : Nat) (l0 : List (S81)) (a1 : Int) : Option (Int × (List (S81))) := laws_markArmS.l0 k l0 a1 0
theorem laws_markArmS.calls (k : Nat) (P0_ : Nat → Prop) (u9000_ : Value) (l0 : List (S81)) (a1 : Int) (r1 : Int) (r2 : List (S81)) (w0 w : World) (hB : Below w0.heap.size w0 w) (ho0 : Kd.R k81 81 w w0.heap.size P0_ u9000_ l0) (h : laws_markArmS.f k l0 a1 = some (r1, r2)) :
  Calls Try.prog 105 #[u9000_, .int .i64 a1] w fun e w' => e = .returned (.int .i64 r1) ∧ Kd.R k81 81 w' w0.heap.size (fun k_ => (P0_ k_ ∨ w.heap.size ≤ k_)) u9000_ r2 ∧ Below w0.heap.size w0 w' ∧ Kept w w' (fun k_ => P0_ k_) := by
 have HO0 := q_ (show Kd.R k81 81 w w0.heap.size (fun k_ => (P0_ k_ ∨ w.heap.size ≤ k_)) u9000_ l0 from Kd.R_mono ho0 (fun k_ hk => (.inl hk)))
 have HK := q_ (Kept.refl w (fun k_ => P0_ k_))
 have HW0 := q_ hB.size; have HB := q_ hB; clear hB
 have H : (laws_markArmS.l0 k l0 a1 0) = some (r1, r2) := h
 clear h
 have H' := q_ H
 clear H
 go_enter Try.func105, Try.ntmps105
 go_wp2
 go_loopg [1, 5] k (fun kq v1 v5 w' => ∃ (x0_1 : List (S81)) (x1_1 : Int) (x5_1 : Int), v1 = .int .i64 x1_1 ∧ v5 = .int .i64 x5_1 ∧ J0 (laws_markArmS.l0 kq x0_1 x1_1 x5_1 = some (r1, r2)) ∧ J0 (kq ≤ k) ∧ J0 (Kd.R k81 81 w' w0.heap.size (fun k_ => (P0_ k_ ∨ w.heap.size ≤ k_)) u9000_ x0_1) ∧ J0 (Kept w w' (fun k_ => P0_ k_)) ∧ J0 (Below w0.heap.size w0 w'))
 case atStart => exact ⟨(l0), (a1), (0), rs_, rs_, H', ⟨Nat.le_refl _⟩, ⟨ra_ HO0.o⟩, ⟨by repeat (first | (with_reducible first | exact HK.o | apply Kept.alloc | apply Kept.drewN | apply Kept.drew) | exact HK.o)⟩, ⟨be_ HB.o⟩⟩
 case round =>
  clear H'; obtain ⟨x0_1, x1_1, x5_1, rfl, rfl, HA, HK1, HO_0, HK, HB⟩ := hrel
  cases gk with
  | zero => exact absurd HA.o (by simp [laws_markArmS.l0])
  | succ k1 =>
   have H := HA.o; clear HA
   simp only [laws_markArmS.l0] at H
   by_cases c3 : x5_1 < (x0_1.length : Int)
   ·rw [if_pos c3] at H; have c3b0 := dt_ c3; clear c3
    by_cases c4 : 0 ≤ x5_1
    ·rw [if_pos c4] at H; have c4b0 := dt_ c4; clear c4
     obtain ⟨y101, hy101⟩ : ∃ y_ : List (S81), y_ = (x0_1.set (x5_1 : Int).toNat (⟨x1_1, (rd_T81 x0_1 x5_1).f1, (rd_T81 x0_1 x5_1).f2⟩ : S81)) := ⟨_, rfl⟩
     replace H : ((some (y101.set (x5_1 : Int).toNat (⟨(rd_T81 y101 x5_1).f0, wrap64 (x1_1 + 1), (rd_T81 y101 x5_1).f2⟩ : S81) : List (S81))).bind fun y102 => (laws_markArmS.l0 k1 (y102.set (x5_1 : Int).toNat (⟨(rd_T81 y102 x5_1).f0, (rd_T81 y102 x5_1).f1, wrap64 ((wrap64 (x1_1 + 1)) + 1)⟩ : S81)) (wrap64 ((wrap64 ((wrap64 (x1_1 + 1)) + 1)) + 1)) (wrap64 (x5_1 + 1)))) = some (r1, r2) := by first | (rw [hy101]; with_reducible exact H) | (have H2_ := (Option.bind_some _ _).symm.trans H; rw [hy101]; with_reducible exact H2_) | (have H2_ := (Option.bind_some _ _).symm.trans H; with_reducible exact H2_) | with_reducible exact H | (rw [hy101]; exact H) | exact H
     have Ny101 := q_ hy101; clear hy101
     obtain ⟨y102, hy102⟩ : ∃ y_ : List (S81), y_ = (y101.set (x5_1 : Int).toNat (⟨(rd_T81 y101 x5_1).f0, wrap64 (x1_1 + 1), (rd_T81 y101 x5_1).f2⟩ : S81)) := ⟨_, rfl⟩
     replace H : (laws_markArmS.l0 k1 (y102.set (x5_1 : Int).toNat (⟨(rd_T81 y102 x5_1).f0, (rd_T81 y102 x5_1).f1, wrap64 ((wrap64 (x1_1 + 1)) + 1)⟩ : S81)) (wrap64 ((wrap64 ((wrap64 (x1_1 + 1)) + 1)) + 1)) (wrap64 (x5_1 + 1))) = some (r1, r2) := by first | (rw [hy102]; with_reducible exact H) | (have H2_ := (Option.bind_some _ _).symm.trans H; rw [hy102]; with_reducible exact H2_) | (have H2_ := (Option.bind_some _ _).symm.trans H; with_reducible exact H2_) | with_reducible exact H | (rw [hy102]; exact H) | exact H
     have Ny102 := q_ hy102; clear hy102
     obtain ⟨y103, hy103⟩ : ∃ y_ : List (S81), y_ = (y102.set (x5_1 : Int).toNat (⟨(rd_T81 y102 x5_1).f0, (rd_T81 y102 x5_1).f1, wrap64 ((wrap64 (x1_1 + 1)) + 1)⟩ : S81)) := ⟨_, rfl⟩
     replace H : (laws_markArmS.l0 k1 y103 (wrap64 ((wrap64 ((wrap64 (x1_1 + 1)) + 1)) + 1)) (wrap64 (x5_1 + 1))) = some (r1, r2) := by first | (rw [hy103]; with_reducible exact H) | (have H2_ := (Option.bind_some _ _).symm.trans H; rw [hy103]; with_reducible exact H2_) | (have H2_ := (Option.bind_some _ _).symm.trans H; with_reducible exact H2_) | with_reducible exact H | (rw [hy103]; exact H) | exact H
     have Ny103 := q_ hy103; clear hy103
     have H' := q_ H
     clear H; obtain ⟨Ao8, co8, eo8⟩ := Kd.R_slice HO_0.o; subst eo8
     have p5 : 0 ≤ (x5_1 : Int) := of_decide_eq_true as_
     have q5 : (x5_1 : Int) < ((x0_1.length : Int) : Int) := of_decide_eq_true as_
     obtain ⟨go5, co5, eo5, gb5, gl5, cl5, HG5⟩ := Kd.R_form HO_0.o (by omega)
     (first | cases eo5 | (injection eo5 with ea_ en_ ec_; (first | subst ea_ | (injection ea_ with ea_; subst ea_)); subst ec_; clear en_))
     have GB5 := q_ gb5; have GG5 := q_ HG5; clear gb5 gl5 HG5
     have HMgo5 := q_ (show (P0_ go5 ∨ w.heap.size ≤ go5) from (HO_0.o.1 _ rfl))
     obtain ⟨ce5, hcl5, hM5, hcc5, hfr5⟩ := Kd.R_elem HO_0.o z81 (x5_1 : Int) p5 q5
     obtain rfl := k81_openM hM5
     have hx5_0 : wr.cell? ⟨go5, (x5_1 : Int).toNat * 3, none⟩ = some (.int .i64 ((rd_T81 x0_1 x5_1).f0)) := hcc5 0 _ rfl
     have hx5_1 : wr.cell? ⟨go5, (x5_1 : Int).toNat * 3 + 1, none⟩ = some (.int .i64 ((rd_T81 x0_1 x5_1).f1)) := hcc5 1 _ rfl
     have hx5_2 : wr.cell? ⟨go5, (x5_1 : Int).toNat * 3 + 2, none⟩ = some (.int .i64 ((rd_T81 x0_1 x5_1).f2)) := hcc5 2 _ rfl
     have hf5_0 : wr.frozen? ⟨go5, (x5_1 : Int).toNat * 3, none⟩ = false := hfr5 0
     have hf5_1 : wr.frozen? ⟨go5, (x5_1 : Int).toNat * 3 + 1, none⟩ = false := hfr5 1
     have hf5_2 : wr.frozen? ⟨go5, (x5_1 : Int).toNat * 3 + 2, none⟩ = false := hfr5 2
     clear hcl5 hcc5 hfr5 hM5; replace p5 := eq_true p5; replace q5 := eq_true q5
     have HX9 := q_ (show Kd.R k81 81 wr w0.heap.size (fun k_ => (P0_ k_ ∨ w.heap.size ≤ k_)) (.slice (some ⟨go5, 0, none⟩) x0_1.length co8) x0_1 from (ra_ HO_0.o))
     obtain ⟨ce9, hcl9, hM9, hcc9, hfr9⟩ := Kd.R_elem HX9.o z81 (x5_1 : Int) (of_decide_eq_true as_) (by have h_ : (x5_1 : Int) < ((x0_1.length : Int) : Int) := of_decide_eq_true as_; first | exact h_ | (have e_ := (Kd.R_reads' HO_0.o).1; omega) | simpa using h_)
     obtain rfl := k81_openM hM9
     have HP9 := Kd.R_seg HX9.o (x5_1 : Int) (of_decide_eq_true as_) (by have h_ : (x5_1 : Int) < ((x0_1.length : Int) : Int) := of_decide_eq_true as_; first | exact h_ | (have e_ := (Kd.R_reads' HO_0.o).1; omega) | simpa using h_) (seg := [.int .i64 x1_1]) (j := 0) hcl9 hcc9 (show 1 ≤ 3 from by decide) (x' := (⟨x1_1, (rd_T81 x0_1 x5_1).f1, (rd_T81 x0_1 x5_1).f2⟩ : S81)) (k81_mkM _ _ _ (⟨x1_1, (rd_T81 x0_1 x5_1).f1, (rd_T81 x0_1 x5_1).f2⟩ : S81) ) (fun _ hk => hk)
     have hx9_0 := hcc9 0 _ rfl
     (try simp only [show (k81).sz = 3 from rfl, Nat.mul_one, Nat.add_zero] at hx9_0)
     have hf9_0 := hfr9 0
     (try simp only [show (k81).sz = 3 from rfl, Nat.mul_one, Nat.add_zero] at hf9_0)
     clear hcl9 hcc9 hfr9 hM9
     go_wp2_with (first | ((with_reducible refine gate_store (t := 2) (p := 16) rfl ?_); refine store_event (t := 2) (p := 16) (v := ?vo_w10) (w1 := (wr.setCell ⟨go5, (x5_1 : Int).toNat * 3, none⟩ (.int .i64 x1_1))) ?hg ?ho ?hn ?hr ?_; (case ho => rfl); (case hg => rfl); (case hn => rfl); (case hr => first | (go_simp; done) | (go_simp; rfl)); intro w10 hw; have hg : wr.grownBy w10 (some go5) := (by rw [hw]; exact HP9.2); have hp_ : Kd.R k81 81 w10 w0.heap.size (fun k_ => (P0_ k_ ∨ w.heap.size ≤ k_)) (.slice (some ⟨go5, 0, none⟩) x0_1.length co8) y101 := (by rw [hw, Ny101.o]; exact HP9.1); clear HP9; replace HB := q_ ((by rw [hw]; exact below_set (HB.o) GB5.out : Below w0.heap.size w0 w10)); replace HK := q_ (Kept.of_grown (S := (fun k_ => P0_ k_)) hg (by repeat (first | (with_reducible first | exact HK.o | apply Kept.alloc | apply Kept.drewN | apply Kept.drew) | exact HK.o)) (fun k_ e_ => (HO_0.o.1 k_ e_))); replace HO_0 := q_ (hp_); clear hg hw hp_; have p6 : 0 ≤ (x5_1 : Int) := of_decide_eq_true as_; have q6 : (x5_1 : Int) < ((x0_1.length : Int) : Int) := of_decide_eq_true as_; obtain ⟨ce6, hcl6, hM6, hcc6, hfr6⟩ := Kd.R_elem HO_0.o z81 (x5_1 : Int) p6 q6; obtain rfl := k81_openM hM6; have hx6_0 : w10.cell? ⟨go5, (x5_1 : Int).toNat * 3, none⟩ = some (.int .i64 ((rd_T81 y101 x5_1).f0)) := hcc6 0 _ rfl; have hx6_1 : w10.cell? ⟨go5, (x5_1 : Int).toNat * 3 + 1, none⟩ = some (.int .i64 ((rd_T81 y101 x5_1).f1)) := hcc6 1 _ rfl; have hx6_2 : w10.cell? ⟨go5, (x5_1 : Int).toNat * 3 + 2, none⟩ = some (.int .i64 ((rd_T81 y101 x5_1).f2)) := hcc6 2 _ rfl; have hf6_0 : w10.frozen? ⟨go5, (x5_1 : Int).toNat * 3, none⟩ = false := hfr6 0; have hf6_1 : w10.frozen? ⟨go5, (x5_1 : Int).toNat * 3 + 1, none⟩ = false := hfr6 1; have hf6_2 : w10.frozen? ⟨go5, (x5_1 : Int).toNat * 3 + 2, none⟩ = false := hfr6 2; (try clear hM6); clear hcl6 hcc6 hfr6; replace p6 := eq_true p6; replace q6 := eq_true q6; have HX11 := q_ (show Kd.R k81 81 w10 w0.heap.size (fun k_ => (P0_ k_ ∨ w.heap.size ≤ k_)) (.slice (some ⟨go5, 0, none⟩) x0_1.length co8) y101 from (ra_ HO_0.o)); obtain ⟨ce11, hcl11, hM11, hcc11, hfr11⟩ := Kd.R_elem HX11.o z81 (x5_1 : Int) (of_decide_eq_true as_) (by have h_ : (x5_1 : Int) < ((x0_1.length : Int) : Int) := of_decide_eq_true as_; first | exact h_ | (have e_ := (Kd.R_reads' HO_0.o).1; omega) | simpa using h_); obtain rfl := k81_openM hM11; have HP11 := Kd.R_seg HX11.o (x5_1 : Int) (of_decide_eq_true as_) (by have h_ : (x5_1 : Int) < ((x0_1.length : Int) : Int) := of_decide_eq_true as_; first | exact h_ | (have e_ := (Kd.R_reads' HO_0.o).1; omega) | simpa using h_) (seg := [.int .i64 (wrap64 (x1_1 + 1))]) (j := 1) hcl11 hcc11 (show 2 ≤ 3 from by decide) (x' := (⟨(rd_T81 y101 x5_1).f0, wrap64 (x1_1 + 1), (rd_T81 y101 x5_1).f2⟩ : S81)) (k81_mkM _ _ _ (⟨(rd_T81 y101 x5_1).f0, wrap64 (x1_1 + 1), (rd_T81 y101 x5_1).f2⟩ : S81) ) (fun _ hk => hk); have hx11_1 := hcc11 1 _ rfl; (try simp only [show (k81).sz = 3 from rfl, Nat.mul_one, Nat.add_zero] at hx11_1); have hf11_1 := hfr11 1; (try simp only [show (k81).sz = 3 from rfl, Nat.mul_one, Nat.add_zero] at hf11_1); (try clear hM11); clear hcl11 hcc11 hfr11) | ((with_reducible refine gate_store (t := 2) (p := 23) rfl ?_); refine store_event (t := 2) (p := 23) (v := ?vo_w12) (w1 := (w10.setCell ⟨go5, (x5_1 : Int).toNat * 3 + 1, none⟩ (.int .i64 (wrap64 (x1_1 + 1))))) ?hg ?ho ?hn ?hr ?_; (case ho => rfl); (case hg => rfl); (case hn => rfl); (case hr => first | (go_simp; done) | (go_simp; rfl)); intro w12 hw; have hg : w10.grownBy w12 (some go5) := (by rw [hw]; exact HP11.2); have hp_ : Kd.R k81 81 w12 w0.heap.size (fun k_ => (P0_ k_ ∨ w.heap.size ≤ k_)) (.slice (some ⟨go5, 0, none⟩) x0_1.length co8) y102 := (by rw [hw, Ny102.o]; exact HP11.1); clear HP11; replace HB := q_ ((by rw [hw]; exact below_set (HB.o) GB5.out : Below w0.heap.size w0 w12)); replace HK := q_ (Kept.of_grown (S := (fun k_ => P0_ k_)) hg (by repeat (first | (with_reducible first | exact HK.o | apply Kept.alloc | apply Kept.drewN | apply Kept.drew) | exact HK.o)) (fun k_ e_ => (HO_0.o.1 k_ e_))); replace HO_0 := q_ (hp_); clear hg hw hp_; have p7 : 0 ≤ (x5_1 : Int) := of_decide_eq_true as_; have q7 : (x5_1 : Int) < ((x0_1.length : Int) : Int) := of_decide_eq_true as_; obtain ⟨ce7, hcl7, hM7, hcc7, hfr7⟩ := Kd.R_elem HO_0.o z81 (x5_1 : Int) p7 q7; obtain rfl := k81_openM hM7; have hx7_0 : w12.cell? ⟨go5, (x5_1 : Int).toNat * 3, none⟩ = some (.int .i64 ((rd_T81 y102 x5_1).f0)) := hcc7 0 _ rfl; have hx7_1 : w12.cell? ⟨go5, (x5_1 : Int).toNat * 3 + 1, none⟩ = some (.int .i64 ((rd_T81 y102 x5_1).f1)) := hcc7 1 _ rfl; have hx7_2 : w12.cell? ⟨go5, (x5_1 : Int).toNat * 3 + 2, none⟩ = some (.int .i64 ((rd_T81 y102 x5_1).f2)) := hcc7 2 _ rfl; have hf7_0 : w12.frozen? ⟨go5, (x5_1 : Int).toNat * 3, none⟩ = false := hfr7 0; have hf7_1 : w12.frozen? ⟨go5, (x5_1 : Int).toNat * 3 + 1, none⟩ = false := hfr7 1; have hf7_2 : w12.frozen? ⟨go5, (x5_1 : Int).toNat * 3 + 2, none⟩ = false := hfr7 2; (try clear hM7); clear hcl7 hcc7 hfr7; replace p7 := eq_true p7; replace q7 := eq_true q7; have HX13 := q_ (show Kd.R k81 81 w12 w0.heap.size (fun k_ => (P0_ k_ ∨ w.heap.size ≤ k_)) (.slice (some ⟨go5, 0, none⟩) x0_1.length co8) y102 from (ra_ HO_0.o)); obtain ⟨ce13, hcl13, hM13, hcc13, hfr13⟩ := Kd.R_elem HX13.o z81 (x5_1 : Int) (of_decide_eq_true as_) (by have h_ : (x5_1 : Int) < ((x0_1.length : Int) : Int) := of_decide_eq_true as_; first | exact h_ | (have e_ := (Kd.R_reads' HO_0.o).1; omega) | simpa using h_); obtain rfl := k81_openM hM13; have HP13 := Kd.R_seg HX13.o (x5_1 : Int) (of_decide_eq_true as_) (by have h_ : (x5_1 : Int) < ((x0_1.length : Int) : Int) := of_decide_eq_true as_; first | exact h_ | (have e_ := (Kd.R_reads' HO_0.o).1; omega) | simpa using h_) (seg := [.int .i64 (wrap64 ((wrap64 (x1_1 + 1)) + 1))]) (j := 2) hcl13 hcc13 (show 3 ≤ 3 from by decide) (x' := (⟨(rd_T81 y102 x5_1).f0, (rd_T81 y102 x5_1).f1, wrap64 ((wrap64 (x1_1 + 1)) + 1)⟩ : S81)) (k81_mkM _ _ _ (⟨(rd_T81 y102 x5_1).f0, (rd_T81 y102 x5_1).f1, wrap64 ((wrap64 (x1_1 + 1)) + 1)⟩ : S81) ) (fun _ hk => hk); have hx13_2 := hcc13 2 _ rfl; (try simp only [show (k81).sz = 3 from rfl, Nat.mul_one, Nat.add_zero] at hx13_2); have hf13_2 := hfr13 2; (try simp only [show (k81).sz = 3 from rfl, Nat.mul_one, Nat.add_zero] at hf13_2); (try clear hM13); clear hcl13 hcc13 hfr13) | ((with_reducible refine gate_store (t := 2) (p := 30) rfl ?_); refine store_event (t := 2) (p := 30) (v := ?vo_w14) (w1 := (w12.setCell ⟨go5, (x5_1 : Int).toNat * 3 + 2, none⟩ (.int .i64 (wrap64 ((wrap64 (x1_1 + 1)) + 1))))) ?hg ?ho ?hn ?hr ?_; (case ho => rfl); (case hg => rfl); (case hn => rfl); (case hr => first | (go_simp; done) | (go_simp; rfl)); intro w14 hw; have hg : w12.grownBy w14 (some go5) := (by rw [hw]; exact HP13.2); have hp_ : Kd.R k81 81 w14 w0.heap.size (fun k_ => (P0_ k_ ∨ w.heap.size ≤ k_)) (.slice (some ⟨go5, 0, none⟩) x0_1.length co8) y103 := (by rw [hw, Ny103.o]; exact HP13.1); clear HP13; replace HB := q_ ((by rw [hw]; exact below_set (HB.o) GB5.out : Below w0.heap.size w0 w14)); replace HK := q_ (Kept.of_grown (S := (fun k_ => P0_ k_)) hg (by repeat (first | (with_reducible first | exact HK.o | apply Kept.alloc | apply Kept.drewN | apply Kept.drew) | exact HK.o)) (fun k_ e_ => (HO_0.o.1 k_ e_))); replace HO_0 := q_ (hp_); clear hg hw hp_))
     go_roundg k1
     case measure => have := HK1.o; omega
     case rel => exact ⟨(y103), (wrap64 ((wrap64 ((wrap64 (x1_1 + 1)) + 1)) + 1)), (wrap64 (x5_1 + 1)), rs_, rs_, H', ⟨by have := HK1.o; omega⟩, ⟨ra_ HO_0.o⟩, ⟨by repeat (first | (with_reducible first | exact HK.o | apply Kept.alloc | apply Kept.drewN | apply Kept.drew) | exact HK.o)⟩, ⟨be_ HB.o⟩⟩
    ·rw [if_neg c4] at H
     exact absurd H (by simp)
   ·rw [if_neg c3] at H; have c3b0 := df_ c3; clear c3
    simp only [Option.some.injEq, Prod.mk.injEq] at H
    obtain ⟨rfl, rfl⟩ := H; obtain ⟨Ao15, co15, eo15⟩ := Kd.R_slice HO_0.o; subst eo15
    go_wp2
    go_ret
    exact ⟨rt_, ra_ HO_0.o, be_ HB.o, by repeat (first | (with_reducible first | exact HK.o | apply Kept.alloc | apply Kept.drewN | apply Kept.drew) | exact HK.o)⟩
end Go.Proofs.Ytlecpdpdcocibaa.P
namespace Go.Proofs.Ytlecpdpdcocibaa.P
open Go.RowKit Go.Proofs.YtlecpdpdcocibaaW.PrintWords Go.Proofs.YtlecpdpdcocibaaW.PrintLast Go.Proofs.YtlecpdpdcocibaaEv
set_option linter.unusedVariables false
set_option linter.unusedSimpArgs false
def mkArm (a : Int) (j : Nat) : S81 := ⟨a + 3 * (j : Int), a + 3 * (j : Int) + 1, a + 3 * (j : Int) + 2⟩
theorem rd_T81_set (l : List S81) (i : Nat) (v : S81) (h : i < l.length) : rd_T81 (l.set i v) (i : Int) = v := by
  simp [rd_T81, h]
theorem laws_markArmS_ev (l : List S81) (a : Int) (h0 : 0 ≤ a) (h1 : a + 3 * l.length ≤ 9000000000000000000) : Ev (fun k => laws_markArmS.f k l a) (a + 3 * l.length, (List.range l.length).map (mkArm a)) := by
  unfold laws_markArmS.f
  have h := ev_loop l.length (fun k i => laws_markArmS.l0 k (marked (mkArm a) l i) (a + 3 * (i : Int)) (i : Nat)) (fun _ => (a + 3 * l.length, (List.range l.length).map (mkArm a))) ?_ ?_ 0 (by omega)
  · simpa [marked] using h
  · rw [ev_succ]
    simp [laws_markArmS.l0, ev_some, marked]
  · intro i hi ih
    rw [ev_succ]
    have hl : (marked (mkArm a) l i).length = l.length := marked_length _ _ _ (by omega)
    simp only [laws_markArmS.l0, Option.bind_some, ev_ite, hl, Int.toNat_natCast]
    rw [if_pos (by omega), if_pos (by omega)]
    simp only [rd_T81_set, List.length_set, hl, hi, List.set_set]
    rw [wrap_succ hi (by omega)]
    have e : ∀ x : Int, 0 ≤ x → x ≤ 9000000000000000100 → wrap64 (x + 1) = x + 1 := fun x hx hy => wrap_id (by omega) (by omega)
    rw [e _ (by omega) (by omega)]
    repeat rw [e _ (by omega) (by omega)]
    have hm := marked_set (mkArm a) l i hi
    have ih' : Ev (fun k => laws_markArmS.l0 k (marked (mkArm a) l (i + 1)) (a + 3 * ((i + 1 : Nat) : Int)) ((i + 1 : Nat) : Int)) _ := ih
    rw [← hm, show a + 3 * ((i + 1 : Nat) : Int) = a + 3 * (i : Int) + 3 by omega] at ih'
    simpa [mkArm, Int.add_assoc] using ih'
end Go.Proofs.Ytlecpdpdcocibaa.P
namespace Go.Proofs.Ytlecpdpdcocibaa.P
open Go.RowKit Go.Proofs.YtlecpdpdcocibaaW.PrintWords Go.Proofs.YtlecpdpdcocibaaW.PrintLast Go.Proofs.YtlecpdpdcocibaaW.PrintMore Go.Proofs.YtlecpdpdcocibaaEv
set_option linter.unusedVariables false
set_option linter.unusedSimpArgs false
def mcB (x : S79) : Nat := 2 + 3 * x.f1.length
def mkB (a : Int) (x : S79) : S79 := ⟨a, (List.range x.f1.length).map (mkArm (a + 1)), a + 1 + 3 * x.f1.length⟩
def cntB : List S79 → Nat
  | [] => 0
  | x :: xs => mcB x + cntB xs
def mkBs : List S79 → Int → List S79
  | [], _ => []
  | x :: xs, a => mkB a x :: mkBs xs (a + mcB x)
theorem mkBs_length : ∀ (l : List S79) (a : Int), (mkBs l a).length = l.length
  | [], _ => rfl
  | x :: xs, a => by simp [mkBs, mkBs_length xs]
theorem cntB_take : ∀ (l : List S79) (i : Nat) (h : i < l.length), cntB (l.take (i + 1)) = cntB (l.take i) + mcB l[i]
  | x :: xs, 0, _ => by simp [cntB]
  | x :: xs, i + 1, h => by
    simp only [List.take_succ_cons, cntB, List.getElem_cons_succ]
    rw [cntB_take xs i (by simpa using h)]
    omega
theorem mkBs_get : ∀ (l : List S79) (a : Int) (i : Nat) (h : i < l.length), (mkBs l a)[i]? = some (mkB (a + cntB (l.take i)) l[i])
  | x :: xs, a, 0, _ => by simp [mkBs, cntB]
  | x :: xs, a, i + 1, h => by
    simp only [List.take_succ_cons, cntB, List.getElem_cons_succ, mkBs, List.getElem?_cons_succ]
    rw [mkBs_get xs _ i (by simpa using h), show a + (mcB x : Int) + (cntB (xs.take i) : Nat) = a + ((mcB x + cntB (xs.take i) : Nat) : Int) by omega]
theorem cntB_le (l : List S79) (i : Nat) : cntB (l.take i) ≤ cntB l := by
  induction l generalizing i with
  | nil => simp [cntB]
  | cons x xs ih =>
    cases i with
    | zero => simp [cntB]
    | succ i => simp only [List.take_succ_cons, cntB]; have := ih i; omega
theorem markCBlockS_walk (P0_ : Nat → Prop) (u : Value) (l0 : List S79) (a1 : Int) (h0 : 0 ≤ a1) (h1 : a1 + cntB l0 ≤ 9000000000000000000) (hlen : (l0.length : Int) ≤ 9000000000000000000) (w0 w : World) (hB : Below w0.heap.size w0 w) (ho0 : Kd.S k79 79 w w0.heap.size P0_ u l0) :
    Calls Try.prog 50 #[u, .int .i64 a1] w fun e w' => e = .returned (.int .i64 (a1 + cntB l0)) ∧ Kd.S k79 79 w' w0.heap.size P0_ u (mkBs l0 a1) ∧ Below w0.heap.size w0 w' ∧ Kept w w' P0_ := by
  have hln := mkBs_length l0 a1
  obtain ⟨A, c, rfl⟩ := Kd.S_slice ho0
  have HO := q_ ho0
  have HB := q_ hB
  go_enter Try.func50, Try.ntmps50
  go_wp2
  go_loopg [1, 5] l0.length (fun gg v1 v5 w' => ∃ kk : Nat, kk ≤ l0.length ∧ l0.length - kk ≤ gg ∧ v1 = .int .i64 (a1 + cntB (l0.take kk)) ∧ v5 = .int .i64 kk ∧ J0 (Kd.S k79 79 w' w0.heap.size P0_ (.slice A l0.length c) (part (mkBs l0 a1) l0 kk)) ∧ J0 (Below w0.heap.size w0 w') ∧ J0 (Kept w w' P0_))
  case atStart => exact ⟨0, Nat.zero_le _, by omega, by simp [cntB], rfl, by simpa [part] using HO, HB, ⟨Kept.refl _ _⟩⟩
  case round =>
    obtain ⟨kk, hkk, hg, rfl, rfl, HS, HB2, HK⟩ := hrel
    by_cases hlt : kk < l0.length
    · have hltz : (kk : Int) < (l0.length : Int) := by omega
      obtain ⟨g, cap, hv, hgw, _, _⟩ := Kd.S_form HS.o (by rw [part_length _ _ _ hln]; omega)
      have hA : A = some ⟨g, 0, none⟩ := by injection hv
      subst hA
      obtain ⟨oki, ce, hcl, hM, hcc, hfr, hoki, hH⟩ := Kd.S_elem HS.o z79 (kk : Int) (by omega) hltz
      rw [Int.toNat_natCast, part_get _ _ _ _ hln hlt] at hM
      obtain ⟨v1, rfl, hR⟩ := k79_openM hM
      obtain ⟨A1, c1, rfl⟩ := Kd.R_slice hR
      have hx0 : wr.cell? ⟨g, kk * 3, none⟩ = some (.int .i64 l0[kk].f0) := hcc 0 _ rfl
      have hx1 : wr.cell? ⟨g, kk * 3 + 1, none⟩ = some (.slice A1 l0[kk].f1.length c1) := hcc 1 _ rfl
      have hx2 : wr.cell? ⟨g, kk * 3 + 2, none⟩ = some (.int .i64 l0[kk].f2) := hcc 2 _ rfl
      have hf0 : wr.frozen? ⟨g, kk * 3, none⟩ = false := hfr 0
      have hf1 : wr.frozen? ⟨g, kk * 3 + 1, none⟩ = false := hfr 1
      have hf2 : wr.frozen? ⟨g, kk * 3 + 2, none⟩ = false := hfr 2
      have HR := q_ hR
      have HH := q_ hH
      have HI := q_ hoki
      have hcnt := cntB_take l0 kk hlt
      have hcle := cntB_le l0 (kk + 1)
      have hmk := q_ (mkBs_get l0 a1 kk hlt)
      obtain ⟨K, hK⟩ : ∃ K : Int, a1 + cntB (l0.take kk) = K := ⟨_, rfl⟩
      have hK1 : K + 2 + 3 * l0[kk].f1.length = a1 + cntB (l0.take (kk + 1)) := by rw [hcnt, ← hK]; unfold mcB; omega
      obtain ⟨k, hev⟩ := ev_get (laws_markArmS_ev l0[kk].f1 (K + 1) (by omega) (by omega))
      have HE := q_ hev
      clear hH hR hoki hcc hfr hcl hev hv hM
      rw [hK]
      have w1 : IntKind.i64.wrap (K + 1) = K + 1 := by rw [i64_w]; exact wrap_id (by omega) (by omega)
      have HP := q_ ((Kd.S_R HS.o).1 g rfl)
      have T1 : J0 True := ⟨trivial⟩
      have T2 : J0 True := ⟨trivial⟩
      go_wp2_with ((with_reducible refine gate_store (t := 2) (p := 16) rfl ?_); clear T1; refine store_event (t := 2) (p := 16) (v := ?vo_w10) (w1 := (wr.setCell ⟨g, kk * 3, none⟩ (.int .i64 K))) ?hg ?ho ?hn ?hr ?_; (case ho => rfl); (case hg => rfl); (case hn => rfl); (case hr => first | (go_simp; done) | (go_simp; rfl)); intro w10 hw; have hs := H_put HH.o (by omega) hltz 0 (.int .i64 K) (by decide) rfl; have hg1 : wr.grownBy w10 (some g) := (by rw [hw]; exact hs.2); replace HH := q_ (show Kd.H k79 79 w10 w0.heap.size P0_ (.slice (some ⟨g, 0, none⟩) l0.length c) (part (mkBs l0 a1) l0 kk) (kk : Int) oki [.int .i64 K, .slice A1 l0[kk].f1.length c1, .int .i64 l0[kk].f2] from (by rw [hw]; exact hs.1)); clear hs; replace HR := q_ (Kd.R_grown HR.o hg1 (fun k hk he => (HI.o k hk).2 (by injection he))); replace HB2 := q_ (show Below w0.heap.size w0 w10 from (by rw [hw]; exact below_set HB2.o hgw)); replace HK := q_ (Kept.of_grown hg1 HK.o (fun k he => .inl (by injection he with he; rw [← he]; exact HP.out))); clear hg1 hw; have hx1 : w10.cell? ⟨g, kk * 3 + 1, none⟩ = some (.slice A1 l0[kk].f1.length c1) := (Kd.H_at HH.o (by omega) hltz).1 1 _ rfl; have hf2 : w10.frozen? ⟨g, kk * 3 + 2, none⟩ = false := (Kd.H_at HH.o (by omega) hltz).2 2)
      go_wp2_with (go_at_call 105; clear T2; refine (laws_markArmS.calls k oki _ l0[kk].f1 _ _ _ w0 _ HB2.o HR.o HE.o).mono ?_; rintro e w11 ⟨rfl, hR2, hB3, hK2⟩; replace HK := q_ (HK.o.then_ hK2 (fun k hk => .inl (HI.o k hk).1)); replace HH := q_ (Kd.H_step HH.o (fun k _ hn hlt => hK2.2 k hlt hn)); replace HB2 := q_ hB3; replace HR := q_ (Kd.R_mono (Kd.R_tight rfl hR2) (fun k hk => HR.o.1 k hk.symm)); clear hR2 hK2 hB3; have hx2 : w11.cell? ⟨g, kk * 3 + 2, none⟩ = some (.int .i64 l0[kk].f2) := (Kd.H_at HH.o (by omega) hltz).1 2 _ rfl; have hf2 : w11.frozen? ⟨g, kk * 3 + 2, none⟩ = false := (Kd.H_at HH.o (by omega) hltz).2 2)
      have w2 : IntKind.i64.wrap (K + 1 + 3 * l0[kk].f1.length + 1) = K + 1 + 3 * l0[kk].f1.length + 1 := by rw [i64_w]; exact wrap_id (by omega) (by omega)
      go_roundg (l0.length - (kk + 1))
      case measure => omega
      case rel =>
        have hs := H_put HH.o (by omega) hltz 2 (.int .i64 (K + 1 + 3 * l0[kk].f1.length)) (by decide) rfl
        have hR2 := Kd.R_grown HR.o hs.2 (fun k hk he => (HI.o k hk).2 (by injection he))
        refine ⟨kk + 1, by omega, by omega, ?_, by go_num, ⟨?_⟩, ⟨below_set HB2.o hgw⟩, ⟨Kept.of_grown hs.2 HK.o (fun k he => .inl (by injection he with he; rw [← he]; exact HP.out))⟩⟩
        · rw [← hK1]
          congr 1
          omega
        · have hS := Kd.H_back (okp := oki) hs.1 (x' := mkB K l0[kk]) (k79_mkM _ _ _ (mkB K l0[kk]) (show Kd.R k81 81 _ _ oki (.slice A1 l0[kk].f1.length c1) ((List.range l0[kk].f1.length).map (mkArm (K + 1))) from hR2)) (fun _ hk => hk)
          rw [Int.toNat_natCast, part_set _ _ _ hln hlt (by rw [← hK]; exact hmk.o)] at hS
          exact hS
    · have hltz : ¬ (kk : Int) < (l0.length : Int) := by omega
      have hk : kk = l0.length := by omega
      subst hk
      go_wp2
      go_ret
      have hS := HS.o
      rw [part_all _ _ hln] at hS
      exact ⟨rfl, hS, HB2.o, HK.o⟩
end Go.Proofs.Ytlecpdpdcocibaa.P
namespace Go.Proofs.Ytlecpdpdcocibaa.P
open Go.RowKit Go.Proofs.YtlecpdpdcocibaaW.PrintWords Go.Proofs.YtlecpdpdcocibaaW.PrintLast Go.Proofs.YtlecpdpdcocibaaW.PrintMore
attribute [local go_sem] max2_int min2_int max_two min_two max_three min_three max_four min_four
set_option linter.unusedVariables false
set_option linter.unusedSimpArgs false
/-! ### laws_eqArm: function 142 -/
def laws_eqArm.f (a0_0 : Int) (a0_1 : Int) (a0_2 : Int) (a1_0 : Int) (a1_1 : Int) (a1_2 : Int) : Option (Bool) := if a0_0 = a1_0 then (if a0_1 = a1_1 then (if a0_2 = a1_2 then (some true) else (none)) else (none)) else (none)
theorem laws_eqArm.calls (a0_0 : Int) (a0_1 : Int) (a0_2 : Int) (a1_0 : Int) (a1_1 : Int) (a1_2 : Int) (r : Bool) (w : World) (h : laws_eqArm.f a0_0 a0_1 a0_2 a1_0 a1_1 a1_2 = some r) :
  Calls Try.prog 142 #[.agg #[.int .i64 a0_0, .int .i64 a0_1, .int .i64 a0_2], .agg #[.int .i64 a1_0, .int .i64 a1_1, .int .i64 a1_2]] w fun e w' => e = .returned (.bool r) ∧ Below w.heap.size w w' := by
 have hu81 := Try.underlying81; have HB := q_ (Below.refl w.heap.size w)
 have H : (if a0_0 = a1_0 then (if a0_1 = a1_1 then (if a0_2 = a1_2 then (some true) else (none)) else (none)) else (none)) = some r := h
 clear h
 by_cases c3 : a0_0 = a1_0
 ·rw [if_pos c3] at H
  have c3b0 : (a0_0 == a1_0) = true := beq_iff_eq.mpr c3
  have c3b1 : (a0_0 != a1_0) = false := bne_eq_false_iff_eq.mpr c3
  clear c3
  by_cases c4 : a0_1 = a1_1
  ·rw [if_pos c4] at H
   have c4b0 : (a0_1 == a1_1) = true := beq_iff_eq.mpr c4
   have c4b1 : (a0_1 != a1_1) = false := bne_eq_false_iff_eq.mpr c4
   clear c4
   by_cases c5 : a0_2 = a1_2
   ·rw [if_pos c5] at H
    have c5b0 : (a0_2 == a1_2) = true := beq_iff_eq.mpr c5
    have c5b1 : (a0_2 != a1_2) = false := bne_eq_false_iff_eq.mpr c5
    clear c5; obtain rfl := Option.some.inj H
    go_enter Try.func142, Try.ntmps142
    go_wp2_with (first | ((with_reducible refine gate_dst (N := 2) rfl ?_); refine bx_ 2 #[.int .i64 a0_0, .int .i64 a0_1, .int .i64 a0_2] 81 ?_; intro gb101 hg w6 hbox hb; have BK101 := q_ (hbox); have GE101 := ge_ hg HB; replace HB := sb_ HB hb; clear hb hbox hg) | ((with_reducible refine gate_dst (N := 3) rfl ?_); refine bx_ 3 #[.int .i64 a1_0, .int .i64 a1_1, .int .i64 a1_2] 81 ?_; intro gb102 hg w7 hbox hb; have BK102 := q_ (hbox); have GE102 := ge1_ hg HB GE101; have NB101_102 := nl_ hg BK101; have NB102_101 := ng_ hg BK101; replace BK101 := lb_ BK101 hb; replace HB := sb1_ HB GE101 hb; clear hb hbox hg; have hnb8 := NB101_102.o; have hnc8 := NB102_101.o; obtain ⟨hcz9_0, hcz9_1, hcz9_2, hfz9_0, hfz9_1, hfz9_2⟩ := d3_ BK101; obtain ⟨hcz10_0, hcz10_1, hcz10_2, hfz10_0, hfz10_1, hfz10_2⟩ := d3_ BK102))
    go_ret
    exact ⟨rt_, be2_ HB.o GE101.o GE102.o⟩
   ·rw [if_neg c5] at H
    have c5b0 : (a0_2 == a1_2) = false := beq_eq_false_iff_ne.mpr c5
    have c5b1 : (a0_2 != a1_2) = true := bne_iff_ne.mpr c5
    exact absurd H (by simp)
  ·rw [if_neg c4] at H
   have c4b0 : (a0_1 == a1_1) = false := beq_eq_false_iff_ne.mpr c4
   have c4b1 : (a0_1 != a1_1) = true := bne_iff_ne.mpr c4
   exact absurd H (by simp)
 ·rw [if_neg c3] at H
  have c3b0 : (a0_0 == a1_0) = false := beq_eq_false_iff_ne.mpr c3
  have c3b1 : (a0_0 != a1_0) = true := bne_iff_ne.mpr c3
  exact absurd H (by simp)
/-! ### laws_eqArmS: function 131 -/
def laws_eqArmS.l0 : Nat → List (S81) → List (S81) → Int → Option (Bool)
 | 0, _, _, _ => none
 | k + 1, x0, x1, x5 => if x5 < (x0.length : Int) then (if 0 ≤ x5 then (if x5 < (x1.length : Int) then ((laws_eqArm.f ((rd_T81 x0 x5).f0) ((rd_T81 x0 x5).f1) ((rd_T81 x0 x5).f2) ((rd_T81 x1 x5).f0) ((rd_T81 x1 x5).f1) ((rd_T81 x1 x5).f2)).bind fun t103 => (if t103 = true then (laws_eqArmS.l0 k x0 x1 (wrap64 (x5 + 1))) else (none))) else (none)) else (none)) else (some true)
def laws_eqArmS.f (k : Nat) (l0 : List (S81)) (l1 : List (S81)) : Option (Bool) := if (l0.length : Int) = (l1.length : Int) then (laws_eqArmS.l0 k l0 l1 0) else (none)
def laws_eqArmS.T6 : Bool × List (List Nat × List Nat) := (true, [([], []), ([], []), ([0, 1], [0, 1]), ([2], [2]), ([], []), ([], []), ([4, 5], [4, 5]), ([6], [6]), ([3, 7], [3, 7]), ([8], [8])])
def laws_eqArmS.B6 : List Nat := [0, 0, 3, 7, 0, 0, 48, 112, 255, 511]
theorem laws_eqArmS.tab6 : rtab .any (opsOf Try.f131 6) = laws_eqArmS.T6 := by kernel_rfl
theorem laws_eqArmS.bits6 : waitsOk laws_eqArmS.T6.2 laws_eqArmS.B6 = true := by kernel_rfl
theorem laws_eqArmS.calls (k : Nat) (A0 : Option Addr) (c0 : Nat) (l0 : List (S81)) (A1 : Option Addr) (c1 : Nat) (l1 : List (S81)) (r : Bool) (w : World) (hr0 : Kd.C k81 w A0 l0.length l0) (hc0 : l0.length ≤ c0) (hr1 : Kd.C k81 w A1 l1.length l1) (hc1 : l1.length ≤ c1) (h : laws_eqArmS.f k l0 l1 = some r) :
  Calls Try.prog 131 #[.slice A0 l0.length c0, .slice A1 l1.length c1] w fun e w' => e = .returned (.bool r) ∧ Below w.heap.size w w' := by
 have hu81 := Try.underlying81; have HR0 := q_ hr0; have HC0 := q_ hc0; clear hr0 hc0; have HR1 := q_ hr1; have HC1 := q_ hc1; clear hr1 hc1; have HB := q_ (Below.refl w.heap.size w)
 have H : (if (l0.length : Int) = (l1.length : Int) then (laws_eqArmS.l0 k l0 l1 0) else (none)) = some r := h
 clear h
 by_cases c3 : (l0.length : Int) = (l1.length : Int)
 ·rw [if_pos c3] at H
  have c3b0 : ((l0.length : Int) == (l1.length : Int)) = true := beq_iff_eq.mpr c3
  have c3b1 : ((l0.length : Int) != (l1.length : Int)) = false := bne_eq_false_iff_eq.mpr c3
  have c3b2 : (l0.length == l1.length) = true := by first | simpa using c3 | (simp at c3 ⊢; omega)
  clear c3
  have H' := q_ H
  clear H
  go_enter Try.func131, Try.ntmps131
  go_wp2
  go_loopg [5] k (fun kq v5 w' => ∃ (x5_1 : Int), v5 = .int .i64 x5_1 ∧ J0 (laws_eqArmS.l0 kq l0 l1 x5_1 = some r) ∧ J0 (kq ≤ k) ∧ J0 (Below w.heap.size w w'))
  case atStart => exact ⟨(0), rs_, H', ⟨Nat.le_refl _⟩, ⟨be_ HB.o⟩⟩
  case round =>
   clear H'; (try clear c1); (try clear c3); (try clear c3b0); (try clear c3b1); (try clear c3b2); obtain ⟨x5_1, rfl, HA, HK1, HB⟩ := hrel
   cases gk with
   | zero => exact absurd HA.o (by simp [laws_eqArmS.l0])
   | succ k1 =>
    have H := HA.o; clear HA
    simp only [laws_eqArmS.l0] at H
    by_cases c4 : x5_1 < (l0.length : Int)
    ·rw [if_pos c4] at H; have c4b0 := dt_ c4; clear c4
     by_cases c5 : 0 ≤ x5_1
     ·rw [if_pos c5] at H; have c5b0 := dt_ c5; clear c5
      by_cases c6 : x5_1 < (l1.length : Int)
      ·rw [if_pos c6] at H; have c6b0 := dt_ c6; clear c6; obtain ⟨t103, A7, H⟩ := ob_ H
       by_cases c8 : t103 = true
       ·subst c8; rw [if_pos rfl] at H
        have H' := q_ H
        clear H
        try go_wp2
        replace HB := q_ (below_drew1 HB.o)
        have p101 : 0 ≤ (x5_1 : Int) := of_decide_eq_true as_
        have q101 : x5_1 < (l0.length : Int) := of_decide_eq_true as_
        obtain ⟨ad101, e101, hx101_0, hx101_1, hx101_2⟩ := at_T81 HR0.o x5_1 p101 q101; have hw101_2 := hx101_2; have hw101_1 := hx101_1; have hw101_0 := hx101_0
        cases e101
        replace hx101_0 := mv_ HB.o hx101_0; replace hx101_1 := mv_ HB.o hx101_1; replace hx101_2 := mv_ HB.o hx101_2; replace p101 := eq_true p101; replace q101 := eq_true q101
        have p102 : 0 ≤ (x5_1 : Int) := of_decide_eq_true as_
        have q102 : x5_1 < (l1.length : Int) := of_decide_eq_true as_
        obtain ⟨ad102, e102, hx102_0, hx102_1, hx102_2⟩ := at_T81 HR1.o x5_1 p102 q102; have hw102_2 := hx102_2; have hw102_1 := hx102_1; have hw102_0 := hx102_0
        cases e102
        replace hx102_0 := mv_ HB.o hx102_0; replace hx102_1 := mv_ HB.o hx102_1; replace hx102_2 := mv_ HB.o hx102_2; replace p102 := eq_true p102; replace q102 := eq_true q102
        refine start_ (n := 10) (S := fun w' => w'.cell? (ad101.add ((x5_1).toNat * 3)) = some (.int .i64 ((rd_T81 l0 x5_1).f0)) ∧ w'.cell? ⟨(ad101.add ((x5_1).toNat * 3)).block, (ad101.add ((x5_1).toNat * 3)).off + 1, none⟩ = some (.int .i64 ((rd_T81 l0 x5_1).f1)) ∧ w'.cell? ⟨(ad101.add ((x5_1).toNat * 3)).block, (ad101.add ((x5_1).toNat * 3)).off + 2, none⟩ = some (.int .i64 ((rd_T81 l0 x5_1).f2)) ∧ w'.cell? (ad102.add ((x5_1).toNat * 3)) = some (.int .i64 ((rd_T81 l1 x5_1).f0)) ∧ w'.cell? ⟨(ad102.add ((x5_1).toNat * 3)).block, (ad102.add ((x5_1).toNat * 3)).off + 1, none⟩ = some (.int .i64 ((rd_T81 l1 x5_1).f1)) ∧ w'.cell? ⟨(ad102.add ((x5_1).toNat * 3)).block, (ad102.add ((x5_1).toNat * 3)).off + 2, none⟩ = some (.int .i64 ((rd_T81 l1 x5_1).f2))) (ds := []) (bb 10 0) (by kernel_rfl) rfl rfl ⟨(mv_ HB.o hw101_0), (mv_ HB.o hw101_1), (mv_ HB.o hw101_2), (mv_ HB.o hw102_0), (mv_ HB.o hw102_1), (mv_ HB.o hw102_2)⟩ (fun hHeld => ?_); refine with_tabW laws_eqArmS.tab6 laws_eqArmS.bits6 (fun HT_ HW_ => ?_)
        generalize wr.drew = w9 at HB hx101_0 hx101_1 hx101_2 hx102_0 hx102_1 hx102_2 hHeld ⊢
        refine pv_ 0 17 1 HT_.o ?_; refine pv_ 1 18 3 HT_.o ?_; refine pv_ 2 19 7 HT_.o ?_; refine pv_ 4 21 23 HT_.o ?_; refine pv_ 5 22 55 HT_.o ?_; refine pv_ 6 23 119 HT_.o ?_; refine tv_ 3 20 127 HT_.o HW_.o hHeld ?_; refine tv_ 7 24 255 HT_.o HW_.o hHeld ?_
        refine one_ (i := 8) (N := some 25) (bb 10 511) rfl rfl (one_of HT_.o (by kernel_rfl)) (by decide) (fun K hK => ?_)
        refine gs_ Try.func142 #[.agg #[.int .i64 ((rd_T81 l0 x5_1).f0), .int .i64 ((rd_T81 l0 x5_1).f1), .int .i64 ((rd_T81 l0 x5_1).f2)], .agg #[.int .i64 ((rd_T81 l1 x5_1).f0), .int .i64 ((rd_T81 l1 x5_1).f1), .int .i64 ((rd_T81 l1 x5_1).f2)]] ?_
        with_reducible refine (laws_eqArm.calls ((rd_T81 l0 x5_1).f0) ((rd_T81 l0 x5_1).f1) ((rd_T81 l0 x5_1).f2) ((rd_T81 l1 x5_1).f0) ((rd_T81 l1 x5_1).f1) ((rd_T81 l1 x5_1).f2) true _ A7.o).mono ?_
        rintro e w10 ⟨rfl, hb⟩
        refine ⟨_, rfl, ?_⟩; replace HB := sb_ HB hb
        (try clear hb)
        (try clear hb2)
        (try clear hk)
        (try clear hi)
        refine hK.out _ _ ⟨(mv_ HB.o hw101_0), (mv_ HB.o hw101_1), (mv_ HB.o hw101_2), (mv_ HB.o hw102_0), (mv_ HB.o hw102_1), (mv_ HB.o hw102_2)⟩ (fun hHeld => ?_)
        clear hK K; refine no_ (some 25) ?_; refine pv_ 9 26 1023 HT_.o ?_
        refine done_ (done_of HT_.o (by kernel_rfl)) ?_
        try go_wp2
        go_roundg k1
        case measure => have := HK1.o; omega
        case rel => exact ⟨(wrap64 (x5_1 + 1)), rs_, H', ⟨by have := HK1.o; omega⟩, ⟨be_ HB.o⟩⟩
       ·replace c8 := Bool.eq_false_iff.mpr c8; subst c8; rw [if_neg nft_] at H
        exact absurd H (by simp)
      ·rw [if_neg c6] at H
       exact absurd H (by simp)
     ·rw [if_neg c5] at H
      exact absurd H (by simp)
    ·rw [if_neg c4] at H; have c4b0 := df_ c4; clear c4; obtain rfl := Option.some.inj H
     go_wp2
     go_ret
     exact ⟨rt_, be_ HB.o⟩
 ·rw [if_neg c3] at H
  have c3b0 : ((l0.length : Int) == (l1.length : Int)) = false := beq_eq_false_iff_ne.mpr c3
  have c3b1 : ((l0.length : Int) != (l1.length : Int)) = true := bne_iff_ne.mpr c3
  have c3b2 : (l0.length == l1.length) = false := by first | simpa using c3 | (simp at c3 ⊢; omega)
  exact absurd H (by simp)
/-! ### laws_eqCBlock: function 104 -/
def laws_eqCBlock.f (k : Nat) (a0_0 : Int) (l0_1 : List (S81)) (a0_2 : Int) (a1_0 : Int) (l1_1 : List (S81)) (a1_2 : Int) : Option (Bool) := if a0_0 = a1_0 then ((laws_eqArmS.f k l0_1 l1_1).bind fun t103 => (if t103 = true then (if a0_2 = a1_2 then (some true) else (none)) else (none))) else (none)
theorem laws_eqCBlock.calls (k : Nat) (a0_0 : Int) (A0_1 : Option Addr) (c0_1 : Nat) (l0_1 : List (S81)) (a0_2 : Int) (a1_0 : Int) (A1_1 : Option Addr) (c1_1 : Nat) (l1_1 : List (S81)) (a1_2 : Int) (r : Bool) (w : World) (hr0_1 : Kd.C k81 w A0_1 l0_1.length l0_1) (hc0_1 : l0_1.length ≤ c0_1) (hr1_1 : Kd.C k81 w A1_1 l1_1.length l1_1) (hc1_1 : l1_1.length ≤ c1_1) (h : laws_eqCBlock.f k a0_0 l0_1 a0_2 a1_0 l1_1 a1_2 = some r) :
  Calls Try.prog 104 #[.agg #[.int .i64 a0_0, .slice A0_1 l0_1.length c0_1, .int .i64 a0_2], .agg #[.int .i64 a1_0, .slice A1_1 l1_1.length c1_1, .int .i64 a1_2]] w fun e w' => e = .returned (.bool r) ∧ Below w.heap.size w w' := by
 have hu79 := Try.underlying79; have HR0_1 := q_ hr0_1; have HC0_1 := q_ hc0_1; clear hr0_1 hc0_1; have HR1_1 := q_ hr1_1; have HC1_1 := q_ hc1_1; clear hr1_1 hc1_1; have HB := q_ (Below.refl w.heap.size w)
 have H : (if a0_0 = a1_0 then ((laws_eqArmS.f k l0_1 l1_1).bind fun t103 => (if t103 = true then (if a0_2 = a1_2 then (some true) else (none)) else (none))) else (none)) = some r := h
 clear h
 by_cases c3 : a0_0 = a1_0
 ·rw [if_pos c3] at H
  have c3b0 : (a0_0 == a1_0) = true := beq_iff_eq.mpr c3
  have c3b1 : (a0_0 != a1_0) = false := bne_eq_false_iff_eq.mpr c3
  clear c3; obtain ⟨t103, A4, H⟩ := ob_ H
  by_cases c5 : t103 = true
  ·subst c5; rw [if_pos rfl] at H
   by_cases c6 : a0_2 = a1_2
   ·rw [if_pos c6] at H
    have c6b0 : (a0_2 == a1_2) = true := beq_iff_eq.mpr c6
    have c6b1 : (a0_2 != a1_2) = false := bne_eq_false_iff_eq.mpr c6
    clear c6; obtain rfl := Option.some.inj H
    go_enter Try.func104, Try.ntmps104
    go_wp2_with (first | ((with_reducible refine gate_dst (N := 2) rfl ?_); refine bx_ 2 #[.int .i64 a0_0, .slice A0_1 l0_1.length c0_1, .int .i64 a0_2] 79 ?_; intro gb101 hg w7 hbox hb; have BK101 := q_ (hbox); have GE101 := ge_ hg HB; replace HB := sb_ HB hb; clear hb hbox hg) | ((with_reducible refine gate_dst (N := 3) rfl ?_); refine bx_ 3 #[.int .i64 a1_0, .slice A1_1 l1_1.length c1_1, .int .i64 a1_2] 79 ?_; intro gb102 hg w8 hbox hb; have BK102 := q_ (hbox); have GE102 := ge1_ hg HB GE101; have NB101_102 := nl_ hg BK101; have NB102_101 := ng_ hg BK101; replace BK101 := lb_ BK101 hb; replace HB := sb1_ HB GE101 hb; clear hb hbox hg; have hnb9 := NB101_102.o; have hnc9 := NB102_101.o; obtain ⟨hcz10_0, hcz10_1, hcz10_2, hfz10_0, hfz10_1, hfz10_2⟩ := d3_ BK101; obtain ⟨hcz11_0, hcz11_1, hcz11_2, hfz11_0, hfz11_1, hfz11_2⟩ := d3_ BK102) | ((with_reducible refine gate_callee (f := 131) rfl ?_); refine gl_ (some 14) rfl rfl Try.func131 #[.slice A0_1 l0_1.length c0_1, .slice A1_1 l1_1.length c1_1] ?_; (with_reducible refine (laws_eqArmS.calls k _ _ l0_1 _ _ l1_1 true _ ?side1 ?side2 ?side3 ?side4 A4.o).mono ?_); (case side1 => exact Kd.C_below HR0_1.o (be_ HB.o)); (case side2 => exact HC0_1.o); (case side3 => exact Kd.C_below HR1_1.o (be_ HB.o)); (case side4 => exact HC1_1.o); rintro e w12 ⟨rfl, hb⟩; refine ⟨_, rfl, ?_⟩; replace BK101 := lb_ BK101 hb; replace BK102 := lb_ BK102 hb; replace HB := sb2_ HB GE101 GE102 hb; (try clear hb); obtain ⟨hcz13_0, hcz13_1, hcz13_2, hfz13_0, hfz13_1, hfz13_2⟩ := d3_ BK101; obtain ⟨hcz14_0, hcz14_1, hcz14_2, hfz14_0, hfz14_1, hfz14_2⟩ := d3_ BK102))
    go_ret
    exact ⟨rt_, be2_ HB.o GE101.o GE102.o⟩
   ·rw [if_neg c6] at H
    have c6b0 : (a0_2 == a1_2) = false := beq_eq_false_iff_ne.mpr c6
    have c6b1 : (a0_2 != a1_2) = true := bne_iff_ne.mpr c6
    exact absurd H (by simp)
  ·replace c5 := Bool.eq_false_iff.mpr c5; subst c5; rw [if_neg nft_] at H
   exact absurd H (by simp)
 ·rw [if_neg c3] at H
  have c3b0 : (a0_0 == a1_0) = false := beq_eq_false_iff_ne.mpr c3
  have c3b1 : (a0_0 != a1_0) = true := bne_iff_ne.mpr c3
  exact absurd H (by simp)
/-! ### laws_eqCBlockS: function 45 -/
def laws_eqCBlockS.l0 : Nat → List (S79) → List (S79) → Int → Option (Bool)
 | 0, _, _, _ => none
 | k + 1, x0, x1, x5 => if x5 < (x0.length : Int) then (if 0 ≤ x5 then (if x5 < (x1.length : Int) then ((laws_eqCBlock.f k ((rd_T79 x0 x5).f0) ((rd_T79 x0 x5).f1) ((rd_T79 x0 x5).f2) ((rd_T79 x1 x5).f0) ((rd_T79 x1 x5).f1) ((rd_T79 x1 x5).f2)).bind fun t103 => (if t103 = true then (laws_eqCBlockS.l0 k x0 x1 (wrap64 (x5 + 1))) else (none))) else (none)) else (none)) else (some true)
def laws_eqCBlockS.f (k : Nat) (l0 : List (S79)) (l1 : List (S79)) : Option (Bool) := if (l0.length : Int) = (l1.length : Int) then (laws_eqCBlockS.l0 k l0 l1 0) else (none)
def laws_eqCBlockS.T6 : Bool × List (List Nat × List Nat) := (true, [([], []), ([], []), ([0, 1], [0, 1]), ([2], [2]), ([], []), ([], []), ([4, 5], [4, 5]), ([6], [6]), ([3, 7], [3, 7]), ([8], [8])])
def laws_eqCBlockS.B6 : List Nat := [0, 0, 3, 7, 0, 0, 48, 112, 255, 511]
theorem laws_eqCBlockS.tab6 : rtab .any (opsOf Try.f45 6) = laws_eqCBlockS.T6 := by kernel_rfl
theorem laws_eqCBlockS.bits6 : waitsOk laws_eqCBlockS.T6.2 laws_eqCBlockS.B6 = true := by kernel_rfl
theorem laws_eqCBlockS.calls (k : Nat) (A0 : Option Addr) (c0 : Nat) (l0 : List (S79)) (A1 : Option Addr) (c1 : Nat) (l1 : List (S79)) (r : Bool) (w : World) (hr0 : Kd.C k79 w A0 l0.length l0) (hc0 : l0.length ≤ c0) (hr1 : Kd.C k79 w A1 l1.length l1) (hc1 : l1.length ≤ c1) (h : laws_eqCBlockS.f k l0 l1 = some r) :
  Calls Try.prog 45 #[.slice A0 l0.length c0, .slice A1 l1.length c1] w fun e w' => e = .returned (.bool r) ∧ Below w.heap.size w w' := by
 have hu79 := Try.underlying79; have HR0 := q_ hr0; have HC0 := q_ hc0; clear hr0 hc0; have HR1 := q_ hr1; have HC1 := q_ hc1; clear hr1 hc1; have HB := q_ (Below.refl w.heap.size w)
 have H : (if (l0.length : Int) = (l1.length : Int) then (laws_eqCBlockS.l0 k l0 l1 0) else (none)) = some r := h
 clear h
 by_cases c3 : (l0.length : Int) = (l1.length : Int)
 ·rw [if_pos c3] at H
  have c3b0 : ((l0.length : Int) == (l1.length : Int)) = true := beq_iff_eq.mpr c3
  have c3b1 : ((l0.length : Int) != (l1.length : Int)) = false := bne_eq_false_iff_eq.mpr c3
  have c3b2 : (l0.length == l1.length) = true := by first | simpa using c3 | (simp at c3 ⊢; omega)
  clear c3
  have H' := q_ H
  clear H
  go_enter Try.func45, Try.ntmps45
  go_wp2
  go_loopg [5] k (fun kq v5 w' => ∃ (x5_1 : Int), v5 = .int .i64 x5_1 ∧ J0 (laws_eqCBlockS.l0 kq l0 l1 x5_1 = some r) ∧ J0 (kq ≤ k) ∧ J0 (Below w.heap.size w w'))
  case atStart => exact ⟨(0), rs_, H', ⟨Nat.le_refl _⟩, ⟨be_ HB.o⟩⟩
  case round =>
   clear H'; (try clear c1); (try clear c3); (try clear c3b0); (try clear c3b1); (try clear c3b2); obtain ⟨x5_1, rfl, HA, HK1, HB⟩ := hrel
   cases gk with
   | zero => exact absurd HA.o (by simp [laws_eqCBlockS.l0])
   | succ k1 =>
    have H := HA.o; clear HA
    simp only [laws_eqCBlockS.l0] at H
    by_cases c4 : x5_1 < (l0.length : Int)
    ·rw [if_pos c4] at H; have c4b0 := dt_ c4; clear c4
     by_cases c5 : 0 ≤ x5_1
     ·rw [if_pos c5] at H; have c5b0 := dt_ c5; clear c5
      by_cases c6 : x5_1 < (l1.length : Int)
      ·rw [if_pos c6] at H; have c6b0 := dt_ c6; clear c6; obtain ⟨t103, A7, H⟩ := ob_ H
       by_cases c8 : t103 = true
       ·subst c8; rw [if_pos rfl] at H
        have H' := q_ H
        clear H
        try go_wp2
        replace HB := q_ (below_drew1 HB.o)
        have p101 : 0 ≤ (x5_1 : Int) := of_decide_eq_true as_
        have q101 : x5_1 < (l0.length : Int) := of_decide_eq_true as_
        obtain ⟨ad101, A101_1, c101_1, e101, hx101_0, hx101_1, hx101_2, hl101_1, hi101_1⟩ := at_T79 HR0.o x5_1 p101 q101; have hw101_2 := hx101_2; have hw101_1 := hx101_1; have hw101_0 := hx101_0
        cases e101
        replace hx101_0 := mv_ HB.o hx101_0; replace hx101_1 := mv_ HB.o hx101_1; replace hx101_2 := mv_ HB.o hx101_2; have HR101_1 := q_ hi101_1; have HC101_1 := q_ hl101_1; clear hi101_1 hl101_1; replace p101 := eq_true p101; replace q101 := eq_true q101
        have p102 : 0 ≤ (x5_1 : Int) := of_decide_eq_true as_
        have q102 : x5_1 < (l1.length : Int) := of_decide_eq_true as_
        obtain ⟨ad102, A102_1, c102_1, e102, hx102_0, hx102_1, hx102_2, hl102_1, hi102_1⟩ := at_T79 HR1.o x5_1 p102 q102; have hw102_2 := hx102_2; have hw102_1 := hx102_1; have hw102_0 := hx102_0
        cases e102
        replace hx102_0 := mv_ HB.o hx102_0; replace hx102_1 := mv_ HB.o hx102_1; replace hx102_2 := mv_ HB.o hx102_2; have HR102_1 := q_ hi102_1; have HC102_1 := q_ hl102_1; clear hi102_1 hl102_1; replace p102 := eq_true p102; replace q102 := eq_true q102
        refine start_ (n := 10) (S := fun w' => w'.cell? (ad101.add ((x5_1).toNat * 3)) = some (.int .i64 ((rd_T79 l0 x5_1).f0)) ∧ w'.cell? ⟨(ad101.add ((x5_1).toNat * 3)).block, (ad101.add ((x5_1).toNat * 3)).off + 1, none⟩ = some (.slice A101_1 ((rd_T79 l0 x5_1).f1).length c101_1) ∧ w'.cell? ⟨(ad101.add ((x5_1).toNat * 3)).block, (ad101.add ((x5_1).toNat * 3)).off + 2, none⟩ = some (.int .i64 ((rd_T79 l0 x5_1).f2)) ∧ w'.cell? (ad102.add ((x5_1).toNat * 3)) = some (.int .i64 ((rd_T79 l1 x5_1).f0)) ∧ w'.cell? ⟨(ad102.add ((x5_1).toNat * 3)).block, (ad102.add ((x5_1).toNat * 3)).off + 1, none⟩ = some (.slice A102_1 ((rd_T79 l1 x5_1).f1).length c102_1) ∧ w'.cell? ⟨(ad102.add ((x5_1).toNat * 3)).block, (ad102.add ((x5_1).toNat * 3)).off + 2, none⟩ = some (.int .i64 ((rd_T79 l1 x5_1).f2))) (ds := []) (bb 10 0) (by kernel_rfl) rfl rfl ⟨(mv_ HB.o hw101_0), (mv_ HB.o hw101_1), (mv_ HB.o hw101_2), (mv_ HB.o hw102_0), (mv_ HB.o hw102_1), (mv_ HB.o hw102_2)⟩ (fun hHeld => ?_); refine with_tabW laws_eqCBlockS.tab6 laws_eqCBlockS.bits6 (fun HT_ HW_ => ?_)
        generalize wr.drew = w9 at HB HR101_1 HR102_1 hx101_0 hx101_1 hx101_2 hx102_0 hx102_1 hx102_2 hHeld ⊢
        refine pv_ 0 17 1 HT_.o ?_; refine pv_ 1 18 3 HT_.o ?_; refine pv_ 2 19 7 HT_.o ?_; refine pv_ 4 21 23 HT_.o ?_; refine pv_ 5 22 55 HT_.o ?_; refine pv_ 6 23 119 HT_.o ?_; refine tv_ 3 20 127 HT_.o HW_.o hHeld ?_; refine tv_ 7 24 255 HT_.o HW_.o hHeld ?_
        refine one_ (i := 8) (N := some 25) (bb 10 511) rfl rfl (one_of HT_.o (by kernel_rfl)) (by decide) (fun K hK => ?_)
        refine gs_ Try.func104 #[.agg #[.int .i64 ((rd_T79 l0 x5_1).f0), .slice A101_1 ((rd_T79 l0 x5_1).f1).length c101_1, .int .i64 ((rd_T79 l0 x5_1).f2)], .agg #[.int .i64 ((rd_T79 l1 x5_1).f0), .slice A102_1 ((rd_T79 l1 x5_1).f1).length c102_1, .int .i64 ((rd_T79 l1 x5_1).f2)]] ?_
        with_reducible refine (laws_eqCBlock.calls k1 ((rd_T79 l0 x5_1).f0) _ _ ((rd_T79 l0 x5_1).f1) ((rd_T79 l0 x5_1).f2) ((rd_T79 l1 x5_1).f0) _ _ ((rd_T79 l1 x5_1).f1) ((rd_T79 l1 x5_1).f2) true _ ?side1 ?side2 ?side3 ?side4 A7.o).mono ?_
        (case side1 => exact Kd.C_below HR101_1.o (be_ HB.o))
        (case side2 => exact HC101_1.o)
        (case side3 => exact Kd.C_below HR102_1.o (be_ HB.o))
        (case side4 => exact HC102_1.o)
        rintro e w10 ⟨rfl, hb⟩
        refine ⟨_, rfl, ?_⟩; replace HB := sb_ HB hb
        (try clear hb)
        (try clear hb2)
        (try clear hk)
        (try clear hi)
        refine hK.out _ _ ⟨(mv_ HB.o hw101_0), (mv_ HB.o hw101_1), (mv_ HB.o hw101_2), (mv_ HB.o hw102_0), (mv_ HB.o hw102_1), (mv_ HB.o hw102_2)⟩ (fun hHeld => ?_)
        clear hK K; refine no_ (some 25) ?_; refine pv_ 9 26 1023 HT_.o ?_
        refine done_ (done_of HT_.o (by kernel_rfl)) ?_
        try go_wp2
        go_roundg k1
        case measure => have := HK1.o; omega
        case rel => exact ⟨(wrap64 (x5_1 + 1)), rs_, H', ⟨by have := HK1.o; omega⟩, ⟨be_ HB.o⟩⟩
       ·replace c8 := Bool.eq_false_iff.mpr c8; subst c8; rw [if_neg nft_] at H
        exact absurd H (by simp)
      ·rw [if_neg c6] at H
       exact absurd H (by simp)
     ·rw [if_neg c5] at H
      exact absurd H (by simp)
    ·rw [if_neg c4] at H; have c4b0 := df_ c4; clear c4; obtain rfl := Option.some.inj H
     go_wp2
     go_ret
     exact ⟨rt_, be_ HB.o⟩
 ·rw [if_neg c3] at H
  have c3b0 : ((l0.length : Int) == (l1.length : Int)) = false := beq_eq_false_iff_ne.mpr c3
  have c3b1 : ((l0.length : Int) != (l1.length : Int)) = true := bne_iff_ne.mpr c3
  have c3b2 : (l0.length == l1.length) = false := by first | simpa using c3 | (simp at c3 ⊢; omega)
  exact absurd H (by simp)
/-! ### laws_eqCode: function 12 -/
def laws_eqCode.f (k : Nat) (l0_0 : List (S79)) (l1_0 : List (S79)) : Option (Bool) := (laws_eqCBlockS.f k l0_0 l1_0).bind fun t103 => (if t103 = true then (some true) else (none))
theorem laws_eqCode.calls (k : Nat) (A0_0 : Option Addr) (c0_0 : Nat) (l0_0 : List (S79)) (A1_0 : Option Addr) (c1_0 : Nat) (l1_0 : List (S79)) (r : Bool) (w : World) (hr0_0 : Kd.C k79 w A0_0 l0_0.length l0_0) (hc0_0 : l0_0.length ≤ c0_0) (hr1_0 : Kd.C k79 w A1_0 l1_0.length l1_0) (hc1_0 : l1_0.length ≤ c1_0) (h : laws_eqCode.f k l0_0 l1_0 = some r) :
  Calls Try.prog 12 #[.agg #[.slice A0_0 l0_0.length c0_0], .agg #[.slice A1_0 l1_0.length c1_0]] w fun e w' => e = .returned (.bool r) ∧ Below w.heap.size w w' := by
 have hu29 := Try.underlying29; have HR0_0 := q_ hr0_0; have HC0_0 := q_ hc0_0; clear hr0_0 hc0_0; have HR1_0 := q_ hr1_0; have HC1_0 := q_ hc1_0; clear hr1_0 hc1_0; have HB := q_ (Below.refl w.heap.size w)
 have H : ((laws_eqCBlockS.f k l0_0 l1_0).bind fun t103 => (if t103 = true then (some true) else (none))) = some r := h
 clear h; obtain ⟨t103, A3, H⟩ := ob_ H
 by_cases c4 : t103 = true
 ·subst c4; rw [if_pos rfl] at H; obtain rfl := Option.some.inj H
  go_enter Try.func12, Try.ntmps12
  go_wp2_with (first | ((with_reducible refine gate_dst (N := 2) rfl ?_); refine bx_ 2 #[.slice A0_0 l0_0.length c0_0] 29 ?_; intro gb101 hg w5 hbox hb; have BK101 := q_ (hbox); have GE101 := ge_ hg HB; replace HB := sb_ HB hb; clear hb hbox hg) | ((with_reducible refine gate_dst (N := 3) rfl ?_); refine bx_ 3 #[.slice A1_0 l1_0.length c1_0] 29 ?_; intro gb102 hg w6 hbox hb; have BK102 := q_ (hbox); have GE102 := ge1_ hg HB GE101; have NB101_102 := nl_ hg BK101; have NB102_101 := ng_ hg BK101; replace BK101 := lb_ BK101 hb; replace HB := sb1_ HB GE101 hb; clear hb hbox hg; have hnb7 := NB101_102.o; have hnc7 := NB102_101.o; obtain ⟨hcz8_0, hfz8_0⟩ := d1_ BK101; obtain ⟨hcz9_0, hfz9_0⟩ := d1_ BK102) | ((with_reducible refine gate_callee (f := 45) rfl ?_); refine gl_ (some 9) rfl rfl Try.func45 #[.slice A0_0 l0_0.length c0_0, .slice A1_0 l1_0.length c1_0] ?_; (with_reducible refine (laws_eqCBlockS.calls k _ _ l0_0 _ _ l1_0 true _ ?side1 ?side2 ?side3 ?side4 A3.o).mono ?_); (case side1 => exact Kd.C_below HR0_0.o (be_ HB.o)); (case side2 => exact HC0_0.o); (case side3 => exact Kd.C_below HR1_0.o (be_ HB.o)); (case side4 => exact HC1_0.o); rintro e w10 ⟨rfl, hb⟩; refine ⟨_, rfl, ?_⟩; replace BK101 := lb_ BK101 hb; replace BK102 := lb_ BK102 hb; replace HB := sb2_ HB GE101 GE102 hb; (try clear hb)))
  go_ret
  exact ⟨rt_, be2_ HB.o GE101.o GE102.o⟩
 ·replace c4 := Bool.eq_false_iff.mpr c4; subst c4; rw [if_neg nft_] at H
  exact absurd H (by simp)
/-! ### laws_heldArmS: function 106 -/
def laws_heldArmS.l0 : Nat → List (S81) → Int → Int → Option (Int)
 | 0, _, _, _ => none
 | k + 1, x0, x1, x5 => if x5 < (x0.length : Int) then (if 0 ≤ x5 then (if ((rd_T81 x0 x5).f0) = x1 then (if ((rd_T81 x0 x5).f1) = (wrap64 (x1 + 1)) then (if ((rd_T81 x0 x5).f2) = (wrap64 ((wrap64 (x1 + 1)) + 1)) then (laws_heldArmS.l0 k x0 (wrap64 ((wrap64 ((wrap64 (x1 + 1)) + 1)) + 1)) (wrap64 (x5 + 1))) else (some (-1))) else (some (-1))) else (some (-1))) else (none)) else (some x1)
def laws_heldArmS.f (k : Nat) (l0 : List (S81)) (a1 : Int) : Option (Int) := laws_heldArmS.l0 k l0 a1 0
theorem laws_heldArmS.calls (k : Nat) (A0 : Option Addr) (c0 : Nat) (l0 : List (S81)) (a1 : Int) (r : Int) (w : World) (hr0 : Kd.C k81 w A0 l0.length l0) (hc0 : l0.length ≤ c0) (h : laws_heldArmS.f k l0 a1 = some r) :
  Calls Try.prog 106 #[.slice A0 l0.length c0, .int .i64 a1] w fun e w' => e = .returned (.int .i64 r) ∧ Drawn0 w w' := by
 have HR0 := q_ hr0; have HC0 := q_ hc0; clear hr0 hc0
 have H : (laws_heldArmS.l0 k l0 a1 0) = some r := h
 clear h
 have H' := q_ H
 clear H
 go_enter Try.func106, Try.ntmps106
 go_wp2
 go_loopg [1, 5] k (fun kq v1 v5 w' => ∃ (x1_1 : Int) (x5_1 : Int), v1 = .int .i64 x1_1 ∧ v5 = .int .i64 x5_1 ∧ J0 (laws_heldArmS.l0 kq l0 x1_1 x5_1 = some r) ∧ J0 (kq ≤ k) ∧ Drawn0 w w')
 case atStart => exact ⟨(a1), (0), rs_, rs_, H', ⟨Nat.le_refl _⟩, by repeat (first | exact Drawn0.refl _ | apply Drawn0.step)⟩
 case round =>
  clear H'
  obtain ⟨x1_1, x5_1, rfl, rfl, HA, HK1, ⟨m1, rfl⟩⟩ := hrel
  cases gk with
  | zero => exact absurd HA.o (by simp [laws_heldArmS.l0])
  | succ k1 =>
   have H := HA.o; clear HA
   simp only [laws_heldArmS.l0] at H
   by_cases c3 : x5_1 < (l0.length : Int)
   ·rw [if_pos c3] at H; have c3b0 := dt_ c3; clear c3
    by_cases c4 : 0 ≤ x5_1
    ·rw [if_pos c4] at H; have c4b0 := dt_ c4; clear c4
     by_cases c5 : ((rd_T81 l0 x5_1).f0) = x1_1
     ·rw [if_pos c5] at H
      have c5b0 : (((rd_T81 l0 x5_1).f0) == x1_1) = true := beq_iff_eq.mpr c5
      have c5b1 : (((rd_T81 l0 x5_1).f0) != x1_1) = false := bne_eq_false_iff_eq.mpr c5
      clear c5
      by_cases c6 : ((rd_T81 l0 x5_1).f1) = (wrap64 (x1_1 + 1))
      ·rw [if_pos c6] at H
       have c6b0 : (((rd_T81 l0 x5_1).f1) == (wrap64 (x1_1 + 1))) = true := beq_iff_eq.mpr c6
       have c6b1 : (((rd_T81 l0 x5_1).f1) != (wrap64 (x1_1 + 1))) = false := bne_eq_false_iff_eq.mpr c6
       clear c6
       by_cases c7 : ((rd_T81 l0 x5_1).f2) = (wrap64 ((wrap64 (x1_1 + 1)) + 1))
       ·rw [if_pos c7] at H
        have c7b0 : (((rd_T81 l0 x5_1).f2) == (wrap64 ((wrap64 (x1_1 + 1)) + 1))) = true := beq_iff_eq.mpr c7
        have c7b1 : (((rd_T81 l0 x5_1).f2) != (wrap64 ((wrap64 (x1_1 + 1)) + 1))) = false := bne_eq_false_iff_eq.mpr c7
        clear c7
        have H' := q_ H
        clear H
        have p101 : 0 ≤ (x5_1 : Int) := of_decide_eq_true as_
        have q101 : x5_1 < (l0.length : Int) := of_decide_eq_true as_
        obtain ⟨ad101, e101, hx101_0, hx101_1, hx101_2⟩ := at_T81 HR0.o x5_1 p101 q101
        cases e101
        replace p101 := eq_true p101; replace q101 := eq_true q101
        go_wp2
        go_roundg k1
        case measure => have := HK1.o; omega
        case rel => exact ⟨(wrap64 ((wrap64 ((wrap64 (x1_1 + 1)) + 1)) + 1)), (wrap64 (x5_1 + 1)), rs_, rs_, H', ⟨by have := HK1.o; omega⟩, by repeat (first | exact Drawn0.refl _ | apply Drawn0.step)⟩
       ·rw [if_neg c7] at H
        have c7b0 : (((rd_T81 l0 x5_1).f2) == (wrap64 ((wrap64 (x1_1 + 1)) + 1))) = false := beq_eq_false_iff_ne.mpr c7
        have c7b1 : (((rd_T81 l0 x5_1).f2) != (wrap64 ((wrap64 (x1_1 + 1)) + 1))) = true := bne_iff_ne.mpr c7
        obtain rfl := Option.some.inj H
        have p101 : 0 ≤ (x5_1 : Int) := of_decide_eq_true as_
        have q101 : x5_1 < (l0.length : Int) := of_decide_eq_true as_
        obtain ⟨ad101, e101, hx101_0, hx101_1, hx101_2⟩ := at_T81 HR0.o x5_1 p101 q101
        cases e101
        replace p101 := eq_true p101; replace q101 := eq_true q101
        go_wp2
        go_ret
        exact ⟨by first | rfl | (simp; done) | (simp [*]; done), by repeat (first | exact Drawn0.refl _ | apply Drawn0.step)⟩
      ·rw [if_neg c6] at H
       have c6b0 : (((rd_T81 l0 x5_1).f1) == (wrap64 (x1_1 + 1))) = false := beq_eq_false_iff_ne.mpr c6
       have c6b1 : (((rd_T81 l0 x5_1).f1) != (wrap64 (x1_1 + 1))) = true := bne_iff_ne.mpr c6
       obtain rfl := Option.some.inj H
       have p101 : 0 ≤ (x5_1 : Int) := of_decide_eq_true as_
       have q101 : x5_1 < (l0.length : Int) := of_decide_eq_true as_
       obtain ⟨ad101, e101, hx101_0, hx101_1, hx101_2⟩ := at_T81 HR0.o x5_1 p101 q101
       cases e101
       replace p101 := eq_true p101; replace q101 := eq_true q101
       go_wp2
       go_ret
       exact ⟨by first | rfl | (simp; done) | (simp [*]; done), by repeat (first | exact Drawn0.refl _ | apply Drawn0.step)⟩
     ·rw [if_neg c5] at H
      have c5b0 : (((rd_T81 l0 x5_1).f0) == x1_1) = false := beq_eq_false_iff_ne.mpr c5
      have c5b1 : (((rd_T81 l0 x5_1).f0) != x1_1) = true := bne_iff_ne.mpr c5
      obtain rfl := Option.some.inj H
      have p101 : 0 ≤ (x5_1 : Int) := of_decide_eq_true as_
      have q101 : x5_1 < (l0.length : Int) := of_decide_eq_true as_
      obtain ⟨ad101, e101, hx101_0, hx101_1, hx101_2⟩ := at_T81 HR0.o x5_1 p101 q101
      cases e101
      replace p101 := eq_true p101; replace q101 := eq_true q101
      go_wp2
      go_ret
      exact ⟨by first | rfl | (simp; done) | (simp [*]; done), by repeat (first | exact Drawn0.refl _ | apply Drawn0.step)⟩
    ·rw [if_neg c4] at H
     exact absurd H (by simp)
   ·rw [if_neg c3] at H; have c3b0 := df_ c3; clear c3; obtain rfl := Option.some.inj H
    go_wp2
    go_ret
    exact ⟨by first | rfl | (simp; done) | (simp [*]; done), by repeat (first | exact Drawn0.refl _ | apply Drawn0.step)⟩
/-! ### laws_heldCBlockS: function 51 -/
def laws_heldCBlockS.l0 : Nat → List (S79) → Int → Int → Option (Int)
 | 0, _, _, _ => none
 | k + 1, x0, x1, x5 => if x5 < (x0.length : Int) then (if 0 ≤ x5 then (if ((rd_T79 x0 x5).f0) = x1 then ((laws_heldArmS.f k ((rd_T79 x0 x5).f1) (wrap64 (x1 + 1))).bind fun t103 => (if t103 < 0 then (some (-1)) else (if ((rd_T79 x0 x5).f2) = t103 then (laws_heldCBlockS.l0 k x0 (wrap64 (t103 + 1)) (wrap64 (x5 + 1))) else (some (-1))))) else (some (-1))) else (none)) else (some x1)
def laws_heldCBlockS.f (k : Nat) (l0 : List (S79)) (a1 : Int) : Option (Int) := laws_heldCBlockS.l0 k l0 a1 0
theorem laws_heldCBlockS.calls (k : Nat) (A0 : Option Addr) (c0 : Nat) (l0 : List (S79)) (a1 : Int) (r : Int) (w : World) (hr0 : Kd.C k79 w A0 l0.length l0) (hc0 : l0.length ≤ c0) (h : laws_heldCBlockS.f k l0 a1 = some r) :
  Calls Try.prog 51 #[.slice A0 l0.length c0, .int .i64 a1] w fun e w' => e = .returned (.int .i64 r) ∧ Drawn0 w w' := by
 have HR0 := q_ hr0; have HC0 := q_ hc0; clear hr0 hc0
 have H : (laws_heldCBlockS.l0 k l0 a1 0) = some r := h
 clear h
 have H' := q_ H
 clear H
 go_enter Try.func51, Try.ntmps51
 go_wp2
 go_loopg [1, 5] k (fun kq v1 v5 w' => ∃ (x1_1 : Int) (x5_1 : Int), v1 = .int .i64 x1_1 ∧ v5 = .int .i64 x5_1 ∧ J0 (laws_heldCBlockS.l0 kq l0 x1_1 x5_1 = some r) ∧ J0 (kq ≤ k) ∧ Drawn0 w w')
 case atStart => exact ⟨(a1), (0), rs_, rs_, H', ⟨Nat.le_refl _⟩, by repeat (first | exact Drawn0.refl _ | apply Drawn0.step)⟩
 case round =>
  clear H'
  obtain ⟨x1_1, x5_1, rfl, rfl, HA, HK1, ⟨m1, rfl⟩⟩ := hrel
  cases gk with
  | zero => exact absurd HA.o (by simp [laws_heldCBlockS.l0])
  | succ k1 =>
   have H := HA.o; clear HA
   simp only [laws_heldCBlockS.l0] at H
   by_cases c3 : x5_1 < (l0.length : Int)
   ·rw [if_pos c3] at H; have c3b0 := dt_ c3; clear c3
    by_cases c4 : 0 ≤ x5_1
    ·rw [if_pos c4] at H; have c4b0 := dt_ c4; clear c4
     by_cases c5 : ((rd_T79 l0 x5_1).f0) = x1_1
     ·rw [if_pos c5] at H
      have c5b0 : (((rd_T79 l0 x5_1).f0) == x1_1) = true := beq_iff_eq.mpr c5
      have c5b1 : (((rd_T79 l0 x5_1).f0) != x1_1) = false := bne_eq_false_iff_eq.mpr c5
      clear c5; obtain ⟨t103, A6, H⟩ := ob_ H
      by_cases c7 : t103 < 0
      ·rw [if_pos c7] at H; have c7b0 := dt_ c7; clear c7; obtain rfl := Option.some.inj H
       have p101 : 0 ≤ (x5_1 : Int) := of_decide_eq_true as_
       have q101 : x5_1 < (l0.length : Int) := of_decide_eq_true as_
       obtain ⟨ad101, A101_1, c101_1, e101, hx101_0, hx101_1, hx101_2, hl101_1, hi101_1⟩ := at_T79 HR0.o x5_1 p101 q101
       cases e101
       have HR101_1 := q_ hi101_1; have HC101_1 := q_ hl101_1; clear hi101_1 hl101_1; replace p101 := eq_true p101; replace q101 := eq_true q101
       go_wp2_with (first | ((with_reducible refine gate_callee (f := 106) rfl ?_); refine gl_ (some 27) rfl rfl Try.func106 #[.slice A101_1 ((rd_T79 l0 x5_1).f1).length c101_1, .int .i64 (wrap64 (x1_1 + 1))] ?_; (with_reducible refine (laws_heldArmS.calls k1 _ _ ((rd_T79 l0 x5_1).f1) (wrap64 (x1_1 + 1)) t103 _ ?side1 ?side2 A6.o).mono ?_); (case side1 => repeat (first | exact HR101_1.o | (with_reducible refine Kd.C_alloc ?_ _) | (with_reducible refine Kd.C_drewN ?_ _) | (with_reducible refine Kd.C_drew ?_))); (case side2 => exact HC101_1.o); rintro e w' ⟨rfl, ⟨nd, rfl⟩⟩; refine ⟨_, rfl, ?_⟩))
       go_ret
       exact ⟨by first | rfl | (simp; done) | (simp [*]; done), by repeat (first | exact Drawn0.refl _ | apply Drawn0.step)⟩
      ·rw [if_neg c7] at H; have c7b0 := df_ c7; clear c7
       by_cases c8 : ((rd_T79 l0 x5_1).f2) = t103
       ·rw [if_pos c8] at H
        have c8b0 : (((rd_T79 l0 x5_1).f2) == t103) = true := beq_iff_eq.mpr c8
        have c8b1 : (((rd_T79 l0 x5_1).f2) != t103) = false := bne_eq_false_iff_eq.mpr c8
        clear c8
        have H' := q_ H
        clear H
        have p101 : 0 ≤ (x5_1 : Int) := of_decide_eq_true as_
        have q101 : x5_1 < (l0.length : Int) := of_decide_eq_true as_
        obtain ⟨ad101, A101_1, c101_1, e101, hx101_0, hx101_1, hx101_2, hl101_1, hi101_1⟩ := at_T79 HR0.o x5_1 p101 q101
        cases e101
        have HR101_1 := q_ hi101_1; have HC101_1 := q_ hl101_1; clear hi101_1 hl101_1; replace p101 := eq_true p101; replace q101 := eq_true q101
        go_wp2_with (first | ((with_reducible refine gate_callee (f := 106) rfl ?_); refine gl_ (some 27) rfl rfl Try.func106 #[.slice A101_1 ((rd_T79 l0 x5_1).f1).length c101_1, .int .i64 (wrap64 (x1_1 + 1))] ?_; (with_reducible refine (laws_heldArmS.calls k1 _ _ ((rd_T79 l0 x5_1).f1) (wrap64 (x1_1 + 1)) t103 _ ?side1 ?side2 A6.o).mono ?_); (case side1 => repeat (first | exact HR101_1.o | (with_reducible refine Kd.C_alloc ?_ _) | (with_reducible refine Kd.C_drewN ?_ _) | (with_reducible refine Kd.C_drew ?_))); (case side2 => exact HC101_1.o); rintro e w' ⟨rfl, ⟨nd, rfl⟩⟩; refine ⟨_, rfl, ?_⟩; have p104 : 0 ≤ (x5_1 : Int) := of_decide_eq_true as_; have q104 : x5_1 < (l0.length : Int) := of_decide_eq_true as_; obtain ⟨ad104, A104_1, c104_1, e104, hx104_0, hx104_1, hx104_2, hl104_1, hi104_1⟩ := at_T79 HR0.o x5_1 p104 q104; obtain rfl : ad101 = ad104 := (by injection e104); have HR104_1 := q_ hi104_1; have HC104_1 := q_ hl104_1; clear hi104_1 hl104_1; replace p104 := eq_true p104; replace q104 := eq_true q104; have ea_ := Option.some.inj (hx101_1.symm.trans hx104_1); injection ea_ with ea_ en_ ec_; subst ea_; subst ec_; clear en_))
        go_roundg k1
        case measure => have := HK1.o; omega
        case rel => exact ⟨(wrap64 (t103 + 1)), (wrap64 (x5_1 + 1)), rs_, rs_, H', ⟨by have := HK1.o; omega⟩, by repeat (first | exact Drawn0.refl _ | apply Drawn0.step)⟩
       ·rw [if_neg c8] at H
        have c8b0 : (((rd_T79 l0 x5_1).f2) == t103) = false := beq_eq_false_iff_ne.mpr c8
        have c8b1 : (((rd_T79 l0 x5_1).f2) != t103) = true := bne_iff_ne.mpr c8
        obtain rfl := Option.some.inj H
        have p101 : 0 ≤ (x5_1 : Int) := of_decide_eq_true as_
        have q101 : x5_1 < (l0.length : Int) := of_decide_eq_true as_
        obtain ⟨ad101, A101_1, c101_1, e101, hx101_0, hx101_1, hx101_2, hl101_1, hi101_1⟩ := at_T79 HR0.o x5_1 p101 q101
        cases e101
        have HR101_1 := q_ hi101_1; have HC101_1 := q_ hl101_1; clear hi101_1 hl101_1; replace p101 := eq_true p101; replace q101 := eq_true q101
        go_wp2_with (first | ((with_reducible refine gate_callee (f := 106) rfl ?_); refine gl_ (some 27) rfl rfl Try.func106 #[.slice A101_1 ((rd_T79 l0 x5_1).f1).length c101_1, .int .i64 (wrap64 (x1_1 + 1))] ?_; (with_reducible refine (laws_heldArmS.calls k1 _ _ ((rd_T79 l0 x5_1).f1) (wrap64 (x1_1 + 1)) t103 _ ?side1 ?side2 A6.o).mono ?_); (case side1 => repeat (first | exact HR101_1.o | (with_reducible refine Kd.C_alloc ?_ _) | (with_reducible refine Kd.C_drewN ?_ _) | (with_reducible refine Kd.C_drew ?_))); (case side2 => exact HC101_1.o); rintro e w' ⟨rfl, ⟨nd, rfl⟩⟩; refine ⟨_, rfl, ?_⟩; have p104 : 0 ≤ (x5_1 : Int) := of_decide_eq_true as_; have q104 : x5_1 < (l0.length : Int) := of_decide_eq_true as_; obtain ⟨ad104, A104_1, c104_1, e104, hx104_0, hx104_1, hx104_2, hl104_1, hi104_1⟩ := at_T79 HR0.o x5_1 p104 q104; obtain rfl : ad101 = ad104 := (by injection e104); have HR104_1 := q_ hi104_1; have HC104_1 := q_ hl104_1; clear hi104_1 hl104_1; replace p104 := eq_true p104; replace q104 := eq_true q104; have ea_ := Option.some.inj (hx101_1.symm.trans hx104_1); injection ea_ with ea_ en_ ec_; subst ea_; subst ec_; clear en_))
        go_ret
        exact ⟨by first | rfl | (simp; done) | (simp [*]; done), by repeat (first | exact Drawn0.refl _ | apply Drawn0.step)⟩
     ·rw [if_neg c5] at H
      have c5b0 : (((rd_T79 l0 x5_1).f0) == x1_1) = false := beq_eq_false_iff_ne.mpr c5
      have c5b1 : (((rd_T79 l0 x5_1).f0) != x1_1) = true := bne_iff_ne.mpr c5
      obtain rfl := Option.some.inj H
      have p101 : 0 ≤ (x5_1 : Int) := of_decide_eq_true as_
      have q101 : x5_1 < (l0.length : Int) := of_decide_eq_true as_
      obtain ⟨ad101, A101_1, c101_1, e101, hx101_0, hx101_1, hx101_2, hl101_1, hi101_1⟩ := at_T79 HR0.o x5_1 p101 q101
      cases e101
      have HR101_1 := q_ hi101_1; have HC101_1 := q_ hl101_1; clear hi101_1 hl101_1; replace p101 := eq_true p101; replace q101 := eq_true q101
      go_wp2
      go_ret
      exact ⟨by first | rfl | (simp; done) | (simp [*]; done), by repeat (first | exact Drawn0.refl _ | apply Drawn0.step)⟩
    ·rw [if_neg c4] at H
     exact absurd H (by simp)
   ·rw [if_neg c3] at H; have c3b0 := df_ c3; clear c3; obtain rfl := Option.some.inj H
    go_wp2
    go_ret
    exact ⟨by first | rfl | (simp; done) | (simp [*]; done), by repeat (first | exact Drawn0.refl _ | apply Drawn0.step)⟩
/-! ### laws_heldCode: function 16 -/
def laws_heldCode.f (k : Nat) (l0_0 : List (S79)) (a1 : Int) : Option (Int) := (laws_heldCBlockS.f k l0_0 a1).bind fun t102 => (if t102 < 0 then (some (-1)) else (some t102))
theorem laws_heldCode.calls (k : Nat) (A0_0 : Option Addr) (c0_0 : Nat) (l0_0 : List (S79)) (a1 : Int) (r : Int) (w : World) (hr0_0 : Kd.C k79 w A0_0 l0_0.length l0_0) (hc0_0 : l0_0.length ≤ c0_0) (h : laws_heldCode.f k l0_0 a1 = some r) :
  Calls Try.prog 16 #[.agg #[.slice A0_0 l0_0.length c0_0], .int .i64 a1] w fun e w' => e = .returned (.int .i64 r) ∧ Below w.heap.size w w' := by
 have hu29 := Try.underlying29; have HR0_0 := q_ hr0_0; have HC0_0 := q_ hc0_0; clear hr0_0 hc0_0; have HB := q_ (Below.refl w.heap.size w)
 have H : ((laws_heldCBlockS.f k l0_0 a1).bind fun t102 => (if t102 < 0 then (some (-1)) else (some t102))) = some r := h
 clear h; obtain ⟨t102, A3, H⟩ := ob_ H
 by_cases c4 : t102 < 0
 ·rw [if_pos c4] at H; have c4b0 := dt_ c4; clear c4; obtain rfl := Option.some.inj H
  go_enter Try.func16, Try.ntmps16
  go_wp2_with (first | ((with_reducible refine gate_dst (N := 2) rfl ?_); refine bx_ 2 #[.slice A0_0 l0_0.length c0_0] 29 ?_; intro gb101 hg w5 hbox hb; have BK101 := q_ (hbox); have GE101 := ge_ hg HB; replace HB := sb_ HB hb; clear hb hbox hg; obtain ⟨hcz6_0, hfz6_0⟩ := d1_ BK101) | ((with_reducible refine gate_callee (f := 51) rfl ?_); refine gl_ (some 8) rfl rfl Try.func51 #[.slice A0_0 l0_0.length c0_0, .int .i64 a1] ?_; (with_reducible refine (laws_heldCBlockS.calls k _ _ l0_0 a1 t102 _ ?side1 ?side2 A3.o).mono ?_); (case side1 => exact Kd.C_below HR0_0.o (be_ HB.o)); (case side2 => exact HC0_0.o); rintro e w' ⟨rfl, ⟨nd, rfl⟩⟩; refine ⟨_, rfl, ?_⟩))
  go_ret
  exact ⟨rt_, be1_ HB.o GE101.o⟩
 ·rw [if_neg c4] at H; have c4b0 := df_ c4; clear c4; obtain rfl := Option.some.inj H
  go_enter Try.func16, Try.ntmps16
  go_wp2_with (first | ((with_reducible refine gate_dst (N := 2) rfl ?_); refine bx_ 2 #[.slice A0_0 l0_0.length c0_0] 29 ?_; intro gb101 hg w7 hbox hb; have BK101 := q_ (hbox); have GE101 := ge_ hg HB; replace HB := sb_ HB hb; clear hb hbox hg; obtain ⟨hcz8_0, hfz8_0⟩ := d1_ BK101) | ((with_reducible refine gate_callee (f := 51) rfl ?_); refine gl_ (some 8) rfl rfl Try.func51 #[.slice A0_0 l0_0.length c0_0, .int .i64 a1] ?_; (with_reducible refine (laws_heldCBlockS.calls k _ _ l0_0 a1 t102 _ ?side1 ?side2 A3.o).mono ?_); (case side1 => exact Kd.C_below HR0_0.o (be_ HB.o)); (case side2 => exact HC0_0.o); rintro e w' ⟨rfl, ⟨nd, rfl⟩⟩; refine ⟨_, rfl, ?_⟩))
  go_ret
  exact ⟨rt_, be1_ HB.o GE101.o⟩
end Go.Proofs.Ytlecpdpdcocibaa.P
namespace Go.Proofs.Ytlecpdpdcocibaa.P
open Go.RowKit Go.Proofs.YtlecpdpdcocibaaW.PrintWords Go.Proofs.YtlecpdpdcocibaaW.PrintLast Go.Proofs.YtlecpdpdcocibaaEv
set_option linter.unusedVariables false
set_option linter.unusedSimpArgs false
def h79 (x : S79) : Prop := x.f1.length ≤ 9223372036854775807
theorem laws_eqArmS_ev (l : List S81) (hl : l.length ≤ 9223372036854775807) : Ev (fun k => laws_eqArmS.f k l l) true := by
  unfold laws_eqArmS.f
  simp only [ev_ite]
  rw [if_pos trivial]
  refine ev_loop l.length (fun k i => laws_eqArmS.l0 k l l (i : Nat)) (fun _ => true) ?_ ?_ 0 (by omega)
  · rw [ev_succ]
    simp [laws_eqArmS.l0, ev_some]
  · intro i hi ih
    skip
    rw [ev_succ]
    simp only [laws_eqArmS.l0, laws_eqArm.f, if_true, bne_self_eq_false, Bool.false_eq_true, if_false, Option.bind_some, ev_ite]
    rw [if_pos (by omega), if_pos (by omega), wrap_succ hi (by omega)]
    (try rw [if_pos (by omega)])
    skip
    (try simp only [if_true, ev_ite])
    exact ih
theorem laws_eqCBlock_ev (v0 : Int) (v1 : List S81) (v2 : Int) (hb_v1 : v1.length ≤ 9223372036854775807) : Ev (fun k => laws_eqCBlock.f k v0 v1 v2 v0 v1 v2) true := by
  unfold laws_eqCBlock.f
  (try simp only [if_true, ev_ite, bne_self_eq_false, Bool.false_eq_true, if_false, ev_some])
  rw [ev_bind (laws_eqArmS_ev v1 hb_v1)]
  (try simp only [if_true, ev_ite, bne_self_eq_false, Bool.false_eq_true, if_false, ev_some])
theorem laws_eqCBlockS_ev (l : List S79) (hl : l.length ≤ 9223372036854775807) (hh : ∀ x ∈ l, h79 x) : Ev (fun k => laws_eqCBlockS.f k l l) true := by
  unfold laws_eqCBlockS.f
  simp only [ev_ite]
  rw [if_pos trivial]
  refine ev_loop l.length (fun k i => laws_eqCBlockS.l0 k l l (i : Nat)) (fun _ => true) ?_ ?_ 0 (by omega)
  · rw [ev_succ]
    simp [laws_eqCBlockS.l0, ev_some]
  · intro i hi ih
    have hhy : h79 (rd_T79 l i) := by
      have hr : l.getD i z79 = rd_T79 l i := by simp [rd_T79]
      rw [← hr, List.getD_eq_getElem?_getD, List.getElem?_eq_getElem hi]
      exact hh _ (List.getElem_mem _)
    rw [ev_succ]
    simp only [laws_eqCBlockS.l0, ev_ite]
    rw [if_pos (by omega), if_pos (by omega), wrap_succ hi (by omega)]
    (try rw [if_pos (by omega)])
    rw [ev_bind (laws_eqCBlock_ev _ _ _ (hhy))]
    (try simp only [if_true, ev_ite])
    exact ih
theorem laws_eqCode_ev (v0 : List S79) (hb_v0 : v0.length ≤ 9223372036854775807) (hh_v0 : ∀ x ∈ v0, h79 x) : Ev (fun k => laws_eqCode.f k v0 v0) true := by
  unfold laws_eqCode.f
  (try simp only [if_true, ev_ite, bne_self_eq_false, Bool.false_eq_true, if_false, ev_some])
  rw [ev_bind (laws_eqCBlockS_ev v0 hb_v0 hh_v0)]
  (try simp only [if_true, ev_ite, bne_self_eq_false, Bool.false_eq_true, if_false, ev_some])
theorem laws_heldArmS_ev (n : Nat) (a : Int) (h0 : 0 ≤ a) (h1 : a + 3 * n ≤ 9000000000000000000) : Ev (fun k => laws_heldArmS.f k ((List.range n).map (mkArm a)) a) (a + 3 * n) := by
  unfold laws_heldArmS.f
  have h := ev_loop n (fun k i => laws_heldArmS.l0 k ((List.range n).map (mkArm a)) (a + 3 * (i : Int)) (i : Nat)) (fun _ => a + 3 * n) ?_ ?_ 0 (by omega)
  · simpa using h
  · rw [ev_succ]
    simp [laws_heldArmS.l0, ev_some]
  · intro i hi ih
    rw [ev_succ]
    have hr : rd_T81 ((List.range n).map (mkArm a)) (i : Int) = mkArm a i := by simp [rd_T81, hi]
    simp only [laws_heldArmS.l0, ev_ite, hr, List.length_map, List.length_range, mkArm]
    have e1 : wrap64 (a + 3 * (i : Int) + 1) = a + 3 * (i : Int) + 1 := wrap_id (by omega) (by omega)
    have e2 : wrap64 (a + 3 * (i : Int) + 1 + 1) = a + 3 * (i : Int) + 2 := by rw [show a + 3 * (i : Int) + 1 + 1 = a + 3 * (i : Int) + 2 by omega]; exact wrap_id (by omega) (by omega)
    have e3 : wrap64 (a + 3 * (i : Int) + 2 + 1) = a + 3 * ((i + 1 : Nat) : Int) := by rw [show a + 3 * (i : Int) + 2 + 1 = a + 3 * ((i + 1 : Nat) : Int) by omega]; exact wrap_id (by omega) (by omega)
    rw [if_pos (by omega), if_pos (by omega), if_pos trivial, e1, if_pos rfl, e2, if_pos rfl, e3, wrap_succ hi (by omega)]
    exact ih
theorem laws_heldCBlockS_ev (l : List S79) (a : Int) (h0 : 0 ≤ a) (h1 : a + cntB l ≤ 9000000000000000000) (hl : l.length ≤ 9000000000000000000) : Ev (fun k => laws_heldCBlockS.f k (mkBs l a) a) (a + cntB l) := by
  unfold laws_heldCBlockS.f
  have h := ev_loop l.length (fun k i => laws_heldCBlockS.l0 k (mkBs l a) (a + (cntB (l.take i) : Nat)) (i : Nat)) (fun _ => a + (cntB l : Nat)) ?_ ?_ 0 (by omega)
  · simpa [cntB] using h
  · rw [ev_succ]
    simp [laws_heldCBlockS.l0, ev_some, mkBs_length]
  · intro i hi ih
    rw [ev_succ]
    have hr : rd_T79 (mkBs l a) (i : Int) = mkB (a + (cntB (l.take i) : Nat)) l[i] := by
      unfold rd_T79
      rw [Int.toNat_natCast, List.getD_eq_getElem?_getD, mkBs_get l a i hi]
      rfl
    have hc := cntB_take l i hi
    have hle := cntB_le l (i + 1)
    rw [hc] at hle ih
    unfold mcB at hle ih
    simp only [laws_heldCBlockS.l0, ev_ite, hr, mkB, mkBs_length]
    obtain ⟨K, hK⟩ : ∃ K : Int, a + (cntB (l.take i) : Int) = K := ⟨_, rfl⟩
    rw [hK]
    have e1 : wrap64 (K + 1) = K + 1 := wrap_id (by omega) (by omega)
    have e2 : wrap64 (K + 1 + 3 * (l[i].f1.length : Int) + 1) = a + ((cntB (l.take i) + (2 + 3 * l[i].f1.length) : Nat) : Int) := by rw [show K + 1 + 3 * (l[i].f1.length : Int) + 1 = a + ((cntB (l.take i) + (2 + 3 * l[i].f1.length) : Nat) : Int) by omega]; exact wrap_id (by omega) (by omega)
    rw [if_pos (by omega), if_pos (by omega), if_pos trivial]
    simp only [e1]
    rw [ev_bind (laws_heldArmS_ev l[i].f1.length (K + 1) (by omega) (by omega)), ev_ite, if_neg (by omega), ev_ite, if_pos rfl, e2, wrap_succ hi (by omega)]
    exact ih
theorem laws_heldCode_ev (l : List S79) (a : Int) (h0 : 0 ≤ a) (h1 : a + cntB l ≤ 9000000000000000000) (hl : l.length ≤ 9000000000000000000) : Ev (fun k => laws_heldCode.f k (mkBs l a) a) (a + cntB l) := by
  unfold laws_heldCode.f
  rw [ev_bind (laws_heldCBlockS_ev l a h0 h1 hl), ev_ite, if_neg (by omega)]
  exact ev_some.2 rfl
end Go.Proofs.Ytlecpdpdcocibaa.P
namespace Go.Proofs.Ytlecpdpdcocibaa.P
open Go.RowKit Go.Proofs.YtlecpdpdcocibaaW.PrintWords Go.Proofs.YtlecpdpdcocibaaW.PrintLast Go.Proofs.YtlecpdpdcocibaaW.PrintMore Go.Proofs.YtlecpdpdcocibaaEv
set_option linter.unusedVariables false
set_option linter.unusedSimpArgs false
def sk : Value → Value → Prop
  | .int k _, .int k' _ => k = k'
  | .string _, .string _ => True
  | .bool _, .bool _ => True
  | v, v' => v' = v
theorem sk_refl (v : Value) : sk v v := by
  cases v <;> simp [sk]
theorem sk_int {k : IntKind} {x : Int} {u : Value} (h : sk (.int k x) u) : ∃ y, u = .int k y := by
  cases u with
  | int k' y => simp [sk] at h; exact ⟨y, by rw [h]⟩
  | _ => simp [sk] at h
theorem sk_string {x : ByteArray} {u : Value} (h : sk (.string x) u) : ∃ y, u = .string y := by
  cases u with
  | string y => exact ⟨y, rfl⟩
  | _ => simp [sk] at h
theorem sk_bool {x : Bool} {u : Value} (h : sk (.bool x) u) : ∃ y, u = .bool y := by
  cases u with
  | bool y => exact ⟨y, rfl⟩
  | _ => simp [sk] at h
theorem sk_slice {A : Option Addr} {n c : Nat} {u : Value} (h : sk (.slice A n c) u) : u = .slice A n c := by
  cases u <;> exact h
theorem sk_trans {u v x : Value} (h : sk u v) (h2 : sk v x) : sk u x := by
  cases u with
  | int k a =>
    obtain ⟨b, rfl⟩ := sk_int h
    obtain ⟨c, rfl⟩ := sk_int h2
    simp [sk]
  | string a =>
    obtain ⟨b, rfl⟩ := sk_string h
    obtain ⟨c, rfl⟩ := sk_string h2
    simp [sk]
  | bool a =>
    obtain ⟨b, rfl⟩ := sk_bool h
    obtain ⟨c, rfl⟩ := sk_bool h2
    simp [sk]
  | _ =>
    have e : v = _ := h
    subst e
    exact h2
structure Like (w w' : World) : Prop where
  size : w.heap.size ≤ w'.heap.size
  block : ∀ (g : Nat) (cs : Array Value) (t : TypeId), w.heap[g]? = some (.cells cs t (0, 0)) → ∃ cs' : Array Value, w'.heap[g]? = some (.cells cs' t (0, 0)) ∧ cs'.size = cs.size ∧ ∀ (i : Nat) u, cs[i]? = some u → ∃ u', cs'[i]? = some u' ∧ sk u u'
theorem Like.refl (w : World) : Like w w := ⟨Nat.le_refl _, fun g cs t h => ⟨cs, h, rfl, fun i u hu => ⟨u, hu, sk_refl u⟩⟩⟩
theorem Like.trans {w w1 w2 : World} (h : Like w w1) (k : Like w1 w2) : Like w w2 := ⟨Nat.le_trans h.size k.size, fun g cs t hb => by
  obtain ⟨cs1, hb1, hs1, hc1⟩ := h.block g cs t hb
  obtain ⟨cs2, hb2, hs2, hc2⟩ := k.block g cs1 t hb1
  refine ⟨cs2, hb2, hs2.trans hs1, fun i u hu => ?_⟩
  obtain ⟨u1, hu1, k1⟩ := hc1 i u hu
  obtain ⟨u2, hu2, k2⟩ := hc2 i u1 hu1
  exact ⟨u2, hu2, sk_trans k1 k2⟩⟩
theorem Like.below {w w1 w2 : World} (h : Like w w1) (hb : Below w1.heap.size w1 w2) : Like w w2 := h.trans ⟨hb.size, fun g cs t hg => ⟨cs, blk_below hg hb, rfl, fun i u hu => ⟨u, hu, sk_refl u⟩⟩⟩
theorem Like.set {w w1 : World} (h : Like w w1) {g i : Nat} {t : TypeId} {cs : Array Value} {u u' : Value} (hg : w1.heap[g]? = some (.cells cs t (0, 0))) (hc : w1.cell? ⟨g, i, none⟩ = some u) (hs : sk u u') : Like w (w1.setCell ⟨g, i, none⟩ u') := h.trans ⟨by simp [World.setCell], fun b cs2 t2 hb => by
  by_cases e : b = g
  · subst e
    rw [hg] at hb
    injection hb with hb
    injection hb with e1 e2
    subst e1
    subst e2
    refine ⟨_, blk_set hg i u', by simp, fun j x hx => ?_⟩
    rw [blk_cell hg i] at hc
    by_cases e2 : i = j
    · subst e2
      have hu : x = u := by rw [hc] at hx; injection hx with hx; exact hx.symm
      have hi : i < cs.size := (Array.getElem?_eq_some_iff.1 hc).1
      exact ⟨u', by simp [Array.getElem?_setIfInBounds, hi], by rw [hu]; exact hs⟩
    · exact ⟨x, by rw [Array.getElem?_setIfInBounds_ne e2]; exact hx, sk_refl x⟩
  · exact ⟨cs2, blk_far hb e u', rfl, fun j x hx => ⟨x, hx, sk_refl x⟩⟩⟩
theorem Like.cell {w w1 : World} (h : Like w w1) {g i : Nat} {t : TypeId} {cs : Array Value} {u : Value} (hg : w.heap[g]? = some (.cells cs t (0, 0))) (hc : w.cell? ⟨g, i, none⟩ = some u) : ∃ u', w1.cell? ⟨g, i, none⟩ = some u' ∧ sk u u' ∧ w1.frozen? ⟨g, i, none⟩ = false ∧ ∃ cs', w1.heap[g]? = some (.cells cs' t (0, 0)) := by
  obtain ⟨cs', hb, _, hcc⟩ := h.block g cs t hg
  rw [blk_cell hg i] at hc
  obtain ⟨u', hu, k⟩ := hcc i u hc
  exact ⟨u', (blk_cell hb i).trans hu, k, blk_frozen hb i, cs', hb⟩
theorem like_int {w w1 : World} {g i : Nat} {t : TypeId} {cs : Array Value} {k : IntKind} {x : Int} (h : Like w w1) (hg : w.heap[g]? = some (.cells cs t (0, 0))) (hc : w.cell? ⟨g, i, none⟩ = some (.int k x)) : ∃ y, w1.cell? ⟨g, i, none⟩ = some (.int k y) ∧ w1.frozen? ⟨g, i, none⟩ = false := by
  obtain ⟨u, h1, h2, h3, _⟩ := h.cell hg hc
  obtain ⟨y, rfl⟩ := sk_int h2
  exact ⟨y, h1, h3⟩
theorem like_string {w w1 : World} {g i : Nat} {t : TypeId} {cs : Array Value} {x : ByteArray} (h : Like w w1) (hg : w.heap[g]? = some (.cells cs t (0, 0))) (hc : w.cell? ⟨g, i, none⟩ = some (.string x)) : ∃ y, w1.cell? ⟨g, i, none⟩ = some (.string y) ∧ w1.frozen? ⟨g, i, none⟩ = false := by
  obtain ⟨u, h1, h2, h3, _⟩ := h.cell hg hc
  obtain ⟨y, rfl⟩ := sk_string h2
  exact ⟨y, h1, h3⟩
theorem like_bool {w w1 : World} {g i : Nat} {t : TypeId} {cs : Array Value} {x : Bool} (h : Like w w1) (hg : w.heap[g]? = some (.cells cs t (0, 0))) (hc : w.cell? ⟨g, i, none⟩ = some (.bool x)) : ∃ y, w1.cell? ⟨g, i, none⟩ = some (.bool y) ∧ w1.frozen? ⟨g, i, none⟩ = false := by
  obtain ⟨u, h1, h2, h3, _⟩ := h.cell hg hc
  obtain ⟨y, rfl⟩ := sk_bool h2
  exact ⟨y, h1, h3⟩
theorem like_slice {w w1 : World} {g i : Nat} {t : TypeId} {cs : Array Value} {A : Option Addr} {n c : Nat} (h : Like w w1) (hg : w.heap[g]? = some (.cells cs t (0, 0))) (hc : w.cell? ⟨g, i, none⟩ = some (.slice A n c)) : w1.cell? ⟨g, i, none⟩ = some (.slice A n c) := by
  obtain ⟨u, h1, h2, _⟩ := h.cell hg hc
  rw [h1, sk_slice h2]
theorem Like.put_int {w w1 : World} {g i : Nat} {t : TypeId} {cs : Array Value} {k : IntKind} {x y : Int} (h : Like w w1) (hg : w.heap[g]? = some (.cells cs t (0, 0))) (hc : w.cell? ⟨g, i, none⟩ = some (.int k x)) : Like w (w1.setCell ⟨g, i, none⟩ (.int k y)) := by
  obtain ⟨u, h1, h2, h3, cs', h4⟩ := h.cell hg hc
  obtain ⟨z, rfl⟩ := sk_int h2
  exact h.set h4 h1 rfl
theorem Like.put_string {w w1 : World} {g i : Nat} {t : TypeId} {cs : Array Value} {x y : ByteArray} (h : Like w w1) (hg : w.heap[g]? = some (.cells cs t (0, 0))) (hc : w.cell? ⟨g, i, none⟩ = some (.string x)) : Like w (w1.setCell ⟨g, i, none⟩ (.string y)) := by
  obtain ⟨u, h1, h2, h3, cs', h4⟩ := h.cell hg hc
  obtain ⟨z, rfl⟩ := sk_string h2
  exact h.set h4 h1 trivial
theorem Like.put_bool {w w1 : World} {g i : Nat} {t : TypeId} {cs : Array Value} {x y : Bool} (h : Like w w1) (hg : w.heap[g]? = some (.cells cs t (0, 0))) (hc : w.cell? ⟨g, i, none⟩ = some (.bool x)) : Like w (w1.setCell ⟨g, i, none⟩ (.bool y)) := by
  obtain ⟨u, h1, h2, h3, cs', h4⟩ := h.cell hg hc
  obtain ⟨z, rfl⟩ := sk_bool h2
  exact h.set h4 h1 trivial
def sks (cs cs' : List Value) : Prop := cs'.length = cs.length ∧ ∀ (i : Nat) u, cs[i]? = some u → ∃ u', cs'[i]? = some u' ∧ sk u u'
theorem sks_one {u : Value} {cs' : List Value} (h : sks [u] cs') : ∃ u', cs' = [u'] ∧ sk u u' := by
  obtain ⟨h1, h2⟩ := h
  obtain ⟨u', h3, h4⟩ := h2 0 u rfl
  match cs', h1, h3 with
  | [x], _, h3 => exact ⟨x, rfl, by injection h3 with h3; rw [h3]; exact h4⟩
theorem sks_append {a b cs' : List Value} (h : sks (a ++ b) cs') : ∃ a' b', cs' = a' ++ b' ∧ sks a a' ∧ sks b b' := by
  obtain ⟨h1, h2⟩ := h
  rw [List.length_append] at h1
  refine ⟨cs'.take a.length, cs'.drop a.length, (List.take_append_drop _ _).symm, ⟨by rw [List.length_take]; omega, fun i u hu => ?_⟩, ⟨by rw [List.length_drop]; omega, fun i u hu => ?_⟩⟩
  · have hi : i < a.length := (List.getElem?_eq_some_iff.1 hu).1
    obtain ⟨u', h3, h4⟩ := h2 i u (by rw [List.getElem?_append_left hi]; exact hu)
    exact ⟨u', by rw [List.getElem?_take_of_lt hi]; exact h3, h4⟩
  · obtain ⟨u', h3, h4⟩ := h2 (a.length + i) u (by rw [List.getElem?_append_right (by omega)]; simpa using hu)
    exact ⟨u', by rw [List.getElem?_drop]; exact h3, h4⟩
def sumN {α : Type} (m : α → Nat) : List α → Nat
  | [] => 0
  | x :: xs => m x + sumN m xs
theorem sumN_len {α : Type} (m : α → Nat) (h : ∀ x, 1 ≤ m x) : ∀ l : List α, l.length ≤ sumN m l
  | [] => Nat.le_refl _
  | x :: xs => by have := sumN_len m h xs; have := h x; simp only [sumN, List.length_cons]; omega
theorem sumN_take {α : Type} (m : α → Nat) : ∀ (l : List α) (i : Nat) (h : i < l.length), sumN m (l.take (i + 1)) = sumN m (l.take i) + m l[i]
  | x :: xs, 0, _ => by simp [sumN]
  | x :: xs, i + 1, h => by
    simp only [List.take_succ_cons, sumN, List.getElem_cons_succ]
    rw [sumN_take m xs i (by simpa using h)]
    omega
theorem sumN_le {α : Type} (m : α → Nat) (l : List α) (i : Nat) : sumN m (l.take i) ≤ sumN m l := by
  induction l generalizing i with
  | nil => simp [sumN]
  | cons x xs ih =>
    cases i with
    | zero => simp [sumN]
    | succ i => simp only [List.take_succ_cons, sumN]; have := ih i; omega
theorem sumN_map {α : Type} (m : α → Nat) : ∀ l l' : List α, l'.map m = l.map m → sumN m l' = sumN m l
  | [], [], _ => rfl
  | x :: xs, [], h => by simp at h
  | [], x :: xs, h => by simp at h
  | x :: xs, y :: ys, h => by
    simp only [List.map_cons, List.cons.injEq] at h
    simp only [sumN, h.1, sumN_map m xs ys h.2]
def Keeps {α : Type} (d : Kd α) (m : α → Nat) : Prop := ∀ {w w' : World} {base : Nat} {ok : Nat → Prop} {x : α} {cs cs' : List Value}, Like w w' → d.M w base ok x cs → sks cs cs' → ∃ x', d.M w' base ok x' cs' ∧ m x' = m x
theorem like_list {α : Type} (P : Nat → α → Prop) : ∀ n : Nat, (∀ i, i < n → ∃ x, P i x) → ∃ l : List α, l.length = n ∧ ∀ i x, l[i]? = some x → P i x
  | 0, _ => ⟨[], rfl, fun i x h => by simp at h⟩
  | n + 1, h => by
    obtain ⟨l, hl, hp⟩ := like_list P n (fun i hi => h i (by omega))
    obtain ⟨x, hx⟩ := h n (by omega)
    refine ⟨l ++ [x], by simp [hl], fun i y hy => ?_⟩
    by_cases hi : i < n
    · rw [List.getElem?_append_left (by omega)] at hy
      exact hp i y hy
    · have hlt : i < (l ++ [x]).length := (List.getElem?_eq_some_iff.1 hy).1
      have e : i = n := by simp at hlt; omega
      subst e
      rw [List.getElem?_append_right (by omega), hl, Nat.sub_self] at hy
      injection hy with hy
      rw [← hy]
      exact hx
theorem R_like {α : Type} {d : Kd α} {m : α → Nat} (hd : Keeps d m) {e : Nat} {w w' : World} {base : Nat} {ok : Nat → Prop} {v : Value} {xs : List α} (h : d.R e w base ok v xs) (hl : Like w w') : ∃ xs', d.R e w' base ok v xs' ∧ xs'.map m = xs.map m := by
  obtain ⟨h0, inner, ⟨hi, ho⟩, hr⟩ := h
  rcases ho with ⟨rfl, hn⟩ | ⟨g, cap, cur, rfl, hg, hh, hnc, hcm, hcs, htk⟩
  · have : xs = [] := List.length_eq_zero_iff.1 hn
    subst this
    exact ⟨[], Kd.R_nil _ _ _ _ _, rfl⟩
  · obtain ⟨cur', hh', hs', hc'⟩ := hl.block g cur e hh
    have hsk : sks inner (cur'.toList.take (xs.length * d.sz)) := by
      rw [← htk]
      refine ⟨by simp [hs'], fun i u hu => ?_⟩
      have hlt : i < xs.length * d.sz := by
        have := (List.getElem?_eq_some_iff.1 hu).1
        rw [List.length_take] at this
        omega
      rw [List.getElem?_take_of_lt hlt] at hu ⊢
      obtain ⟨u', h1, h2⟩ := hc' i u (by simpa using hu)
      exact ⟨u', by simpa using h1, h2⟩
    have hx : ∀ i, i < xs.length → ∃ x', d.M w' base (fun k => ok k ∧ some k ≠ (Value.slice (some ⟨g, 0, none⟩) xs.length cap).ownBlock) x' (((cur'.toList.take (xs.length * d.sz)).drop (i * d.sz)).take d.sz) ∧ (∃ x, xs[i]? = some x ∧ m x' = m x) := by
      intro i hi2
      obtain ⟨x', h1, h2⟩ := hd hl (hr.2 i xs[i] (List.getElem?_eq_getElem hi2)) (cs' := ((cur'.toList.take (xs.length * d.sz)).drop (i * d.sz)).take d.sz) (by
        obtain ⟨s1, s2⟩ := hsk
        refine ⟨by simp only [List.length_take, List.length_drop] at s1 ⊢; omega, fun j u hu => ?_⟩
        have hj : j < d.sz := by
          have := (List.getElem?_eq_some_iff.1 hu).1
          rw [List.length_take] at this
          omega
        rw [List.getElem?_take_of_lt hj, List.getElem?_drop] at hu ⊢
        exact s2 _ u hu)
      exact ⟨x', h1, xs[i], List.getElem?_eq_getElem hi2, h2⟩
    obtain ⟨xs', hlen, hp⟩ := like_list _ xs.length hx
    refine ⟨xs', ⟨?_, cur'.toList.take (xs.length * d.sz), ⟨?_, .inr ⟨g, cap, cur', by rw [hlen], hg, hh', by rw [hlen]; exact hnc, hcm, by rw [hs', hcs], by rw [hlen]⟩⟩, ⟨?_, fun j p hj => (hp j p hj).1⟩⟩, ?_⟩
    · intro k hk
      exact h0 k hk
    · rw [hlen]
      exact hsk.1.trans hi
    · rw [hlen]
      exact hsk.1.trans hi
    · apply List.ext_getElem?
      intro i
      rw [List.getElem?_map, List.getElem?_map]
      by_cases hi2 : i < xs.length
      · obtain ⟨_, x, h1, h2⟩ := hp i xs'[i] (List.getElem?_eq_getElem (by omega))
        rw [List.getElem?_eq_getElem (by omega : i < xs'.length), h1]
        simp [h2]
      · rw [List.getElem?_eq_none (by omega), List.getElem?_eq_none (by omega)]
theorem keeps_int (k : IntKind) : Keeps (Kd.int k) (fun _ => 1) := by
  intro w w' base ok x cs cs' hl hM hs
  have e : cs = [.int k x] := hM
  subst e
  obtain ⟨u, rfl, hu⟩ := sks_one hs
  obtain ⟨y, rfl⟩ := sk_int hu
  exact ⟨y, rfl, rfl⟩
theorem keeps_string : Keeps Kd.string (fun _ => 1) := by
  intro w w' base ok x cs cs' hl hM hs
  have e : cs = [.string x] := hM
  subst e
  obtain ⟨u, rfl, hu⟩ := sks_one hs
  obtain ⟨y, rfl⟩ := sk_string hu
  exact ⟨y, rfl, rfl⟩
theorem keeps_bool : Keeps Kd.bool (fun _ => 1) := by
  intro w w' base ok x cs cs' hl hM hs
  have e : cs = [.bool x] := hM
  subst e
  obtain ⟨u, rfl, hu⟩ := sks_one hs
  obtain ⟨y, rfl⟩ := sk_bool hu
  exact ⟨y, rfl, rfl⟩
theorem keeps_pair {α β : Type} {a : Kd α} {b : Kd β} {m : α → Nat} {n : β → Nat} (ha : Keeps a m) (hb : Keeps b n) : Keeps (Kd.pair a b) (fun x => m x.1 + n x.2) := by
  intro w w' base ok x cs cs' hl hM hs
  obtain ⟨c0, c1, rfl, h0, h1⟩ := hM
  obtain ⟨a', b', rfl, s0, s1⟩ := sks_append hs
  obtain ⟨x0, k0, e0⟩ := ha hl h0 s0
  obtain ⟨x1, k1, e1⟩ := hb hl h1 s1
  exact ⟨(x0, x1), ⟨a', b', rfl, k0, k1⟩, by simp only [e0, e1]⟩
theorem keeps_slice {α : Type} {d : Kd α} {m : α → Nat} (hd : Keeps d m) (e : Nat) : Keeps (Kd.slice e d) (sumN m) := by
  intro w w' base ok x cs cs' hl hM hs
  obtain ⟨v, rfl, h⟩ := hM
  obtain ⟨u, rfl, hu⟩ := sks_one hs
  obtain ⟨A, c, rfl⟩ := Kd.R_slice h
  have e2 := sk_slice hu
  subst e2
  obtain ⟨xs', h1, h2⟩ := R_like hd h hl
  exact ⟨xs', ⟨_, rfl, h1⟩, sumN_map m _ _ h2⟩
theorem keeps_iso {α β : Type} {d : Kd α} {m : α → Nat} (hd : Keeps d m) (f : β → α) (g : α → β) (hfg : ∀ y, f (g y) = y) : Keeps (Kd.iso d f) (fun x => m (f x)) := by
  intro w w' base ok x cs cs' hl hM hs
  obtain ⟨y, h1, h2⟩ := hd hl (show d.M w base ok (f x) cs from hM) hs
  exact ⟨g y, show d.M w' base ok (f (g y)) cs' by rw [hfg]; exact h1, by show m (f (g y)) = m (f x); rw [hfg]; exact h2⟩
theorem R_at {α : Type} {d : Kd α} {e : Nat} {w : World} {base : Nat} {ok : Nat → Prop} {g n c : Nat} {xs : List α} (h : d.R e w base ok (.slice (some ⟨g, 0, none⟩) n c) xs) (i : Nat) (hi : i < xs.length) : ∃ cs, ∃ cur : Array Value, d.M w base ok xs[i] cs ∧ (∀ (j : Nat) u, cs[j]? = some u → w.cell? ⟨g, i * d.sz + j, none⟩ = some u) ∧ w.heap[g]? = some (.cells cur e (0, 0)) ∧ ok g ∧ base ≤ g := by
  obtain ⟨h0, inner, ⟨hl, ho⟩, hr⟩ := h
  rcases ho with ⟨he, _⟩ | ⟨g2, cap, cur, he, hg, hh, hnc, hcm, hcs, htk⟩
  · exact absurd he (by simp)
  · injection he with e1 e2 e3
    injection e1 with e1
    injection e1 with e1
    subst e1
    refine ⟨_, cur, d.M_mono (fun _ hk => hk.1) (hr.2 i xs[i] (List.getElem?_eq_getElem hi)), fun j u hu => ?_, hh, h0 g (by simp [Value.ownBlock]), hg⟩
    rw [blk_cell hh, ← Array.getElem?_toList]
    have hj : j < d.sz := by
      have := (List.getElem?_eq_some_iff.1 hu).1
      rw [List.length_take] at this
      omega
    rw [List.getElem?_take_of_lt hj, List.getElem?_drop, ← htk] at hu
    have hlt := (List.getElem?_eq_some_iff.1 hu).1
    rw [List.length_take] at hlt
    rw [List.getElem?_take_of_lt (by omega)] at hu
    exact hu
end Go.Proofs.Ytlecpdpdcocibaa.P
namespace Go.Proofs.Ytlecpdpdcocibaa.P
set_option linter.unusedVariables false
set_option linter.unusedSimpArgs false
open Go.RowKit Go.Proofs.YtlecpdpdcocibaaW.PrintWords Go.Proofs.YtlecpdpdcocibaaW.PrintLast Go.Proofs.YtlecpdpdcocibaaW.PrintMore Go.Proofs.YtlecpdpdcocibaaEv
theorem markInt64S_walk (P_ : Nat → Prop) (u : Value) (l0 : List Int) (a1 : Int) (n : Nat) (hn : sumN (fun _ => 1) l0 = n) (h0 : 0 ≤ a1) (h1 : a1 + n ≤ 9000000000000000000) (w0 w : World) (hB : Below w0.heap.size w0 w) (ho0 : Kd.R (Kd.int .i64) 2 w w0.heap.size P_ u l0) :
    Calls Try.prog 48 #[u, .int .i64 a1] w fun e w' => e = .returned (.int .i64 (a1 + n)) ∧ Like w w' ∧ Below w0.heap.size w0 w' ∧ Kept w w' P_ := by
  have hlen := sumN_len (fun _ => 1) (fun _ => Nat.le_refl _) l0
  obtain ⟨A, c, rfl⟩ := Kd.R_slice ho0
  have HO := q_ ho0
  have HB := q_ hB
  clear ho0 hB
  go_enter Try.func48, Try.ntmps48
  go_wp2
  go_loopg [1, 5] l0.length (fun gg v1 v5 w' => ∃ kk : Nat, kk ≤ l0.length ∧ l0.length - kk ≤ gg ∧ v1 = .int .i64 (a1 + (sumN (fun _ => 1) (l0.take kk) : Nat)) ∧ v5 = .int .i64 kk ∧ J0 (Like w w') ∧ J0 (Below w0.heap.size w0 w') ∧ J0 (Kept w w' P_))
  case atStart => exact ⟨0, Nat.zero_le _, by omega, by simp [sumN], rfl, ⟨Like.refl _⟩, HB, ⟨Kept.refl _ _⟩⟩
  case round =>
    obtain ⟨kk, hkk, hg, rfl, rfl, HW, HB2, HK⟩ := hrel
    clear HB
    by_cases hlt : kk < l0.length
    · have hltz : (kk : Int) < (l0.length : Int) := by omega
      obtain ⟨ls, hR, hm⟩ := R_like (keeps_int .i64) HO.o HW.o
      have hlen2 : ls.length = l0.length := by simpa using congrArg List.length hm
      obtain ⟨g, cap, hv, hgw, _, _⟩ := Kd.R_form hR (by omega)
      have hA : A = some ⟨g, 0, none⟩ := by injection hv
      subst hA
      obtain ⟨cs, cur, hM, hcc, hG, hP, _⟩ := R_at hR kk (by omega)
      have hcnt := sumN_take (fun _ => 1) l0 kk hlt
      have hcle := sumN_le (fun _ => 1) l0 (kk + 1)
      obtain ⟨x, hxe⟩ : ∃ x, x = ls[kk] := ⟨_, rfl⟩
      rw [← hxe] at hM
      clear hxe
      have hM : cs = [.int .i64 x] := hM
      subst hM
      have hx0 := hcc 0 _ rfl
      rw [show kk * (Kd.int .i64).sz + 0 = kk from Nat.mul_one kk] at hx0
      have X0 := q_ hx0
      have HG := q_ hG
      have HP := q_ hP
      have HL := q_ (Like.refl wr)
      obtain ⟨K, hK⟩ : ∃ K : Int, a1 + (sumN (fun _ => 1) (l0.take kk) : Nat) = K := ⟨_, rfl⟩
      have hK0 : 0 ≤ K := by omega
      have hK1 : K + 1 = a1 + (sumN (fun _ => 1) (l0.take (kk + 1)) : Nat) := by omega
      have hK2 : K + 1 ≤ 9000000000000000000 := by omega
      rw [hK]
      clear hcc hG hP hv hm hR hcnt hcle hx0
      have qw0 : IntKind.i64.wrap (K + 1) = K + 1 := by rw [i64_w]; exact wrap_id (by omega) (by omega)
      have T1 : J0 True := ⟨trivial⟩
      obtain ⟨y0, hc0, hf0⟩ := like_int HL.o HG.o X0.o
      go_wp2_with ((with_reducible refine gate_store (t := 2) (p := 15) rfl ?_); clear T1; refine store_event (t := 2) (p := 15) (v := ?vo_w10) (w1 := (wr.setCell ⟨g, kk, none⟩ (.int .i64 (K)))) ?hg ?ho ?hn ?hr ?_; (case ho => rfl); (case hg => rfl); (case hn => rfl); (case hr => first | (go_simp; done) | (go_simp; rfl)); intro w10 hw; replace HL := q_ (show Like wr w10 from (by rw [hw]; exact Like.put_int HL.o HG.o X0.o)); replace HB2 := q_ (show Below w0.heap.size w0 w10 from (by rw [hw]; exact below_set HB2.o hgw)); replace HK := q_ (show Kept w w10 P_ from (by rw [hw]; exact Kept.setCell HK.o (.inl HP.out) _)); clear hw hc0 hf0)
      go_roundg (l0.length - (kk + 1))
      case measure => omega
      case rel => exact ⟨kk + 1, by omega, by omega, by (first | (congr 1; omega) | (congr 1; done) | (congr 2; omega)), by go_num, ⟨HW.o.trans HL.o⟩, ⟨HB2.o⟩, ⟨HK.o⟩⟩
    · have hltz : ¬ (kk : Int) < (l0.length : Int) := by omega
      have hk : kk = l0.length := by omega
      subst hk
      rw [List.take_length, hn]
      go_wp2
      go_ret
      exact ⟨rfl, HW.o, HB2.o, HK.o⟩
def nm_Int64S (x : (List Int)) : Nat := sumN (fun _ => 1) x
theorem keeps_Int64S : Keeps (Kd.slice 2 (Kd.int .i64)) nm_Int64S := keeps_slice (keeps_int .i64) _
theorem markInt64SS_walk (P_ : Nat → Prop) (u : Value) (l0 : List (List Int)) (a1 : Int) (n : Nat) (hn : sumN nm_Int64S l0 = n) (h0 : 0 ≤ a1) (h1 : a1 + n ≤ 9000000000000000000) (w0 w : World) (hB : Below w0.heap.size w0 w) (ho0 : Kd.R (Kd.slice 2 (Kd.int .i64)) 22 w w0.heap.size P_ u l0) :
    Calls Try.prog 49 #[u, .int .i64 a1] w fun e w' => e = .returned (.int .i64 (a1 + n)) ∧ Like w w' ∧ Below w0.heap.size w0 w' ∧ Kept w w' P_ := by
  have hlen : l0.length ≤ 9223372036854775807 := by
    obtain ⟨_, _, _, _, hC_⟩ := Kd.R_reads ho0
    exact hC_.2.1
  obtain ⟨A, c, rfl⟩ := Kd.R_slice ho0
  have HO := q_ ho0
  have HB := q_ hB
  clear ho0 hB
  go_enter Try.func49, Try.ntmps49
  go_wp2
  go_loopg [1, 5] l0.length (fun gg v1 v5 w' => ∃ kk : Nat, kk ≤ l0.length ∧ l0.length - kk ≤ gg ∧ v1 = .int .i64 (a1 + (sumN nm_Int64S (l0.take kk) : Nat)) ∧ v5 = .int .i64 kk ∧ J0 (Like w w') ∧ J0 (Below w0.heap.size w0 w') ∧ J0 (Kept w w' P_))
  case atStart => exact ⟨0, Nat.zero_le _, by omega, by simp [sumN], rfl, ⟨Like.refl _⟩, HB, ⟨Kept.refl _ _⟩⟩
  case round =>
    obtain ⟨kk, hkk, hg, rfl, rfl, HW, HB2, HK⟩ := hrel
    clear HB
    by_cases hlt : kk < l0.length
    · have hltz : (kk : Int) < (l0.length : Int) := by omega
      obtain ⟨ls, hR, hm⟩ := R_like keeps_Int64S HO.o HW.o
      have hlen2 : ls.length = l0.length := by simpa using congrArg List.length hm
      obtain ⟨g, cap, hv, hgw, _, _⟩ := Kd.R_form hR (by omega)
      have hA : A = some ⟨g, 0, none⟩ := by injection hv
      subst hA
      obtain ⟨cs, cur, hM, hcc, hG, hP, _⟩ := R_at hR kk (by omega)
      have hmk : nm_Int64S ls[kk] = nm_Int64S l0[kk] := by
        have := congrArg (fun q => q[kk]?) hm
        simp only [List.getElem?_map] at this
        rw [List.getElem?_eq_getElem (by omega), List.getElem?_eq_getElem hlt] at this
        simpa using this
      have hcnt := sumN_take nm_Int64S l0 kk hlt
      have hcle := sumN_le nm_Int64S l0 (kk + 1)
      rw [← hmk] at hcnt
      obtain ⟨x, hxe⟩ : ∃ x, x = ls[kk] := ⟨_, rfl⟩
      rw [← hxe] at hM hcnt
      clear hxe hmk
      obtain ⟨v0, rfl, hR0⟩ := hM
      obtain ⟨A0, c0, rfl⟩ := Kd.R_slice hR0
      have hx0 : wr.cell? ⟨g, kk, none⟩ = some (.slice A0 x.length c0) := by have h_ := hcc 0 _ rfl; rwa [show kk * (Kd.slice 2 (Kd.int .i64)).sz + 0 = kk from Nat.mul_one kk] at h_
      have X0 := q_ hx0
      have HR0 := q_ hR0
      obtain ⟨n0, hn0⟩ : ∃ n_ : Nat, sumN (fun _ => 1) x = n_ := ⟨_, rfl⟩
      have HG := q_ hG
      have HP := q_ hP
      have HL := q_ (Like.refl wr)
      obtain ⟨K, hK⟩ : ∃ K : Int, a1 + (sumN nm_Int64S (l0.take kk) : Nat) = K := ⟨_, rfl⟩
      have hmx : nm_Int64S x = sumN (fun _ => 1) x := rfl
      rw [hmx] at hcnt
      clear hmx
      rw [hn0] at hcnt
      have hK0 : 0 ≤ K := by omega
      have hK1 : K + (n0 : Int) = a1 + (sumN nm_Int64S (l0.take (kk + 1)) : Nat) := by omega
      have hK2 : K + (n0 : Int) ≤ 9000000000000000000 := by omega
      rw [hK]
      clear hcc hG hP hv hm hR hcnt hcle hx0 hR0
      have T1 : J0 True := ⟨trivial⟩
      have hc0 := like_slice HL.o HG.o X0.o
      go_wp2_with (go_at_call 48; clear T1; obtain ⟨ys, hRy, hmy⟩ := R_like (keeps_int .i64) HR0.o HL.o; refine (markInt64S_walk P_ _ ys (K) n0 ((sumN_map _ _ _ hmy).trans hn0) (by omega) (by omega) w0 _ HB2.o hRy).mono ?_; rintro e w10 ⟨rfl, hL_, hB3, hK3⟩; replace HL := q_ (HL.o.trans hL_); replace HB2 := q_ hB3; replace HK := q_ (HK.o.then_ hK3 (fun k hk => .inl hk)); clear hRy hmy hL_ hB3 hK3 hc0)
      go_roundg (l0.length - (kk + 1))
      case measure => omega
      case rel => exact ⟨kk + 1, by omega, by omega, by (first | (congr 1; omega) | (congr 1; done) | (congr 2; omega)), by go_num, ⟨HW.o.trans HL.o⟩, ⟨HB2.o⟩, ⟨HK.o⟩⟩
    · have hltz : ¬ (kk : Int) < (l0.length : Int) := by omega
      have hk : kk = l0.length := by omega
      subst hk
      rw [List.take_length, hn]
      go_wp2
      go_ret
      exact ⟨rfl, HW.o, HB2.o, HK.o⟩
end Go.Proofs.Ytlecpdpdcocibaa.P
namespace Go.Proofs.Ytlecpdpdcocibaa.P
open Go.RowKit Go.Proofs.YtlecpdpdcocibaaW.PrintWords Go.Proofs.YtlecpdpdcocibaaW.PrintLast Go.Proofs.YtlecpdpdcocibaaW.PrintMore Go.Proofs.YtlecpdpdcocibaaEv
set_option linter.unusedVariables false
set_option linter.unusedSimpArgs false
theorem sum1 : ∀ l : List Int, sumN (fun _ => 1) l = l.length
  | [] => rfl
  | x :: xs => by simp only [sumN, sum1 xs, List.length_cons]; omega
theorem markDfa_walk (P_ : Nat → Prop) (A0 A1 A2 : Option Addr) (n0 c0 n1 c1 n2 c2 : Nat) (l0 : List Int) (l1 : List (List Int)) (l2 : List Int) (a1 : Int) (m0 m1 m2 : Nat) (hm0 : sumN (fun _ => 1) l0 = m0) (hm1 : sumN nm_Int64S l1 = m1) (hm2 : sumN (fun _ => 1) l2 = m2) (h0 : 0 ≤ a1) (h1 : a1 + m0 + m1 + m2 ≤ 9000000000000000000) (w0 w : World) (hB : Below w0.heap.size w0 w) (ho0 : Kd.R (Kd.int .i64) 2 w w0.heap.size P_ (.slice A0 n0 c0) l0) (ho1 : Kd.R (Kd.slice 2 (Kd.int .i64)) 22 w w0.heap.size P_ (.slice A1 n1 c1) l1) (ho2 : Kd.R (Kd.int .i64) 2 w w0.heap.size P_ (.slice A2 n2 c2) l2) :
    Calls Try.prog 14 #[.agg #[.slice A0 n0 c0, .slice A1 n1 c1, .slice A2 n2 c2], .int .i64 a1] w fun e w' => e = .returned (.int .i64 (a1 + m0 + m1 + m2)) ∧ Below w0.heap.size w0 w' ∧ Kept w w' P_ := by
  have O0 := q_ ho0; have O1 := q_ ho1; have O2 := q_ ho2; have HB := q_ hB; have HK := q_ (Kept.refl w P_); have T0 : J0 True := ⟨trivial⟩; have T1 : J0 True := ⟨trivial⟩; have T2 : J0 True := ⟨trivial⟩
  have M0 := q_ hm0; have M1 := q_ hm1; have M2 := q_ hm2
  have L0 : J0 (a1 + m0 ≤ 9000000000000000000) := ⟨by omega⟩; have L1 : J0 (a1 + m0 + m1 ≤ 9000000000000000000) := ⟨by omega⟩; have L2 := q_ h1; have P0 := q_ h0; have P1 : J0 (0 ≤ a1 + (m0 : Int)) := ⟨by omega⟩; have P2 : J0 (0 ≤ a1 + (m0 : Int) + (m1 : Int)) := ⟨by omega⟩
  clear ho0 ho1 ho2 hB h1 hm0 hm1 hm2
  go_enter Try.func14, Try.ntmps14
  go_wp2_with (first
    | ((with_reducible refine gate_dst (N := 2) rfl ?_); clear T0; refine bx_ 2 #[.slice A0 n0 c0, .slice A1 n1 c1, .slice A2 n2 c2] 32 ?_; intro g hg w1 hbox hb; have BK := q_ hbox; replace O0 := q_ (Kd.R_below O0.o hb); replace O1 := q_ (Kd.R_below O1.o hb); replace O2 := q_ (Kd.R_below O2.o hb); replace HB := sb_ HB hb; replace HK := q_ (HK.o.below hb); clear hb hbox hg; obtain ⟨hz0, hz1, hz2, hf0, hf1, hf2⟩ := d3_ BK)
    | (go_at_call 48; clear T1; refine (markInt64S_walk P_ _ l0 _ m0 M0.o P0.o L0.o w0 _ HB.o O0.o).mono ?_; rintro e w2 ⟨rfl, hL, hB2, hK2⟩; have HLK := q_ hL; have hz1b := like_slice hL BK.o hz1; have hz2b := like_slice hL BK.o hz2; replace HK := q_ (HK.o.then_ hK2 (fun k hk => .inl hk)); replace HB := q_ hB2; clear hL hB2 hK2 hz0 hz1 hz2 hf0 hf1 hf2)
    | (go_at_call 49; clear T2; obtain ⟨y1, hy1, hm1⟩ := R_like keeps_Int64S O1.o HLK.o; refine (markInt64SS_walk P_ _ y1 _ m1 ((sumN_map _ _ _ hm1).trans M1.o) P1.o L1.o w0 _ HB.o hy1).mono ?_; rintro e w3 ⟨rfl, hL, hB2, hK2⟩; replace HLK := q_ (HLK.o.trans hL); replace HK := q_ (HK.o.then_ hK2 (fun k hk => .inl hk)); replace HB := q_ hB2; clear hL hB2 hK2 hy1 hm1 hz1b hz2b; obtain ⟨_, _, hz2, _, _, _⟩ := d3_ BK; have hz2b := like_slice HLK.o BK.o hz2; clear hz2)
    | (go_at_call 48; obtain ⟨y2, hy2, hm2⟩ := R_like (keeps_int .i64) O2.o HLK.o; refine (markInt64S_walk P_ _ y2 _ m2 ((sumN_map _ _ _ hm2).trans M2.o) P2.o L2.o w0 _ HB.o hy2).mono ?_; rintro e w4 ⟨rfl, hL, hB2, hK2⟩; replace HK := q_ (HK.o.then_ hK2 (fun k hk => .inl hk)); replace HB := q_ hB2; clear hL hB2 hK2 hy2 hm2))
  go_ret
  exact ⟨rfl, HB.o, HK.o⟩
end Go.Proofs.Ytlecpdpdcocibaa.P
namespace Go.Proofs.Ytlecpdpdcocibaa.P
open Go.RowKit Go.Shelf Go.Proofs.YtlecpdpdcocibaaW.PrintWords Go.Proofs.YtlecpdpdcocibaaW.PrintLast Go.Proofs.YtlecpdpdcocibaaW.PrintMore Go.Proofs.YtlecpdpdcocibaaEv
set_option linter.unusedVariables false
set_option linter.unusedSimpArgs false
def AskInts (g : Nat) (lb : Array Value) (w : World) (l0 : List (List Int)) (p : List Int → Bool) : Prop := ∀ (W : World) (x : List Int) (A1 : Option Addr) (c1 : Nat), x ∈ l0 → Below w.heap.size w W → Kd.C (Kd.int .i64) W A1 x.length x → x.length ≤ c1 →
  Calls Try.prog g (#[.slice A1 x.length c1] ++ lb) W fun e w' => e = .returned (.bool (p x)) ∧ Below W.heap.size W w'
theorem IndexFunc_ints (g : Nat) (lb : Array Value) (eg : ∀ args w, (callFunc g args).run Try.prog w = .ok (.enter g args) w) (p : List Int → Bool) (A0 : Option Addr) (c0 : Nat) (l0 : List (List Int)) (w : World) (hr0 : Kd.C (Kd.slice 2 (Kd.int .i64)) w A0 l0.length l0)
    (hp : AskInts g lb w l0 p) :
    Calls Try.prog 130 #[.slice A0 l0.length c0, .func (.func g) #[] lb] w fun e w' => e = .returned (.int .i64 (idxP p l0 0)) ∧ Below w.heap.size w w' := by
  have HP := Lib.hid hp
  clear hp
  have hn := hr0.2.1
  have HR := q_ hr0
  clear hr0
  go_enter Try.func130, Try.ntmps130
  go_wp2
  go_loopg [5, 8] l0.length (fun gg _ s8 wr => ∃ kk : Nat, kk ≤ l0.length ∧ l0.length - kk ≤ gg ∧ s8 = .int .i64 kk ∧ J0 (Below w.heap.size w wr) ∧ J0 (idxP p l0 0 = idxP p (l0.drop kk) kk))
  case atStart => exact ⟨0, Nat.zero_le _, by omega, rfl, ⟨Below.refl _ w⟩, ⟨by simp⟩⟩
  case round =>
    obtain ⟨kk, hkk, hg, rfl, BW, HA⟩ := hrel
    by_cases hlt : kk < l0.length
    · have hltz : (kk : Int) < (l0.length : Int) := by omega
      obtain ⟨ad, A1, c1, rfl, hx0, hl, hi⟩ := at_L1 HR.o (kk : Int) (by omega) hltz
      rw [Int.toNat_natCast] at hx0
      replace hx0 := mv_ BW.o hx0
      have hmem : rd_L1 l0 (kk : Int) ∈ l0 := by
        unfold rd_L1
        rw [List.getD_eq_getElem?_getD, List.getElem?_eq_getElem (by simpa using hlt)]
        exact List.getElem_mem _
      have hcall := HP.out wr (rd_L1 l0 (kk : Int)) A1 c1 hmem BW.o (Kd.C_below hi BW.o) hl
      have hstep : J0 (idxP p l0 0 = if p (rd_L1 l0 (kk : Int)) then (kk : Int) else idxP p (l0.drop (kk + 1)) ((kk + 1 : Nat) : Int)) := ⟨by
        rw [HA.o, drop_cons l0 ([] : List Int) kk hlt]
        have hr : l0.getD kk ([] : List Int) = rd_L1 l0 (kk : Int) := by simp [rd_L1]
        rw [hr]
        rfl⟩
      clear hmem hi hl
      generalize rd_L1 l0 (kk : Int) = y at *
      cases hq : p y with
      | true =>
        rw [hq] at hcall
        have hs2 : J0 (idxP p l0 0 = (kk : Int)) := ⟨by rw [hstep.o, hq]; rfl⟩
        clear hstep hq HA
        go_wp2_with (go_at_fn g; refine hcall.mono ?_; rintro e w' ⟨rfl, hb'⟩)
        go_ret
        exact ⟨by (rw [hs2.o]; try rfl), below_then BW.o BW.o.size hb'⟩
      | false =>
        rw [hq] at hcall
        have hs2 : J0 (idxP p l0 0 = idxP p (l0.drop (kk + 1)) ((kk + 1 : Nat) : Int)) := ⟨by rw [hstep.o, hq]; rfl⟩
        clear hstep hq HA
        go_wp2_with (go_at_fn g; refine hcall.mono ?_; rintro e w' ⟨rfl, hb'⟩)
        go_roundg (l0.length - (kk + 1))
        case measure => omega
        case rel => exact ⟨kk + 1, by omega, by omega, by go_num, ⟨below_then BW.o BW.o.size hb'⟩, hs2⟩
    · have hltz : ¬ (kk : Int) < (l0.length : Int) := by omega
      have hk : kk = l0.length := by omega
      have hs2 : J0 (idxP p l0 0 = -1) := ⟨by rw [HA.o, hk]; simp [idxP]⟩
      clear hk HA
      go_wp2
      go_ret
      exact ⟨by (rw [hs2.o]; try rfl), BW.o⟩
theorem ContainsFunc_ints (g : Nat) (lb : Array Value) (eg : ∀ args w, (callFunc g args).run Try.prog w = .ok (.enter g args) w) (p : List Int → Bool) (A0 : Option Addr) (c0 : Nat) (l0 : List (List Int)) (w : World) (hr0 : Kd.C (Kd.slice 2 (Kd.int .i64)) w A0 l0.length l0)
    (hp : AskInts g lb w l0 p) :
    Calls Try.prog 99 #[.slice A0 l0.length c0, .func (.func g) #[] lb] w fun e w' => e = .returned (.bool (l0.any p)) ∧ Below w.heap.size w w' := by
  have hc := IndexFunc_ints g lb eg p A0 c0 l0 w hr0 hp
  have ha : l0.any p = decide (0 ≤ idxP p l0 0) := by
    rw [Bool.eq_iff_iff, decide_eq_true_iff, idxP_ge p l0 0 (by omega)]
  rw [ha]
  clear ha hr0 hp
  generalize idxP p l0 0 = i at hc ⊢
  go_enter Try.func99, Try.ntmps99
  go_wp2_with (go_at_call 130; refine hc.mono ?_; rintro e w' ⟨rfl, hb⟩)
  go_ret
  exact ⟨rfl, hb⟩
theorem IndexFunc_int (g : Nat) (lb : Array Value) (eg : ∀ args w, (callFunc g args).run Try.prog w = .ok (.enter g args) w) (p : Int → Bool) (A0 : Option Addr) (c0 : Nat) (l0 : List Int) (w : World) (hr0 : Kd.C (Kd.int .i64) w A0 l0.length l0)
    (hp : ∀ (n : Nat) (x : Int), x ∈ l0 → Calls Try.prog g (#[.int .i64 x] ++ lb) (w.drewN n) fun e w' => e = .returned (.bool (p x)) ∧ ∃ m, w' = (w.drewN n).drewN m) :
    Calls Try.prog 129 #[.slice A0 l0.length c0, .func (.func g) #[] lb] w fun e w' => e = .returned (.int .i64 (idxP p l0 0)) ∧ Drawn0 w w' := by
  have hn := hr0.2.1
  have HP := Lib.hid hp
  clear hp
  have HR := q_ hr0
  clear hr0
  go_enter Try.func129, Try.ntmps129
  go_wp2
  go_loopg [5, 8] l0.length (fun gg _ s8 wr => ∃ kk nd : Nat, kk ≤ l0.length ∧ l0.length - kk ≤ gg ∧ s8 = .int .i64 kk ∧ wr = w.drewN nd ∧ J0 (idxP p l0 0 = idxP p (l0.drop kk) kk))
  case atStart => exact ⟨0, 0, Nat.zero_le _, by omega, rfl, rfl, ⟨by simp⟩⟩
  case round =>
    obtain ⟨kk, nd, hkk, hg, rfl, rfl, HA⟩ := hrel
    by_cases hlt : kk < l0.length
    · have hltz : (kk : Int) < (l0.length : Int) := by omega
      obtain ⟨ad, rfl, hx0⟩ := Kd.at_int HR.o (kk : Int) (by omega) hltz
      rw [Int.toNat_natCast] at hx0
      have hmem : rd l0 (kk : Int) ∈ l0 := by
        unfold rd
        rw [List.getD_eq_getElem?_getD, List.getElem?_eq_getElem (by simpa using hlt)]
        exact List.getElem_mem _
      have hcall := HP.out nd (rd l0 (kk : Int)) hmem
      have hstep : J0 (idxP p l0 0 = if p (rd l0 (kk : Int)) then (kk : Int) else idxP p (l0.drop (kk + 1)) ((kk + 1 : Nat) : Int)) := ⟨by
        rw [HA.o, drop_cons l0 0 kk hlt]
        have hr : l0.getD kk 0 = rd l0 (kk : Int) := by simp [rd]
        rw [hr]
        rfl⟩
      clear hmem
      generalize rd l0 (kk : Int) = y at *
      cases hq : p y with
      | true =>
        rw [hq] at hcall
        have hs2 : J0 (idxP p l0 0 = (kk : Int)) := ⟨by rw [hstep.o, hq]; rfl⟩
        clear hstep hq HA
        go_wp2_with (go_at_fn g; refine hcall.mono ?_; rintro e w' ⟨rfl, m, rfl⟩)
        go_ret
        exact ⟨by (rw [hs2.o]; try rfl), by repeat (first | exact Drawn0.refl _ | apply Drawn0.step)⟩
      | false =>
        rw [hq] at hcall
        have hs2 : J0 (idxP p l0 0 = idxP p (l0.drop (kk + 1)) ((kk + 1 : Nat) : Int)) := ⟨by rw [hstep.o, hq]; rfl⟩
        clear hstep hq HA
        go_wp2_with (go_at_fn g; refine hcall.mono ?_; rintro e w' ⟨rfl, m, rfl⟩)
        go_roundg (l0.length - (kk + 1))
        case measure => omega
        case rel => exact ⟨kk + 1, _, by omega, by omega, by go_num, by first | rfl | exact World.drewN_drewN _ _ _, hs2⟩
    · have hltz : ¬ (kk : Int) < (l0.length : Int) := by omega
      have hk : kk = l0.length := by omega
      have hs2 : J0 (idxP p l0 0 = -1) := ⟨by rw [HA.o, hk]; simp [idxP]⟩
      clear hk HA
      go_wp2
      go_ret
      exact ⟨by (rw [hs2.o]; try rfl), by repeat (first | exact Drawn0.refl _ | apply Drawn0.step)⟩
theorem ContainsFunc_int (g : Nat) (lb : Array Value) (eg : ∀ args w, (callFunc g args).run Try.prog w = .ok (.enter g args) w) (p : Int → Bool) (A0 : Option Addr) (c0 : Nat) (l0 : List Int) (w : World) (hr0 : Kd.C (Kd.int .i64) w A0 l0.length l0)
    (hp : ∀ (n : Nat) (x : Int), x ∈ l0 → Calls Try.prog g (#[.int .i64 x] ++ lb) (w.drewN n) fun e w' => e = .returned (.bool (p x)) ∧ ∃ m, w' = (w.drewN n).drewN m) :
    Calls Try.prog 96 #[.slice A0 l0.length c0, .func (.func g) #[] lb] w fun e w' => e = .returned (.bool (l0.any p)) ∧ Drawn0 w w' := by
  have hc := IndexFunc_int g lb eg p A0 c0 l0 w hr0 hp
  have ha : l0.any p = decide (0 ≤ idxP p l0 0) := by
    rw [Bool.eq_iff_iff, decide_eq_true_iff, idxP_ge p l0 0 (by omega)]
  rw [ha]
  clear ha hr0 hp
  generalize idxP p l0 0 = i at hc ⊢
  go_enter Try.func96, Try.ntmps96
  go_wp2_with (go_at_call 129; refine hc.mono ?_; rintro e w' ⟨rfl, ⟨nd, rfl⟩⟩)
  go_ret
  exact ⟨rfl, by repeat (first | exact Drawn0.refl _ | apply Drawn0.step)⟩
end Go.Proofs.Ytlecpdpdcocibaa.P
namespace Go.Proofs.Ytlecpdpdcocibaa.P
open Go.RowKit Go.Proofs.YtlecpdpdcocibaaW.PrintWords Go.Proofs.YtlecpdpdcocibaaW.PrintLast Go.Proofs.YtlecpdpdcocibaaW.PrintMore
attribute [local go_sem] max2_int min2_int max_two min_two max_three min_three max_four min_four
set_option linter.unusedVariables false
set_option linter.unusedSimpArgs false
/-! ### impl_size_int64_95: function 95 -/
def impl_size_int64_95.f (l0 : List Int) : Option (Int) := some (l0.length : Int)
theorem impl_size_int64_95.calls (A0 : Option Addr) (c0 : Nat) (l0 : List Int) (r : Int) (w : World) (hr0 : Kd.C (Kd.int .i64) w A0 l0.length l0) (hc0 : l0.length ≤ c0) (h : impl_size_int64_95.f l0 = some r) :
  Calls Try.prog 95 #[.slice A0 l0.length c0] w fun e w' => e = .returned (.int .i64 r) ∧ Drawn0 w w' := by
 have HR0 := q_ hr0; have HC0 := q_ hc0; clear hr0 hc0
 have H : (some (l0.length : Int)) = some r := h
 clear h; obtain rfl := Option.some.inj H
 go_enter Try.func95, Try.ntmps95
 go_wp2
 go_ret
 exact ⟨by first | rfl | (simp; done) | (simp [*]; done), by repeat (first | exact Drawn0.refl _ | apply Drawn0.step)⟩
/-! ### impl_size_int64_87: function 87 -/
def impl_size_int64_87.f (l0 : List (List Int)) : Option (Int) := some (l0.length : Int)
theorem impl_size_int64_87.calls (A0 : Option Addr) (c0 : Nat) (l0 : List (List Int)) (r : Int) (w : World) (hr0 : Kd.C (Kd.slice 2 (Kd.int .i64)) w A0 l0.length l0) (hc0 : l0.length ≤ c0) (h : impl_size_int64_87.f l0 = some r) :
  Calls Try.prog 87 #[.slice A0 l0.length c0] w fun e w' => e = .returned (.int .i64 r) ∧ Drawn0 w w' := by
 have HR0 := q_ hr0; have HC0 := q_ hc0; clear hr0 hc0
 have H : (some (l0.length : Int)) = some r := h
 clear h; obtain rfl := Option.some.inj H
 go_enter Try.func87, Try.ntmps87
 go_wp2
 go_ret
 exact ⟨by first | rfl | (simp; done) | (simp [*]; done), by repeat (first | exact Drawn0.refl _ | apply Drawn0.step)⟩
end Go.Proofs.Ytlecpdpdcocibaa.P
namespace Go.Proofs.Ytlecpdpdcocibaa.P
open Go.RowKit Go.Shelf Go.Proofs.YtlecpdpdcocibaaW.PrintWords Go.Proofs.YtlecpdpdcocibaaW.PrintLast Go.Proofs.YtlecpdpdcocibaaW.PrintMore Go.Proofs.YtlecpdpdcocibaaEv
set_option linter.unusedVariables false
set_option linter.unusedSimpArgs false
theorem DfaOk_1_calls (x : Int) (w : World) :
    Calls Try.prog 97 (#[.int .i64 x] ++ #[]) w fun e w' => e = .returned (.bool (!decide (-1 ≤ x ∧ x ≤ 39))) ∧ ∃ m, w' = w.drewN m := by
  have HI := q_ (impl_within_eq x (-1) 39)
  generalize decide (-1 ≤ x ∧ x ≤ 39) = q at *
  show Calls Try.prog _ #[.int .i64 x] w _
  go_enter Try.func97, Try.ntmps97
  go_wp2_with (go_at_call 57; refine (impl_within.calls _ _ _ _ _ HI.o).mono ?_; rintro e w' ⟨rfl, ⟨nd, rfl⟩⟩)
  go_ret
  exact ⟨rfl, _, rfl⟩
theorem DfaOk_2_1_calls (x n : Int) (g : Nat) (w : World) (hn : 0 ≤ n ∧ n ≤ 1000000000) (hB : w.heap[g]? = some (.cells #[.int .i64 n] 2)) :
    Calls Try.prog 101 (#[.int .i64 x] ++ #[.pointer (some ⟨g, 0, none⟩)]) w fun e w' => e = .returned (.bool (!decide (0 ≤ x ∧ x ≤ n - 1))) ∧ ∃ m, w' = w.drewN m := by
  have HI := q_ (impl_within_eq x 0 (n - 1))
  have hc : w.cell? ⟨g, 0, none⟩ = some (.int .i64 n) := (blk_cell hB 0).trans rfl
  have hw : IntKind.i64.wrap (n - 1) = n - 1 := by rw [i64_w]; exact wrap_id (by omega) (by omega)
  generalize decide (0 ≤ x ∧ x ≤ n - 1) = q at *
  show Calls Try.prog _ #[.int .i64 x, .pointer (some ⟨g, 0, none⟩)] w _
  go_enter Try.func101, Try.ntmps101
  go_wp2_with (go_at_call 57; refine (impl_within.calls _ _ _ _ _ HI.o).mono ?_; rintro e w' ⟨rfl, ⟨nd, rfl⟩⟩)
  go_ret
  exact ⟨rfl, _, rfl⟩
def rowOk (many n : Int) (l : List Int) : Bool := decide ((l.length : Int) = many) && l.all fun x => decide (0 ≤ x ∧ x ≤ n - 1)
theorem any_not_all2 {α : Type} (l : List α) (p : α → Bool) : (l.any fun x => !p x) = !l.all p := by
  induction l with
  | nil => rfl
  | cons a r ih => simp [ih, Bool.not_and]
theorem quiet_of {P : Program} {f : FuncId} {args : Array Value} {v : Value} (W : World) (n : Nat) (h : Calls P f args (W.drewN n) fun e w' => e = .returned v ∧ Drawn0 (W.drewN n) w') : Calls P f args (W.drewN n) fun e w' => e = .returned v ∧ ∃ m, w' = W.drewN m := by
  refine h.mono ?_
  rintro e w' ⟨rfl, m, rfl⟩
  exact ⟨rfl, n + m, by simp⟩
theorem quiet_size {A : Option Addr} {c : Nat} {l : List Int} {w : World} (hr : Kd.C (Kd.int .i64) w A l.length l) (hc : l.length ≤ c) (n : Nat) : Calls Try.prog 95 #[.slice A l.length c] (w.drewN n) fun e w' => e = .returned (.int .i64 (l.length : Int)) ∧ ∃ m, w' = w.drewN m := quiet_of w n (impl_size_int64_95.calls A c l _ _ (Kd.C_below hr (pw_below_drewN (Below.refl _ _) n)) hc rfl)
theorem DfaOk_2_calls (l : List Int) (A : Option Addr) (c : Nat) (many n : Int) (g1 g2 : Nat) (w : World) (hn : 0 ≤ n ∧ n ≤ 1000000000) (hB1 : w.heap[g1]? = some (.cells #[.int .i64 many] 2)) (hB2 : w.heap[g2]? = some (.cells #[.int .i64 n] 2)) (hr : Kd.C (Kd.int .i64) w A l.length l) (hc : l.length ≤ c) :
    Calls Try.prog 100 (#[.slice A l.length c] ++ #[.pointer (some ⟨g1, 0, none⟩), .pointer (some ⟨g2, 0, none⟩)]) w fun e w' => e = .returned (.bool (!rowOk many n l)) ∧ Below w.heap.size w w' := by
  have eg : ∀ args w, (callFunc 101 args).run Try.prog w = .ok (.enter 101 args) w := enters_of Try.func101 (by kernel_rfl) rfl
  have hcn : ∀ w2 : World, Kd.C (Kd.int .i64) w2 A l.length l → w2.heap[g2]? = some (.cells #[.int .i64 n] 2) → Calls Try.prog 96 #[.slice A l.length c, .func (.func 101) #[] #[.pointer (some ⟨g2, 0, none⟩)]] w2 fun e w' => e = .returned (.bool (!l.all fun x => decide (0 ≤ x ∧ x ≤ n - 1))) ∧ Drawn0 w2 w' := fun w2 hr2 hb2 => by
    rw [← any_not_all2]
    refine ContainsFunc_int _ _ eg (fun x => !decide (0 ≤ x ∧ x ≤ n - 1)) A c l w2 hr2 ?_
    intro m x hx
    exact DfaOk_2_1_calls x n g2 _ hn (blk_drewN hb2 m)
  have HCN := Lib.hid hcn
  have hc1 : w.cell? ⟨g1, 0, none⟩ = some (.int .i64 many) := (blk_cell hB1 0).trans rfl
  have HR := q_ hr; have HC := q_ hc; have HB2 := q_ hB2; have HB1 := q_ hB1
  clear hcn hr hc hB1 hB2 eg
  unfold rowOk
  show Calls Try.prog _ #[.slice A l.length c, .pointer (some ⟨g1, 0, none⟩), .pointer (some ⟨g2, 0, none⟩)] w _
  by_cases e1 : (l.length : Int) = many
  · have d1 : ((l.length : Int) != many) = false := bne_eq_false_iff_eq.mpr e1
    rw [decide_eq_true e1, Bool.true_and]
    generalize (l.all fun x => decide (0 ≤ x ∧ x ≤ n - 1)) = q at *
    clear e1
    go_enter Try.func100, Try.ntmps100
    go_wp2_with fail
    go_quiet (first | (go_at_call 95; with_reducible exact quiet_size HR.o HC.o _) | (go_at_call 96; with_reducible exact quiet_of _ _ (HCN.out _ (Kd.C_below HR.o (pw_below_drewN (Below.refl _ _) _)) (blk_drewN HB2.o _))))
    go_wp2_with fail
    go_ret
    exact ⟨rfl, pw_below_drewN (Below.refl _ _) _⟩
  · have d1 : ((l.length : Int) != many) = true := bne_iff_ne.mpr e1
    rw [decide_eq_false e1, Bool.false_and]
    clear e1
    go_enter Try.func100, Try.ntmps100
    go_wp2_with fail
    go_quiet (first | (go_at_call 95; with_reducible exact quiet_size HR.o HC.o _))
    go_wp2_with fail
    go_ret
    exact ⟨rfl, pw_below_drewN (Below.refl _ _) _⟩
theorem DfaOk_hand (A0 A1 A2 : Option Addr) (c0 c1 c2 : Nat) (l0 : List Int) (l1 : List (List Int)) (l2 : List Int) (k : Nat) (many : Int) (ok : Bool) (hk : impl_blocksOk.f k l0 = some (many, ok)) (w : World) (hr0 : Kd.C (Kd.int .i64) w A0 l0.length l0) (hc0 : l0.length ≤ c0) (hr1 : Kd.C (Kd.slice 2 (Kd.int .i64)) w A1 l1.length l1) (hc1 : l1.length ≤ c1) (hr2 : Kd.C (Kd.int .i64) w A2 l2.length l2) (hc2 : l2.length ≤ c2) :
    Calls Try.prog 37 #[.agg #[.slice A0 l0.length c0, .slice A1 l1.length c1, .slice A2 l2.length c2]] w fun e w' => e = .returned (.bool (decide (1 ≤ (l1.length : Int) ∧ (l1.length : Int) ≤ 1000) && (decide ((l2.length : Int) = l1.length) && ((l2.all fun x => decide (-1 ≤ x ∧ x ≤ 39)) && (ok && l1.all (rowOk many l1.length)))))) ∧ Below w.heap.size w w' := by
  have HK := q_ hk; have HR0 := q_ hr0; have HC0 := q_ hc0; have HR1 := q_ hr1; have HC1 := q_ hc1; have HR2 := q_ hr2; have HC2 := q_ hc2; have HB := q_ (Below.refl w.heap.size w)
  have T0 : J0 True := ⟨trivial⟩; have T1 : J0 True := ⟨trivial⟩; have T2 : J0 True := ⟨trivial⟩
  have HI := q_ (impl_within_eq (l1.length : Int) 1 1000)
  clear hk hr0 hc0 hr1 hc1 hr2 hc2
  obtain ⟨R, hR⟩ : ∃ R, R = (decide (1 ≤ (l1.length : Int) ∧ (l1.length : Int) ≤ 1000) && (decide ((l2.length : Int) = l1.length) && ((l2.all fun x => decide (-1 ≤ x ∧ x ≤ 39)) && (ok && l1.all (rowOk many l1.length))))) := ⟨_, rfl⟩
  rw [← hR]
  have HRR := q_ hR
  clear hR
  go_enter Try.func37, Try.ntmps37
  go_upto_region 2 with (first
    | ((with_reducible refine gate_dst (N := 1) rfl ?_); clear T0; refine bx_ 1 #[.slice A0 l0.length c0, .slice A1 l1.length c1, .slice A2 l2.length c2] 32 ?_; intro g1 hg w1 hbox hb; have BK1 := q_ hbox; have G1 := ge_ hg HB; replace HB := sb_ HB hb; clear hb hbox hg; obtain ⟨hz0, hz1, hz2, hf0, hf1, hf2⟩ := d3_ BK1)
    | (go_at_call 87; refine (impl_size_int64_87.calls A1 c1 l1 _ _ (Kd.C_below HR1.o (be_ HB.o)) HC1.o rfl).mono ?_; rintro e w' ⟨rfl, ⟨nd, rfl⟩⟩)
    | ((with_reducible refine gate_dst (N := 3) rfl ?_); clear T1; refine bx_ 3 #[.int .i64 0] 2 ?_; intro g3 hg w3 hbox hb; have BK3 := q_ hbox; have G3 := ge_ hg HB; have NB := nl_ hg BK1; replace BK1 := lb_ BK1 hb; replace HB := sb_ HB hb; clear hb hbox hg hz0 hz1 hz2 hf0 hf1 hf2; obtain ⟨hz0, hz1, hz2, hf0, hf1, hf2⟩ := d3_ BK1; obtain ⟨hy0, hyf⟩ := d1_ BK3))
  have BK1b : J0 ((w3.setCell ⟨g3, 0, none⟩ (.int .i64 l1.length)).heap[g1]? = some (.cells #[.slice A0 l0.length c0, .slice A1 l1.length c1, .slice A2 l2.length c2] 32)) := ⟨blk_far BK1.o NB.o _⟩
  have BK3b : J0 ((w3.setCell ⟨g3, 0, none⟩ (.int .i64 l1.length)).heap[g3]? = some (.cells #[.int .i64 l1.length] 2)) := ⟨blk_put BK3.o 0 _ rfl⟩
  replace HB := q_ (below_set (v := .int .i64 l1.length) (j := 0) HB.o G3.o)
  clear BK1 BK3 hz0 hz1 hz2 hf0 hf1 hf2 hy0 hyf
  generalize w3.setCell ⟨g3, 0, none⟩ (.int .i64 l1.length) = w4 at *
  have BK1 := BK1b; have BK3 := BK3b; clear BK1b BK3b
  obtain ⟨hz0, hz1, hz2, hf0, hf1, hf2⟩ := d3_ BK1; obtain ⟨hy0, hyf⟩ := d1_ BK3
  cases hb1 : decide (1 ≤ (l1.length : Int) ∧ (l1.length : Int) ≤ 1000)
  · have hR : R = false := by rw [HRR.o, hb1, Bool.false_and]
    subst hR
    rw [hb1] at HI
    clear hb1 HRR
    go_wp2_with fail
    go_quiet (first | (go_at_call 57; with_reducible exact quiet_of _ _ (impl_within.calls _ _ _ _ _ HI.o)))
    go_wp2_with fail
    go_ret
    exact ⟨rfl, be_ HB.o⟩
  have hlen := of_decide_eq_true hb1
  rw [hb1] at HI
  by_cases e2 : (l2.length : Int) = l1.length
  rotate_left
  · have hR : R = false := by rw [HRR.o, decide_eq_false e2, Bool.false_and, Bool.and_false]
    subst hR
    have d2 : ((l2.length : Int) != l1.length) = true := bne_iff_ne.mpr e2
    clear hb1 HRR e2
    go_wp2_with fail
    go_quiet (first | (go_at_call 57; with_reducible exact quiet_of _ _ (impl_within.calls _ _ _ _ _ HI.o)) | (go_at_call 95; with_reducible exact quiet_of _ _ (impl_size_int64_95.calls A2 c2 l2 _ _ (Kd.C_below (Kd.C_below HR2.o HB.o) (pw_below_drewN (Below.refl _ _) _)) HC2.o rfl)))
    go_wp2_with fail
    go_ret
    exact ⟨rfl, be_ HB.o⟩
  have d2 : ((l2.length : Int) != l1.length) = false := bne_eq_false_iff_eq.mpr e2
  have hR : R = ((l2.all fun x => decide (-1 ≤ x ∧ x ≤ 39)) && (ok && l1.all (rowOk many l1.length))) := by rw [HRR.o, hb1, decide_eq_true e2, Bool.true_and, Bool.true_and]
  have HRR := q_ hR
  clear hR hb1 e2
  have eg1 : ∀ args w, (callFunc 97 args).run Try.prog w = .ok (.enter 97 args) w := enters_of Try.func97 (by kernel_rfl) rfl
  cases eall : l2.all fun x => decide (-1 ≤ x ∧ x ≤ 39)
  · have hR : R = false := by rw [HRR.o, eall, Bool.false_and]
    subst hR
    clear HRR
    go_wp2_with fail
    go_quiet (first | (go_at_call 57; with_reducible exact quiet_of _ _ (impl_within.calls _ _ _ _ _ HI.o)) | (go_at_call 95; with_reducible exact quiet_of _ _ (impl_size_int64_95.calls A2 c2 l2 _ _ (Kd.C_below (Kd.C_below HR2.o HB.o) (pw_below_drewN (Below.refl _ _) _)) HC2.o rfl)))
    go_wp2_with (first | (go_at_call 96; refine (ContainsFunc_int _ _ eg1 (fun x => !decide (-1 ≤ x ∧ x ≤ 39)) A2 c2 l2 _ (Kd.C_below HR2.o (be_ HB.o)) (fun m x hx => DfaOk_1_calls x _)).mono ?_; rintro e w5 ⟨rfl, ⟨nd5, rfl⟩⟩; rw [any_not_all2, eall]))
    go_ret
    exact ⟨rfl, be_ HB.o⟩
  have hR : R = (ok && l1.all (rowOk many l1.length)) := by rw [HRR.o, eall, Bool.true_and]
  have HRR := q_ hR
  clear hR
  go_wp2_with fail
  go_quiet (first | (go_at_call 57; with_reducible exact quiet_of _ _ (impl_within.calls _ _ _ _ _ HI.o)) | (go_at_call 95; with_reducible exact quiet_of _ _ (impl_size_int64_95.calls A2 c2 l2 _ _ (Kd.C_below (Kd.C_below HR2.o HB.o) (pw_below_drewN (Below.refl _ _) _)) HC2.o rfl)))
  go_upto_region 7 with (first | (go_at_call 96; refine (ContainsFunc_int _ _ eg1 (fun x => !decide (-1 ≤ x ∧ x ≤ 39)) A2 c2 l2 _ (Kd.C_below HR2.o (be_ HB.o)) (fun m x hx => DfaOk_1_calls x _)).mono ?_; rintro e w5 ⟨rfl, ⟨nd5, rfl⟩⟩; rw [any_not_all2, eall]) | (go_at_call 98; refine (impl_blocksOk.calls k A0 c0 l0 many ok _ (Kd.C_below HR0.o (be_ HB.o)) HC0.o HK.o).mono ?_; rintro e w6 ⟨rfl, hb⟩; replace BK1 := lb_ BK1 hb; replace BK3 := lb_ BK3 hb; replace HB := sb_ HB hb; clear hb hz0 hz1 hz2 hf0 hf1 hf2 hy0 hyf; obtain ⟨hz0, hz1, hz2, hf0, hf1, hf2⟩ := d3_ BK1; obtain ⟨hy0, hyf⟩ := d1_ BK3) | ((with_reducible refine gate_dst (N := 4) rfl ?_); clear T2; refine bx_ 4 #[.int .i64 0] 2 ?_; intro g4 hg w7 hbox hb; have BK4 := q_ hbox; have G4 := ge_ hg HB; have N1 := nl_ hg BK1; have N3 := nl_ hg BK3; replace BK1 := lb_ BK1 hb; replace BK3 := lb_ BK3 hb; replace HB := sb_ HB hb; clear hb hbox hg hz0 hz1 hz2 hf0 hf1 hf2 hy0 hyf; obtain ⟨hz0, hz1, hz2, hf0, hf1, hf2⟩ := d3_ BK1; obtain ⟨hy0, hyf⟩ := d1_ BK3; obtain ⟨hq0, hqf⟩ := d1_ BK4))
  have BK1b : J0 ((w7.setCell ⟨g4, 0, none⟩ (.int .i64 many)).heap[g1]? = some (.cells #[.slice A0 l0.length c0, .slice A1 l1.length c1, .slice A2 l2.length c2] 32)) := ⟨blk_far BK1.o N1.o _⟩
  have BK3b : J0 ((w7.setCell ⟨g4, 0, none⟩ (.int .i64 many)).heap[g3]? = some (.cells #[.int .i64 l1.length] 2)) := ⟨blk_far BK3.o N3.o _⟩
  have BK4b : J0 ((w7.setCell ⟨g4, 0, none⟩ (.int .i64 many)).heap[g4]? = some (.cells #[.int .i64 many] 2)) := ⟨blk_put BK4.o 0 _ rfl⟩
  replace HB := q_ (below_set (v := .int .i64 many) (j := 0) HB.o G4.o)
  clear BK1 BK3 BK4 hz0 hz1 hz2 hf0 hf1 hf2 hy0 hyf hq0 hqf
  generalize w7.setCell ⟨g4, 0, none⟩ (.int .i64 many) = w8 at *
  have BK1 := BK1b; have BK3 := BK3b; have BK4 := BK4b; clear BK1b BK3b BK4b
  obtain ⟨hz0, hz1, hz2, hf0, hf1, hf2⟩ := d3_ BK1
  cases ok
  · have hR : R = false := by rw [HRR.o, Bool.false_and]
    subst hR
    clear HRR
    go_wp2
    go_ret
    exact ⟨rfl, be_ HB.o⟩
  have hR : R = l1.all (rowOk many l1.length) := by rw [HRR.o, Bool.true_and]
  subst hR
  clear HRR
  have eg2 : ∀ args w, (callFunc 100 args).run Try.prog w = .ok (.enter 100 args) w := enters_of Try.func100 (by kernel_rfl) rfl
  have hcn : Calls Try.prog 99 #[.slice A1 l1.length c1, .func (.func 100) #[] #[.pointer (some ⟨g4, 0, none⟩), .pointer (some ⟨g3, 0, none⟩)]] w8 fun e w' => e = .returned (.bool (!l1.all (rowOk many l1.length))) ∧ Below w8.heap.size w8 w' := by
    rw [← any_not_all2]
    refine ContainsFunc_ints _ _ eg2 (fun x => !rowOk many l1.length x) A1 c1 l1 w8 (Kd.C_below HR1.o HB.o) ?_
    intro W x A9 c9 hx hb9 hr9 hc9
    exact DfaOk_2_calls x A9 c9 many l1.length g4 g3 W (by omega) (blk_below BK4.o hb9) (blk_below BK3.o hb9) hr9 hc9
  have HCN := Lib.hid hcn
  clear hcn
  go_wp2_with (go_at_call 99; refine HCN.out.mono ?_; rintro e w9 ⟨rfl, hb⟩; replace HB := sb_ HB hb; clear hb)
  go_ret
  exact ⟨by simp, HB.o⟩
section
variable {w W : World} {gr t : Nat} {x0 x1 x2 a b c : Value}
theorem fin3_ (BR : W.heap[gr]? = some (.cells #[x0, x1, x2] t (0, 0))) : (((W.setCell ⟨gr, 0, none⟩ a).setCell ⟨gr, 1, none⟩ b).setCell ⟨gr, 2, none⟩ c).heap[gr]? = some (.cells #[a, b, c] t (0, 0)) := blk_put (cs := #[a, b, x2]) (blk_put (cs := #[a, x1, x2]) (blk_put (cs := #[x0, x1, x2]) BR 0 _ rfl) 1 _ rfl) 2 _ rfl
theorem fin3R_ {α : Type} {d : Kd α} {T base : Nat} {v : Value} {xs : List α} {ok : Nat → Prop} (h : Kd.R d T W base ok v xs) (hf : ∀ k, ok k → k ≠ gr) : Kd.R d T (((W.setCell ⟨gr, 0, none⟩ a).setCell ⟨gr, 1, none⟩ b).setCell ⟨gr, 2, none⟩ c) base (fun _ => True) v xs := Kd.R_mono (Kd.R_far (p := ⟨gr, 2, none⟩) (Kd.R_far (p := ⟨gr, 1, none⟩) (Kd.R_far (p := ⟨gr, 0, none⟩) h hf a) hf b) hf c) (fun _ _ => trivial)
theorem fin3S_ {α : Type} {d : Kd α} {T base : Nat} {v : Value} {xs : List α} {ok : Nat → Prop} (h : Kd.S d T W base ok v xs) (hf : ∀ k, ok k → k ≠ gr) : Kd.S d T (((W.setCell ⟨gr, 0, none⟩ a).setCell ⟨gr, 1, none⟩ b).setCell ⟨gr, 2, none⟩ c) base (fun _ => True) v xs := Kd.S_mono (Kd.S_far (p := ⟨gr, 2, none⟩) (Kd.S_far (p := ⟨gr, 1, none⟩) (Kd.S_far (p := ⟨gr, 0, none⟩) h hf a) hf b) hf c) (fun _ _ => trivial)
theorem finO_ {g2 t2 : Nat} {y0 y1 y2 : Value} (BR : W.heap[g2]? = some (.cells #[y0, y1, y2] t2 (0, 0))) (hn : g2 ≠ gr) : (((W.setCell ⟨gr, 0, none⟩ a).setCell ⟨gr, 1, none⟩ b).setCell ⟨gr, 2, none⟩ c).heap[g2]? = some (.cells #[y0, y1, y2] t2 (0, 0)) := blk_far (blk_far (blk_far BR hn _) hn _) hn _
theorem finB_ (h : Below w.heap.size w W) (hg : w.heap.size ≤ gr) : Below w.heap.size w (((W.setCell ⟨gr, 0, none⟩ a).setCell ⟨gr, 1, none⟩ b).setCell ⟨gr, 2, none⟩ c) := below_set (below_set (below_set h hg) hg) hg
end
end Go.Proofs.Ytlecpdpdcocibaa.P
namespace Go.Proofs.Ytlecpdpdcocibaa.P
open Go.RowKit Go.Proofs.YtlecpdpdcocibaaW.PrintWords Go.Proofs.YtlecpdpdcocibaaW.PrintLast Go.Proofs.YtlecpdpdcocibaaW.PrintMore
attribute [local go_sem] max2_int min2_int max_two min_two max_three min_three max_four min_four
set_option linter.unusedVariables false
set_option linter.unusedSimpArgs false
/-! ### impl_Dfa_step: function 93 -/
def impl_Dfa_step.f (l0_0 : List Int) (l0_1 : List (List Int)) (l0_2 : List Int) (a1 : Int) (a2 : Int) : Option (Int) := if 0 ≤ a1 then (if a1 < (l0_1.length : Int) then (if 0 ≤ a2 then (if a2 < (l0_0.length : Int) then (if 0 ≤ (rd l0_0 a2) then (if (rd l0_0 a2) < ((rd_L1 l0_1 a1).length : Int) then (some (rd (rd_L1 l0_1 a1) (rd l0_0 a2))) else (none)) else (none)) else (none)) else (none)) else (none)) else (none)
theorem impl_Dfa_step.calls (A0_0 : Option Addr) (c0_0 : Nat) (l0_0 : List Int) (A0_1 : Option Addr) (c0_1 : Nat) (l0_1 : List (List Int)) (A0_2 : Option Addr) (c0_2 : Nat) (l0_2 : List Int) (a1 : Int) (a2 : Int) (r : Int) (w : World) (hr0_0 : Kd.C (Kd.int .i64) w A0_0 l0_0.length l0_0) (hc0_0 : l0_0.length ≤ c0_0) (hr0_1 : Kd.C (Kd.slice 2 (Kd.int .i64)) w A0_1 l0_1.length l0_1) (hc0_1 : l0_1.length ≤ c0_1) (hr0_2 : Kd.C (Kd.int .i64) w A0_2 l0_2.length l0_2) (hc0_2 : l0_2.length ≤ c0_2) (h : impl_Dfa_step.f l0_0 l0_1 l0_2 a1 a2 = some r) :
  Calls Try.prog 93 #[.agg #[.slice A0_0 l0_0.length c0_0, .slice A0_1 l0_1.length c0_1, .slice A0_2 l0_2.length c0_2], .int .i64 a1, .int .u8 a2] w fun e w' => e = .returned (.int .i64 r) ∧ Below w.heap.size w w' := by
 have hu32 := Try.underlying32; have HR0_0 := q_ hr0_0; have HC0_0 := q_ hc0_0; clear hr0_0 hc0_0; have HR0_1 := q_ hr0_1; have HC0_1 := q_ hc0_1; clear hr0_1 hc0_1; have HR0_2 := q_ hr0_2; have HC0_2 := q_ hc0_2; clear hr0_2 hc0_2; have HB := q_ (Below.refl w.heap.size w)
 have H : (if 0 ≤ a1 then (if a1 < (l0_1.length : Int) then (if 0 ≤ a2 then (if a2 < (l0_0.length : Int) then (if 0 ≤ (rd l0_0 a2) then (if (rd l0_0 a2) < ((rd_L1 l0_1 a1).length : Int) then (some (rd (rd_L1 l0_1 a1) (rd l0_0 a2))) else (none)) else (none)) else (none)) else (none)) else (none)) else (none)) = some r := h
 clear h
 by_cases c4 : 0 ≤ a1
 ·rw [if_pos c4] at H; have c4b0 := dt_ c4; clear c4
  by_cases c5 : a1 < (l0_1.length : Int)
  ·rw [if_pos c5] at H; have c5b0 := dt_ c5; clear c5
   by_cases c6 : 0 ≤ a2
   ·rw [if_pos c6] at H; have c6b0 := dt_ c6; clear c6
    by_cases c7 : a2 < (l0_0.length : Int)
    ·rw [if_pos c7] at H; have c7b0 := dt_ c7; clear c7
     by_cases c8 : 0 ≤ (rd l0_0 a2)
     ·rw [if_pos c8] at H; have c8b0 := dt_ c8; clear c8
      by_cases c9 : (rd l0_0 a2) < ((rd_L1 l0_1 a1).length : Int)
      ·rw [if_pos c9] at H; have c9b0 := dt_ c9; clear c9; obtain rfl := Option.some.inj H
       go_enter Try.func93, Try.ntmps93
       go_wp2_with (first | ((with_reducible refine gate_dst (N := 3) rfl ?_); refine bx_ 3 #[.slice A0_0 l0_0.length c0_0, .slice A0_1 l0_1.length c0_1, .slice A0_2 l0_2.length c0_2] 32 ?_; intro gb101 hg w10 hbox hb; have BK101 := q_ (hbox); have GE101 := ge_ hg HB; replace HB := sb_ HB hb; clear hb hbox hg; obtain ⟨hcz11_0, hcz11_1, hcz11_2, hfz11_0, hfz11_1, hfz11_2⟩ := d3_ BK101; have p102 : 0 ≤ (a1 : Int) := of_decide_eq_true as_; have q102 : a1 < (l0_1.length : Int) := of_decide_eq_true as_; obtain ⟨ad102, A102_0, c102_0, e102, hx102_0, hl102_0, hi102_0⟩ := at_L1 HR0_1.o a1 p102 q102; cases e102; replace hx102_0 := mv_ HB.o hx102_0; have HR102_0 := q_ hi102_0; have HC102_0 := q_ hl102_0; clear hi102_0 hl102_0; replace p102 := eq_true p102; replace q102 := eq_true q102; have p103 : 0 ≤ (a2 : Int) := of_decide_eq_true as_; have q103 : a2 < (l0_0.length : Int) := of_decide_eq_true as_; obtain ⟨ad103, e103, hx103_0⟩ := Kd.at_int HR0_0.o a2 p103 q103; cases e103; replace hx103_0 := mv_ HB.o hx103_0; replace p103 := eq_true p103; replace q103 := eq_true q103; have p104 : 0 ≤ ((rd l0_0 a2) : Int) := of_decide_eq_true as_; have q104 : (rd l0_0 a2) < ((rd_L1 l0_1 a1).length : Int) := of_decide_eq_true as_; obtain ⟨ad104, e104, hx104_0⟩ := Kd.at_int HR102_0.o (rd l0_0 a2) p104 q104; cases e104; replace hx104_0 := mv_ HB.o hx104_0; replace p104 := eq_true p104; replace q104 := eq_true q104))
       repeat (go_quiet (first | ((with_reducible refine gate_dst (N := 3) rfl ?_); refine bx_ 3 #[.slice A0_0 l0_0.length c0_0, .slice A0_1 l0_1.length c0_1, .slice A0_2 l0_2.length c0_2] 32 ?_; intro gb101 hg w10 hbox hb; have BK101 := q_ (hbox); have GE101 := ge_ hg HB; replace HB := sb_ HB hb; clear hb hbox hg; obtain ⟨hcz11_0, hcz11_1, hcz11_2, hfz11_0, hfz11_1, hfz11_2⟩ := d3_ BK101; have p102 : 0 ≤ (a1 : Int) := of_decide_eq_true as_; have q102 : a1 < (l0_1.length : Int) := of_decide_eq_true as_; obtain ⟨ad102, A102_0, c102_0, e102, hx102_0, hl102_0, hi102_0⟩ := at_L1 HR0_1.o a1 p102 q102; cases e102; replace hx102_0 := mv_ HB.o hx102_0; have HR102_0 := q_ hi102_0; have HC102_0 := q_ hl102_0; clear hi102_0 hl102_0; replace p102 := eq_true p102; replace q102 := eq_true q102; have p103 : 0 ≤ (a2 : Int) := of_decide_eq_true as_; have q103 : a2 < (l0_0.length : Int) := of_decide_eq_true as_; obtain ⟨ad103, e103, hx103_0⟩ := Kd.at_int HR0_0.o a2 p103 q103; cases e103; replace hx103_0 := mv_ HB.o hx103_0; replace p103 := eq_true p103; replace q103 := eq_true q103; have p104 : 0 ≤ ((rd l0_0 a2) : Int) := of_decide_eq_true as_; have q104 : (rd l0_0 a2) < ((rd_L1 l0_1 a1).length : Int) := of_decide_eq_true as_; obtain ⟨ad104, e104, hx104_0⟩ := Kd.at_int HR102_0.o (rd l0_0 a2) p104 q104; cases e104; replace hx104_0 := mv_ HB.o hx104_0; replace p104 := eq_true p104; replace q104 := eq_true q104)); try go_wp2_with (first | ((with_reducible refine gate_dst (N := 3) rfl ?_); refine bx_ 3 #[.slice A0_0 l0_0.length c0_0, .slice A0_1 l0_1.length c0_1, .slice A0_2 l0_2.length c0_2] 32 ?_; intro gb101 hg w10 hbox hb; have BK101 := q_ (hbox); have GE101 := ge_ hg HB; replace HB := sb_ HB hb; clear hb hbox hg; obtain ⟨hcz11_0, hcz11_1, hcz11_2, hfz11_0, hfz11_1, hfz11_2⟩ := d3_ BK101; have p102 : 0 ≤ (a1 : Int) := of_decide_eq_true as_; have q102 : a1 < (l0_1.length : Int) := of_decide_eq_true as_; obtain ⟨ad102, A102_0, c102_0, e102, hx102_0, hl102_0, hi102_0⟩ := at_L1 HR0_1.o a1 p102 q102; cases e102; replace hx102_0 := mv_ HB.o hx102_0; have HR102_0 := q_ hi102_0; have HC102_0 := q_ hl102_0; clear hi102_0 hl102_0; replace p102 := eq_true p102; replace q102 := eq_true q102; have p103 : 0 ≤ (a2 : Int) := of_decide_eq_true as_; have q103 : a2 < (l0_0.length : Int) := of_decide_eq_true as_; obtain ⟨ad103, e103, hx103_0⟩ := Kd.at_int HR0_0.o a2 p103 q103; cases e103; replace hx103_0 := mv_ HB.o hx103_0; replace p103 := eq_true p103; replace q103 := eq_true q103; have p104 : 0 ≤ ((rd l0_0 a2) : Int) := of_decide_eq_true as_; have q104 : (rd l0_0 a2) < ((rd_L1 l0_1 a1).length : Int) := of_decide_eq_true as_; obtain ⟨ad104, e104, hx104_0⟩ := Kd.at_int HR102_0.o (rd l0_0 a2) p104 q104; cases e104; replace hx104_0 := mv_ HB.o hx104_0; replace p104 := eq_true p104; replace q104 := eq_true q104)))
       go_ret
       exact ⟨rt_, be1_ HB.o GE101.o⟩
      ·rw [if_neg c9] at H
       exact absurd H (by simp)
     ·rw [if_neg c8] at H
      exact absurd H (by simp)
    ·rw [if_neg c7] at H
     exact absurd H (by simp)
   ·rw [if_neg c6] at H
    exact absurd H (by simp)
  ·rw [if_neg c5] at H
   exact absurd H (by simp)
 ·rw [if_neg c4] at H
  exact absurd H (by simp)
end Go.Proofs.Ytlecpdpdcocibaa.P
