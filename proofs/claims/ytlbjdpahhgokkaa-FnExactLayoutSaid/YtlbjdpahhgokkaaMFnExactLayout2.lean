/- The law FnExactLayout holds for every call: part 3 of 6 of the proof (walks of functions, and what they answer). Conditions: none beyond what the given row says. -/
import Derived.Test.YtlbjdpahhgokkaaMFnExactLayout0
import Derived.Shelf.Abstract
import Derived.Lib.Hide
import Derived.Test.YtlbjdpahhgokkaaMFnExactLayout1
/- The walk of layouter's put: an item more is put out. -/
namespace Go.Proofs.Ytlbjdpahhgokkaa.P
open Go.RowKit Go.Shelf Go.Proofs.YtlbjdpahhgokkaaW.PrintWords Go.Proofs.YtlbjdpahhgokkaaW.PrintLast Go.Proofs.YtlbjdpahhgokkaaW.PrintMore Go.Proofs.YtlbjdpahhgokkaaEv
set_option linter.unusedVariables false
set_option linter.unusedSimpArgs false
/-- The state of a layouter at a block: what it has put out, the columns on its stack, its depth; its rows' blocks are told by ok. -/
def LyS (w0 w : World) (ok : Nat → Prop) (g : Nat) (out : List S46) (st : List Int) (dep : Int) : Prop :=
  ∃ v0 v1, w.heap[g]? = some (.cells #[v0, v1, .int .i64 dep] 58 (0, 0)) ∧ w0.heap.size ≤ g ∧ Kd.R k46 46 w w0.heap.size ok v0 out ∧ Kd.R (Kd.int .i64) 2 w w0.heap.size ok v1 st
/-- What stays: all blocks but the state's own. -/
def KeepOk (w w' : World) (ok : Nat → Prop) (g : Nat) : Prop := ∀ k, k < w.heap.size → k ≠ g → ¬ ok k → w'.heap[k]? = w.heap[k]?
set_option maxHeartbeats 4000000 in
set_option maxRecDepth 100000 in
theorem put_hand {w0 : World} (ok : Nat → Prop) (g : Nat) (out : List S46) (st : List Int) (d kind : Int) (x : S46) (w : World) (hI : LyS w0 w ok g out st d) (hB : Below w0.heap.size w0 w) (hF : ∀ k, w.heap.size ≤ k → ok k) (hl : out.length ≤ 1000000) :
    Calls Try.prog 30 #[.pointer (some ⟨g, 0, none⟩), .int .i64 kind, .agg #[.int .i64 x.f0, .int .i64 x.f1, .int .i64 x.f2]] w fun e w' => e = .returned (.tuple #[]) ∧ LyS w0 w' ok g (out ++ [⟨kind, x.f1, x.f2⟩]) st d ∧ Below w0.heap.size w0 w' ∧ KeepOk w w' ok g := by
  obtain ⟨v0, v1, hG, hg, hR0, hR1⟩ := hI
  obtain ⟨A0, c0, rfl⟩ := Kd.R_slice hR0
  have HL0 := Aside0.mk (Kd.R_lt hR0)
  have GE := Aside0.mk hg
  have BK1 := Aside0.mk (blk_drew (blk_alloc hG (.cells #[.int .i64 x.f0, .int .i64 x.f1, .int .i64 x.f2] 46)))
  have BX := Aside0.mk (blk_drew (blk_new w (.cells #[.int .i64 x.f0, .int .i64 x.f1, .int .i64 x.f2] 46)))
  have HO0 := Aside0.mk (Kd.R_drew (Kd.R_alloc hR0 (.cells #[.int .i64 x.f0, .int .i64 x.f1, .int .i64 x.f2] 46)))
  have HO1 := Aside0.mk (Kd.R_drew (Kd.R_alloc hR1 (.cells #[.int .i64 x.f0, .int .i64 x.f1, .int .i64 x.f2] 46)))
  have HB1 := Aside0.mk (below_drew1 (below_alloc hB (.cells #[.int .i64 x.f0, .int .i64 x.f1, .int .i64 x.f2] 46)))
  have SZ : Aside0 ((w.alloc (.cells #[.int .i64 x.f0, .int .i64 x.f1, .int .i64 x.f2] 46)).drew.heap.size = w.heap.size + 1) := ⟨by simp⟩
  have KP1 : Aside0 (∀ k, k < w.heap.size → (w.alloc (.cells #[.int .i64 x.f0, .int .i64 x.f1, .int .i64 x.f2] 46)).drew.heap[k]? = w.heap[k]?) := ⟨fun k hk => Below.heap_alloc w _ k hk⟩
  have HF : Aside0 (∀ k, (w.alloc (.cells #[.int .i64 x.f0, .int .i64 x.f1, .int .i64 x.f2] 46)).drew.heap.size ≤ k → ok k) := ⟨fun k hk => hF k (by rw [SZ.out] at hk; omega)⟩
  clear hG hg hR0 hR1 hB hF
  go_enter Try.func30, Try.ntmps30
  go_wp2_with fail
  refine start_ (n := 16) (S := fun w' => w'.cell? ⟨g, 0, none⟩ = some (.slice A0 out.length c0) ∧ w'.cell? ⟨w.heap.size, 1, none⟩ = some (.int .i64 x.f1) ∧ w'.cell? ⟨w.heap.size, 2, none⟩ = some (.int .i64 x.f2)) (ds := [15]) #[false, false, false, false, false, false, false, false, false, false, false, false, false, false, false, false] (by kernel_rfl) rfl rfl ⟨(blk_cell BK1.out 0).trans rfl, (blk_cell BX.out 1).trans rfl, (blk_cell BX.out 2).trans rfl⟩ (fun hHeld => ?_)
  generalize (w.alloc (.cells #[.int .i64 x.f0, .int .i64 x.f1, .int .i64 x.f2] 46)).drew = W1 at BK1 BX HO0 HO1 HB1 SZ KP1 HF hHeld ⊢
  refine pure_ (i := 0) (N := (some 6)) (v := ?_) (a' := ?_) #[true, false, false, false, false, false, false, false, false, false, false, false, false, false, false, false] rfl rfl (by kernel_rfl) (fun _ _ _ h => h) (Or.inl ⟨by rfl, ?_⟩) ?_ ?_
  rotate_left
  · intro w'
    go_simp
    with_reducible rfl
  rotate_left
  · simp only [Act.put, List.setIfInBounds_toArray, List.set_cons_zero, List.set_cons_succ, i64_w, i32_w]
    rfl
  refine pure_ (i := 1) (N := (some 7)) (v := ?_) (a' := ?_) #[true, true, false, false, false, false, false, false, false, false, false, false, false, false, false, false] rfl rfl (by kernel_rfl) (fun _ _ _ h => h) (Or.inl ⟨by rfl, ?_⟩) ?_ ?_
  rotate_left
  · intro w'
    go_simp
    with_reducible rfl
  rotate_left
  · simp only [Act.put, List.setIfInBounds_toArray, List.set_cons_zero, List.set_cons_succ, i64_w, i32_w]
    rfl
  refine pure_ (i := 2) (N := (some 8)) (v := ?_) (a' := ?_) #[true, true, true, false, false, false, false, false, false, false, false, false, false, false, false, false] rfl rfl (by kernel_rfl) (fun _ _ _ h => h) (Or.inl ⟨by rfl, ?_⟩) ?_ ?_
  rotate_left
  · intro w'
    go_simp
    with_reducible rfl
  rotate_left
  · simp only [Act.put, List.setIfInBounds_toArray, List.set_cons_zero, List.set_cons_succ, i64_w, i32_w]
    rfl
  refine pure_ (i := 3) (N := (some 9)) (v := ?_) (a' := ?_) #[true, true, true, true, false, false, false, false, false, false, false, false, false, false, false, false] rfl rfl (by kernel_rfl) (fun _ _ _ h => h) (Or.inl ⟨by rfl, ?_⟩) ?_ ?_
  rotate_left
  · intro w'
    go_simp
    with_reducible rfl
  rotate_left
  · simp only [Act.put, List.setIfInBounds_toArray, List.set_cons_zero, List.set_cons_succ, i64_w, i32_w]
    rfl
  refine pure_ (i := 5) (N := (some 11)) (v := ?_) (a' := ?_) #[true, true, true, true, false, true, false, false, false, false, false, false, false, false, false, false] rfl rfl (by kernel_rfl) (fun _ _ _ h => h) (Or.inl ⟨by rfl, ?_⟩) ?_ ?_
  rotate_left
  · intro w'
    go_simp
    with_reducible rfl
  rotate_left
  · simp only [Act.put, List.setIfInBounds_toArray, List.set_cons_zero, List.set_cons_succ, i64_w, i32_w]
    rfl
  refine pure_ (i := 6) (N := (some 12)) (v := ?_) (a' := ?_) #[true, true, true, true, false, true, true, false, false, false, false, false, false, false, false, false] rfl rfl (by kernel_rfl) (fun _ _ _ h => h) (Or.inl ⟨by rfl, ?_⟩) ?_ ?_
  rotate_left
  · intro w'
    go_simp
    with_reducible rfl
  rotate_left
  · simp only [Act.put, List.setIfInBounds_toArray, List.set_cons_zero, List.set_cons_succ, i64_w, i32_w]
    rfl
  refine pure_ (i := 8) (N := (some 14)) (v := ?_) (a' := ?_) #[true, true, true, true, false, true, true, false, true, false, false, false, false, false, false, false] rfl rfl (by kernel_rfl) (fun _ _ _ h => h) (Or.inl ⟨by rfl, ?_⟩) ?_ ?_
  rotate_left
  · intro w'
    go_simp
    with_reducible rfl
  rotate_left
  · simp only [Act.put, List.setIfInBounds_toArray, List.set_cons_zero, List.set_cons_succ, i64_w, i32_w]
    rfl
  refine take_ (i := 4) (N := (some 10)) (v := ?_) (a' := ?_) #[true, true, true, true, true, true, true, false, true, false, false, false, false, false, false, false] rfl rfl (by kernel_rfl) (fun _ _ _ h => h) (Or.inl ⟨by rfl, ?_⟩) hHeld ?_ ?_
  rotate_left
  · rintro w' ⟨s0, s1, s2⟩
    go_simp
    with_reducible rfl
  rotate_left
  · simp only [Act.put, List.setIfInBounds_toArray, List.set_cons_zero, List.set_cons_succ, i64_w, i32_w]
    rfl
  refine take_ (i := 7) (N := (some 13)) (v := ?_) (a' := ?_) #[true, true, true, true, true, true, true, true, true, false, false, false, false, false, false, false] rfl rfl (by kernel_rfl) (fun _ _ _ h => h) (Or.inl ⟨by rfl, ?_⟩) hHeld ?_ ?_
  rotate_left
  · rintro w' ⟨s0, s1, s2⟩
    go_simp
    with_reducible rfl
  rotate_left
  · simp only [Act.put, List.setIfInBounds_toArray, List.set_cons_zero, List.set_cons_succ, i64_w, i32_w]
    rfl
  refine take_ (i := 9) (N := (some 15)) (v := ?_) (a' := ?_) #[true, true, true, true, true, true, true, true, true, true, false, false, false, false, false, false] rfl rfl (by kernel_rfl) (fun _ _ _ h => h) (Or.inl ⟨by rfl, ?_⟩) hHeld ?_ ?_
  rotate_left
  · rintro w' ⟨s0, s1, s2⟩
    go_simp
    with_reducible rfl
  rotate_left
  · simp only [Act.put, List.setIfInBounds_toArray, List.set_cons_zero, List.set_cons_succ, i64_w, i32_w]
    rfl
  refine pure_ (i := 10) (N := (some 16)) (v := ?_) (a' := ?_) #[true, true, true, true, true, true, true, true, true, true, true, false, false, false, false, false] rfl rfl (by kernel_rfl) (fun _ _ _ h => h) (Or.inl ⟨by rfl, ?_⟩) ?_ ?_
  rotate_left
  · intro w'
    go_simp
    with_reducible rfl
  rotate_left
  · simp only [Act.put, List.setIfInBounds_toArray, List.set_cons_zero, List.set_cons_succ, i64_w, i32_w]
    rfl
  refine one_ (i := 11) (N := (some 17)) #[true, true, true, true, true, true, true, true, true, true, true, true, false, false, false, false] rfl rfl (by kernel_rfl) (by decide) (fun K hK => ?_)
  refine value_ (w1 := ?_) (v := ?_) (by rfl) rfl ?_ ?_
  rotate_left 2
  · go_simp
    constructor
    · rfl
    · rfl
  refine hK.out _ _ ⟨(World.cell?_alloc_lt _ _ _ (World.block_lt_of_cell? _ _ (hHeld.1))).trans (hHeld.1), (World.cell?_alloc_lt _ _ _ (World.block_lt_of_cell? _ _ (hHeld.2.1))).trans (hHeld.2.1), (World.cell?_alloc_lt _ _ _ (World.block_lt_of_cell? _ _ (hHeld.2.2))).trans (hHeld.2.2)⟩ (fun hHeld => ?_)
  clear hK K
  refine norm_ (a' := ?_) ?_ ?_
  rotate_left
  · show Act.put _ (some 17) _ = _
    simp only [Act.put, List.setIfInBounds_toArray, List.set_cons_zero, List.set_cons_succ, i64_w, i32_w]
    rfl
  refine one_ (i := 12) (N := (some 18)) #[true, true, true, true, true, true, true, true, true, true, true, true, true, false, false, false] rfl rfl (by kernel_rfl) (by decide) (fun K hK => ?_)
  refine Kd.R_append_step k46 (w0 := w0) w0.heap.size (by rfl) (.tmp 10) (.tmp 17) 28 46 (.agg #[(.int .i64 0), (.int .i64 0), (.int .i64 0)]) 24 rfl Try.underlying28 info46 rfl (by decide) (by omega) (.slice A0 out.length c0) out (⟨kind, x.f1, x.f2⟩ : S46) [.int .i64 kind, .int .i64 x.f1, .int .i64 x.f2] ok (fun _ => False) rfl rfl ?aP (fun _ hk => hk.elim) HF.out HO0.out HB1.out (below_size HB1.out) ?aL ?_
  (case aP => exact k46_mkM _ _ _ (⟨kind, x.f1, x.f2⟩ : S46))
  (case aL => omega)
  intro v2 w2 ho hb hgr hat
  have hne := Kd.R_ne HO0.out BK1.out (by decide)
  have HOb := Aside0.mk (Kd.R_over' HO1.out (Kd.R_typed HO0.out) (by decide) hgr)
  have BK2 := Aside0.mk (blk_grown BK1.out hgr hne)
  have KP2 : Aside0 (KeepOk w w2 ok g) := ⟨fun k hk hkg hko => (hgr.block k (by rw [SZ.out]; omega) (fun e => hko (HO0.out.1 k e.symm))).trans (KP1.out k hk)⟩
  have hnx : some w.heap.size ≠ (Value.slice A0 out.length c0).ownBlock := fun e => by have := HL0.out _ e.symm; omega
  have BX2 := Aside0.mk (blk_grown BX.out hgr hnx)
  obtain ⟨A2, c2, rfl⟩ := Kd.R_slice ho
  have hln : (out ++ [(⟨kind, x.f1, x.f2⟩ : S46)]).length = out.length + 1 := by simp
  rw [hln] at ho ⊢
  refine hK.out _ _ ⟨(blk_cell BK2.out 0).trans rfl, (blk_cell BX2.out 1).trans rfl, (blk_cell BX2.out 2).trans rfl⟩ (fun hHeld => ?_)
  have hx0 := (blk_cell BK2.out 0)
  have hf0 := blk_frozen BK2.out 0
  clear hK K
  refine norm_ (a' := ?_) ?_ ?_
  rotate_left
  · show Act.put _ (some 18) _ = _
    simp only [Act.put, List.setIfInBounds_toArray, List.set_cons_zero, List.set_cons_succ, i64_w, i32_w]
    rfl
  refine pure_ (i := 13) (N := (some 19)) (v := ?_) (a' := ?_) #[true, true, true, true, true, true, true, true, true, true, true, true, true, true, false, false] rfl rfl (by kernel_rfl) (fun _ _ _ h => h) (Or.inl ⟨by rfl, ?_⟩) ?_ ?_
  rotate_left
  · intro w'
    go_simp
    with_reducible rfl
  rotate_left
  · simp only [Act.put, List.setIfInBounds_toArray, List.set_cons_zero, List.set_cons_succ, i64_w, i32_w]
    rfl
  refine pure_ (i := 14) (N := (some 20)) (v := ?_) (a' := ?_) #[true, true, true, true, true, true, true, true, true, true, true, true, true, true, true, false] rfl rfl (by kernel_rfl) (fun _ _ _ h => h) (Or.inl ⟨by rfl, ?_⟩) ?_ ?_
  rotate_left
  · intro w'
    go_simp
    with_reducible rfl
  rotate_left
  · simp only [Act.put, List.setIfInBounds_toArray, List.set_cons_zero, List.set_cons_succ, i64_w, i32_w]
    rfl
  refine last_ (i := 15) (N := none) #[true, true, true, true, true, true, true, true, true, true, true, true, true, true, true, true] rfl rfl (by kernel_rfl) (by decide) (fun K hK => ?_)
  refine skip_ (w1 := ?_) (by rfl) rfl ?_ ?_
  rotate_left
  · go_simp
    rfl
  refine hK.out _ _ ?_
  clear hK K
  refine done_ (by kernel_rfl) ?_
  go_wp2_with fail
  go_end0
  exact ⟨rfl, ⟨_, _, (blk_set BK2.out 0 _).trans rfl, GE.out, Kd.R_set ho BK2.out (by decide) 0 _, Kd.R_set HOb.out BK2.out (by decide) 0 _⟩, below_set hb GE.out, fun k hk hkg hko => (Below.heap_setCell w2 _ _ k hkg).trans (KP2.out k hk hkg hko)⟩
end Go.Proofs.Ytlbjdpahhgokkaa.P
/- What the reference's check of items answers (walked by hand). -/
namespace Go.Proofs.Ytlbjdpahhgokkaa.P
open Go.RowKit Go.Proofs.YtlbjdpahhgokkaaW.PrintWords Go.Proofs.YtlbjdpahhgokkaaW.PrintLast Go.Proofs.YtlbjdpahhgokkaaEv
set_option linter.unusedVariables false
set_option linter.unusedSimpArgs false

theorem spec_l16Items_ev (l : List S46) : Ev (fun _ => spec_l16Items.f l) (itemsB l) := ev_some.2 rfl
theorem itemsB_len {l : List S46} (h : itemsB l = true) : l.length ≤ 5000 := by
  simp only [itemsB, Bool.and_eq_true, decide_eq_true_eq] at h
  exact h.1
end Go.Proofs.Ytlbjdpahhgokkaa.P
/- What the reference's check of rising kinds, and her search in a list of numbers, answer. -/
namespace Go.Proofs.Ytlbjdpahhgokkaa.P
open Go.RowKit Go.Proofs.YtlbjdpahhgokkaaW.PrintWords Go.Proofs.YtlbjdpahhgokkaaW.PrintLast Go.Proofs.YtlbjdpahhgokkaaEv
set_option linter.unusedVariables false
set_option linter.unusedSimpArgs false

def kindsR : Int → List Int → Bool
  | _, [] => true
  | last, x :: rest => decide (0 ≤ x) && decide (last < x) && kindsR x rest
def kindsB (l : List Int) : Bool := decide (l.length ≤ 20) && kindsR (-1) l
theorem rd_nat (l : List Int) (i : Nat) : l.getD i 0 = rd l i := by simp [rd]
theorem spec_l16Kinds_ev (l : List Int) : Ev (fun k => spec_l16Kinds.f k l) (kindsB l) := by
  unfold spec_l16Kinds.f kindsB
  simp only [ev_ite]
  by_cases h6 : l.length ≤ 20
  · rw [if_neg (by omega), decide_eq_true h6, Bool.true_and]
    have key := down l.length (fun i => ∀ last : Int, (i = 0 → last = -1) → (0 < i → last = rd l ((i - 1 : Nat) : Int)) → Ev (fun k => spec_l16Kinds.l0 k l (i : Nat)) (kindsR last (l.drop i))) ?_ ?_ 0 (by omega) (-1) (fun _ => rfl) (by omega)
    · exact key
    · intro last _ _
      rw [ev_succ]
      simp only [spec_l16Kinds.l0, ev_ite, ev_some]
      rw [if_neg (by omega), List.drop_length]
      rfl
    · intro i hi ih last hl0 hl1
      rw [ev_succ, drop_cons l 0 i hi, rd_nat]
      have ih2 := ih (rd l i) (by omega) (fun _ => by rw [Nat.add_sub_cancel])
      simp only [spec_l16Kinds.l0, Option.bind_some, ev_ite, ev_some, kindsR]
      rw [if_pos (by omega), if_pos (by omega), wrap_succ hi (by omega)]
      have hprev : 0 < i → (0 ≤ wrap64 ((i : Int) - 1) ∧ wrap64 ((i : Int) - 1) < l.length ∧ rd l (wrap64 ((i : Int) - 1)) = last) := by
        intro hp
        rw [wrap_id (x := (i : Int) - 1) (by omega) (by omega)]
        exact ⟨by omega, by omega, by rw [hl1 hp, show ((i : Int) - 1) = ((i - 1 : Nat) : Int) by omega]⟩
      generalize (l.drop (i + 1)) = T at *
      generalize rd l (i : Int) = a at *
      generalize hG : (fun k => spec_l16Kinds.l0 k l ((i + 1 : Nat) : Int)) = G at *
      by_cases c1 : a < 0
      · rw [if_pos c1]; simp [show ¬ 0 ≤ a by omega]
      rw [if_neg c1]
      have hend : (last < a) → Ev G (decide (0 ≤ a) && decide (last < a) && kindsR a T) := by
        intro h5
        refine ev_congr ih2 ?_
        simp [show 0 ≤ a by omega, h5]
      by_cases h00 : i = 0
      · rw [if_neg (by omega)]
        exact hend (by have := hl0 h00; omega)
      · obtain ⟨h1', h2', h3'⟩ := hprev (by omega)
        rw [if_pos (by omega), if_pos h1', if_pos h2', h3']
        by_cases c5 : a ≤ last
        · rw [if_pos c5]; simp [show ¬ last < a by omega]
        · rw [if_neg c5]
          exact hend (by omega)
  · rw [if_pos (by omega)]
    exact ev_some.2 (by simp [h6])
theorem kindsB_len {l : List Int} (h : kindsB l = true) : l.length ≤ 20 := by
  simp only [kindsB, Bool.and_eq_true, decide_eq_true_eq] at h
  exact h.1

def hasB (l : List Int) (x : Int) : Bool := l.any (· == x)
theorem any_drop {α : Type} (l : List α) (d : α) (p : α → Bool) (i : Nat) (h : i < l.length) : (l.drop i).any p = (p (l.getD i d) || (l.drop (i + 1)).any p) := by
  rw [drop_cons l d i h, List.any_cons]
theorem spec_l1Has_ev (l : List Int) (x : Int) (hl : l.length ≤ 9223372036854775807) : Ev (fun k => spec_l1Has.f k l x) (hasB l x) := by
  unfold spec_l1Has.f hasB
  have key := ev_loop l.length (fun k i => spec_l1Has.l0 k l x (i : Nat)) (fun i => (l.drop i).any (· == x)) ?_ ?_ 0 (by omega)
  · exact key
  · rw [ev_succ]
    simp [spec_l1Has.l0, ev_some]
  · intro i hi ih
    rw [ev_succ, any_drop l 0 _ i hi, rd_nat]
    simp only [spec_l1Has.l0, ev_ite, ev_some]
    rw [if_pos (by omega), if_pos (by omega), wrap_succ hi (by omega)]
    by_cases h : rd l i = x
    · rw [if_pos h]; simp [h]
    · rw [if_neg h, beq_eq_false_iff_ne.2 h, Bool.false_or]
      exact ih
end Go.Proofs.Ytlbjdpahhgokkaa.P
/- Words for layout: what lines, columns and brackets do to what is put out. -/
namespace Go.Proofs.Ytlbjdpahhgokkaa.P
open Go.RowKit Go.Proofs.YtlbjdpahhgokkaaW.PrintWords Go.Proofs.YtlbjdpahhgokkaaW.PrintLast Go.Proofs.YtlbjdpahhgokkaaW.PrintMore Go.Proofs.YtlbjdpahhgokkaaEv
set_option linter.unusedVariables false
set_option linter.unusedSimpArgs false
/-- An item that is made, at another one's place. -/
def madeI (kind : Int) (x : S46) : S46 := ⟨kind, x.f1, x.f2⟩
/-- The last column of a stack. -/
abbrev lastC (st : List Int) : Int := rd st ((st.length : Int) - 1)
/-- Columns above a column come off the stack (its last end first), a dedent for each. -/
def popR (x : S46) : Nat → List Int → List S46 → List Int × List S46
  | 0, st, out => (st, out)
  | n + 1, st, out => if lastC st > x.f2 then popR x n (st.take (st.length - 1)) (out ++ [madeI (-3) x]) else (st, out)
theorem popR_keeps (x : S46) (hx : 1 ≤ x.f2) : ∀ (n : Nat) (st : List Int) (out : List S46), st.length = n + 1 → st[0]? = some 1 → (popR x n st out).1[0]? = some 1 ∧ 1 ≤ (popR x n st out).1.length ∧ (popR x n st out).1.length ≤ st.length ∧ lastC (popR x n st out).1 ≤ x.f2 ∧ (popR x n st out).2.length + (popR x n st out).1.length = out.length + st.length := by
  intro n
  induction n with
  | zero =>
    intro st out hl h0
    simp only [popR]
    refine ⟨h0, by omega, Nat.le_refl _, ?_, trivial⟩
    unfold lastC rd
    rw [hl, List.getD_eq_getElem?_getD]
    simp [h0]
    omega
  | succ n ih =>
    intro st out hl h0
    simp only [popR]
    split
    · have h1 : (st.take (st.length - 1)).length = n + 1 := by simp; omega
      have h2 : (st.take (st.length - 1))[0]? = some 1 := by rw [List.getElem?_take, if_pos (by omega)]; exact h0
      obtain ⟨a, b, c, d, e⟩ := ih _ (out ++ [madeI (-3) x]) h1 h2
      refine ⟨a, b, by omega, d, ?_⟩
      simp only [List.length_append, List.length_cons, List.length_nil] at e
      omega
    · rename_i hgt
      dsimp only
      exact ⟨h0, by omega, Nat.le_refl _, Int.not_lt.mp hgt, rfl⟩
/-- What an item that begins a line does to stack and output. -/
def begR (x : S46) (st : List Int) (out : List S46) : List Int × List S46 :=
  if x.f2 > lastC st then popR x st.length (st ++ [x.f2]) (out ++ [madeI (-2) x]) else popR x (st.length - 1) st out
/-- The end of a line. -/
def nlR (p : Option S46) (out : List S46) : List S46 := match p with
  | none => out
  | some e => out ++ [madeI (-1) e]
/-- The depth behind an item, if it may stand there. -/
def depR (op cl : List Int) (kind d : Int) : Option Int :=
  if hasB cl kind then (if d = 0 then none else some (if hasB op kind then d - 1 + 1 else d - 1)) else some (if hasB op kind then d + 1 else d)
/-- Does an item begin a line? -/
def newR (p : Option S46) (x : S46) : Bool := match p with
  | none => true
  | some e => decide (x.f1 > e.f1)
def endR (p : Option S46) (st : List Int) (out : List S46) : List S46 := match p with
  | none => out
  | some e => out ++ [madeI (-1) e] ++ List.replicate (st.length - 1) (madeI (-3) e)
def layR (op cl : List Int) : Option S46 → List S46 → List S46 → List Int → Int → Int → List S46 × Int × Int
  | p, [], out, st, d, i => if d = 0 then (endR p st out, 0, -1) else ([], 4, i)
  | p, x :: xs, out, st, d, i =>
    if d = 0 ∧ newR p x = true then
      (if lastC (begR x st (nlR p out)).1 = x.f2 then
        (match depR op cl x.f0 d with
          | none => ([], 3, i)
          | some d1 => layR op cl (some x) xs ((begR x st (nlR p out)).2 ++ [x]) (begR x st (nlR p out)).1 d1 (i + 1))
      else ([], 2, i))
    else (match depR op cl x.f0 d with
          | none => ([], 3, i)
          | some d1 => layR op cl (some x) xs (out ++ [x]) st d1 (i + 1))
theorem begR_keeps (x : S46) (hx : 1 ≤ x.f2) (st : List Int) (out : List S46) (h1 : 1 ≤ st.length) (h0 : st[0]? = some 1) : (begR x st out).1[0]? = some 1 ∧ 1 ≤ (begR x st out).1.length ∧ (begR x st out).1.length ≤ st.length + 1 ∧ (begR x st out).2.length + (begR x st out).1.length ≤ out.length + st.length + 2 := by
  unfold begR
  split
  · obtain ⟨a, b, c, _, e⟩ := popR_keeps x hx st.length (st ++ [x.f2]) (out ++ [madeI (-2) x]) (by simp) (by rw [List.getElem?_append_left (by omega)]; exact h0)
    simp only [List.length_append, List.length_cons, List.length_nil] at c e
    exact ⟨a, b, by omega, by omega⟩
  · obtain ⟨a, b, c, _, e⟩ := popR_keeps x hx (st.length - 1) st out (by omega) h0
    exact ⟨a, b, by omega, by omega⟩
theorem depR_bound {op cl : List Int} {kind d d1 : Int} (h0 : 0 ≤ d) (h : depR op cl kind d = some d1) : 0 ≤ d1 ∧ d1 ≤ d + 1 := by
  unfold depR at h
  split at h
  · split at h
    · cases h
    · have := Option.some.inj h
      split at this <;> omega
  · have := Option.some.inj h
    split at this <;> omega
/-- Right brackets. -/
def bracketsB (op cl : List Int) : Bool := kindsB op && kindsB cl && !(op.any fun k => hasB cl k)
def layB (l : List S46) (op cl : List Int) : List S46 × Int × Int := if itemsB l && bracketsB op cl then layR op cl none l [] [1] 0 0 else ([], 1, -1)
theorem layR_few (op cl : List Int) : ∀ (xs : List S46) (p : Option S46) (out : List S46) (st : List Int) (d i : Int), (∀ x ∈ xs, 1 ≤ x.f2) → 1 ≤ st.length → st[0]? = some 1 → (layR op cl p xs out st d i).1.length ≤ out.length + st.length + 1 + 4 * xs.length := by
  intro xs
  induction xs with
  | nil =>
    intro p out st d i _ h1 _
    simp only [layR]
    split
    · unfold endR
      split <;> simp <;> omega
    · simp
  | cons x xs ih =>
    intro p out st d i hx h1 h0
    have hnl : (nlR p out).length ≤ out.length + 1 := by
      unfold nlR
      split <;> simp
    simp only [layR]
    split
    · split
      · split
        · simp
        · obtain ⟨a, b, c, e⟩ := begR_keeps x (hx x (by simp)) st (nlR p out) h1 h0
          have := ih (some x) ((begR x st (nlR p out)).2 ++ [x]) (begR x st (nlR p out)).1 ‹_› (i + 1) (fun y hy => hx y (by simp [hy])) b a
          simp only [List.length_append, List.length_cons, List.length_nil] at this ⊢
          omega
      · simp
    · split
      · simp
      · have := ih (some x) (out ++ [x]) st ‹_› (i + 1) (fun y hy => hx y (by simp [hy])) h1 h0
        simp only [List.length_append, List.length_cons, List.length_nil] at this ⊢
        omega
theorem itemsR_col : ∀ (l : List S46) (last : Int), itemsR last l = true → ∀ x ∈ l, 1 ≤ x.f2 := by
  intro l
  induction l with
  | nil => intro last _ x hx; cases hx
  | cons y l ih =>
    intro last h x hx
    simp only [itemsR, itemB, Bool.and_eq_true, decide_eq_true_eq] at h
    rcases List.mem_cons.1 hx with rfl | hx
    · exact h.1.1.2.1
    · exact ih _ h.2 x hx
theorem layB_few (l : List S46) (op cl : List Int) : (layB l op cl).1.length ≤ 20002 := by
  unfold layB
  split
  · rename_i h
    simp only [Bool.and_eq_true, itemsB, decide_eq_true_eq] at h
    have := layR_few op cl l none [] [1] 0 0 (itemsR_col l 0 h.1.2) (by simp) rfl
    simp at this
    omega
  · simp
end Go.Proofs.Ytlbjdpahhgokkaa.P
/- The walk of layouter's last: the last column of the stack. -/
namespace Go.Proofs.Ytlbjdpahhgokkaa.P
open Go.RowKit Go.Shelf Go.Proofs.YtlbjdpahhgokkaaW.PrintWords Go.Proofs.YtlbjdpahhgokkaaW.PrintLast Go.Proofs.YtlbjdpahhgokkaaW.PrintMore Go.Proofs.YtlbjdpahhgokkaaEv
set_option linter.unusedVariables false
set_option linter.unusedSimpArgs false
set_option maxRecDepth 100000 in
theorem last_hand {w0 : World} {ok : Nat → Prop} (g : Nat) (out : List S46) (st : List Int) (d : Int) (w : World) (hI : LyS w0 w ok g out st d) (h1 : 1 ≤ st.length) (hl : st.length ≤ 1000000) (n : Nat) :
    Calls Try.prog 50 #[.pointer (some ⟨g, 0, none⟩)] (w.drewN n) fun e w' => e = .returned (.int .i64 (lastC st)) ∧ ∃ m, w' = w.drewN m := by
  obtain ⟨v0, v1, hG, hg, hR0, hR1⟩ := hI
  obtain ⟨ad, c1, rfl⟩ := Kd.R_slice1 hR1 (by omega)
  have hC := (Kd.R_reads' hR1).2.2
  have hx1 : w.cell? ⟨g, 1, none⟩ = some (.slice (some ad) st.length c1) := (blk_cell hG 1).trans rfl
  have p1 : 0 ≤ (st.length : Int) - 1 := by omega
  have p2 : (st.length : Int) - 1 < (st.length : Int) := by omega
  obtain ⟨ad2, e2, hy⟩ := Kd.at_int hC ((st.length : Int) - 1) p1 p2
  cases e2
  have hwr : IntKind.i64.wrap ((st.length : Int) - 1) = (st.length : Int) - 1 := by rw [i64_w]; exact wrap_id (by omega) (by omega)
  have hy1 : w.cell? (ad.add ((st.length : Int) - 1).toNat) = some (.int .i64 (lastC st)) := hy
  rw [show ((st.length : Int) - 1).toNat = st.length - 1 by omega] at hy1
  have q1 := eq_true p1
  have q2 := eq_true p2
  have q3 : 1 ≤ (st.length : Int) := by omega
  have q4 : 0 < st.length := by omega
  clear hR0 hR1 hC hG hy hg
  go_enter Try.func50, Try.ntmps50
  go_wp2_with fail
  go_quiet (fail)
  go_wp2_with fail
  go_ret
  exact ⟨rfl, _, World.drewN_drewN _ _ _⟩
theorem last_is {w0 : World} {ok : Nat → Prop} (g : Nat) (out : List S46) (st : List Int) (d c : Int) (w : World) (hI : LyS w0 w ok g out st d) (h1 : 1 ≤ st.length) (hl : st.length ≤ 1000000) (hc : lastC st = c) (n : Nat) :
    Calls Try.prog 50 #[.pointer (some ⟨g, 0, none⟩)] (w.drewN n) fun e w' => e = .returned (.int .i64 c) ∧ ∃ m, w' = w.drewN m := by
  subst hc
  exact last_hand g out st d w hI h1 hl n
end Go.Proofs.Ytlbjdpahhgokkaa.P
/- The walk of layouter's begin where a column is deeper: it goes on the stack. -/
namespace Go.Proofs.Ytlbjdpahhgokkaa.P
open Go.RowKit Go.Shelf Go.Proofs.YtlbjdpahhgokkaaW.PrintWords Go.Proofs.YtlbjdpahhgokkaaW.PrintLast Go.Proofs.YtlbjdpahhgokkaaW.PrintMore Go.Proofs.YtlbjdpahhgokkaaEv
set_option linter.unusedVariables false
set_option linter.unusedSimpArgs false
theorem LyS.alloc {w0 w : World} {ok : Nat → Prop} {g : Nat} {out : List S46} {st : List Int} {d : Int} (h : LyS w0 w ok g out st d) (o : Obj) : LyS w0 (w.alloc o) (fun k => ok k ∧ k ≠ w.heap.size) g out st d := by
  obtain ⟨v0, v1, hG, hg, h0, h1⟩ := h
  exact ⟨v0, v1, blk_alloc hG o, hg, Kd.R_alloc (Kd.R_mono (Kd.R_bound h0) fun k hk => ⟨hk.1, by have := hk.2.2.1; omega⟩) o, Kd.R_alloc (Kd.R_mono (Kd.R_bound h1) fun k hk => ⟨hk.1, by have := hk.2.2.1; omega⟩) o⟩
theorem LyS.drewN {w0 w : World} {ok : Nat → Prop} {g : Nat} {out : List S46} {st : List Int} {d : Int} (h : LyS w0 w ok g out st d) (n : Nat) : LyS w0 (w.drewN n) ok g out st d := by
  obtain ⟨v0, v1, hG, hg, h0, h1⟩ := h
  exact ⟨v0, v1, blk_drewN hG n, hg, Kd.R_drewN h0 n, Kd.R_drewN h1 n⟩
theorem LyS.mono {w0 w : World} {ok ok' : Nat → Prop} {g : Nat} {out : List S46} {st : List Int} {d : Int} (h : LyS w0 w ok g out st d) (hk : ∀ k, ok k → ok' k) : LyS w0 w ok' g out st d := by
  obtain ⟨v0, v1, hG, hg, h0, h1⟩ := h
  exact ⟨v0, v1, hG, hg, Kd.R_mono h0 hk, Kd.R_mono h1 hk⟩
theorem LyS.ne {w0 w : World} {ok : Nat → Prop} {g : Nat} {out : List S46} {st : List Int} {d : Int} (h : LyS w0 w ok g out st d) {b t : Nat} {cs : Array Value} (hb : w.heap[b]? = some (.cells cs t (0, 0))) (ht : t ≠ 58) : b ≠ g := by
  obtain ⟨v0, v1, hG, hg, h0, h1⟩ := h
  exact blk_ne hb hG ht
theorem begR_push {x : S46} {st : List Int} {out : List S46} (h : lastC st < x.f2) : begR x st out = (st ++ [x.f2], out ++ [⟨-2, x.f1, x.f2⟩]) := by
  unfold begR
  rw [if_pos h]
  have hl : lastC (st ++ [x.f2]) = x.f2 := by
    unfold lastC rd
    rw [List.getD_eq_getElem?_getD, List.getElem?_append_right (by simp)]
    simp
  cases hn : st.length with
  | zero => rfl
  | succ n =>
    simp only [popR]
    rw [hl, if_neg (by omega)]
    rfl
set_option maxHeartbeats 8000000 in
set_option maxRecDepth 100000 in
theorem begin_push {w0 : World} (ok : Nat → Prop) (g : Nat) (out : List S46) (st : List Int) (d : Int) (x : S46) (w : World) (hI : LyS w0 w ok g out st d) (hB : Below w0.heap.size w0 w) (hF : ∀ k, w.heap.size ≤ k → ok k) (h1 : 1 ≤ st.length) (hl : out.length + st.length ≤ 500000) (hc : lastC st < x.f2) :
    Calls Try.prog 31 #[.pointer (some ⟨g, 0, none⟩), .agg #[.int .i64 x.f0, .int .i64 x.f1, .int .i64 x.f2]] w fun e w' => e = .returned (.int .i64 0) ∧ LyS w0 w' ok g (out ++ [⟨-2, x.f1, x.f2⟩]) (st ++ [x.f2]) d ∧ Below w0.heap.size w0 w' ∧ KeepOk w w' ok g := by
  have cA : decide (lastC st < x.f2) = true := decide_eq_true hc
  have HI := Aside0.mk (hI.alloc (.cells #[.int .i64 x.f0, .int .i64 x.f1, .int .i64 x.f2] 46))
  have BX := Aside0.mk (blk_new w (.cells #[.int .i64 x.f0, .int .i64 x.f1, .int .i64 x.f2] 46))
  have HB := Aside0.mk (below_alloc hB (.cells #[.int .i64 x.f0, .int .i64 x.f1, .int .i64 x.f2] 46))
  have SZ1 : Aside0 (w.heap.size + 1 ≤ (w.alloc (.cells #[.int .i64 x.f0, .int .i64 x.f1, .int .i64 x.f2] 46)).heap.size) := ⟨by simp⟩
  have KP1 : Aside0 (∀ k, k < w.heap.size → k ≠ g → ¬ ok k → (w.alloc (.cells #[.int .i64 x.f0, .int .i64 x.f1, .int .i64 x.f2] 46)).heap[k]? = w.heap[k]?) := ⟨fun k hk _ _ => Below.heap_alloc w _ k hk⟩
  have HF1 : Aside0 (∀ k, (w.alloc (.cells #[.int .i64 x.f0, .int .i64 x.f1, .int .i64 x.f2] 46)).heap.size ≤ k → ok k ∧ k ≠ w.heap.size) := ⟨fun k hk => ⟨hF k (by have := SZ1.out; omega), by have := SZ1.out; omega⟩⟩
  have hgw : g < w.heap.size := by obtain ⟨v0, v1, hG, _⟩ := hI; exact blk_lt hG
  clear hI hB hF
  go_enter Try.func31, Try.ntmps31
  go_wp2_with fail
  go_quiet ((go_at_call 50; with_reducible exact last_hand g _ st d _ HI.out (by omega) (by omega) _))
  go_wp2_with fail
  obtain ⟨gb, hgb⟩ : ∃ gb, w.heap.size = gb := ⟨_, rfl⟩
  replace HI := Aside0.mk (HI.out.drewN nq)
  replace BX := Aside0.mk (blk_drewN BX.out nq)
  replace HB := Aside0.mk (pw_below_drewN HB.out nq)
  replace SZ1 : Aside0 (w.heap.size + 1 ≤ ((w.alloc (.cells #[.int .i64 x.f0, .int .i64 x.f1, .int .i64 x.f2] 46)).drewN nq).heap.size) := SZ1
  replace KP1 : Aside0 (∀ k, k < w.heap.size → k ≠ g → ¬ ok k → ((w.alloc (.cells #[.int .i64 x.f0, .int .i64 x.f1, .int .i64 x.f2] 46)).drewN nq).heap[k]? = w.heap[k]?) := KP1
  replace HF1 : Aside0 (∀ k, ((w.alloc (.cells #[.int .i64 x.f0, .int .i64 x.f1, .int .i64 x.f2] 46)).drewN nq).heap.size ≤ k → ok k ∧ k ≠ w.heap.size) := HF1
  generalize hW : (w.alloc (.cells #[.int .i64 x.f0, .int .i64 x.f1, .int .i64 x.f2] 46)).drewN nq = W at *
  clear hW
  simp only [hgb] at HI BX HF1 ⊢
  obtain ⟨v0, v1, hG, hg, hR0, hR1⟩ := HI.out
  obtain ⟨A1, c1, rfl⟩ := Kd.R_slice hR1
  have BK1 := Aside0.mk (blk_drew hG)
  have BX1 := Aside0.mk (blk_drew BX.out)
  have HO0 := Aside0.mk (Kd.R_drew hR0)
  have HO1 := Aside0.mk (Kd.R_drew hR1)
  have HB1 := Aside0.mk (below_drew1 HB.out)
  have GE := Aside0.mk hg
  clear hG hg hR0 hR1 HI BX
  replace SZ1 : Aside0 (w.heap.size + 1 ≤ W.drew.heap.size) := SZ1
  replace KP1 : Aside0 (∀ k, k < w.heap.size → k ≠ g → ¬ ok k → W.drew.heap[k]? = w.heap[k]?) := KP1
  replace HF1 : Aside0 (∀ k, W.drew.heap.size ≤ k → ok k ∧ k ≠ gb) := HF1
  refine start_ (n := 12) (S := fun w' => w'.cell? ⟨g, 1, none⟩ = some (.slice A1 st.length c1) ∧ w'.cell? ⟨gb, 2, none⟩ = some (.int .i64 x.f2)) (ds := [11]) #[false, false, false, false, false, false, false, false, false, false, false, false] (by kernel_rfl) rfl rfl ⟨(blk_cell BK1.out 1).trans rfl, (blk_cell BX1.out 2).trans rfl⟩ (fun hHeld => ?_)
  generalize hW1 : W.drew = W1 at BK1 BX1 HO0 HO1 HB1 SZ1 KP1 HF1 hHeld ⊢
  refine pure_ (i := 0) (N := (some 10)) (v := ?_) (a' := ?_) #[true, false, false, false, false, false, false, false, false, false, false, false] rfl rfl (by kernel_rfl) (fun _ _ _ h => h) (Or.inl ⟨by rfl, ?_⟩) ?_ ?_
  rotate_left
  · intro w'
    go_simp
    with_reducible rfl
  rotate_left
  · simp only [Act.put, List.setIfInBounds_toArray, List.set_cons_zero, List.set_cons_succ, i64_w, i32_w]
    rfl
  refine pure_ (i := 1) (N := (some 11)) (v := ?_) (a' := ?_) #[true, true, false, false, false, false, false, false, false, false, false, false] rfl rfl (by kernel_rfl) (fun _ _ _ h => h) (Or.inl ⟨by rfl, ?_⟩) ?_ ?_
  rotate_left
  · intro w'
    go_simp
    with_reducible rfl
  rotate_left
  · simp only [Act.put, List.setIfInBounds_toArray, List.set_cons_zero, List.set_cons_succ, i64_w, i32_w]
    rfl
  refine pure_ (i := 2) (N := (some 12)) (v := ?_) (a' := ?_) #[true, true, true, false, false, false, false, false, false, false, false, false] rfl rfl (by kernel_rfl) (fun _ _ _ h => h) (Or.inl ⟨by rfl, ?_⟩) ?_ ?_
  rotate_left
  · intro w'
    go_simp
    with_reducible rfl
  rotate_left
  · simp only [Act.put, List.setIfInBounds_toArray, List.set_cons_zero, List.set_cons_succ, i64_w, i32_w]
    rfl
  refine pure_ (i := 3) (N := (some 13)) (v := ?_) (a' := ?_) #[true, true, true, true, false, false, false, false, false, false, false, false] rfl rfl (by kernel_rfl) (fun _ _ _ h => h) (Or.inl ⟨by rfl, ?_⟩) ?_ ?_
  rotate_left
  · intro w'
    go_simp
    with_reducible rfl
  rotate_left
  · simp only [Act.put, List.setIfInBounds_toArray, List.set_cons_zero, List.set_cons_succ, i64_w, i32_w]
    rfl
  refine pure_ (i := 5) (N := (some 15)) (v := ?_) (a' := ?_) #[true, true, true, true, false, true, false, false, false, false, false, false] rfl rfl (by kernel_rfl) (fun _ _ _ h => h) (Or.inl ⟨by rfl, ?_⟩) ?_ ?_
  rotate_left
  · intro w'
    go_simp
    with_reducible rfl
  rotate_left
  · simp only [Act.put, List.setIfInBounds_toArray, List.set_cons_zero, List.set_cons_succ, i64_w, i32_w]
    rfl
  refine take_ (i := 4) (N := (some 14)) (v := ?_) (a' := ?_) #[true, true, true, true, true, true, false, false, false, false, false, false] rfl rfl (by kernel_rfl) (fun _ _ _ h => h) (Or.inl ⟨by rfl, ?_⟩) hHeld ?_ ?_
  rotate_left
  · rintro w' ⟨s0, s1⟩
    go_simp
    with_reducible rfl
  rotate_left
  · simp only [Act.put, List.setIfInBounds_toArray, List.set_cons_zero, List.set_cons_succ, i64_w, i32_w]
    rfl
  refine take_ (i := 6) (N := (some 16)) (v := ?_) (a' := ?_) #[true, true, true, true, true, true, true, false, false, false, false, false] rfl rfl (by kernel_rfl) (fun _ _ _ h => h) (Or.inl ⟨by rfl, ?_⟩) hHeld ?_ ?_
  rotate_left
  · rintro w' ⟨s0, s1⟩
    go_simp
    with_reducible rfl
  rotate_left
  · simp only [Act.put, List.setIfInBounds_toArray, List.set_cons_zero, List.set_cons_succ, i64_w, i32_w]
    rfl
  refine one_ (i := 7) (N := (some 17)) #[true, true, true, true, true, true, true, true, false, false, false, false] rfl rfl (by kernel_rfl) (by decide) (fun K hK => ?_)
  refine value_ (w1 := ?_) (v := ?_) (by rfl) rfl ?_ ?_
  rotate_left 2
  · go_simp
    constructor
    · rfl
    · rfl
  refine hK.out _ _ ⟨(World.cell?_alloc_lt _ _ _ (World.block_lt_of_cell? _ _ (hHeld.1))).trans (hHeld.1), (World.cell?_alloc_lt _ _ _ (World.block_lt_of_cell? _ _ (hHeld.2))).trans (hHeld.2)⟩ (fun hHeld => ?_)
  clear hK K
  refine norm_ (a' := ?_) ?_ ?_
  rotate_left
  · show Act.put _ (some 17) _ = _
    simp only [Act.put, List.setIfInBounds_toArray, List.set_cons_zero, List.set_cons_succ, i64_w, i32_w]
    rfl
  refine one_ (i := 8) (N := (some 18)) #[true, true, true, true, true, true, true, true, true, false, false, false] rfl rfl (by kernel_rfl) (by decide) (fun K hK => ?_)
  refine Kd.R_append_step (Kd.int .i64) (w0 := w0) w0.heap.size (by rfl) (.tmp 14) (.tmp 17) 23 2 (.int .i64 0) 8 rfl Try.underlying23 (by kernel_rfl) rfl (by decide) (by omega) (.slice A1 st.length c1) st x.f2 [.int .i64 x.f2] (fun k => ok k ∧ k ≠ gb) (fun _ => False) rfl rfl ?aP (fun _ hk => hk.elim) HF1.out HO1.out HB1.out (below_size HB1.out) ?aL ?_
  (case aP => exact rfl)
  (case aL => omega)
  intro v2 w2 ho hb hgr hat
  have hne := Kd.R_ne HO1.out BK1.out (by decide)
  have hnx := Kd.R_away HO1.out (g := gb) (fun _ hk => hk.2)
  have HOb := Aside0.mk (Kd.R_over' HO0.out (Kd.R_typed HO1.out) (by decide) hgr)
  have BK2 := Aside0.mk (blk_grown BK1.out hgr hne)
  have BX2 := Aside0.mk (blk_grown BX1.out hgr hnx)
  have KP2 : Aside0 (∀ k, k < w.heap.size → k ≠ g → ¬ ok k → w2.heap[k]? = w.heap[k]?) := ⟨fun k hk hkg hko => (hgr.block k (by have := SZ1.out; omega) (fun e => hko (HO1.out.1 k e.symm).1)).trans (KP1.out k hk hkg hko)⟩
  obtain ⟨A2, c2, rfl⟩ := Kd.R_slice ho
  have hln : (st ++ [x.f2]).length = st.length + 1 := by simp
  rw [hln] at ho ⊢
  refine hK.out _ _ ⟨(blk_cell BK2.out 1).trans rfl, (blk_cell BX2.out 2).trans rfl⟩ (fun hHeld => ?_)
  have hx0 := (blk_cell BK2.out 1)
  have hf0 := blk_frozen BK2.out 1
  clear hK K
  refine norm_ (a' := ?_) ?_ ?_
  rotate_left
  · show Act.put _ (some 18) _ = _
    simp only [Act.put, List.setIfInBounds_toArray, List.set_cons_zero, List.set_cons_succ, i64_w, i32_w]
    rfl
  refine pure_ (i := 9) (N := (some 19)) (v := ?_) (a' := ?_) #[true, true, true, true, true, true, true, true, true, true, false, false] rfl rfl (by kernel_rfl) (fun _ _ _ h => h) (Or.inl ⟨by rfl, ?_⟩) ?_ ?_
  rotate_left
  · intro w'
    go_simp
    with_reducible rfl
  rotate_left
  · simp only [Act.put, List.setIfInBounds_toArray, List.set_cons_zero, List.set_cons_succ, i64_w, i32_w]
    rfl
  refine pure_ (i := 10) (N := (some 20)) (v := ?_) (a' := ?_) #[true, true, true, true, true, true, true, true, true, true, true, false] rfl rfl (by kernel_rfl) (fun _ _ _ h => h) (Or.inl ⟨by rfl, ?_⟩) ?_ ?_
  rotate_left
  · intro w'
    go_simp
    with_reducible rfl
  rotate_left
  · simp only [Act.put, List.setIfInBounds_toArray, List.set_cons_zero, List.set_cons_succ, i64_w, i32_w]
    rfl
  refine last_ (i := 11) (N := none) #[true, true, true, true, true, true, true, true, true, true, true, true] rfl rfl (by kernel_rfl) (by decide) (fun K hK => ?_)
  refine skip_ (w1 := ?_) (by rfl) rfl ?_ ?_
  rotate_left
  · go_simp
    rfl
  refine hK.out _ _ ?_
  clear hK K
  refine done_ (by kernel_rfl) ?_
  have HI3 : Aside0 (LyS w0 (w2.setCell ⟨g, 1, none⟩ (.slice A2 (st.length + 1) c2)) (fun k => ok k ∧ k ≠ gb) g out (st ++ [x.f2]) d) := ⟨⟨_, _, (blk_set BK2.out 1 _).trans rfl, GE.out, Kd.R_set HOb.out BK2.out (by decide) 1 _, Kd.R_set ho BK2.out (by decide) 1 _⟩⟩
  have hgg : gb ≠ g := by omega
  have BX3 := Aside0.mk (blk_far BX2.out (p := ⟨g, 1, none⟩) hgg (.slice A2 (st.length + 1) c2))
  have HB3 := Aside0.mk (below_set hb GE.out (j := 1) (v := .slice A2 (st.length + 1) c2))
  have KP3 : Aside0 (∀ k, k < w.heap.size → k ≠ g → ¬ ok k → (w2.setCell ⟨g, 1, none⟩ (.slice A2 (st.length + 1) c2)).heap[k]? = w.heap[k]?) := ⟨fun k hk hkg hko => (Below.heap_setCell w2 _ _ k hkg).trans (KP2.out k hk hkg hko)⟩
  have SZ3 : Aside0 (W1.heap.size ≤ (w2.setCell ⟨g, 1, none⟩ (.slice A2 (st.length + 1) c2)).heap.size) := ⟨by have := hgr.size; simpa using this⟩
  clear HO0 HO1 HB1 BK1 BX1 ho hb hgr hat hne hnx HOb BK2 BX2 KP2 hx0 hf0 hHeld hW1
  generalize w2.setCell ⟨g, 1, none⟩ (.slice A2 (st.length + 1) c2) = w3 at *
  have hy0 := blk_cell BX3.out 0
  have hy1 := blk_cell BX3.out 1
  have hy2 := blk_cell BX3.out 2
  go_wp2_with (go_at_call 30; refine (put_hand (fun k => ok k ∧ k ≠ gb) g out (st ++ [x.f2]) d (-2) x w3 HI3.out HB3.out ?hff (by omega)).mono ?_; (case hff => exact fun k hk => HF1.out k (by have := SZ3.out; omega)); rintro e w' ⟨rfl, hi, hb, hk⟩)
  go_ret
  exact ⟨rfl, hi.mono (fun _ h => h.1), hb, fun k hk1 hkg hko => (hk k (by have := SZ3.out; have := SZ1.out; omega) hkg (fun h => hko h.1)).trans (KP3.out k hk1 hkg hko)⟩
end Go.Proofs.Ytlbjdpahhgokkaa.P
/- The walk of layouter's begin where no column is deeper: columns come off the stack. -/
namespace Go.Proofs.Ytlbjdpahhgokkaa.P
open Go.RowKit Go.Shelf Go.Proofs.YtlbjdpahhgokkaaW.PrintWords Go.Proofs.YtlbjdpahhgokkaaW.PrintLast Go.Proofs.YtlbjdpahhgokkaaW.PrintMore Go.Proofs.YtlbjdpahhgokkaaEv
set_option linter.unusedVariables false
set_option linter.unusedSimpArgs false
set_option maxHeartbeats 16000000 in
set_option maxRecDepth 100000 in
theorem begin_pop {w0 : World} (ok : Nat → Prop) (g : Nat) (out : List S46) (st : List Int) (d : Int) (x : S46) (w : World) (hI : LyS w0 w ok g out st d) (hB : Below w0.heap.size w0 w) (hF : ∀ k, w.heap.size ≤ k → ok k) (hx : 1 ≤ x.f2) (h1 : 1 ≤ st.length) (h0 : st[0]? = some 1) (hl : out.length + st.length ≤ 500000) (hc : ¬ lastC st < x.f2) :
    Calls Try.prog 31 #[.pointer (some ⟨g, 0, none⟩), .agg #[.int .i64 x.f0, .int .i64 x.f1, .int .i64 x.f2]] w fun e w' => e = .returned (.int .i64 (if lastC (popR x (st.length - 1) st out).1 = x.f2 then 0 else 2)) ∧ LyS w0 w' ok g (popR x (st.length - 1) st out).2 (popR x (st.length - 1) st out).1 d ∧ Below w0.heap.size w0 w' ∧ KeepOk w w' ok g := by
  have cA : decide (lastC st < x.f2) = false := decide_eq_false hc
  clear hc
  have HI := Aside0.mk (hI.alloc (.cells #[.int .i64 x.f0, .int .i64 x.f1, .int .i64 x.f2] 46))
  have BX := Aside0.mk (blk_new w (.cells #[.int .i64 x.f0, .int .i64 x.f1, .int .i64 x.f2] 46))
  have HB := Aside0.mk (below_alloc hB (.cells #[.int .i64 x.f0, .int .i64 x.f1, .int .i64 x.f2] 46))
  have SZ1 : Aside0 (w.heap.size + 1 ≤ (w.alloc (.cells #[.int .i64 x.f0, .int .i64 x.f1, .int .i64 x.f2] 46)).heap.size) := ⟨by simp⟩
  have KP1 : Aside0 (∀ k, k < w.heap.size → k ≠ g → ¬ ok k → (w.alloc (.cells #[.int .i64 x.f0, .int .i64 x.f1, .int .i64 x.f2] 46)).heap[k]? = w.heap[k]?) := ⟨fun k hk _ _ => Below.heap_alloc w _ k hk⟩
  have HF1 : Aside0 (∀ k, w.heap.size + 1 ≤ k → ok k ∧ k ≠ w.heap.size) := ⟨fun k hk => ⟨hF k (by omega), by omega⟩⟩
  have hgw : g < w.heap.size := by obtain ⟨v0, v1, hG, _⟩ := hI; exact blk_lt hG
  clear hI hB hF
  obtain ⟨r, hr⟩ : ∃ r, popR x (st.length - 1) st out = r := ⟨_, rfl⟩
  have hr0 : Aside0 (∃ n, st.length = n + 1 ∧ popR x n st out = r) := ⟨⟨st.length - 1, by omega, hr⟩⟩
  rw [hr]
  clear hr
  obtain ⟨cd, hcd⟩ : ∃ cd : Int, (if lastC r.1 = x.f2 then (0 : Int) else 2) = cd := ⟨_, rfl⟩
  rw [hcd]
  replace hcd := Aside0.mk hcd
  go_enter Try.func31, Try.ntmps31
  go_wp2_with fail
  go_quiet ((go_at_call 50; with_reducible exact last_hand g _ st d _ HI.out (by omega) (by omega) _))
  go_wp2_with fail
  obtain ⟨gb, hgb⟩ : ∃ gb, w.heap.size = gb := ⟨_, rfl⟩
  replace HI := Aside0.mk (HI.out.drewN nq)
  replace BX := Aside0.mk (blk_drewN BX.out nq)
  replace HB := Aside0.mk (pw_below_drewN HB.out nq)
  replace SZ1 : Aside0 (w.heap.size + 1 ≤ ((w.alloc (.cells #[.int .i64 x.f0, .int .i64 x.f1, .int .i64 x.f2] 46)).drewN nq).heap.size) := SZ1
  replace KP1 : Aside0 (∀ k, k < w.heap.size → k ≠ g → ¬ ok k → ((w.alloc (.cells #[.int .i64 x.f0, .int .i64 x.f1, .int .i64 x.f2] 46)).drewN nq).heap[k]? = w.heap[k]?) := KP1
  generalize hW : (w.alloc (.cells #[.int .i64 x.f0, .int .i64 x.f1, .int .i64 x.f2] 46)).drewN nq = W at *
  clear hW
  simp only [hgb] at HI BX HF1 SZ1 KP1 hgw ⊢
  go_loopg [24] st.length (fun gg _ wr => ∃ (n : Nat) (st1 : List Int) (out1 : List S46), n < gg ∧ st1.length = n + 1 ∧ st1[0]? = some 1 ∧ out1.length + st1.length ≤ 500000 ∧ Aside0 (popR x n st1 out1 = r) ∧ Aside0 (LyS w0 wr (fun k => ok k ∧ k ≠ gb) g out1 st1 d) ∧ Aside0 (wr.heap[gb]? = some (.cells #[.int .i64 x.f0, .int .i64 x.f1, .int .i64 x.f2] 46 (0, 0))) ∧ Aside0 (Below w0.heap.size w0 wr) ∧ Aside0 (gb + 1 ≤ wr.heap.size) ∧ Aside0 (∀ k, k < gb → k ≠ g → ¬ ok k → wr.heap[k]? = w.heap[k]?))
  case atStart =>
    obtain ⟨n, hn, hrn⟩ := hr0.out
    exact ⟨n, st, out, by omega, hn, h0, hl, ⟨hrn⟩, HI, BX, HB, SZ1, KP1⟩
  case round =>
    clear hr0 HI BX HB SZ1 KP1 cA h1 h0 hl
    obtain ⟨n, st1, out1, hng, hn, h0, hl, HR, HI, BX, HB, SZ1, KP1⟩ := hrel
    have h1 : 1 ≤ st1.length := by omega
    have hy2 : wr.cell? ⟨gb, 2, none⟩ = some (.int .i64 x.f2) := (blk_cell BX.out 2).trans rfl
    by_cases hc : x.f2 < lastC st1
    · have cB : decide (x.f2 < lastC st1) = true := decide_eq_true hc
      cases n with
      | zero =>
        have := (popR_keeps x hx 0 st1 out1 hn h0).2.2.2.1
        simp only [popR] at this
        omega
      | succ n =>
      have HR2 : Aside0 (popR x n (st1.take (st1.length - 1)) (out1 ++ [⟨-3, x.f1, x.f2⟩]) = r) := ⟨by have := HR.out; simp only [popR] at this; rw [if_pos hc] at this; exact this⟩
      have ht1 : (st1.take (st1.length - 1)).length = n + 1 := by simp; omega
      have ht0 : (st1.take (st1.length - 1))[0]? = some 1 := by rw [List.getElem?_take, if_pos (by omega)]; exact h0
      clear HR hc
      go_wp2_with fail
      go_quiet ((go_at_call 50; with_reducible exact last_hand g _ st1 d _ HI.out (by omega) (by omega) _))
      go_wp2_with fail
      replace HI := Aside0.mk (HI.out.drewN nq)
      replace BX := Aside0.mk (blk_drewN BX.out nq)
      replace HB := Aside0.mk (pw_below_drewN HB.out nq)
      replace SZ1 : Aside0 (gb + 1 ≤ (wr.drewN nq).heap.size) := SZ1
      replace KP1 : Aside0 (∀ k, k < gb → k ≠ g → ¬ ok k → (wr.drewN nq).heap[k]? = w.heap[k]?) := KP1
      clear hy2
      generalize hW : wr.drewN nq = W2 at *
      clear hW
      obtain ⟨v0, v1, hG, hg, hR0, hR1⟩ := HI.out
      obtain ⟨A1, c1, rfl⟩ := Kd.R_slice hR1
      have BK1 := Aside0.mk (blk_drew hG)
      have BX1 := Aside0.mk (blk_drew BX.out)
      have HO0 := Aside0.mk (Kd.R_drew hR0)
      have HO1 := Aside0.mk (Kd.R_drew hR1)
      have HB1 := Aside0.mk (below_drew1 HB.out)
      have GE := Aside0.mk hg
      clear hG hg hR0 hR1 HI BX
      have hc1 := (Kd.R_reads' HO1.out).2.1
      have hwr : IntKind.i64.wrap ((st1.length : Int) - 1) = (st1.length : Int) - 1 := by rw [i64_w]; exact wrap_id (by omega) (by omega)
      have b0 : (0 : Int) ≤ (st1.length : Int) - 1 := by omega
      have b1 : (st1.length : Int) - 1 ≤ (c1 : Int) := by omega
      have b2 : (st1.length : Int) - 1 ≤ (st1.length : Int) := by omega
      have b3 := eq_true b0
      have b4 := eq_true b1
      have b5 : 1 ≤ st1.length := by omega
      have b6 : st1.length - 1 ≤ c1 := by omega
      have b7 : (1 : Int) ≤ (st1.length : Int) := by omega
      have hton : ((st1.length : Int) - 1).toNat = st1.length - 1 := by omega
      replace hn := Aside0.mk hn
      replace ht1 := Aside0.mk ht1
      replace SZ1 : Aside0 (gb + 1 ≤ W2.drew.heap.size) := SZ1
      replace KP1 : Aside0 (∀ k, k < gb → k ≠ g → ¬ ok k → W2.drew.heap[k]? = w.heap[k]?) := KP1
      refine start_ (n := 15) (S := fun w' => w'.cell? ⟨g, 1, none⟩ = some (.slice A1 st1.length c1)) (ds := [14]) #[false, false, false, false, false, false, false, false, false, false, false, false, false, false, false] (by kernel_rfl) rfl rfl (by exact (blk_cell BK1.out 1).trans rfl) (fun hHeld => ?_)
      generalize hW1 : W2.drew = W1 at BK1 BX1 HO0 HO1 HB1 SZ1 KP1 hHeld ⊢
      have hx0 := (blk_cell BK1.out 1)
      have hf0 := blk_frozen BK1.out 1
      refine pure_ (i := 0) (N := (some 29)) (v := ?_) (a' := ?_) #[true, false, false, false, false, false, false, false, false, false, false, false, false, false, false] rfl rfl (by kernel_rfl) (fun _ _ _ h => h) (Or.inl ⟨by rfl, ?_⟩) ?_ ?_
      rotate_left
      · intro w'
        go_simp
        with_reducible rfl
      rotate_left
      · simp only [Act.put, List.setIfInBounds_toArray, List.set_cons_zero, List.set_cons_succ, i64_w, i32_w]
        rfl
      refine pure_ (i := 1) (N := (some 30)) (v := ?_) (a' := ?_) #[true, true, false, false, false, false, false, false, false, false, false, false, false, false, false] rfl rfl (by kernel_rfl) (fun _ _ _ h => h) (Or.inl ⟨by rfl, ?_⟩) ?_ ?_
      rotate_left
      · intro w'
        go_simp
        with_reducible rfl
      rotate_left
      · simp only [Act.put, List.setIfInBounds_toArray, List.set_cons_zero, List.set_cons_succ, i64_w, i32_w]
        rfl
      refine pure_ (i := 2) (N := (some 31)) (v := ?_) (a' := ?_) #[true, true, true, false, false, false, false, false, false, false, false, false, false, false, false] rfl rfl (by kernel_rfl) (fun _ _ _ h => h) (Or.inl ⟨by rfl, ?_⟩) ?_ ?_
      rotate_left
      · intro w'
        go_simp
        with_reducible rfl
      rotate_left
      · simp only [Act.put, List.setIfInBounds_toArray, List.set_cons_zero, List.set_cons_succ, i64_w, i32_w]
        rfl
      refine pure_ (i := 3) (N := (some 32)) (v := ?_) (a' := ?_) #[true, true, true, true, false, false, false, false, false, false, false, false, false, false, false] rfl rfl (by kernel_rfl) (fun _ _ _ h => h) (Or.inl ⟨by rfl, ?_⟩) ?_ ?_
      rotate_left
      · intro w'
        go_simp
        with_reducible rfl
      rotate_left
      · simp only [Act.put, List.setIfInBounds_toArray, List.set_cons_zero, List.set_cons_succ, i64_w, i32_w]
        rfl
      refine pure_ (i := 5) (N := (some 34)) (v := ?_) (a' := ?_) #[true, true, true, true, false, true, false, false, false, false, false, false, false, false, false] rfl rfl (by kernel_rfl) (fun _ _ _ h => h) (Or.inl ⟨by rfl, ?_⟩) ?_ ?_
      rotate_left
      · intro w'
        go_simp
        with_reducible rfl
      rotate_left
      · simp only [Act.put, List.setIfInBounds_toArray, List.set_cons_zero, List.set_cons_succ, i64_w, i32_w]
        rfl
      refine pure_ (i := 6) (N := (some 35)) (v := ?_) (a' := ?_) #[true, true, true, true, false, true, true, false, false, false, false, false, false, false, false] rfl rfl (by kernel_rfl) (fun _ _ _ h => h) (Or.inl ⟨by rfl, ?_⟩) ?_ ?_
      rotate_left
      · intro w'
        go_simp
        with_reducible rfl
      rotate_left
      · simp only [Act.put, List.setIfInBounds_toArray, List.set_cons_zero, List.set_cons_succ, i64_w, i32_w]
        rfl
      refine pure_ (i := 7) (N := (some 36)) (v := ?_) (a' := ?_) #[true, true, true, true, false, true, true, true, false, false, false, false, false, false, false] rfl rfl (by kernel_rfl) (fun _ _ _ h => h) (Or.inl ⟨by rfl, ?_⟩) ?_ ?_
      rotate_left
      · intro w'
        go_simp
        with_reducible rfl
      rotate_left
      · simp only [Act.put, List.setIfInBounds_toArray, List.set_cons_zero, List.set_cons_succ, i64_w, i32_w]
        rfl
      refine take_ (i := 4) (N := (some 33)) (v := ?_) (a' := ?_) #[true, true, true, true, true, true, true, true, false, false, false, false, false, false, false] rfl rfl (by kernel_rfl) (fun _ _ _ h => h) (Or.inl ⟨by rfl, ?_⟩) hHeld ?_ ?_
      rotate_left
      · rintro w' s0
        go_simp
        with_reducible rfl
      rotate_left
      · simp only [Act.put, List.setIfInBounds_toArray, List.set_cons_zero, List.set_cons_succ, i64_w, i32_w]
        rfl
      refine take_ (i := 8) (N := (some 37)) (v := ?_) (a' := ?_) #[true, true, true, true, true, true, true, true, true, false, false, false, false, false, false] rfl rfl (by kernel_rfl) (fun _ _ _ h => h) (Or.inl ⟨by rfl, ?_⟩) hHeld ?_ ?_
      rotate_left
      · rintro w' s0
        go_simp
        with_reducible rfl
      rotate_left
      · simp only [Act.put, List.setIfInBounds_toArray, List.set_cons_zero, List.set_cons_succ, i64_w, i32_w]
        rfl
      refine pure_ (i := 9) (N := (some 38)) (v := ?_) (a' := ?_) #[true, true, true, true, true, true, true, true, true, true, false, false, false, false, false] rfl rfl (by kernel_rfl) (fun _ _ _ h => h) (Or.inl ⟨by rfl, ?_⟩) ?_ ?_
      rotate_left
      · intro w'
        go_simp
        with_reducible rfl
      rotate_left
      · simp only [Act.put, List.setIfInBounds_toArray, List.set_cons_zero, List.set_cons_succ, i64_w, i32_w]
        rfl
      refine pure_ (i := 10) (N := (some 39)) (v := ?_) (a' := ?_) #[true, true, true, true, true, true, true, true, true, true, true, false, false, false, false] rfl rfl (by kernel_rfl) (fun _ _ _ h => h) (Or.inl ⟨by rfl, ?_⟩) ?_ ?_
      rotate_left
      · intro w'
        go_simp
        with_reducible rfl
      rotate_left
      · simp only [Act.put, List.setIfInBounds_toArray, List.set_cons_zero, List.set_cons_succ, i64_w, i32_w]
        rfl
      refine pure_ (i := 11) (N := (some 40)) (v := ?_) (a' := ?_) #[true, true, true, true, true, true, true, true, true, true, true, true, false, false, false] rfl rfl (by kernel_rfl) (fun _ _ _ h => h) (Or.inl ⟨by rfl, ?_⟩) ?_ ?_
      rotate_left
      · intro w'
        go_simp
        with_reducible rfl
      rotate_left
      · simp only [Act.put, List.setIfInBounds_toArray, List.set_cons_zero, List.set_cons_succ, i64_w, i32_w]
        rfl
      refine pure_ (i := 12) (N := (some 41)) (v := ?_) (a' := ?_) #[true, true, true, true, true, true, true, true, true, true, true, true, true, false, false] rfl rfl (by kernel_rfl) (fun _ _ _ h => h) (Or.inl ⟨by rfl, ?_⟩) ?_ ?_
      rotate_left
      · intro w'
        go_simp
        with_reducible rfl
      rotate_left
      · simp only [Act.put, List.setIfInBounds_toArray, List.set_cons_zero, List.set_cons_succ, i64_w, i32_w]
        rfl
      refine pure_ (i := 13) (N := (some 42)) (v := ?_) (a' := ?_) #[true, true, true, true, true, true, true, true, true, true, true, true, true, true, false] rfl rfl (by kernel_rfl) (fun _ _ _ h => h) (Or.inl ⟨by rfl, ?_⟩) ?_ ?_
      rotate_left
      · intro w'
        go_simp
        with_reducible rfl
      rotate_left
      · simp only [Act.put, List.setIfInBounds_toArray, List.set_cons_zero, List.set_cons_succ, i64_w, i32_w]
        rfl
      refine last_ (i := 14) (N := none) #[true, true, true, true, true, true, true, true, true, true, true, true, true, true, true] rfl rfl (by kernel_rfl) (by decide) (fun K hK => ?_)
      refine skip_ (w1 := ?_) (by rfl) rfl ?_ ?_
      rotate_left
      · go_simp
        rfl
      refine hK.out _ _ ?_
      clear hK K
      refine done_ (by kernel_rfl) ?_
      have HTK := Kd.R_take HO1.out (m := st1.length - 1) (by omega)
      have HI3 : Aside0 (LyS w0 (W1.setCell ⟨g, 1, none⟩ (.slice A1 (st1.length - 1) c1)) (fun k => ok k ∧ k ≠ gb) g out1 (st1.take (st1.length - 1)) d) := ⟨⟨_, _, (blk_set BK1.out 1 _).trans rfl, GE.out, Kd.R_set HO0.out BK1.out (by decide) 1 _, Kd.R_set HTK BK1.out (by decide) 1 _⟩⟩
      have hgg : gb ≠ g := by omega
      have BX3 := Aside0.mk (blk_far BX1.out (p := ⟨g, 1, none⟩) hgg (.slice A1 (st1.length - 1) c1))
      have HB3 := Aside0.mk (below_set HB1.out GE.out (j := 1) (v := .slice A1 (st1.length - 1) c1))
      have KP3 : Aside0 (∀ k, k < gb → k ≠ g → ¬ ok k → (W1.setCell ⟨g, 1, none⟩ (.slice A1 (st1.length - 1) c1)).heap[k]? = w.heap[k]?) := ⟨fun k hk hkg hko => (Below.heap_setCell W1 _ _ k hkg).trans (KP1.out k hk hkg hko)⟩
      have SZ3 : Aside0 (gb + 1 ≤ (W1.setCell ⟨g, 1, none⟩ (.slice A1 (st1.length - 1) c1)).heap.size) := ⟨by have := SZ1.out; simpa using this⟩
      have ol : (out1 ++ [(⟨-3, x.f1, x.f2⟩ : S46)]).length + (st1.take (st1.length - 1)).length ≤ 500000 := by simp; omega
      have ol1 : out1.length ≤ 1000000 := by omega
      have hm : n + 1 < gk := by omega
      replace hl := Aside0.mk hl
      clear HO0 HO1 HB1 BK1 BX1 HTK hx0 hf0 hHeld hW1 SZ1 KP1 b0 b1 b2 b3 b4 b5 b6 b7 hton hwr hc1 h1 h0
      generalize st1.take (st1.length - 1) = st2 at *
      generalize W1.setCell ⟨g, 1, none⟩ (.slice A1 (st1.length - 1) c1) = w3 at *
      have hy0 := blk_cell BX3.out 0
      have hy1 := blk_cell BX3.out 1
      have hy2 := blk_cell BX3.out 2
      go_wp2_with (go_at_call 30; refine (put_hand (fun k => ok k ∧ k ≠ gb) g out1 st2 d (-3) x w3 HI3.out HB3.out ?hff (by omega)).mono ?_; (case hff => exact fun k hk => HF1.out k (by have := SZ3.out; omega)); rintro e w' ⟨rfl, hi, hb, hk⟩)
      have BX4 := (hk gb (by have := SZ3.out; omega) hgg (fun h => h.2 rfl)).trans BX3.out
      go_roundg (n + 1)
      case measure => omega
      case rel => exact ⟨n, st2, _, by omega, ht1.out, ht0, ol, HR2, ⟨hi⟩, ⟨BX4⟩, ⟨hb⟩, ⟨blk_lt BX4⟩, ⟨fun k hk1 hkg hko => (hk k (by have := SZ3.out; omega) hkg (fun h => hko h.1)).trans (KP3.out k hk1 hkg hko)⟩⟩
    · have cB : decide (x.f2 < lastC st1) = false := decide_eq_false hc
      have hr : popR x n st1 out1 = (st1, out1) := by
        cases n with
        | zero => rfl
        | succ n => simp only [popR]; rw [if_neg (by omega)]
      have hr2 := HR.out
      rw [hr] at hr2
      subst hr2
      clear HR hr hn h0
      by_cases hq : lastC st1 = x.f2
      · have hz : Aside0 (cd = 0) := ⟨hcd.out.symm.trans (if_pos hq)⟩
        clear hcd
        have HQ := Aside0.mk hq
        clear hq hc cB
        go_wp2_with fail
        go_quiet ((go_at_call 50; with_reducible exact last_is g _ st1 d _ _ HI.out (by omega) (by omega) HQ.out _))
        go_wp2_with fail
        replace HI := Aside0.mk (HI.out.drewN nq)
        replace hy2 : (wr.drewN nq).cell? ⟨gb, 2, none⟩ = some (.int .i64 x.f2) := hy2
        replace HB := Aside0.mk (pw_below_drewN HB.out nq)
        replace KP1 : Aside0 (∀ k, k < gb → k ≠ g → ¬ ok k → (wr.drewN nq).heap[k]? = w.heap[k]?) := KP1
        clear BX SZ1
        generalize hW : wr.drewN nq = W5 at *
        clear hW
        go_quiet ((go_at_call 50; with_reducible exact last_is g _ st1 d _ _ HI.out (by omega) (by omega) HQ.out _))
        go_wp2_with fail
        go_ret
        exact ⟨by rw [hz.out]; rfl, (HI.out.drewN _).mono (fun _ h => h.1), by repeat (first | (with_reducible exact HB.out) | apply pw_below_drewN | apply below_drew1), fun k hk1 hkg hko => KP1.out k (by omega) hkg hko⟩
      · have e1 : (x.f2 != lastC st1) = true := bne_iff_ne.2 (fun h => hq h.symm)
        have hz : Aside0 (cd = 2) := ⟨hcd.out.symm.trans (if_neg hq)⟩
        clear hcd
        clear hq hc
        go_wp2_with fail
        go_quiet ((go_at_call 50; with_reducible exact last_hand g _ st1 d _ HI.out (by omega) (by omega) _))
        go_wp2_with fail
        replace HI := Aside0.mk (HI.out.drewN nq)
        replace hy2 : (wr.drewN nq).cell? ⟨gb, 2, none⟩ = some (.int .i64 x.f2) := hy2
        replace HB := Aside0.mk (pw_below_drewN HB.out nq)
        replace KP1 : Aside0 (∀ k, k < gb → k ≠ g → ¬ ok k → (wr.drewN nq).heap[k]? = w.heap[k]?) := KP1
        clear BX SZ1
        generalize hW : wr.drewN nq = W5 at *
        clear hW
        go_quiet ((go_at_call 50; with_reducible exact last_hand g _ st1 d _ HI.out (by omega) (by omega) _))
        go_wp2_with fail
        go_ret
        exact ⟨by rw [hz.out]; rfl, (HI.out.drewN _).mono (fun _ h => h.1), by repeat (first | (with_reducible exact HB.out) | apply pw_below_drewN | apply below_drew1), fun k hk1 hkg hko => KP1.out k (by omega) hkg hko⟩
theorem begin_hand {w0 : World} (ok : Nat → Prop) (g : Nat) (out : List S46) (st : List Int) (d : Int) (x : S46) (w : World) (hI : LyS w0 w ok g out st d) (hB : Below w0.heap.size w0 w) (hF : ∀ k, w.heap.size ≤ k → ok k) (hx : 1 ≤ x.f2) (h1 : 1 ≤ st.length) (h0 : st[0]? = some 1) (hl : out.length + st.length ≤ 500000) :
    Calls Try.prog 31 #[.pointer (some ⟨g, 0, none⟩), .agg #[.int .i64 x.f0, .int .i64 x.f1, .int .i64 x.f2]] w fun e w' => e = .returned (.int .i64 (if lastC (begR x st out).1 = x.f2 then 0 else 2)) ∧ LyS w0 w' ok g (begR x st out).2 (begR x st out).1 d ∧ Below w0.heap.size w0 w' ∧ KeepOk w w' ok g := by
  by_cases hc : lastC st < x.f2
  · have hl2 : lastC (st ++ [x.f2]) = x.f2 := by
      unfold lastC rd
      rw [List.getD_eq_getElem?_getD, List.getElem?_append_right (by simp)]
      simp
    rw [begR_push hc, if_pos hl2]
    exact begin_push ok g out st d x w hI hB hF h1 hl hc
  · have : begR x st out = popR x (st.length - 1) st out := by unfold begR; rw [if_neg (by omega)]
    rw [this]
    exact begin_pop ok g out st d x w hI hB hF hx h1 h0 hl hc
end Go.Proofs.Ytlbjdpahhgokkaa.P
-- Made by wip/gen/pp.py of this session over the kit's print of the loaded program: a function, and the contract of its walk. Lean checks it.
namespace Go.Proofs.Ytlbjdpahhgokkaa.P
open Go.RowKit Go.Proofs.YtlbjdpahhgokkaaW.PrintWords Go.Proofs.YtlbjdpahhgokkaaW.PrintLast Go.Proofs.YtlbjdpahhgokkaaW.PrintMore
attribute [local go_sem] max2_int min2_int max_two min_two max_three min_three max_four min_four   -- for this text's walks alone
set_option linter.unusedVariables false
set_option linter.unusedSimpArgs false

/-! ### slices_Index_int64_int64: function 57 -/
def slices_Index_int64_int64.l0 : Nat → List Int → Int → Int → Int → Option (Int)
 | 0, _, _, _, _ => none
 | k + 1, x0, x1, x7, x8 => if x8 < x7 then (if 0 ≤ x8 then (if x8 < (x0.length : Int) then (if x1 = (rd x0 x8) then (some x8) else (slices_Index_int64_int64.l0 k x0 x1 x7 (wrap64 (x8 + 1)))) else (none)) else (none)) else (some (-1))
def slices_Index_int64_int64.f (k : Nat) (l0 : List Int) (a1 : Int) : Option (Int) := slices_Index_int64_int64.l0 k l0 a1 (l0.length : Int) 0
theorem slices_Index_int64_int64.mono_l : ∀ k, (∀ y0 y1 y2 y3, LeO (slices_Index_int64_int64.l0 k y0 y1 y2 y3) (slices_Index_int64_int64.l0 (k + 1) y0 y1 y2 y3))
 | 0 => fun _ _ _ _ r h => by simp [slices_Index_int64_int64.l0] at h
 | k + 1 => by
  have ih0 := slices_Index_int64_int64.mono_l k
  ·intro y0 y1 y2 y3
   unfold slices_Index_int64_int64.l0
   repeat' first
   | (with_reducible exact ih0 _ _ _ _)
   | (with_reducible exact LeO.refl _)
   | (with_reducible exact LeO.none _)
   | (with_reducible refine LeO.ite ?_ ?_)
   | (with_reducible refine LeO.bind ?_ (fun _ => ?_))
   | exact ih0 _ _ _ _
   | exact LeO.none _
   | refine LeO.ite ?_ ?_
   | refine LeO.bind ?_ (fun _ => ?_)
theorem slices_Index_int64_int64.mono : ∀ a0 a1 k, LeO (slices_Index_int64_int64.f k a0 a1) (slices_Index_int64_int64.f (k + 1) a0 a1) := by
 intro a0 a1 k
 have ih0 := slices_Index_int64_int64.mono_l k
 unfold slices_Index_int64_int64.f
 repeat' first
   | (with_reducible exact ih0 _ _ _ _)
   | (with_reducible exact LeO.refl _)
   | (with_reducible exact LeO.none _)
   | (with_reducible refine LeO.ite ?_ ?_)
   | (with_reducible refine LeO.bind ?_ (fun _ => ?_))
   | exact ih0 _ _ _ _
   | exact LeO.none _
   | refine LeO.ite ?_ ?_
   | refine LeO.bind ?_ (fun _ => ?_)
set_option maxHeartbeats 8000000 in
set_option maxRecDepth 100000 in
theorem slices_Index_int64_int64.calls (k : Nat) (A0 : Option Addr) (c0 : Nat) (l0 : List Int) (a1 : Int) (r : Int) (w : World) (hr0 : Kd.C (Kd.int .i64) w A0 l0.length l0) (hc0 : l0.length ≤ c0) (h : slices_Index_int64_int64.f k l0 a1 = some r) :
  Calls Try.prog 57 #[.slice A0 l0.length c0, .int .i64 a1] w fun e w' => e = .returned (.int .i64 r) ∧ Drawn0 w w' := by
 have HR0 := Aside0.mk hr0
 have HC0 := Aside0.mk hc0
 clear hr0 hc0
 have H : (slices_Index_int64_int64.l0 k l0 a1 (l0.length : Int) 0) = some r := h
 clear h
 have H' := Aside0.mk H
 clear H
 go_enter Try.func57, Try.ntmps57
 go_wp2
 go_loopg [8] k (fun kq v8 w' => ∃ (x8_1 : Int), v8 = .int .i64 x8_1 ∧ Aside0 (slices_Index_int64_int64.l0 kq l0 a1 (l0.length : Int) x8_1 = some r) ∧ Aside0 (kq ≤ k) ∧ Drawn0 w w')
 case atStart => exact ⟨(0), (by first | rfl | (simp; done) | (simp [*]; done)), H', ⟨Nat.le_refl _⟩, by repeat (first | exact Drawn0.refl _ | apply Drawn0.step)⟩
 case round =>
  clear H'
  try clear p2
  obtain ⟨x8_1, rfl, HA, HK1, ⟨m1, rfl⟩⟩ := hrel
  cases gk with
  | zero => exact absurd HA.out (by simp [slices_Index_int64_int64.l0])
  | succ k1 =>
   have H := HA.out
   clear HA
   simp only [slices_Index_int64_int64.l0] at H
   by_cases c3 : x8_1 < (l0.length : Int)
   ·rw [if_pos c3] at H
    have c3b0 : decide (x8_1 < (l0.length : Int)) = true := decide_eq_true c3
    clear c3
    by_cases c4 : 0 ≤ x8_1
    ·rw [if_pos c4] at H
     have c4b0 : decide (0 ≤ x8_1) = true := decide_eq_true c4
     clear c4
     by_cases c5 : x8_1 < (l0.length : Int)
     ·rw [if_pos c5] at H
      have c5b0 : decide (x8_1 < (l0.length : Int)) = true := decide_eq_true c5
      clear c5
      by_cases c6 : a1 = (rd l0 x8_1)
      ·rw [if_pos c6] at H
       have c6b0 : (a1 == (rd l0 x8_1)) = true := beq_iff_eq.mpr c6
       have c6b1 : (a1 != (rd l0 x8_1)) = false := bne_eq_false_iff_eq.mpr c6
       clear c6
       obtain rfl := Option.some.inj H
       have p101 : 0 ≤ (x8_1 : Int) := of_decide_eq_true (by first | (with_reducible assumption) | assumption)
       have q101 : x8_1 < (l0.length : Int) := of_decide_eq_true (by first | (with_reducible assumption) | assumption)
       obtain ⟨ad101, e101, hx101_0⟩ := Kd.at_int HR0.out x8_1 p101 q101
       cases e101
       replace p101 := eq_true p101
       replace q101 := eq_true q101
       go_wp2
       go_ret
       exact ⟨by first | rfl | (simp; done) | (simp [*]; done), by repeat (first | exact Drawn0.refl _ | apply Drawn0.step)⟩
      ·rw [if_neg c6] at H
       have c6b0 : (a1 == (rd l0 x8_1)) = false := beq_eq_false_iff_ne.mpr c6
       have c6b1 : (a1 != (rd l0 x8_1)) = true := bne_iff_ne.mpr c6
       have H' := Aside0.mk H
       clear H
       have p101 : 0 ≤ (x8_1 : Int) := of_decide_eq_true (by first | (with_reducible assumption) | assumption)
       have q101 : x8_1 < (l0.length : Int) := of_decide_eq_true (by first | (with_reducible assumption) | assumption)
       obtain ⟨ad101, e101, hx101_0⟩ := Kd.at_int HR0.out x8_1 p101 q101
       cases e101
       replace p101 := eq_true p101
       replace q101 := eq_true q101
       go_wp2
       go_roundg k1
       case measure => have := HK1.out; omega
       case rel => exact ⟨(wrap64 (x8_1 + 1)), (by first | rfl | (simp; done) | (simp [*]; done)), H', ⟨by have := HK1.out; omega⟩, by repeat (first | exact Drawn0.refl _ | apply Drawn0.step)⟩
     ·rw [if_neg c5] at H
      exact absurd H (by simp)
    ·rw [if_neg c4] at H
     exact absurd H (by simp)
   ·rw [if_neg c3] at H
    have c3b0 : decide (x8_1 < (l0.length : Int)) = false := decide_eq_false c3
    clear c3
    obtain rfl := Option.some.inj H
    go_wp2
    go_ret
    exact ⟨by first | rfl | (simp; done) | (simp [*]; done), by repeat (first | exact Drawn0.refl _ | apply Drawn0.step)⟩

end Go.Proofs.Ytlbjdpahhgokkaa.P
-- Made by wip/gen/pp.py of this session over the kit's print of the loaded program: a function, and the contract of its walk. Lean checks it.
namespace Go.Proofs.Ytlbjdpahhgokkaa.P
open Go.RowKit Go.Proofs.YtlbjdpahhgokkaaW.PrintWords Go.Proofs.YtlbjdpahhgokkaaW.PrintLast Go.Proofs.YtlbjdpahhgokkaaW.PrintMore
attribute [local go_sem] max2_int min2_int max_two min_two max_three min_three max_four min_four   -- for this text's walks alone
set_option linter.unusedVariables false
set_option linter.unusedSimpArgs false

/-! ### slices_Contains_int64_int64: function 49 -/
def slices_Contains_int64_int64.f (k : Nat) (l0 : List Int) (a1 : Int) : Option (Bool) := (slices_Index_int64_int64.f k l0 a1).bind fun t101 => (some (decide (t101 ≥ 0)))
theorem slices_Contains_int64_int64.mono : ∀ a0 a1 k, LeO (slices_Contains_int64_int64.f k a0 a1) (slices_Contains_int64_int64.f (k + 1) a0 a1) := by
 intro a0 a1 k
 unfold slices_Contains_int64_int64.f
 repeat' first
   | (with_reducible exact slices_Index_int64_int64.mono _ _ _)
   | (with_reducible exact LeO.refl _)
   | (with_reducible exact LeO.none _)
   | (with_reducible refine LeO.ite ?_ ?_)
   | (with_reducible refine LeO.bind ?_ (fun _ => ?_))
   | exact slices_Index_int64_int64.mono _ _ _
   | exact LeO.none _
   | refine LeO.ite ?_ ?_
   | refine LeO.bind ?_ (fun _ => ?_)
set_option maxHeartbeats 8000000 in
set_option maxRecDepth 100000 in
theorem slices_Contains_int64_int64.calls (k : Nat) (A0 : Option Addr) (c0 : Nat) (l0 : List Int) (a1 : Int) (r : Bool) (w : World) (hr0 : Kd.C (Kd.int .i64) w A0 l0.length l0) (hc0 : l0.length ≤ c0) (h : slices_Contains_int64_int64.f k l0 a1 = some r) :
  Calls Try.prog 49 #[.slice A0 l0.length c0, .int .i64 a1] w fun e w' => e = .returned (.bool r) ∧ Drawn0 w w' := by
 have HR0 := Aside0.mk hr0
 have HC0 := Aside0.mk hc0
 clear hr0 hc0
 have H : ((slices_Index_int64_int64.f k l0 a1).bind fun t101 => (some (decide (t101 ≥ 0)))) = some r := h
 clear h
 replace H := Option.bind_eq_some_iff.mp H
 obtain ⟨t101, A30, H⟩ := H
 replace H : (some (decide (t101 ≥ 0))) = some r := H
 have A3 := Aside0.mk A30
 clear A30
 obtain rfl := Option.some.inj H
 go_enter Try.func49, Try.ntmps49
 go_wp2_with (first | ((with_reducible refine gate_callee (f := 57) rfl ?_); refine goesL_ (some 7) rfl rfl Try.func57 (by kernel_rfl) rfl #[.slice A0 l0.length c0, .int .i64 a1] rfl (by (try simp only [List.map_toArray, List.map_cons, List.map_nil]); first | done | rfl | (simp only [List.length_drop, List.length_take]; rfl)) ?_; (with_reducible refine (slices_Index_int64_int64.calls k _ _ l0 a1 t101 _ ?side1 ?side2 A3.out).mono ?_); (case side1 => repeat (first | exact HR0.out | (with_reducible refine Kd.C_alloc ?_ _) | (with_reducible refine Kd.C_drewN ?_ _) | (with_reducible refine Kd.C_drew ?_))); (case side2 => exact HC0.out); rintro e w' ⟨rfl, ⟨nd, rfl⟩⟩; refine ⟨_, rfl, ?_⟩))
 go_ret
 exact ⟨by first | rfl | (simp; done) | (simp [*]; done), by repeat (first | exact Drawn0.refl _ | apply Drawn0.step)⟩

end Go.Proofs.Ytlbjdpahhgokkaa.P
/- The walk of layouter's item: an item is put out, and the depth told by brackets. -/
namespace Go.Proofs.Ytlbjdpahhgokkaa.P
open Go.RowKit Go.Shelf Go.Proofs.YtlbjdpahhgokkaaW.PrintWords Go.Proofs.YtlbjdpahhgokkaaW.PrintLast Go.Proofs.YtlbjdpahhgokkaaW.PrintMore Go.Proofs.YtlbjdpahhgokkaaEv
set_option linter.unusedVariables false
set_option linter.unusedSimpArgs false
set_option maxHeartbeats 16000000 in
set_option maxRecDepth 100000 in
theorem item_hand {w0 : World} (ok : Nat → Prop) (g : Nat) (out : List S46) (st : List Int) (d : Int) (x : S46) (A2 A3 : Option Addr) (c2 c3 : Nat) (op cl : List Int) (w : World) (hI : LyS w0 w ok g out st d) (hB : Below w0.heap.size w0 w) (hF : ∀ k, w.heap.size ≤ k → ok k) (hl : out.length ≤ 500000) (hd0 : 0 ≤ d) (hd1 : d ≤ 500000)
    (hC2 : Kd.C (Kd.int .i64) w0 A2 op.length op) (hc2 : op.length ≤ c2) (hC3 : Kd.C (Kd.int .i64) w0 A3 cl.length cl) (hc3 : cl.length ≤ c3) (bo bc : Bool) (ko kc : Nat) (ho1 : slices_Contains_int64_int64.f ko op x.f0 = some bo) (hc1 : slices_Contains_int64_int64.f kc cl x.f0 = some bc) :
    Calls Try.prog 32 #[.pointer (some ⟨g, 0, none⟩), .agg #[.int .i64 x.f0, .int .i64 x.f1, .int .i64 x.f2], .agg #[.slice A2 op.length c2, .slice A3 cl.length c3]] w fun e w' => e = .returned (.int .i64 (if bo then 0 else if bc then (if d = 0 then 3 else 0) else 0)) ∧ ((bo = false → bc = true → d ≠ 0) → LyS w0 w' ok g (out ++ [x]) st (if bo then d + 1 else if bc then d - 1 else d)) ∧ Below w0.heap.size w0 w' ∧ KeepOk w w' ok g := by
  have HI := Aside0.mk ((hI.alloc (.cells #[.int .i64 x.f0, .int .i64 x.f1, .int .i64 x.f2] 46)).alloc (.cells #[.slice A2 op.length c2, .slice A3 cl.length c3] 32))
  have BX := Aside0.mk (blk_alloc (blk_new w (.cells #[.int .i64 x.f0, .int .i64 x.f1, .int .i64 x.f2] 46)) (.cells #[.slice A2 op.length c2, .slice A3 cl.length c3] 32))
  have BY := Aside0.mk (blk_new (w.alloc (.cells #[.int .i64 x.f0, .int .i64 x.f1, .int .i64 x.f2] 46)) (.cells #[.slice A2 op.length c2, .slice A3 cl.length c3] 32))
  have HB := Aside0.mk (below_alloc (below_alloc hB (.cells #[.int .i64 x.f0, .int .i64 x.f1, .int .i64 x.f2] 46)) (.cells #[.slice A2 op.length c2, .slice A3 cl.length c3] 32))
  have SZ1 : Aside0 (w.heap.size + 2 ≤ ((w.alloc (.cells #[.int .i64 x.f0, .int .i64 x.f1, .int .i64 x.f2] 46)).alloc (.cells #[.slice A2 op.length c2, .slice A3 cl.length c3] 32)).heap.size) := ⟨by simp⟩
  have KP1 : Aside0 (∀ k, k < w.heap.size → k ≠ g → ¬ ok k → ((w.alloc (.cells #[.int .i64 x.f0, .int .i64 x.f1, .int .i64 x.f2] 46)).alloc (.cells #[.slice A2 op.length c2, .slice A3 cl.length c3] 32)).heap[k]? = w.heap[k]?) := ⟨fun k hk _ _ => (Below.heap_alloc _ _ k (by simp; omega)).trans (Below.heap_alloc w _ k hk)⟩
  have HF1 : Aside0 (∀ k, ((w.alloc (.cells #[.int .i64 x.f0, .int .i64 x.f1, .int .i64 x.f2] 46)).alloc (.cells #[.slice A2 op.length c2, .slice A3 cl.length c3] 32)).heap.size ≤ k → ok k ∧ k ≠ w.heap.size) := ⟨fun k hk => ⟨hF k (by have := SZ1.out; omega), by have := SZ1.out; omega⟩⟩
  replace HI := Aside0.mk (HI.out.mono (ok' := fun k => ok k ∧ k ≠ w.heap.size) (fun k hk => hk.1))
  have hgw : g < w.heap.size := by obtain ⟨v0, v1, hG, _⟩ := hI; exact blk_lt hG
  have hgy : (w.alloc (.cells #[.int .i64 x.f0, .int .i64 x.f1, .int .i64 x.f2] 46)).heap.size = w.heap.size + 1 := by simp
  have CO := Aside0.mk ho1
  have CC := Aside0.mk hc1
  have CA := Aside0.mk hC2
  have CB := Aside0.mk hC3
  have CL := Aside0.mk hc2
  have CM := Aside0.mk hc3
  rw [hgy] at BY
  clear hI hB hF ho1 hc1 hC2 hC3 hc2 hc3 hgy
  go_enter Try.func32, Try.ntmps32
  go_wp2_with fail
  obtain ⟨gb, hgb⟩ : ∃ gb, w.heap.size = gb := ⟨_, rfl⟩
  generalize hW : ((w.alloc (.cells #[.int .i64 x.f0, .int .i64 x.f1, .int .i64 x.f2] 46)).alloc (.cells #[.slice A2 op.length c2, .slice A3 cl.length c3] 32)) = W at *
  clear hW
  simp only [hgb] at HI BX BY HF1 SZ1 KP1 hgw ⊢
  obtain ⟨v0, v1, hG, hg, hR0, hR1⟩ := HI.out
  obtain ⟨A0, c0, rfl⟩ := Kd.R_slice hR0
  have BK1 := Aside0.mk (blk_drew hG)
  have BX1 := Aside0.mk (blk_drew BX.out)
  have BY1 := Aside0.mk (blk_drew BY.out)
  have HO0 := Aside0.mk (Kd.R_drew hR0)
  have HO1 := Aside0.mk (Kd.R_drew hR1)
  have HB1 := Aside0.mk (below_drew1 HB.out)
  have GE := Aside0.mk hg
  replace SZ1 : Aside0 (gb + 2 ≤ W.drew.heap.size) := SZ1
  replace KP1 : Aside0 (∀ k, k < gb → k ≠ g → ¬ ok k → W.drew.heap[k]? = w.heap[k]?) := KP1
  replace HF1 : Aside0 (∀ k, W.drew.heap.size ≤ k → ok k ∧ k ≠ gb) := HF1
  clear hG hg hR0 hR1 HI BX BY HB
  refine start_ (n := 11) (S := fun w' => w'.cell? ⟨g, 0, none⟩ = some (.slice A0 out.length c0) ∧ w'.cell? ⟨gb, 0, none⟩ = some (.int .i64 x.f0) ∧ w'.cell? ⟨gb, 1, none⟩ = some (.int .i64 x.f1) ∧ w'.cell? ⟨gb, 2, none⟩ = some (.int .i64 x.f2)) (ds := [10]) #[false, false, false, false, false, false, false, false, false, false, false] (by kernel_rfl) rfl rfl ⟨(blk_cell BK1.out 0).trans rfl, (blk_cell BX1.out 0).trans rfl, (blk_cell BX1.out 1).trans rfl, (blk_cell BX1.out 2).trans rfl⟩ (fun hHeld => ?_)
  generalize hW1 : W.drew = W1 at BK1 BX1 BY1 HO0 HO1 HB1 SZ1 KP1 HF1 hHeld ⊢
  refine pure_ (i := 0) (N := (some 7)) (v := ?_) (a' := ?_) #[true, false, false, false, false, false, false, false, false, false, false] rfl rfl (by kernel_rfl) (fun _ _ _ h => h) (Or.inl ⟨by rfl, ?_⟩) ?_ ?_
  rotate_left
  · intro w'
    go_simp
    with_reducible rfl
  rotate_left
  · simp only [Act.put, List.setIfInBounds_toArray, List.set_cons_zero, List.set_cons_succ, i64_w, i32_w]
    rfl
  refine pure_ (i := 1) (N := (some 8)) (v := ?_) (a' := ?_) #[true, true, false, false, false, false, false, false, false, false, false] rfl rfl (by kernel_rfl) (fun _ _ _ h => h) (Or.inl ⟨by rfl, ?_⟩) ?_ ?_
  rotate_left
  · intro w'
    go_simp
    with_reducible rfl
  rotate_left
  · simp only [Act.put, List.setIfInBounds_toArray, List.set_cons_zero, List.set_cons_succ, i64_w, i32_w]
    rfl
  refine pure_ (i := 2) (N := (some 9)) (v := ?_) (a' := ?_) #[true, true, true, false, false, false, false, false, false, false, false] rfl rfl (by kernel_rfl) (fun _ _ _ h => h) (Or.inl ⟨by rfl, ?_⟩) ?_ ?_
  rotate_left
  · intro w'
    go_simp
    with_reducible rfl
  rotate_left
  · simp only [Act.put, List.setIfInBounds_toArray, List.set_cons_zero, List.set_cons_succ, i64_w, i32_w]
    rfl
  refine pure_ (i := 3) (N := (some 10)) (v := ?_) (a' := ?_) #[true, true, true, true, false, false, false, false, false, false, false] rfl rfl (by kernel_rfl) (fun _ _ _ h => h) (Or.inl ⟨by rfl, ?_⟩) ?_ ?_
  rotate_left
  · intro w'
    go_simp
    with_reducible rfl
  rotate_left
  · simp only [Act.put, List.setIfInBounds_toArray, List.set_cons_zero, List.set_cons_succ, i64_w, i32_w]
    rfl
  refine take_ (i := 4) (N := (some 11)) (v := ?_) (a' := ?_) #[true, true, true, true, true, false, false, false, false, false, false] rfl rfl (by kernel_rfl) (fun _ _ _ h => h) (Or.inl ⟨by rfl, ?_⟩) hHeld ?_ ?_
  rotate_left
  · rintro w' ⟨s0, s1, s2, s3⟩
    go_simp
    with_reducible rfl
  rotate_left
  · simp only [Act.put, List.setIfInBounds_toArray, List.set_cons_zero, List.set_cons_succ, i64_w, i32_w]
    rfl
  refine take_ (i := 5) (N := (some 12)) (v := ?_) (a' := ?_) #[true, true, true, true, true, true, false, false, false, false, false] rfl rfl (by kernel_rfl) (fun _ _ _ h => h) (Or.inl ⟨by rfl, ?_⟩) hHeld ?_ ?_
  rotate_left
  · rintro w' ⟨s0, s1, s2, s3⟩
    go_simp
    with_reducible rfl
  rotate_left
  · simp only [Act.put, List.setIfInBounds_toArray, List.set_cons_zero, List.set_cons_succ, i64_w, i32_w]
    rfl
  refine one_ (i := 6) (N := (some 13)) #[true, true, true, true, true, true, true, false, false, false, false] rfl rfl (by kernel_rfl) (by decide) (fun K hK => ?_)
  refine value_ (w1 := ?_) (v := ?_) (by rfl) rfl ?_ ?_
  rotate_left 2
  · go_simp
    constructor
    · rfl
    · rfl
  refine hK.out _ _ ⟨(World.cell?_alloc_lt _ _ _ (World.block_lt_of_cell? _ _ (hHeld.1))).trans (hHeld.1), (World.cell?_alloc_lt _ _ _ (World.block_lt_of_cell? _ _ (hHeld.2.1))).trans (hHeld.2.1), (World.cell?_alloc_lt _ _ _ (World.block_lt_of_cell? _ _ (hHeld.2.2.1))).trans (hHeld.2.2.1), (World.cell?_alloc_lt _ _ _ (World.block_lt_of_cell? _ _ (hHeld.2.2.2))).trans (hHeld.2.2.2)⟩ (fun hHeld => ?_)
  clear hK K
  refine norm_ (a' := ?_) ?_ ?_
  rotate_left
  · show Act.put _ (some 13) _ = _
    simp only [Act.put, List.setIfInBounds_toArray, List.set_cons_zero, List.set_cons_succ, i64_w, i32_w]
    rfl
  refine one_ (i := 7) (N := (some 14)) #[true, true, true, true, true, true, true, true, false, false, false] rfl rfl (by kernel_rfl) (by decide) (fun K hK => ?_)
  refine Kd.R_append_step k46 (w0 := w0) w0.heap.size (by rfl) (.tmp 11) (.tmp 13) 28 46 (.agg #[(.int .i64 0), (.int .i64 0), (.int .i64 0)]) 24 rfl Try.underlying28 info46 rfl (by decide) (by omega) (.slice A0 out.length c0) out x [.int .i64 x.f0, .int .i64 x.f1, .int .i64 x.f2] (fun k => ok k ∧ k ≠ gb) (fun _ => False) rfl rfl ?aP (fun _ hk => hk.elim) HF1.out HO0.out HB1.out (below_size HB1.out) ?aL ?_
  (case aP => exact k46_mkM _ _ _ x)
  (case aL => omega)
  intro v2 w2 ho hb hgr hat
  have hne := Kd.R_ne HO0.out BK1.out (by decide)
  have hnx := Kd.R_away HO0.out (g := gb) (fun _ hk => hk.2)
  have hny := Kd.R_ne HO0.out BY1.out (by decide)
  have HOb := Aside0.mk (Kd.R_over' HO1.out (Kd.R_typed HO0.out) (by decide) hgr)
  have BK2 := Aside0.mk (blk_grown BK1.out hgr hne)
  have BX2 := Aside0.mk (blk_grown BX1.out hgr hnx)
  have BY2 := Aside0.mk (blk_grown BY1.out hgr hny)
  have KP2 : Aside0 (∀ k, k < gb → k ≠ g → ¬ ok k → w2.heap[k]? = w.heap[k]?) := ⟨fun k hk hkg hko => (hgr.block k (by have := SZ1.out; omega) (fun e => hko (HO0.out.1 k e.symm).1)).trans (KP1.out k hk hkg hko)⟩
  obtain ⟨A4, c4, rfl⟩ := Kd.R_slice ho
  have hln : (out ++ [x]).length = out.length + 1 := by simp
  rw [hln] at ho ⊢
  refine hK.out _ _ ⟨(blk_cell BK2.out 0).trans rfl, (blk_cell BX2.out 0).trans rfl, (blk_cell BX2.out 1).trans rfl, (blk_cell BX2.out 2).trans rfl⟩ (fun hHeld => ?_)
  have hx0 := (blk_cell BK2.out 0)
  have hf0 := blk_frozen BK2.out 0
  clear hK K
  refine norm_ (a' := ?_) ?_ ?_
  rotate_left
  · show Act.put _ (some 14) _ = _
    simp only [Act.put, List.setIfInBounds_toArray, List.set_cons_zero, List.set_cons_succ, i64_w, i32_w]
    rfl
  refine pure_ (i := 8) (N := (some 15)) (v := ?_) (a' := ?_) #[true, true, true, true, true, true, true, true, true, false, false] rfl rfl (by kernel_rfl) (fun _ _ _ h => h) (Or.inl ⟨by rfl, ?_⟩) ?_ ?_
  rotate_left
  · intro w'
    go_simp
    with_reducible rfl
  rotate_left
  · simp only [Act.put, List.setIfInBounds_toArray, List.set_cons_zero, List.set_cons_succ, i64_w, i32_w]
    rfl
  refine pure_ (i := 9) (N := (some 16)) (v := ?_) (a' := ?_) #[true, true, true, true, true, true, true, true, true, true, false] rfl rfl (by kernel_rfl) (fun _ _ _ h => h) (Or.inl ⟨by rfl, ?_⟩) ?_ ?_
  rotate_left
  · intro w'
    go_simp
    with_reducible rfl
  rotate_left
  · simp only [Act.put, List.setIfInBounds_toArray, List.set_cons_zero, List.set_cons_succ, i64_w, i32_w]
    rfl
  refine last_ (i := 10) (N := none) #[true, true, true, true, true, true, true, true, true, true, true] rfl rfl (by kernel_rfl) (by decide) (fun K hK => ?_)
  refine skip_ (w1 := ?_) (by rfl) rfl ?_ ?_
  rotate_left
  · go_simp
    rfl
  refine hK.out _ _ ?_
  clear hK K
  refine done_ (by kernel_rfl) ?_
  have BK3 := Aside0.mk ((blk_set BK2.out 0 (.slice A4 (out.length + 1) c4)).trans rfl)
  have hgg : gb ≠ g := by omega
  have hgh : gb + 1 ≠ g := by omega
  have BX3 := Aside0.mk (blk_far BX2.out (p := ⟨g, 0, none⟩) hgg (.slice A4 (out.length + 1) c4))
  have BY3 := Aside0.mk (blk_far BY2.out (p := ⟨g, 0, none⟩) hgh (.slice A4 (out.length + 1) c4))
  have HP0 := Aside0.mk (Kd.R_set ho BK2.out (by decide) 0 (.slice A4 (out.length + 1) c4))
  have HP1 := Aside0.mk (Kd.R_set HOb.out BK2.out (by decide) 0 (.slice A4 (out.length + 1) c4))
  have HB3 := Aside0.mk (below_set hb GE.out (j := 0) (v := .slice A4 (out.length + 1) c4))
  have KP3 : Aside0 (∀ k, k < gb → k ≠ g → ¬ ok k → (w2.setCell ⟨g, 0, none⟩ (.slice A4 (out.length + 1) c4)).heap[k]? = w.heap[k]?) := ⟨fun k hk hkg hko => (Below.heap_setCell w2 _ _ k hkg).trans (KP2.out k hk hkg hko)⟩
  clear HO0 HO1 HB1 BK1 BX1 BY1 ho hb hgr hat hne hnx hny HOb BK2 BX2 BY2 KP2 hx0 hf0 hHeld hW1 SZ1 KP1 HF1
  generalize w2.setCell ⟨g, 0, none⟩ (.slice A4 (out.length + 1) c4) = w3 at *
  have hy0 : w3.cell? ⟨gb, 0, none⟩ = some (.int .i64 x.f0) := (blk_cell BX3.out 0).trans rfl
  have hz0 : w3.cell? ⟨gb + 1, 0, none⟩ = some (.slice A2 op.length c2) := (blk_cell BY3.out 0).trans rfl
  have hz1 : w3.cell? ⟨gb + 1, 1, none⟩ = some (.slice A3 cl.length c3) := (blk_cell BY3.out 1).trans rfl
  have hk2 : w3.cell? ⟨g, 2, none⟩ = some (.int .i64 d) := (blk_cell BK3.out 2).trans rfl
  have hf2 := blk_frozen BK3.out 2
  clear BX3 BY3

  cases bo with
  | true =>
    have hwr : IntKind.i64.wrap (d + 1) = d + 1 := by rw [i64_w]; exact wrap_id (by omega) (by omega)
    go_wp2_with (go_at_call 49; with_reducible refine (slices_Contains_int64_int64.calls _ _ _ op _ true _ ?hcb CL.out CO.out).mono ?_; (case hcb => exact Kd.C_below CA.out (by repeat (first | (with_reducible exact HB3.out) | apply pw_below_drewN | apply below_drew1))); rintro e w' ⟨rfl, ⟨nd, rfl⟩⟩)
    go_ret
    exact ⟨rfl, ⟨_, _, (blk_set BK3.out 2 _).trans rfl, GE.out, Kd.R_mono (Kd.R_set HP0.out BK3.out (by decide) 2 _) (fun _ h => h.1), Kd.R_mono (Kd.R_set HP1.out BK3.out (by decide) 2 _) (fun _ h => h.1)⟩, by repeat (first | (with_reducible exact HB3.out) | apply pw_below_drewN | apply below_drew1 | refine below_set ?_ GE.out), fun k hk hkg hko => (Below.heap_setCell w3 _ _ k hkg).trans (KP3.out k (by omega) hkg hko)⟩
  | false =>
    cases bc with
    | false =>
      go_wp2_with (first | (go_at_call 49; with_reducible refine (slices_Contains_int64_int64.calls _ _ _ op _ false _ ?hcb CL.out CO.out).mono ?_; (case hcb => exact Kd.C_below CA.out (by repeat (first | (with_reducible exact HB3.out) | apply pw_below_drewN | apply below_drew1))); rintro e w' ⟨rfl, ⟨nd, rfl⟩⟩) | (go_at_call 49; with_reducible refine (slices_Contains_int64_int64.calls _ _ _ cl _ false _ ?hcb CM.out CC.out).mono ?_; (case hcb => exact Kd.C_below CB.out (by repeat (first | (with_reducible exact HB3.out) | apply pw_below_drewN | apply below_drew1))); rintro e w' ⟨rfl, ⟨nd, rfl⟩⟩))
      go_ret
      exact ⟨rfl, ⟨_, _, BK3.out, GE.out, Kd.R_mono HP0.out (fun _ h => h.1), Kd.R_mono HP1.out (fun _ h => h.1)⟩, by repeat (first | (with_reducible exact HB3.out) | apply pw_below_drewN | apply below_drew1 | refine below_set ?_ GE.out), fun k hk hkg hko => KP3.out k (by omega) hkg hko⟩
    | true =>
      by_cases hd : d = 0
      · subst hd
        go_wp2_with (first | (go_at_call 49; with_reducible refine (slices_Contains_int64_int64.calls _ _ _ op _ false _ ?hcb CL.out CO.out).mono ?_; (case hcb => exact Kd.C_below CA.out (by repeat (first | (with_reducible exact HB3.out) | apply pw_below_drewN | apply below_drew1))); rintro e w' ⟨rfl, ⟨nd, rfl⟩⟩) | (go_at_call 49; with_reducible refine (slices_Contains_int64_int64.calls _ _ _ cl _ true _ ?hcb CM.out CC.out).mono ?_; (case hcb => exact Kd.C_below CB.out (by repeat (first | (with_reducible exact HB3.out) | apply pw_below_drewN | apply below_drew1))); rintro e w' ⟨rfl, ⟨nd, rfl⟩⟩))
        go_ret
        exact ⟨rfl, by repeat (first | (with_reducible exact HB3.out) | apply pw_below_drewN | apply below_drew1 | refine below_set ?_ GE.out), fun k hk hkg hko => KP3.out k (by omega) hkg hko⟩
      · have hwr : IntKind.i64.wrap (d - 1) = d - 1 := by rw [i64_w]; exact wrap_id (by omega) (by omega)
        have he : (d == 0) = false := beq_eq_false_iff_ne.2 hd
        go_wp2_with (first | (go_at_call 49; with_reducible refine (slices_Contains_int64_int64.calls _ _ _ op _ false _ ?hcb CL.out CO.out).mono ?_; (case hcb => exact Kd.C_below CA.out (by repeat (first | (with_reducible exact HB3.out) | apply pw_below_drewN | apply below_drew1))); rintro e w' ⟨rfl, ⟨nd, rfl⟩⟩) | (go_at_call 49; with_reducible refine (slices_Contains_int64_int64.calls _ _ _ cl _ true _ ?hcb CM.out CC.out).mono ?_; (case hcb => exact Kd.C_below CB.out (by repeat (first | (with_reducible exact HB3.out) | apply pw_below_drewN | apply below_drew1))); rintro e w' ⟨rfl, ⟨nd, rfl⟩⟩))
        go_ret
        exact ⟨rfl, ⟨_, _, (blk_set BK3.out 2 _).trans rfl, GE.out, Kd.R_mono (Kd.R_set HP0.out BK3.out (by decide) 2 _) (fun _ h => h.1), Kd.R_mono (Kd.R_set HP1.out BK3.out (by decide) 2 _) (fun _ h => h.1)⟩, by repeat (first | (with_reducible exact HB3.out) | apply pw_below_drewN | apply below_drew1 | refine below_set ?_ GE.out), fun k hk hkg hko => (Below.heap_setCell w3 _ _ k hkg).trans (KP3.out k (by omega) hkg hko)⟩
end Go.Proofs.Ytlbjdpahhgokkaa.P
-- Made by wip/gen/pp.py of this session over the kit's print of the loaded program: a function, and the contract of its walk. Lean checks it.
namespace Go.Proofs.Ytlbjdpahhgokkaa.P
open Go.RowKit Go.Proofs.YtlbjdpahhgokkaaW.PrintWords Go.Proofs.YtlbjdpahhgokkaaW.PrintLast Go.Proofs.YtlbjdpahhgokkaaW.PrintMore
attribute [local go_sem] max2_int min2_int max_two min_two max_three min_three max_four min_four   -- for this text's walks alone
set_option linter.unusedVariables false
set_option linter.unusedSimpArgs false

/-! ### impl_kindsOk: function 46 -/
def impl_kindsOk.l0 : Nat → List Int → List Int → Int → Int → Option (Bool)
 | 0, _, _, _, _ => none
 | k + 1, x0, x5, x6, x7 => if x7 < x6 then (if 0 ≤ x7 then (if x7 < (x5.length : Int) then (if (rd x5 x7) < 0 then (some false) else (if x7 > 0 then (if 0 ≤ (wrap64 (x7 - 1)) then (if (wrap64 (x7 - 1)) < (x0.length : Int) then (if (rd x0 (wrap64 (x7 - 1))) ≥ (rd x5 x7) then (some false) else (impl_kindsOk.l0 k x0 x5 x6 (wrap64 (x7 + 1)))) else (none)) else (none)) else (impl_kindsOk.l0 k x0 x5 x6 (wrap64 (x7 + 1))))) else (none)) else (none)) else (some (decide ((x0.length : Int) ≤ 20)))
def impl_kindsOk.f (k : Nat) (l0 : List Int) : Option (Bool) := impl_kindsOk.l0 k l0 l0 (l0.length : Int) 0
theorem impl_kindsOk.mono_l : ∀ k, (∀ y0 y1 y2 y3, LeO (impl_kindsOk.l0 k y0 y1 y2 y3) (impl_kindsOk.l0 (k + 1) y0 y1 y2 y3))
 | 0 => fun _ _ _ _ r h => by simp [impl_kindsOk.l0] at h
 | k + 1 => by
  have ih0 := impl_kindsOk.mono_l k
  ·intro y0 y1 y2 y3
   unfold impl_kindsOk.l0
   repeat' first
   | (with_reducible exact ih0 _ _ _ _)
   | (with_reducible exact LeO.refl _)
   | (with_reducible exact LeO.none _)
   | (with_reducible refine LeO.ite ?_ ?_)
   | (with_reducible refine LeO.bind ?_ (fun _ => ?_))
   | exact ih0 _ _ _ _
   | exact LeO.none _
   | refine LeO.ite ?_ ?_
   | refine LeO.bind ?_ (fun _ => ?_)
theorem impl_kindsOk.mono : ∀ a0 k, LeO (impl_kindsOk.f k a0) (impl_kindsOk.f (k + 1) a0) := by
 intro a0 k
 have ih0 := impl_kindsOk.mono_l k
 unfold impl_kindsOk.f
 repeat' first
   | (with_reducible exact ih0 _ _ _ _)
   | (with_reducible exact LeO.refl _)
   | (with_reducible exact LeO.none _)
   | (with_reducible refine LeO.ite ?_ ?_)
   | (with_reducible refine LeO.bind ?_ (fun _ => ?_))
   | exact ih0 _ _ _ _
   | exact LeO.none _
   | refine LeO.ite ?_ ?_
   | refine LeO.bind ?_ (fun _ => ?_)
set_option maxHeartbeats 8000000 in
set_option maxRecDepth 100000 in
theorem impl_kindsOk.calls (k : Nat) (A0 : Option Addr) (c0 : Nat) (l0 : List Int) (r : Bool) (w : World) (hr0 : Kd.C (Kd.int .i64) w A0 l0.length l0) (hc0 : l0.length ≤ c0) (h : impl_kindsOk.f k l0 = some r) :
  Calls Try.prog 46 #[.slice A0 l0.length c0] w fun e w' => e = .returned (.bool r) ∧ Drawn0 w w' := by
 have HR0 := Aside0.mk hr0
 have HC0 := Aside0.mk hc0
 clear hr0 hc0
 have H : (impl_kindsOk.l0 k l0 l0 (l0.length : Int) 0) = some r := h
 clear h
 have H' := Aside0.mk H
 clear H
 go_enter Try.func46, Try.ntmps46
 go_wp2
 go_loopg [7] k (fun kq v7 w' => ∃ (x7_1 : Int), v7 = .int .i64 x7_1 ∧ Aside0 (impl_kindsOk.l0 kq l0 l0 (l0.length : Int) x7_1 = some r) ∧ Aside0 (kq ≤ k) ∧ Drawn0 w w')
 case atStart => exact ⟨(0), (by first | rfl | (simp; done) | (simp [*]; done)), H', ⟨Nat.le_refl _⟩, by repeat (first | exact Drawn0.refl _ | apply Drawn0.step)⟩
 case round =>
  clear H'
  obtain ⟨x7_1, rfl, HA, HK1, ⟨m1, rfl⟩⟩ := hrel
  cases gk with
  | zero => exact absurd HA.out (by simp [impl_kindsOk.l0])
  | succ k1 =>
   have H := HA.out
   clear HA
   simp only [impl_kindsOk.l0] at H
   by_cases c2 : x7_1 < (l0.length : Int)
   ·rw [if_pos c2] at H
    have c2b0 : decide (x7_1 < (l0.length : Int)) = true := decide_eq_true c2
    clear c2
    by_cases c3 : 0 ≤ x7_1
    ·rw [if_pos c3] at H
     have c3b0 : decide (0 ≤ x7_1) = true := decide_eq_true c3
     clear c3
     by_cases c4 : x7_1 < (l0.length : Int)
     ·rw [if_pos c4] at H
      have c4b0 : decide (x7_1 < (l0.length : Int)) = true := decide_eq_true c4
      clear c4
      by_cases c5 : (rd l0 x7_1) < 0
      ·rw [if_pos c5] at H
       have c5b0 : decide ((rd l0 x7_1) < 0) = true := decide_eq_true c5
       clear c5
       obtain rfl := Option.some.inj H
       have p101 : 0 ≤ (x7_1 : Int) := of_decide_eq_true (by first | (with_reducible assumption) | assumption)
       have q101 : x7_1 < (l0.length : Int) := of_decide_eq_true (by first | (with_reducible assumption) | assumption)
       obtain ⟨ad101, e101, hx101_0⟩ := Kd.at_int HR0.out x7_1 p101 q101
       cases e101
       replace p101 := eq_true p101
       replace q101 := eq_true q101
       go_wp2
       go_ret
       exact ⟨by first | rfl | (simp; done) | (simp [*]; done), by repeat (first | exact Drawn0.refl _ | apply Drawn0.step)⟩
      ·rw [if_neg c5] at H
       have c5b0 : decide ((rd l0 x7_1) < 0) = false := decide_eq_false c5
       clear c5
       by_cases c6 : x7_1 > 0
       ·rw [if_pos c6] at H
        have c6b0 : decide (0 < x7_1) = true := decide_eq_true c6
        clear c6
        obtain ⟨ji7, hji7⟩ : ∃ j_ : Int, (wrap64 (x7_1 - 1)) = j_ := ⟨_, rfl⟩
        replace H : (if 0 ≤ (ji7) then (if (ji7) < (l0.length : Int) then (if (rd l0 (ji7)) ≥ (rd l0 x7_1) then (some false) else (impl_kindsOk.l0 k1 l0 l0 (l0.length : Int) (wrap64 (x7_1 + 1)))) else (none)) else (none)) = some r := by first | (rw [hji7] at H; exact H) | (simp only [hji7] at H ⊢; exact H)
        have hji7w : (IntKind.i64.wrap (x7_1 - 1)) = ji7 := (i64_w _).trans hji7
        by_cases c8 : 0 ≤ (ji7)
        ·rw [if_pos c8] at H
         have c8b0 : decide (0 ≤ (ji7)) = true := decide_eq_true c8
         clear c8
         by_cases c9 : (ji7) < (l0.length : Int)
         ·rw [if_pos c9] at H
          have c9b0 : decide ((ji7) < (l0.length : Int)) = true := decide_eq_true c9
          clear c9
          by_cases c10 : (rd l0 (ji7)) ≥ (rd l0 x7_1)
          ·rw [if_pos c10] at H
           have c10b0 : decide ((rd l0 x7_1) ≤ (rd l0 (ji7))) = true := decide_eq_true c10
           clear c10
           obtain rfl := Option.some.inj H
           have p101 : 0 ≤ (x7_1 : Int) := of_decide_eq_true (by first | (with_reducible assumption) | assumption)
           have q101 : x7_1 < (l0.length : Int) := of_decide_eq_true (by first | (with_reducible assumption) | assumption)
           obtain ⟨ad101, e101, hx101_0⟩ := Kd.at_int HR0.out x7_1 p101 q101
           cases e101
           replace p101 := eq_true p101
           replace q101 := eq_true q101
           have p102 : 0 ≤ ((ji7) : Int) := of_decide_eq_true (by first | (with_reducible assumption) | assumption)
           have q102 : (ji7) < (l0.length : Int) := of_decide_eq_true (by first | (with_reducible assumption) | assumption)
           obtain ⟨ad102, e102, hx102_0⟩ := Kd.at_int HR0.out (ji7) p102 q102
           obtain rfl : ad101 = ad102 := (by injection e102)
           replace p102 := eq_true p102
           replace q102 := eq_true q102
           go_wp2
           go_ret
           exact ⟨by first | rfl | (simp; done) | (simp only [← hji7] <;> (first | rfl | simp)) | (simp [*]; done), by repeat (first | exact Drawn0.refl _ | apply Drawn0.step)⟩
          ·rw [if_neg c10] at H
           have c10b0 : decide ((rd l0 x7_1) ≤ (rd l0 (ji7))) = false := decide_eq_false c10
           clear c10
           have H' := Aside0.mk H
           clear H
           have p101 : 0 ≤ (x7_1 : Int) := of_decide_eq_true (by first | (with_reducible assumption) | assumption)
           have q101 : x7_1 < (l0.length : Int) := of_decide_eq_true (by first | (with_reducible assumption) | assumption)
           obtain ⟨ad101, e101, hx101_0⟩ := Kd.at_int HR0.out x7_1 p101 q101
           cases e101
           replace p101 := eq_true p101
           replace q101 := eq_true q101
           have p102 : 0 ≤ ((ji7) : Int) := of_decide_eq_true (by first | (with_reducible assumption) | assumption)
           have q102 : (ji7) < (l0.length : Int) := of_decide_eq_true (by first | (with_reducible assumption) | assumption)
           obtain ⟨ad102, e102, hx102_0⟩ := Kd.at_int HR0.out (ji7) p102 q102
           obtain rfl : ad101 = ad102 := (by injection e102)
           replace p102 := eq_true p102
           replace q102 := eq_true q102
           go_wp2
           go_roundg k1
           case measure => have := HK1.out; omega
           case rel => exact ⟨(wrap64 (x7_1 + 1)), (by first | rfl | (simp; done) | (simp [*]; done)), H', ⟨by have := HK1.out; omega⟩, by repeat (first | exact Drawn0.refl _ | apply Drawn0.step)⟩
         ·rw [if_neg c9] at H
          exact absurd H (by simp)
        ·rw [if_neg c8] at H
         exact absurd H (by simp)
       ·rw [if_neg c6] at H
        have c6b0 : decide (0 < x7_1) = false := decide_eq_false c6
        clear c6
        have H' := Aside0.mk H
        clear H
        have p101 : 0 ≤ (x7_1 : Int) := of_decide_eq_true (by first | (with_reducible assumption) | assumption)
        have q101 : x7_1 < (l0.length : Int) := of_decide_eq_true (by first | (with_reducible assumption) | assumption)
        obtain ⟨ad101, e101, hx101_0⟩ := Kd.at_int HR0.out x7_1 p101 q101
        cases e101
        replace p101 := eq_true p101
        replace q101 := eq_true q101
        go_wp2
        go_roundg k1
        case measure => have := HK1.out; omega
        case rel => exact ⟨(wrap64 (x7_1 + 1)), (by first | rfl | (simp; done) | (simp [*]; done)), H', ⟨by have := HK1.out; omega⟩, by repeat (first | exact Drawn0.refl _ | apply Drawn0.step)⟩
     ·rw [if_neg c4] at H
      exact absurd H (by simp)
    ·rw [if_neg c3] at H
     exact absurd H (by simp)
   ·rw [if_neg c2] at H
    have c2b0 : decide (x7_1 < (l0.length : Int)) = false := decide_eq_false c2
    clear c2
    obtain rfl := Option.some.inj H
    go_wp2
    go_ret
    exact ⟨by first | rfl | (simp; done) | (simp [*]; done), by repeat (first | exact Drawn0.refl _ | apply Drawn0.step)⟩

end Go.Proofs.Ytlbjdpahhgokkaa.P
/- What the program's check of rising kinds, and her search in a list of numbers, answer. -/
namespace Go.Proofs.Ytlbjdpahhgokkaa.P
open Go.RowKit Go.Proofs.YtlbjdpahhgokkaaW.PrintWords Go.Proofs.YtlbjdpahhgokkaaW.PrintLast Go.Proofs.YtlbjdpahhgokkaaEv
set_option linter.unusedVariables false
set_option linter.unusedSimpArgs false

theorem impl_kindsOk_ev (l : List Int) (hl : l.length ≤ 9223372036854775807) : Ev (fun k => impl_kindsOk.f k l) (kindsB l) := by
  unfold impl_kindsOk.f kindsB
  have key := down l.length (fun i => ∀ last : Int, (i = 0 → last = -1) → (0 < i → last = rd l ((i - 1 : Nat) : Int)) → Ev (fun k => impl_kindsOk.l0 k l l l.length (i : Nat)) (decide (l.length ≤ 20) && kindsR last (l.drop i))) ?_ ?_ 0 (by omega) (-1) (fun _ => rfl) (by omega)
  · exact key
  · intro last _ _
    rw [ev_succ]
    simp only [impl_kindsOk.l0, ev_ite, ev_some]
    rw [if_neg (by omega), List.drop_length]
    simp only [kindsR, Bool.and_true]
    by_cases h : l.length ≤ 20
    · rw [decide_eq_true h, decide_eq_true (show (l.length : Int) ≤ 20 by omega)]
    · rw [decide_eq_false h, decide_eq_false (show ¬ (l.length : Int) ≤ 20 by omega)]
  · intro i hi ih last hl0 hl1
    rw [ev_succ, drop_cons l 0 i hi, rd_nat]
    have ih2 := ih (rd l i) (by omega) (fun _ => by rw [Nat.add_sub_cancel])
    simp only [impl_kindsOk.l0, Option.bind_some, ev_ite, ev_some, kindsR]
    rw [if_pos (by omega), if_pos (by omega), if_pos (by omega), wrap_succ hi (by omega)]
    have hprev : 0 < i → (0 ≤ wrap64 ((i : Int) - 1) ∧ wrap64 ((i : Int) - 1) < l.length ∧ rd l (wrap64 ((i : Int) - 1)) = last) := by
      intro hp
      rw [wrap_id (x := (i : Int) - 1) (by omega) (by omega)]
      exact ⟨by omega, by omega, by rw [hl1 hp, show ((i : Int) - 1) = ((i - 1 : Nat) : Int) by omega]⟩
    generalize decide (l.length ≤ 20) = D at *
    generalize (l.drop (i + 1)) = T at *
    generalize rd l (i : Int) = a at *
    generalize hG : (fun k => impl_kindsOk.l0 k l l (l.length : Int) ((i + 1 : Nat) : Int)) = G at *
    by_cases c1 : a < 0
    · rw [if_pos c1]; simp [show ¬ 0 ≤ a by omega]
    rw [if_neg c1]
    have hend : (last < a) → Ev G (D && (decide (0 ≤ a) && decide (last < a) && kindsR a T)) := by
      intro h5
      refine ev_congr ih2 ?_
      simp [show 0 ≤ a by omega, h5]
    by_cases h00 : i = 0
    · rw [if_neg (by omega)]
      exact hend (by have := hl0 h00; omega)
    · obtain ⟨h1', h2', h3'⟩ := hprev (by omega)
      rw [if_pos (by omega), if_pos h1', if_pos h2', h3']
      by_cases c5 : last ≥ a
      · rw [if_pos c5]; simp [show ¬ last < a by omega]
      · rw [if_neg c5]
        exact hend (by omega)
theorem slices_Contains_ev (l : List Int) (x : Int) (hl : l.length ≤ 9223372036854775807) : Ev (fun k => slices_Contains_int64_int64.f k l x) (hasB l x) := by
  have hi : ∃ r : Int, Ev (fun k => slices_Index_int64_int64.f k l x) r ∧ decide (r ≥ 0) = hasB l x := by
    unfold slices_Index_int64_int64.f hasB
    have key := down l.length (fun i => ∃ r : Int, Ev (fun k => slices_Index_int64_int64.l0 k l x l.length (i : Nat)) r ∧ decide (r ≥ 0) = (l.drop i).any (· == x)) ?_ ?_ 0 (by omega)
    · exact key
    · refine ⟨-1, ?_, by simp⟩
      rw [ev_succ]
      simp [slices_Index_int64_int64.l0, ev_some]
    · rintro i hi ⟨r, hr, hd⟩
      by_cases h : x = rd l i
      · refine ⟨i, ?_, ?_⟩
        · rw [ev_succ]
          simp only [slices_Index_int64_int64.l0, ev_ite, ev_some]
          rw [if_pos (by omega), if_pos (by omega), if_pos (by omega), if_pos h]
          trivial
        · rw [any_drop l 0 _ i hi, rd_nat, ← h]
          simp
      · refine ⟨r, ?_, ?_⟩
        · rw [ev_succ]
          simp only [slices_Index_int64_int64.l0, ev_ite, ev_some]
          rw [if_pos (by omega), if_pos (by omega), if_pos (by omega), if_neg h, wrap_succ hi (by omega)]
          exact hr
        · rw [any_drop l 0 _ i hi, rd_nat, hd, beq_eq_false_iff_ne.2 (Ne.symm h), Bool.false_or]
  obtain ⟨r, hr, hd⟩ := hi
  unfold slices_Contains_int64_int64.f
  rw [ev_bind hr]
  exact ev_some.2 hd
end Go.Proofs.Ytlbjdpahhgokkaa.P
/- What begin and item of a layouter do, in the words of the plain fold. -/
namespace Go.Proofs.Ytlbjdpahhgokkaa.P
open Go.RowKit Go.Shelf Go.Proofs.YtlbjdpahhgokkaaW.PrintWords Go.Proofs.YtlbjdpahhgokkaaW.PrintLast Go.Proofs.YtlbjdpahhgokkaaW.PrintMore Go.Proofs.YtlbjdpahhgokkaaEv
set_option linter.unusedVariables false
set_option linter.unusedSimpArgs false
theorem begin_eq {w0 : World} (ok : Nat → Prop) (g : Nat) (out : List S46) (st : List Int) (d : Int) (x : S46) (w : World) (hI : LyS w0 w ok g out st d) (hB : Below w0.heap.size w0 w) (hF : ∀ k, w.heap.size ≤ k → ok k) (hx : 1 ≤ x.f2) (h1 : 1 ≤ st.length) (h0 : st[0]? = some 1) (hl : out.length + st.length ≤ 500000) (cd : Int) (hc : (if lastC (begR x st out).1 = x.f2 then (0 : Int) else 2) = cd) :
    Calls Try.prog 31 #[.pointer (some ⟨g, 0, none⟩), .agg #[.int .i64 x.f0, .int .i64 x.f1, .int .i64 x.f2]] w fun e w' => e = .returned (.int .i64 cd) ∧ LyS w0 w' ok g (begR x st out).2 (begR x st out).1 d ∧ Below w0.heap.size w0 w' ∧ KeepOk w w' ok g := by
  subst hc
  exact begin_hand ok g out st d x w hI hB hF hx h1 h0 hl
theorem item_dep {w0 : World} (ok : Nat → Prop) (g : Nat) (out : List S46) (st : List Int) (d : Int) (x : S46) (A2 A3 : Option Addr) (c2 c3 : Nat) (op cl : List Int) (w : World) (hI : LyS w0 w ok g out st d) (hB : Below w0.heap.size w0 w) (hF : ∀ k, w.heap.size ≤ k → ok k) (hl : out.length ≤ 500000) (hd0 : 0 ≤ d) (hd1 : d ≤ 500000)
    (hC2 : Kd.C (Kd.int .i64) w0 A2 op.length op) (hc2 : op.length ≤ c2) (hC3 : Kd.C (Kd.int .i64) w0 A3 cl.length cl) (hc3 : cl.length ≤ c3) (hb : bracketsB op cl = true) (o : Option Int) (hdep : depR op cl x.f0 d = o) :
    Calls Try.prog 32 #[.pointer (some ⟨g, 0, none⟩), .agg #[.int .i64 x.f0, .int .i64 x.f1, .int .i64 x.f2], .agg #[.slice A2 op.length c2, .slice A3 cl.length c3]] w fun e w' => e = .returned (.int .i64 (if o = none then 3 else 0)) ∧ (∀ d1, o = some d1 → LyS w0 w' ok g (out ++ [x]) st d1) ∧ Below w0.heap.size w0 w' ∧ KeepOk w w' ok g := by
  obtain ⟨ko, ho⟩ := ev_get (slices_Contains_ev op x.f0 hC2.2.1)
  obtain ⟨kc, hc⟩ := ev_get (slices_Contains_ev cl x.f0 hC3.2.1)
  have hdis : hasB op x.f0 = true → hasB cl x.f0 = false := by
    intro h
    unfold bracketsB at hb
    simp only [Bool.and_eq_true, Bool.not_eq_true', List.any_eq_false] at hb
    unfold hasB at h
    obtain ⟨y, hy, e⟩ := List.any_eq_true.1 h
    have := hb.2 y hy
    rw [beq_iff_eq.1 e] at this
    simpa using this
  refine (item_hand ok g out st d x A2 A3 c2 c3 op cl w hI hB hF hl hd0 hd1 hC2 hc2 hC3 hc3 _ _ ko kc ho hc).mono ?_
  rintro e w' ⟨rfl, h1, h2, h3⟩
  subst hdep
  unfold depR
  cases hbo : hasB op x.f0
  · rw [hbo] at h1
    cases hbc : hasB cl x.f0
    · rw [hbc] at h1
      refine ⟨by simp, fun d1 hd => ?_, h2, h3⟩
      simp only [Bool.false_eq_true, if_false, Option.some.injEq] at hd h1
      subst hd
      exact h1 (fun _ h => by cases h)
    · rw [hbc] at h1
      by_cases hd : d = 0
      · refine ⟨by simp [hd], fun d1 h => by simp [hd] at h, h2, h3⟩
      · refine ⟨by simp [hd], fun d1 h => ?_, h2, h3⟩
        simp only [Bool.false_eq_true, if_false, if_true, if_neg hd, Option.some.injEq] at h h1
        subst h
        exact h1 (fun _ _ => hd)
  · rw [hbo] at h1
    have hbc := hdis hbo
    rw [hbc] at h1 ⊢
    refine ⟨by simp, fun d1 hd => ?_, h2, h3⟩
    simp only [Bool.false_eq_true, if_false, if_true, Option.some.injEq] at hd h1
    subst hd
    exact h1 (fun h => by cases h)
theorem item_none {w0 : World} (ok : Nat → Prop) (g : Nat) (out : List S46) (st : List Int) (d : Int) (x : S46) (A2 A3 : Option Addr) (c2 c3 : Nat) (op cl : List Int) (w : World) (hI : LyS w0 w ok g out st d) (hB : Below w0.heap.size w0 w) (hF : ∀ k, w.heap.size ≤ k → ok k) (hl : out.length ≤ 500000) (hd0 : 0 ≤ d) (hd1 : d ≤ 500000) (hC2 : Kd.C (Kd.int .i64) w0 A2 op.length op) (hc2 : op.length ≤ c2) (hC3 : Kd.C (Kd.int .i64) w0 A3 cl.length cl) (hc3 : cl.length ≤ c3) (hb : bracketsB op cl = true) (hdep : depR op cl x.f0 d = none) :
    Calls Try.prog 32 #[.pointer (some ⟨g, 0, none⟩), .agg #[.int .i64 x.f0, .int .i64 x.f1, .int .i64 x.f2], .agg #[.slice A2 op.length c2, .slice A3 cl.length c3]] w fun e w' => e = .returned (.int .i64 3) ∧ Below w0.heap.size w0 w' ∧ KeepOk w w' ok g := by
  refine (item_dep ok g out st d x A2 A3 c2 c3 op cl w hI hB hF hl hd0 hd1 hC2 hc2 hC3 hc3 hb none hdep).mono ?_
  rintro e w' ⟨rfl, _, h2, h3⟩
  exact ⟨rfl, h2, h3⟩
theorem item_some {w0 : World} (ok : Nat → Prop) (g : Nat) (out : List S46) (st : List Int) (d : Int) (x : S46) (A2 A3 : Option Addr) (c2 c3 : Nat) (op cl : List Int) (w : World) (hI : LyS w0 w ok g out st d) (hB : Below w0.heap.size w0 w) (hF : ∀ k, w.heap.size ≤ k → ok k) (hl : out.length ≤ 500000) (hd0 : 0 ≤ d) (hd1 : d ≤ 500000) (hC2 : Kd.C (Kd.int .i64) w0 A2 op.length op) (hc2 : op.length ≤ c2) (hC3 : Kd.C (Kd.int .i64) w0 A3 cl.length cl) (hc3 : cl.length ≤ c3) (hb : bracketsB op cl = true) (d1 : Int) (hdep : depR op cl x.f0 d = some d1) :
    Calls Try.prog 32 #[.pointer (some ⟨g, 0, none⟩), .agg #[.int .i64 x.f0, .int .i64 x.f1, .int .i64 x.f2], .agg #[.slice A2 op.length c2, .slice A3 cl.length c3]] w fun e w' => e = .returned (.int .i64 0) ∧ LyS w0 w' ok g (out ++ [x]) st d1 ∧ Below w0.heap.size w0 w' ∧ KeepOk w w' ok g := by
  refine (item_dep ok g out st d x A2 A3 c2 c3 op cl w hI hB hF hl hd0 hd1 hC2 hc2 hC3 hc3 hb (some d1) hdep).mono ?_
  rintro e w' ⟨rfl, h1, h2, h3⟩
  exact ⟨rfl, h1 d1 rfl, h2, h3⟩
end Go.Proofs.Ytlbjdpahhgokkaa.P
/- What slices.IndexFunc and slices.ContainsFunc answer at a []int64, for whatever predicate that writes and makes nothing. -/
namespace Go.Proofs.Ytlbjdpahhgokkaa.P
open Go.RowKit Go.Shelf Go.Proofs.YtlbjdpahhgokkaaW.PrintWords Go.Proofs.YtlbjdpahhgokkaaW.PrintLast Go.Proofs.YtlbjdpahhgokkaaW.PrintMore Go.Proofs.YtlbjdpahhgokkaaEv
set_option linter.unusedVariables false
set_option linter.unusedSimpArgs false

theorem IndexFunc_int (g : Nat) (lb : Array Value) (eg : ∀ args w, (callFunc g args).run Try.prog w = .ok (.enter g args) w) (p : Int → Bool) (A0 : Option Addr) (c0 : Nat) (l0 : List Int) (w : World) (hr0 : Kd.C (Kd.int .i64) w A0 l0.length l0)
    (hp : ∀ (n : Nat) (x : Int), x ∈ l0 → Calls Try.prog g (#[.int .i64 x] ++ lb) (w.drewN n) fun e w' => e = .returned (.bool (p x)) ∧ ∃ m, w' = (w.drewN n).drewN m) :
    Calls Try.prog 56 #[.slice A0 l0.length c0, .func (.func g) #[] lb] w fun e w' => e = .returned (.int .i64 (idxP p l0 0)) ∧ Drawn0 w w' := by
  have hn := hr0.2.1
  have HP := Lib.hid hp
  clear hp
  have HR := Aside0.mk hr0
  clear hr0
  go_enter Try.func56, Try.ntmps56
  go_wp2
  go_loopg [5, 8] l0.length (fun gg _ s8 wr => ∃ kk nd : Nat, kk ≤ l0.length ∧ l0.length - kk ≤ gg ∧ s8 = .int .i64 kk ∧ wr = w.drewN nd ∧ Aside0 (idxP p l0 0 = idxP p (l0.drop kk) kk))
  case atStart => exact ⟨0, 0, Nat.zero_le _, by omega, rfl, rfl, ⟨by simp⟩⟩
  case round =>
    obtain ⟨kk, nd, hkk, hg, rfl, rfl, HA⟩ := hrel
    by_cases hlt : kk < l0.length
    · have hltz : (kk : Int) < (l0.length : Int) := by omega
      obtain ⟨ad, rfl, hx0⟩ := Kd.at_int HR.out (kk : Int) (by omega) hltz
      rw [Int.toNat_natCast] at hx0
      have hmem : rd l0 (kk : Int) ∈ l0 := by
        unfold rd
        rw [List.getD_eq_getElem?_getD, List.getElem?_eq_getElem (by simpa using hlt)]
        exact List.getElem_mem _
      have hcall := HP.out nd (rd l0 (kk : Int)) hmem
      have hstep : Aside0 (idxP p l0 0 = if p (rd l0 (kk : Int)) then (kk : Int) else idxP p (l0.drop (kk + 1)) ((kk + 1 : Nat) : Int)) := ⟨by
        rw [HA.out, drop_cons l0 0 kk hlt]
        have hr : l0.getD kk 0 = rd l0 (kk : Int) := by simp [rd]
        rw [hr]
        rfl⟩
      clear hmem
      generalize rd l0 (kk : Int) = y at *
      cases hq : p y with
      | true =>
        rw [hq] at hcall
        have hs2 : Aside0 (idxP p l0 0 = (kk : Int)) := ⟨by rw [hstep.out, hq]; rfl⟩
        clear hstep hq HA
        go_wp2_with (go_at_fn g; refine hcall.mono ?_; rintro e w' ⟨rfl, m, rfl⟩)
        go_ret
        exact ⟨by (rw [hs2.out]; try rfl), by repeat (first | exact Drawn0.refl _ | apply Drawn0.step)⟩
      | false =>
        rw [hq] at hcall
        have hs2 : Aside0 (idxP p l0 0 = idxP p (l0.drop (kk + 1)) ((kk + 1 : Nat) : Int)) := ⟨by rw [hstep.out, hq]; rfl⟩
        clear hstep hq HA
        go_wp2_with (go_at_fn g; refine hcall.mono ?_; rintro e w' ⟨rfl, m, rfl⟩)
        go_roundg (l0.length - (kk + 1))
        case measure => omega
        case rel => exact ⟨kk + 1, _, by omega, by omega, by go_num, by first | rfl | exact World.drewN_drewN _ _ _, hs2⟩
    · have hltz : ¬ (kk : Int) < (l0.length : Int) := by omega
      have hk : kk = l0.length := by omega
      have hs2 : Aside0 (idxP p l0 0 = -1) := ⟨by rw [HA.out, hk]; simp [idxP]⟩
      clear hk HA
      go_wp2
      go_ret
      exact ⟨by (rw [hs2.out]; try rfl), by repeat (first | exact Drawn0.refl _ | apply Drawn0.step)⟩

theorem ContainsFunc_int (g : Nat) (lb : Array Value) (eg : ∀ args w, (callFunc g args).run Try.prog w = .ok (.enter g args) w) (p : Int → Bool) (A0 : Option Addr) (c0 : Nat) (l0 : List Int) (w : World) (hr0 : Kd.C (Kd.int .i64) w A0 l0.length l0)
    (hp : ∀ (n : Nat) (x : Int), x ∈ l0 → Calls Try.prog g (#[.int .i64 x] ++ lb) (w.drewN n) fun e w' => e = .returned (.bool (p x)) ∧ ∃ m, w' = (w.drewN n).drewN m) :
    Calls Try.prog 47 #[.slice A0 l0.length c0, .func (.func g) #[] lb] w fun e w' => e = .returned (.bool (l0.any p)) ∧ Drawn0 w w' := by
  have hc := IndexFunc_int g lb eg p A0 c0 l0 w hr0 hp
  have ha : l0.any p = decide (0 ≤ idxP p l0 0) := by
    rw [Bool.eq_iff_iff, decide_eq_true_iff, idxP_ge p l0 0 (by omega)]
  rw [ha]
  clear ha hr0 hp
  generalize idxP p l0 0 = i at hc ⊢
  go_enter Try.func47, Try.ntmps47
  go_wp2_with (go_at_call 56; refine hc.mono ?_; rintro e w' ⟨rfl, ⟨nd, rfl⟩⟩)
  go_ret
  exact ⟨rfl, by repeat (first | exact Drawn0.refl _ | apply Drawn0.step)⟩
end Go.Proofs.Ytlbjdpahhgokkaa.P
/- The walk of bracketsOk with its closure, by hand. -/
namespace Go.Proofs.Ytlbjdpahhgokkaa.P
open Go.RowKit Go.Shelf Go.Proofs.YtlbjdpahhgokkaaW.PrintWords Go.Proofs.YtlbjdpahhgokkaaW.PrintLast Go.Proofs.YtlbjdpahhgokkaaW.PrintMore Go.Proofs.YtlbjdpahhgokkaaEv
set_option linter.unusedVariables false
set_option linter.unusedSimpArgs false
set_option maxRecDepth 100000 in
/-- The closure: is a kind one of those that close? -/
theorem brackets_1_calls (B : Nat) (w : World) (n : Nat) (A3 : Option Addr) (c3 : Nat) (cl : List Int) (hcell : w.cell? ⟨B, 1, none⟩ = some (.slice A3 cl.length c3)) (hr : Kd.C (Kd.int .i64) w A3 cl.length cl) (hc : cl.length ≤ c3) (x : Int) :
    Calls Try.prog 48 #[.int .i64 x, .pointer (some ⟨B, 0, none⟩)] (w.drewN n) fun e w' => e = .returned (.bool (hasB cl x)) ∧ ∃ m, w' = (w.drewN n).drewN m := by
  obtain ⟨k, hk⟩ := ev_get (slices_Contains_ev cl x hr.2.1)
  have HK := Aside0.mk hk
  have HR := Aside0.mk (Kd.C_below hr (pw_below_drewN (Below.refl _ _) n))
  have HC := Aside0.mk hc
  clear hk hr hc
  generalize hasB cl x = b at *
  go_enter Try.func48, Try.ntmps48
  go_wp2_with (go_at_call 49; refine (slices_Contains_int64_int64.calls k A3 c3 cl x b _ HR.out HC.out HK.out).mono ?_; rintro e w' ⟨rfl, ⟨nd, rfl⟩⟩)
  go_ret
  exact ⟨rfl, _, by first | rfl | exact World.drewN_drewN _ _ _ | exact (World.drewN_drewN _ _ _).symm⟩
set_option maxHeartbeats 4000000 in
set_option maxRecDepth 100000 in
theorem bracketsOk_hand (A2 A3 : Option Addr) (c2 c3 : Nat) (op cl : List Int) (w : World) (hr2 : Kd.C (Kd.int .i64) w A2 op.length op) (hc2 : op.length ≤ c2) (hr3 : Kd.C (Kd.int .i64) w A3 cl.length cl) (hc3 : cl.length ≤ c3) :
    Calls Try.prog 29 #[.agg #[.slice A2 op.length c2, .slice A3 cl.length c3]] w fun e w' => e = .returned (.bool (bracketsB op cl)) ∧ Below w.heap.size w w' := by
  obtain ⟨k2, hk2⟩ := ev_get (impl_kindsOk_ev op hr2.2.1)
  obtain ⟨k3, hk3⟩ := ev_get (impl_kindsOk_ev cl hr3.2.1)
  have HK2 := Aside0.mk hk2
  have HK3 := Aside0.mk hk3
  have HR2 := Aside0.mk hr2
  have HC2 := Aside0.mk hc2
  have HR3 := Aside0.mk hr3
  have HC3 := Aside0.mk hc3
  have eg : ∀ args w, (callFunc 48 args).run Try.prog w = .ok (.enter 48 args) w := enters_of Try.func48 (by kernel_rfl) rfl
  have EG := Aside0.mk eg
  have HB := Aside0.mk (below_alloc (Below.refl w.heap.size w) (.cells #[.slice A2 op.length c2, .slice A3 cl.length c3] 32))
  have BK := Aside0.mk (blk_new w (.cells #[.slice A2 op.length c2, .slice A3 cl.length c3] 32))
  have HB0 : Aside0 (bracketsB op cl = (kindsB op && kindsB cl && !(op.any fun k => hasB cl k))) := ⟨rfl⟩
  clear hk2 hk3 hr2 hc2 hr3 hc3 eg
  generalize bracketsB op cl = bb at *
  generalize hk2 : kindsB op = b2 at *
  generalize hk3 : kindsB cl = b3 at *
  clear hk2 hk3
  cases b2 with
  | false =>
    have hb : Aside0 (bb = false) := ⟨by rw [HB0.out]; rfl⟩
    clear HB0
    go_enter Try.func29, Try.ntmps29
    go_wp2_with (go_at_call 46; with_reducible refine (impl_kindsOk.calls _ _ _ op _ _ ?hcb HC2.out HK2.out).mono ?_; (case hcb => exact Kd.C_below HR2.out (by repeat (first | (with_reducible exact HB.out) | apply pw_below_drewN | apply below_drew1))); rintro e w' ⟨rfl, ⟨nd, rfl⟩⟩)
    go_ret
    exact ⟨by rw [hb.out]; rfl, by repeat (first | (with_reducible exact HB.out) | apply pw_below_drewN | apply below_drew1)⟩
  | true =>
    cases b3 with
    | false =>
      have hb : Aside0 (bb = false) := ⟨by rw [HB0.out]; rfl⟩
      clear HB0
      go_enter Try.func29, Try.ntmps29
      go_wp2_with (first | (go_at_call 46; with_reducible refine (impl_kindsOk.calls _ _ _ op _ _ ?hcb HC2.out HK2.out).mono ?_; (case hcb => exact Kd.C_below HR2.out (by repeat (first | (with_reducible exact HB.out) | apply pw_below_drewN | apply below_drew1))); rintro e w' ⟨rfl, ⟨nd, rfl⟩⟩) | (go_at_call 46; with_reducible refine (impl_kindsOk.calls _ _ _ cl _ _ ?hcb HC3.out HK3.out).mono ?_; (case hcb => exact Kd.C_below HR3.out (by repeat (first | (with_reducible exact HB.out) | apply pw_below_drewN | apply below_drew1))); rintro e w' ⟨rfl, ⟨nd, rfl⟩⟩))
      go_ret
      exact ⟨by rw [hb.out]; rfl, by repeat (first | (with_reducible exact HB.out) | apply pw_below_drewN | apply below_drew1)⟩
    | true =>
      have hb : Aside0 (bb = !(op.any fun k => hasB cl k)) := ⟨by rw [HB0.out]; rfl⟩
      have hcf : Aside0 (∀ n : Nat, Calls Try.prog 47 #[.slice A2 op.length c2, .func (.func 48) #[] #[.pointer (some ⟨w.heap.size, 0, none⟩)]] ((w.alloc (.cells #[.slice A2 op.length c2, .slice A3 cl.length c3] 32)).drewN n) fun e w' => e = .returned (.bool (op.any fun k => hasB cl k)) ∧ Drawn0 ((w.alloc (.cells #[.slice A2 op.length c2, .slice A3 cl.length c3] 32)).drewN n) w') := ⟨fun n =>
        ContainsFunc_int 48 #[.pointer (some ⟨w.heap.size, 0, none⟩)] EG.out (fun k => hasB cl k) A2 c2 op _ (Kd.C_below HR2.out (pw_below_drewN HB.out n)) (fun m x _ => by
          have h1 := brackets_1_calls w.heap.size ((w.alloc (.cells #[.slice A2 op.length c2, .slice A3 cl.length c3] 32)).drewN n) m A3 c3 cl ((blk_cell (blk_drewN BK.out n) 1).trans rfl) (Kd.C_below HR3.out (pw_below_drewN HB.out n)) HC3.out x
          exact h1)⟩
      clear HB0 EG BK
      generalize (op.any fun k => hasB cl k) = an at *
      go_enter Try.func29, Try.ntmps29
      go_wp2_with (first | (go_at_call 46; with_reducible refine (impl_kindsOk.calls _ _ _ op _ _ ?hcb HC2.out HK2.out).mono ?_; (case hcb => exact Kd.C_below HR2.out (by repeat (first | (with_reducible exact HB.out) | apply pw_below_drewN | apply below_drew1))); rintro e w' ⟨rfl, ⟨nd, rfl⟩⟩) | (go_at_call 46; with_reducible refine (impl_kindsOk.calls _ _ _ cl _ _ ?hcb HC3.out HK3.out).mono ?_; (case hcb => exact Kd.C_below HR3.out (by repeat (first | (with_reducible exact HB.out) | apply pw_below_drewN | apply below_drew1))); rintro e w' ⟨rfl, ⟨nd, rfl⟩⟩) | (go_at_call 47; refine (hcf.out _).mono ?_; rintro e w' ⟨rfl, ⟨nd, rfl⟩⟩))
      go_ret
      exact ⟨by rw [hb.out]; rfl, by repeat (first | (with_reducible exact HB.out) | apply pw_below_drewN | apply below_drew1)⟩
end Go.Proofs.Ytlbjdpahhgokkaa.P
/- The walk of the program's check of items, by hand: each way once. -/
namespace Go.Proofs.Ytlbjdpahhgokkaa.P
open Go.RowKit Go.Shelf Go.Proofs.YtlbjdpahhgokkaaW.PrintWords Go.Proofs.YtlbjdpahhgokkaaW.PrintLast Go.Proofs.YtlbjdpahhgokkaaW.PrintMore Go.Proofs.YtlbjdpahhgokkaaEv
set_option linter.unusedVariables false
set_option linter.unusedSimpArgs false
theorem quiet_within {x lo hi : Int} {b : Bool} (h : impl_within.f x lo hi = some b) (W : World) (n : Nat) : Calls Try.prog 45 #[.int .i64 x, .int .i64 lo, .int .i64 hi] (W.drewN n) fun e w' => e = .returned (.bool b) ∧ ∃ m, w' = W.drewN m := by
  refine (impl_within.calls x lo hi b _ h).mono ?_
  rintro e w' ⟨rfl, ⟨nd, rfl⟩⟩
  exact ⟨rfl, _, World.drewN_drewN _ _ _⟩
set_option maxHeartbeats 8000000 in
set_option maxRecDepth 100000 in
theorem itemsOk_hand (A0 : Option Addr) (c0 : Nat) (l0 : List S46) (w : World) (hr0 : Kd.C k46 w A0 l0.length l0) :
    Calls Try.prog 28 #[.slice A0 l0.length c0] w fun e w' => e = .returned (.bool (itemsB l0)) ∧ Below w.heap.size w w' := by
  have HR := Aside0.mk hr0
  have hn := hr0.2.1
  clear hr0
  have HB := Aside0.mk (Below.refl w.heap.size w)
  · have hf : Aside0 (itemsB l0 = (decide (l0.length ≤ 5000) && itemsR (lineAhead l0 0) (l0.drop 0))) := ⟨by simp [itemsB, lineAhead]⟩
    go_enter Try.func28, Try.ntmps28
    go_wp2
    go_loopg [7] l0.length (fun gg s3 wr => ∃ kk : Nat, kk ≤ l0.length ∧ l0.length - kk ≤ gg ∧ s3 = .int .i64 kk ∧ Aside0 (itemsB l0 = (decide (l0.length ≤ 5000) && itemsR (lineAhead l0 kk) (l0.drop kk))) ∧ Aside0 (Below w.heap.size w wr))
    case atStart => exact ⟨0, Nat.zero_le _, by omega, rfl, hf, ⟨by repeat (first | (with_reducible exact HB.out) | apply pw_below_drewN | apply below_drew1)⟩⟩
    case round =>
      clear hf HB
      obtain ⟨kk, hkk, hg, rfl, HA, HB⟩ := hrel
      by_cases hlt : kk < l0.length
      · have hltz : (kk : Int) < (l0.length : Int) := by omega
        have hk0 : (0 : Int) ≤ (kk : Int) := by omega
        obtain ⟨ad, rfl, hx0, hx1, hx2⟩ := at_T46 HR.out (kk : Int) (by omega) hltz
        replace hx0 := (HB.out.cell (World.block_lt_of_cell? w _ hx0)).trans hx0
        replace hx1 := (HB.out.cell (World.block_lt_of_cell? w _ hx1)).trans hx1
        replace hx2 := (HB.out.cell (World.block_lt_of_cell? w _ hx2)).trans hx2
        rw [Int.toNat_natCast] at hx0 hx1 hx2
        have hs := HA.out.trans (show (decide (l0.length ≤ 5000) && itemsR (lineAhead l0 kk) (l0.drop kk)) = (decide (l0.length ≤ 5000) && (itemB (lineAhead l0 kk) (rd_T46 l0 (kk : Int)) && itemsR (lineAhead l0 (kk + 1)) (l0.drop (kk + 1)))) by rw [itemsR_step l0 kk hlt])
        clear HA
        have hn1 : lineAhead l0 (kk + 1) = (rd_T46 l0 (kk : Int)).f1 := by simp [lineAhead]
        have hp : Aside0 (0 < kk → lineAhead l0 kk = (rd_T46 l0 ((kk : Int) - 1)).f1) := ⟨fun h => by unfold lineAhead; rw [if_neg (by omega), show ((kk - 1 : Nat) : Int) = (kk : Int) - 1 by omega]⟩
        have hz0 : kk = 0 → lineAhead l0 kk = 0 := fun h => by simp [lineAhead, h]
        unfold itemB at hs
        rw [hn1] at hs
        generalize hy0 : (rd_T46 l0 (kk : Int)).f0 = y0 at *
        generalize hy1 : (rd_T46 l0 (kk : Int)).f1 = y1 at *
        generalize hy2 : (rd_T46 l0 (kk : Int)).f2 = y2 at *
        clear hy0 hy1 hy2
        generalize hrest : itemsR y1 (l0.drop (kk + 1)) = rest at *
        have HI := Aside0.mk (impl_within_eq y1 1 1000000000000)
        have HJ := Aside0.mk (impl_within_eq y2 1 1000000000000)
        by_cases c3 : y0 < 0
        · have c3b : decide (y0 < 0) = true := decide_eq_true c3
          have hs2 : Aside0 (itemsB l0 = false) := ⟨by rw [hs, decide_eq_false (show ¬ 0 ≤ y0 by omega)]; simp⟩
          clear hs HI HJ c3 hn1 hp hz0 hrest
          go_wp2_with fail
          go_quiet (fail)
          go_wp2_with fail
          go_ret
          exact ⟨by rw [hs2.out]; rfl, by repeat (first | (with_reducible exact HB.out) | apply below_alloc | apply pw_below_drewN | apply below_drew1)⟩
        have c3b : decide (y0 < 0) = false := decide_eq_false c3
        rw [decide_eq_true (show 0 ≤ y0 by omega), Bool.true_and] at hs
        clear c3
        cases hb1 : decide (1 ≤ y1 ∧ y1 ≤ 1000000000000)
        · rw [hb1] at HI hs
          have hs2 : Aside0 (itemsB l0 = false) := ⟨by rw [hs]; simp⟩
          clear hs HJ hb1 hn1 hp hz0 hrest
          go_wp2_with fail
          go_quiet ((go_at_call 45; with_reducible exact quiet_within HI.out _ _))
          go_wp2_with fail
          go_ret
          exact ⟨by rw [hs2.out]; rfl, by repeat (first | (with_reducible exact HB.out) | apply below_alloc | apply pw_below_drewN | apply below_drew1)⟩
        rw [hb1] at HI hs
        have hy1 := of_decide_eq_true hb1
        clear hb1
        rw [Bool.true_and] at hs
        cases hb2 : decide (1 ≤ y2 ∧ y2 ≤ 1000000000000)
        · rw [hb2] at HJ hs
          have hs2 : Aside0 (itemsB l0 = false) := ⟨by rw [hs]; simp⟩
          clear hs hb2 hn1 hp hz0 hy1 hrest
          go_wp2_with fail
          go_quiet (first | (go_at_call 45; with_reducible exact quiet_within HI.out _ _) | (go_at_call 45; with_reducible exact quiet_within HJ.out _ _))
          go_wp2_with fail
          go_ret
          exact ⟨by rw [hs2.out]; rfl, by repeat (first | (with_reducible exact HB.out) | apply below_alloc | apply pw_below_drewN | apply below_drew1)⟩
        rw [hb2] at HJ hs
        clear hb2
        rw [Bool.true_and] at hs
        by_cases h0 : kk = 0
        · have hz : decide (0 < (kk : Int)) = false := decide_eq_false (by omega)
          have hzn : decide (0 < kk) = false := decide_eq_false (by omega)
          have hs2 : Aside0 (itemsB l0 = (decide (l0.length ≤ 5000) && itemsR (lineAhead l0 (kk + 1)) (l0.drop (kk + 1)))) := ⟨by rw [hs, hz0 h0, decide_eq_true (show (0 : Int) ≤ y1 by omega), Bool.true_and, hn1, hrest]⟩
          clear hs hn1 hp hz0 hy1 h0 hrest
          go_wp2_with fail
          go_quiet (first | (go_at_call 45; with_reducible exact quiet_within HI.out _ _) | (go_at_call 45; with_reducible exact quiet_within HJ.out _ _))
          go_wp2_with fail
          go_roundg (l0.length - (kk + 1))
          case measure => omega
          case rel => exact ⟨kk + 1, by omega, by omega, by go_num, hs2, ⟨by repeat (first | (with_reducible exact HB.out) | apply below_alloc | apply pw_below_drewN | apply below_drew1)⟩⟩
        have hz : decide (0 < (kk : Int)) = true := decide_eq_true (by omega)
        have hzn : decide (0 < kk) = true := decide_eq_true (by omega)
        have hm : (kk : Int) - 1 < (l0.length : Int) := by omega
        have hm0 : 0 ≤ (kk : Int) - 1 := by omega
        obtain ⟨ad2, e2, hv0, hv1, hv2⟩ := at_T46 HR.out ((kk : Int) - 1) hm0 hm
        cases e2
        rw [show ((kk : Int) - 1).toNat = kk - 1 by omega] at hv1
        replace hv1 := (HB.out.cell (World.block_lt_of_cell? w _ hv1)).trans hv1
        clear hv0 hv2
        have hvb := World.block_lt_of_cell? wr _ hv1
        have hva : (wr.alloc (.cells #[.int .i64 y0, .int .i64 y1, .int .i64 y2] 46)).cell? ⟨(ad.add ((kk - 1) * 3)).block, (ad.add ((kk - 1) * 3)).off + 1, none⟩ = some (.int .i64 (rd_T46 l0 ((kk : Int) - 1)).f1) := ((below_alloc (Below.refl _ _) _ : Below wr.heap.size wr _).cell hvb).trans hv1
        rw [hp.out (by omega)] at hs
        generalize (rd_T46 l0 ((kk : Int) - 1)).f1 = y3 at *
        have hwr : IntKind.i64.wrap ((kk : Int) - 1) = (kk : Int) - 1 := by rw [i64_w]; exact wrap_id (by omega) (by omega)
        have g1 : 1 ≤ (kk : Int) := by omega
        have g2 : 1 ≤ kk := by omega
        have g3 : 0 < kk := by omega
        have g4 := eq_true hm
        have g5 := eq_true hm0
        by_cases c5 : y1 < y3
        · have c5b : decide (y1 < y3) = true := decide_eq_true c5
          have hs2 : Aside0 (itemsB l0 = false) := ⟨by rw [hs, decide_eq_false (show ¬ y3 ≤ y1 by omega)]; simp⟩
          clear hs hn1 hp hz0 hy1 h0 hrest c5
          go_wp2_with fail
          go_quiet (first | (go_at_call 45; with_reducible exact quiet_within HI.out _ _) | (go_at_call 45; with_reducible exact quiet_within HJ.out _ _))
          go_wp2_with fail
          go_ret
          exact ⟨by rw [hs2.out]; rfl, by repeat (first | (with_reducible exact HB.out) | apply below_alloc | apply pw_below_drewN | apply below_drew1)⟩
        have c5b : decide (y1 < y3) = false := decide_eq_false c5
        have hs2 : Aside0 (itemsB l0 = (decide (l0.length ≤ 5000) && itemsR (lineAhead l0 (kk + 1)) (l0.drop (kk + 1)))) := ⟨by rw [hs, decide_eq_true (show y3 ≤ y1 by omega), Bool.true_and, hn1, hrest]⟩
        clear hs hn1 hp hz0 hy1 h0 hrest c5
        go_wp2_with fail
        go_quiet (first | (go_at_call 45; with_reducible exact quiet_within HI.out _ _) | (go_at_call 45; with_reducible exact quiet_within HJ.out _ _))
        go_wp2_with fail
        go_roundg (l0.length - (kk + 1))
        case measure => omega
        case rel => exact ⟨kk + 1, by omega, by omega, by go_num, hs2, ⟨by repeat (first | (with_reducible exact HB.out) | apply below_alloc | apply pw_below_drewN | apply below_drew1)⟩⟩
      · have hltz : ¬ (kk : Int) < (l0.length : Int) := by omega
        have hk : kk = l0.length := by omega
        have hs2 : Aside0 (itemsB l0 = decide (l0.length ≤ 5000)) := ⟨by rw [HA.out, hk, List.drop_length]; simp [itemsR]⟩
        clear hk HA
        by_cases c6 : l0.length ≤ 5000
        · have c6a : decide ((l0.length : Int) ≤ 5000) = true := decide_eq_true (by omega)
          rw [decide_eq_true c6] at hs2
          have c6b : decide (l0.length ≤ 5000) = true := decide_eq_true c6
          clear c6
          go_wp2
          go_ret
          exact ⟨by rw [hs2.out]; rfl, by repeat (first | (with_reducible exact HB.out) | apply below_alloc | apply pw_below_drewN | apply below_drew1)⟩
        · have c6a : decide ((l0.length : Int) ≤ 5000) = false := decide_eq_false (by omega)
          rw [decide_eq_false c6] at hs2
          have c6b : decide (l0.length ≤ 5000) = false := decide_eq_false c6
          clear c6
          go_wp2
          go_ret
          exact ⟨by rw [hs2.out]; rfl, by repeat (first | (with_reducible exact HB.out) | apply below_alloc | apply pw_below_drewN | apply below_drew1)⟩
end Go.Proofs.Ytlbjdpahhgokkaa.P
-- Made by wip/gen/pp.py of this session over the kit's print of the loaded program: a function, and the contract of its walk. Lean checks it.
namespace Go.Proofs.Ytlbjdpahhgokkaa.P
open Go.RowKit Go.Proofs.YtlbjdpahhgokkaaW.PrintWords Go.Proofs.YtlbjdpahhgokkaaW.PrintLast Go.Proofs.YtlbjdpahhgokkaaW.PrintMore
attribute [local go_sem] max2_int min2_int max_two min_two max_three min_three max_four min_four   -- for this text's walks alone
set_option linter.unusedVariables false
set_option linter.unusedSimpArgs false

/-! ### impl_Item_33: function 33 -/
def impl_Item_33.f (l0 : List (S46)) : Option (Int) := some (l0.length : Int)
set_option maxHeartbeats 8000000 in
set_option maxRecDepth 100000 in
theorem impl_Item_33.calls (A0 : Option Addr) (c0 : Nat) (l0 : List (S46)) (r : Int) (w : World) (hr0 : Kd.C k46 w A0 l0.length l0) (hc0 : l0.length ≤ c0) (h : impl_Item_33.f l0 = some r) :
  Calls Try.prog 33 #[.slice A0 l0.length c0] w fun e w' => e = .returned (.int .i64 r) ∧ Drawn0 w w' := by
 have HR0 := Aside0.mk hr0
 have HC0 := Aside0.mk hc0
 clear hr0 hc0
 have H : (some (l0.length : Int)) = some r := h
 clear h
 obtain rfl := Option.some.inj H
 go_enter Try.func33, Try.ntmps33
 go_wp2
 go_ret
 exact ⟨by first | rfl | (simp; done) | (simp [*]; done), by repeat (first | exact Drawn0.refl _ | apply Drawn0.step)⟩

end Go.Proofs.Ytlbjdpahhgokkaa.P
/- The walk of the program's Layout, by hand. -/
namespace Go.Proofs.Ytlbjdpahhgokkaa.P
open Go.RowKit Go.Shelf Go.Proofs.YtlbjdpahhgokkaaW.PrintWords Go.Proofs.YtlbjdpahhgokkaaW.PrintLast Go.Proofs.YtlbjdpahhgokkaaW.PrintMore Go.Proofs.YtlbjdpahhgokkaaEv
set_option linter.unusedVariables false
set_option linter.unusedSimpArgs false
set_option maxHeartbeats 32000000 in
set_option maxRecDepth 100000 in
theorem layout_hand (A0 : Option Addr) (c0 : Nat) (l0 : List S46) (A2 : Option Addr) (c2 : Nat) (op : List Int) (A3 : Option Addr) (c3 : Nat) (cl : List Int) (w : World) (hl0 : l0.length ≤ 1048576) (hr0 : Kd.C k46 w A0 l0.length l0) (hc0 : l0.length ≤ c0) (hr2 : Kd.C (Kd.int .i64) w A2 op.length op) (hc2 : op.length ≤ c2) (hr3 : Kd.C (Kd.int .i64) w A3 cl.length cl) (hc3 : cl.length ≤ c3) :
    Calls Try.prog 10 #[.slice A0 l0.length c0, .agg #[.slice A2 op.length c2, .slice A3 cl.length c3]] w fun e w' => ∃ v0_ : Value, e = .returned (.tuple #[v0_, .int .i64 (layB l0 op cl).2.1, .int .i64 (layB l0 op cl).2.2]) ∧ Kd.R k46 46 w' w.heap.size (fun _ => True) v0_ (layB l0 op cl).1 ∧ Below w.heap.size w w' := by
  have CI := Aside0.mk hr0
  have CL := Aside0.mk hc0
  have CO := Aside0.mk hr2
  have CM := Aside0.mk hc2
  have CC := Aside0.mk hr3
  have CN := Aside0.mk hc3
  have BX := Aside0.mk (blk_new w (.cells #[.slice A2 op.length c2, .slice A3 cl.length c3] 32))
  have HB := Aside0.mk (below_alloc (Below.refl w.heap.size w) (.cells #[.slice A2 op.length c2, .slice A3 cl.length c3] 32))
  have HL : Aside0 (layB l0 op cl = if itemsB l0 && bracketsB op cl then layR op cl none l0 [] [1] 0 0 else ([], 1, -1)) := ⟨rfl⟩
  clear hr0 hc0 hr2 hc2 hr3 hc3
  generalize layB l0 op cl = r at *
  cases hi : itemsB l0 with
  | false =>
    have hr : Aside0 (r = ([], 1, -1)) := ⟨by rw [HL.out, hi]; rfl⟩
    clear HL
    go_enter Try.func10, Try.ntmps10
    go_wp2_with (go_at_call 28; refine (itemsOk_hand A0 c0 l0 _ (Kd.C_below CI.out (by repeat (first | (with_reducible exact HB.out) | apply below_alloc | apply pw_below_drewN | apply below_drew1)))).mono ?_; rintro e w1 ⟨rfl, hb1⟩; have nBX := blk_below (by (with_reducible repeat (first | refine blk_drewN ?_ _ | refine blk_drew ?_)); exact BX.out) hb1; have nHB := below_step (by repeat (first | (with_reducible exact HB.out) | apply below_alloc | apply pw_below_drewN | apply below_drew1)) hb1; clear BX HB; have BX := Aside0.mk nBX; have HB := Aside0.mk nHB; have hb0 : w1.cell? ⟨w.heap.size, 0, none⟩ = some (.slice A2 op.length c2) := (blk_cell nBX 0).trans rfl; have hb1c : w1.cell? ⟨w.heap.size, 1, none⟩ = some (.slice A3 cl.length c3) := (blk_cell nBX 1).trans rfl; clear nBX nHB hb1)
    go_ret3
    exact ⟨_, by rw [hr.out]; rfl, by rw [hr.out]; exact Kd.R_nil _ _ _ _ _, by repeat (first | (with_reducible exact HB.out) | apply below_alloc | apply pw_below_drewN | apply below_drew1)⟩
  | true =>
    cases hbr : bracketsB op cl with
    | false =>
      have hr : Aside0 (r = ([], 1, -1)) := ⟨by rw [HL.out, hi, hbr]; rfl⟩
      clear HL
      go_enter Try.func10, Try.ntmps10
      go_wp2_with (first | (go_at_call 28; refine (itemsOk_hand A0 c0 l0 _ (Kd.C_below CI.out (by repeat (first | (with_reducible exact HB.out) | apply below_alloc | apply pw_below_drewN | apply below_drew1)))).mono ?_; rintro e w1 ⟨rfl, hb1⟩; have nBX := blk_below (by (with_reducible repeat (first | refine blk_drewN ?_ _ | refine blk_drew ?_)); exact BX.out) hb1; have nHB := below_step (by repeat (first | (with_reducible exact HB.out) | apply below_alloc | apply pw_below_drewN | apply below_drew1)) hb1; clear BX HB; have BX := Aside0.mk nBX; have HB := Aside0.mk nHB; have hb0 : w1.cell? ⟨w.heap.size, 0, none⟩ = some (.slice A2 op.length c2) := (blk_cell nBX 0).trans rfl; have hb1c : w1.cell? ⟨w.heap.size, 1, none⟩ = some (.slice A3 cl.length c3) := (blk_cell nBX 1).trans rfl; clear nBX nHB hb1) | (go_at_call 29; refine (bracketsOk_hand A2 A3 c2 c3 op cl _ (Kd.C_below CO.out (by repeat (first | (with_reducible exact HB.out) | apply below_alloc | apply pw_below_drewN | apply below_drew1))) CM.out (Kd.C_below CC.out (by repeat (first | (with_reducible exact HB.out) | apply below_alloc | apply pw_below_drewN | apply below_drew1))) CN.out).mono ?_; rintro e w2 ⟨rfl, hb2⟩; have nBX := blk_below (by (with_reducible repeat (first | refine blk_drewN ?_ _ | refine blk_drew ?_)); exact BX.out) hb2; have nHB := below_step (by repeat (first | (with_reducible exact HB.out) | apply below_alloc | apply pw_below_drewN | apply below_drew1)) hb2; clear BX HB; have BX := Aside0.mk nBX; have HB := Aside0.mk nHB; clear nBX nHB hb2))
      go_ret3
      exact ⟨_, by rw [hr.out]; rfl, by rw [hr.out]; exact Kd.R_nil _ _ _ _ _, by repeat (first | (with_reducible exact HB.out) | apply below_alloc | apply pw_below_drewN | apply below_drew1)⟩
    | true =>
      have hr : Aside0 (r = layR op cl none l0 [] [1] 0 0) := ⟨by rw [HL.out, hi, hbr]; rfl⟩
      have HBR := Aside0.mk hbr
      clear HL
      have hi5 : l0.length ≤ 5000 := itemsB_len hi
      have hcol : Aside0 (∀ i, i < l0.length → 1 ≤ (rd_T46 l0 (i : Int)).f2) := ⟨fun i h => itemsR_col l0 0 (by simp only [itemsB, Bool.and_eq_true] at hi; exact hi.2) _ (by
        unfold rd_T46
        rw [List.getD_eq_getElem?_getD, Int.toNat_natCast, List.getElem?_eq_getElem h]
        exact List.getElem_mem _)⟩
      go_enter Try.func10, Try.ntmps10
      go_wp2_with (first | (go_at_call 28; refine (itemsOk_hand A0 c0 l0 _ (Kd.C_below CI.out (by repeat (first | (with_reducible exact HB.out) | apply below_alloc | apply pw_below_drewN | apply below_drew1)))).mono ?_; rintro e w1 ⟨rfl, hb1⟩; have nBX := blk_below (by (with_reducible repeat (first | refine blk_drewN ?_ _ | refine blk_drew ?_)); exact BX.out) hb1; have nHB := below_step (by repeat (first | (with_reducible exact HB.out) | apply below_alloc | apply pw_below_drewN | apply below_drew1)) hb1; clear BX HB; have BX := Aside0.mk nBX; have HB := Aside0.mk nHB; have hb0 : w1.cell? ⟨w.heap.size, 0, none⟩ = some (.slice A2 op.length c2) := (blk_cell nBX 0).trans rfl; have hb1c : w1.cell? ⟨w.heap.size, 1, none⟩ = some (.slice A3 cl.length c3) := (blk_cell nBX 1).trans rfl; clear nBX nHB hb1) | (go_at_call 29; refine (bracketsOk_hand A2 A3 c2 c3 op cl _ (Kd.C_below CO.out (by repeat (first | (with_reducible exact HB.out) | apply below_alloc | apply pw_below_drewN | apply below_drew1))) CM.out (Kd.C_below CC.out (by repeat (first | (with_reducible exact HB.out) | apply below_alloc | apply pw_below_drewN | apply below_drew1))) CN.out).mono ?_; rintro e w2 ⟨rfl, hb2⟩; have nBX := blk_below (by (with_reducible repeat (first | refine blk_drewN ?_ _ | refine blk_drew ?_)); exact BX.out) hb2; have nHB := below_step (by repeat (first | (with_reducible exact HB.out) | apply below_alloc | apply pw_below_drewN | apply below_drew1)) hb2; clear BX HB; have BX := Aside0.mk nBX; have HB := Aside0.mk nHB; clear nBX nHB hb2) | ((with_reducible refine gate_dst (N := 20) rfl ?_); refine Kd.R_lit (Kd.int .i64) _ 2 ?hg (N := 20) ?hd (xs := ([1] : List Int)) (inner := [.int .i64 1]) (ok := fun _ => True) (okp := fun _ => True) ?hr ?hp (fun _ hk => hk) trivial (Below.refl _ _) (Nat.le_refl _) (by simp) ?_; (case hd => rfl); (case hg => rfl); (case hr => first | (go_simp; done) | (go_simp; rfl)); (case hp => exact (Reps.one (show Kd.M (Kd.int .i64) _ _ _ 1 [.int .i64 1] from rfl) (Reps.none _ _))); intro v3 w3 ho hb hg_ hnew_; clear hg_ hnew_; have nBX := blk_below (by (with_reducible repeat (first | refine blk_drewN ?_ _ | refine blk_drew ?_)); exact BX.out) hb; have nHB := below_step (by repeat (first | (with_reducible exact HB.out) | apply below_alloc | apply pw_below_drewN | apply below_drew1)) hb; have hlt0 := blk_lt BX.out; have nHO := Kd.R_lower (Kd.R_mono (Kd.R_bound ho) (ok' := fun k => k ≠ w.heap.size) (fun k hk => by have h_ := hk.2.1; (first | omega | (simp at h_; omega)))) (below_size (by repeat (first | (with_reducible exact HB.out) | apply below_alloc | apply pw_below_drewN | apply below_drew1))); clear BX HB ho hb hlt0; have BX := Aside0.mk nBX; have HB := Aside0.mk nHB; obtain ⟨A9, c9, rfl⟩ := Kd.R_slice nHO; rw [show ([1] : List Int).length = 1 from rfl] at nHO ⊢; have HO := Aside0.mk nHO; clear nBX nHB nHO))
      obtain ⟨gb, hgb⟩ : ∃ gb, w.heap.size = gb := ⟨_, rfl⟩
      obtain ⟨g, hgg⟩ : ∃ g, w3.heap.size = g := ⟨_, rfl⟩
      have hgg2 : gb < g := by have := blk_lt BX.out; omega
      have HI : Aside0 (LyS w (w3.alloc (.cells #[.slice none 0 0, .slice A9 1 c9, .int .i64 0] 58)) (fun k => k ≠ gb) g [] [1] 0) := ⟨⟨_, _, by rw [← hgg]; exact blk_new w3 _, by omega, Kd.R_nil _ _ _ _ _, Kd.R_alloc (by rw [← hgb]; exact HO.out) _⟩⟩
      replace BX := Aside0.mk (blk_alloc BX.out (.cells #[.slice none 0 0, .slice A9 1 c9, .int .i64 0] 58))
      replace HB := Aside0.mk (below_alloc HB.out (.cells #[.slice none 0 0, .slice A9 1 c9, .int .i64 0] 58))
      generalize hW : w3.alloc (.cells #[.slice none 0 0, .slice A9 1 c9, .int .i64 0] 58) = W at *
      clear hW HO hb0 hb1c
      simp only [hgb, hgg] at BX ⊢
      have hn : l0.length ≤ 9223372036854775807 := by omega
      have HI0 := HI
      go_loopg [25] l0.length (fun gg v25 wr => ∃ (kk : Nat) (p : Option S46) (out : List S46) (st : List Int) (d : Int), v25 = .int .i64 kk ∧ kk ≤ l0.length ∧ l0.length - kk ≤ gg ∧ Aside0 (r = layR op cl p (l0.drop kk) out st d kk) ∧ Aside0 ((kk = 0 → p = none) ∧ (0 < kk → p = some (rd_T46 l0 ((kk - 1 : Nat) : Int)))) ∧ Aside0 (1 ≤ st.length) ∧ Aside0 (st[0]? = some 1) ∧ Aside0 (out.length + st.length ≤ 4 * kk + 1) ∧ Aside0 (0 ≤ d ∧ d ≤ kk) ∧ Aside0 (LyS w wr (fun k => k ≠ gb) g out st d) ∧ Aside0 (wr.heap[gb]? = some (.cells #[.slice A2 op.length c2, .slice A3 cl.length c3] 32 (0, 0))) ∧ Aside0 (Below w.heap.size w wr))
      case atStart => exact ⟨0, none, [], [1], 0, rfl, Nat.zero_le _, by omega, ⟨by rw [List.drop_zero]; exact hr.out⟩, ⟨fun _ => rfl, fun h => absurd h (by omega)⟩, ⟨by simp⟩, ⟨rfl⟩, ⟨by simp⟩, ⟨by omega, by omega⟩, HI0, BX, HB⟩
      case round =>
        clear HI0 HI BX HB hr
        obtain ⟨kk, p, out, st, d, rfl, hkk, hg, HR, HP, H1, H0, HS, HD, HI, BX, HB⟩ := hrel
        by_cases hlt : kk < l0.length
        · have hltz : (kk : Int) < (l0.length : Int) := by omega
          have hk0 : (0 : Int) ≤ (kk : Int) := by omega
          obtain ⟨ad, rfl, hx0, hx1, hx2⟩ := at_T46 CI.out (kk : Int) (by omega) hltz
          replace hx0 := (HB.out.cell (World.block_lt_of_cell? w _ hx0)).trans hx0
          replace hx1 := (HB.out.cell (World.block_lt_of_cell? w _ hx1)).trans hx1
          replace hx2 := (HB.out.cell (World.block_lt_of_cell? w _ hx2)).trans hx2
          rw [Int.toNat_natCast] at hx0 hx1 hx2
          have hcx := hcol.out kk hlt
          have hdr := drop_cons l0 z46 kk hlt
          have hrd : l0.getD kk z46 = rd_T46 l0 (kk : Int) := by simp [rd_T46]
          rw [hrd] at hdr
          have HR2 := HR.out
          rw [hdr] at HR2
          have HNX : Aside0 (rd_T46 l0 (kk : Int) = rd_T46 l0 ((kk + 1 - 1 : Nat) : Int)) := ⟨by rw [Nat.add_sub_cancel]⟩
          clear hdr hrd HR
          generalize hrest : l0.drop (kk + 1) = rest at *
          generalize rd_T46 l0 (kk : Int) = x at *
          have HI1 := Aside0.mk (HI.out.alloc (.cells #[.int .i64 x.f0, .int .i64 x.f1, .int .i64 x.f2] 46))
          have BX1 := Aside0.mk (blk_alloc BX.out (.cells #[.int .i64 x.f0, .int .i64 x.f1, .int .i64 x.f2] 46))
          have BG1 := Aside0.mk (blk_new wr (.cells #[.int .i64 x.f0, .int .i64 x.f1, .int .i64 x.f2] 46))
          have HB1 := Aside0.mk (below_alloc HB.out (.cells #[.int .i64 x.f0, .int .i64 x.f1, .int .i64 x.f2] 46))
          have hd2 : (wr.alloc (.cells #[.int .i64 x.f0, .int .i64 x.f1, .int .i64 x.f2] 46)).cell? ⟨g, 2, none⟩ = some (.int .i64 d) := by obtain ⟨v0, v1, hG, _⟩ := HI1.out; exact (blk_cell hG 2).trans rfl
          have ha0 : (wr.alloc (.cells #[.int .i64 x.f0, .int .i64 x.f1, .int .i64 x.f2] 46)).cell? ⟨gb, 0, none⟩ = some (.slice A2 op.length c2) := (blk_cell BX1.out 0).trans rfl
          have ha1 : (wr.alloc (.cells #[.int .i64 x.f0, .int .i64 x.f1, .int .i64 x.f2] 46)).cell? ⟨gb, 1, none⟩ = some (.slice A3 cl.length c3) := (blk_cell BX1.out 1).trans rfl
          have hgx : g < wr.heap.size := by obtain ⟨v0, v1, hG, _⟩ := HI.out; exact blk_lt hG
          have HLN0 : out.length + st.length ≤ 20001 := by have := HS.out; omega
          have hd01 := HD.out
          have HCX := Aside0.mk hcx
          by_cases hd : d = 0
          · subst hd
            by_cases hz : kk = 0
            · have z1 : ((kk : Int) == 0) = true := by rw [hz]; rfl
              have z2 : (kk == 0) = true := by rw [hz]; rfl
              have z3 : decide (0 < (kk : Int)) = false := decide_eq_false (by omega)
              have z4 : decide (0 < kk) = false := decide_eq_false (by omega)
              obtain rfl := HP.out.1 hz
              have HR3 : Aside0 (r = if lastC (begR x st out).1 = x.f2 then (match depR op cl x.f0 0 with | none => ([], 3, (kk : Int)) | some d1 => layR op cl (some x) rest ((begR x st out).2 ++ [x]) (begR x st out).1 d1 ((kk : Int) + 1)) else ([], 2, (kk : Int))) := ⟨by rw [HR2]; simp only [layR]; rw [if_pos ⟨trivial, rfl⟩]; try rfl⟩
              clear HR2 hz
              go_wp2_with fail
              go_quiet (fail)
              go_wp2_with fail
              obtain ⟨gx, hgxe⟩ : ∃ gx, wr.heap.size = gx := ⟨_, rfl⟩
              replace HI1 := Aside0.mk (HI1.out.drewN nq)
              replace BX1 := Aside0.mk (blk_drewN BX1.out nq)
              replace BG1 := Aside0.mk (blk_drewN BG1.out nq)
              replace HB1 := Aside0.mk (pw_below_drewN HB1.out nq)
              clear hd2 ha0 ha1 HI BX HB hx0 hx1 hx2
              generalize hW2 : (wr.alloc (.cells #[.int .i64 x.f0, .int .i64 x.f1, .int .i64 x.f2] 46)).drewN nq = W2 at *
              clear hW2
              simp only [hgxe] at HI1 BG1 hgx ⊢
              have hgbg : gb ≠ g := by omega
              have hgxg : gx ≠ g := by omega
              have hq0 : W2.cell? ⟨gx, 0, none⟩ = some (.int .i64 x.f0) := (blk_cell BG1.out 0).trans rfl
              have hq1 : W2.cell? ⟨gx, 1, none⟩ = some (.int .i64 x.f1) := (blk_cell BG1.out 1).trans rfl
              have hq2 : W2.cell? ⟨gx, 2, none⟩ = some (.int .i64 x.f2) := (blk_cell BG1.out 2).trans rfl
              have hp0 : W2.cell? ⟨gb, 0, none⟩ = some (.slice A2 op.length c2) := (blk_cell BX1.out 0).trans rfl
              have hp1 : W2.cell? ⟨gb, 1, none⟩ = some (.slice A3 cl.length c3) := (blk_cell BX1.out 1).trans rfl
              have hbk := begR_keeps x hcx st out H1.out H0.out
              have hbl : (begR x st out).2.length ≤ 500000 := by have := hbk.2.2.2; first | omega | (simp at this; omega)
              have HBK := Aside0.mk hbk
              have HLN := Aside0.mk hbl
              clear hbk hbl
              by_cases hq : lastC (begR x st out).1 = x.f2
              · have HCD : Aside0 ((if lastC (begR x st out).1 = x.f2 then (0 : Int) else 2) = 0) := ⟨if_pos hq⟩
                have HR4 : Aside0 (r = match depR op cl x.f0 0 with | none => ([], 3, (kk : Int)) | some d1 => layR op cl (some x) rest ((begR x st out).2 ++ [x]) (begR x st out).1 d1 ((kk : Int) + 1)) := ⟨by rw [HR3.out, if_pos hq]⟩
                clear HR3 hq
                cases hdep : depR op cl x.f0 0 with
                | none =>
                  have HDEP := Aside0.mk hdep
                  have HRF : Aside0 (r = ([], 3, (kk : Int))) := ⟨by rw [HR4.out, hdep]⟩
                  clear hdep HR4
                  go_wp2_with (first | (go_at_call 31; refine (begin_eq (fun k => k ≠ gb ∧ k ≠ gx) g out st 0 x _ HI1.out HB1.out (fun k hk => ⟨by have := blk_lt BX1.out; omega, by have := blk_lt BG1.out; omega⟩) HCX.out H1.out H0.out (by first | omega | (simp; omega)) 0 HCD.out).mono ?_; rintro e6 w6 ⟨rfl, hI5, hb5, hk5⟩; have nBX := (hk5 gb (blk_lt BX1.out) hgbg (fun h => h.1 rfl)).trans BX1.out; have nBG := (hk5 gx (blk_lt BG1.out) hgxg (fun h => h.2 rfl)).trans BG1.out; clear HI1 HB1 BX1 BG1; have HI1 := Aside0.mk hI5; have HB1 := Aside0.mk hb5; have BX1 := Aside0.mk nBX; have BG1 := Aside0.mk nBG; have hq0 : w6.cell? ⟨gx, 0, none⟩ = some (.int .i64 x.f0) := (blk_cell BG1.out 0).trans rfl; have hq1 : w6.cell? ⟨gx, 1, none⟩ = some (.int .i64 x.f1) := (blk_cell BG1.out 1).trans rfl; have hq2 : w6.cell? ⟨gx, 2, none⟩ = some (.int .i64 x.f2) := (blk_cell BG1.out 2).trans rfl; have hp0 : w6.cell? ⟨gb, 0, none⟩ = some (.slice A2 op.length c2) := (blk_cell BX1.out 0).trans rfl; have hp1 : w6.cell? ⟨gb, 1, none⟩ = some (.slice A3 cl.length c3) := (blk_cell BX1.out 1).trans rfl; clear nBX nBG hb5 hk5 hI5) | (go_at_call 32; refine (item_none (fun k => k ≠ gb ∧ k ≠ gx) g (begR x st out).2 (begR x st out).1 0 x A2 A3 c2 c3 op cl _ HI1.out HB1.out (fun k hk => ⟨by have := blk_lt BX1.out; omega, by have := blk_lt BG1.out; omega⟩) ?ha ?hb ?hc CO.out CM.out CC.out CN.out HBR.out HDEP.out).mono ?_; (case ha => first | omega | exact HLN.out); (case hb => omega); (case hc => omega); rintro e7 w7 ⟨rfl, hb5, hk5⟩; have nBX := (hk5 gb (blk_lt BX1.out) hgbg (fun h => h.1 rfl)).trans BX1.out; have nBG := (hk5 gx (blk_lt BG1.out) hgxg (fun h => h.2 rfl)).trans BG1.out; clear HI1 HB1 BX1 BG1; have HB1 := Aside0.mk hb5; have BX1 := Aside0.mk nBX; have BG1 := Aside0.mk nBG; have hq0 : w7.cell? ⟨gx, 0, none⟩ = some (.int .i64 x.f0) := (blk_cell BG1.out 0).trans rfl; have hq1 : w7.cell? ⟨gx, 1, none⟩ = some (.int .i64 x.f1) := (blk_cell BG1.out 1).trans rfl; have hq2 : w7.cell? ⟨gx, 2, none⟩ = some (.int .i64 x.f2) := (blk_cell BG1.out 2).trans rfl; have hp0 : w7.cell? ⟨gb, 0, none⟩ = some (.slice A2 op.length c2) := (blk_cell BX1.out 0).trans rfl; have hp1 : w7.cell? ⟨gb, 1, none⟩ = some (.slice A3 cl.length c3) := (blk_cell BX1.out 1).trans rfl; clear nBX nBG hb5 hk5))
                  go_ret3
                  exact ⟨_, by rw [HRF.out]; rfl, by rw [HRF.out]; exact Kd.R_nil _ _ _ _ _, by repeat (first | (with_reducible exact HB1.out) | apply below_alloc | apply pw_below_drewN | apply below_drew1)⟩
                | some d1 =>
                  have HDEP := Aside0.mk hdep
                  have hb1 := depR_bound (show 0 ≤ 0 by omega) hdep
                  have HRF : Aside0 (r = layR op cl (some x) rest ((begR x st out).2 ++ [x]) (begR x st out).1 d1 ((kk : Int) + 1)) := ⟨by rw [HR4.out, hdep]⟩
                  clear hdep HR4
                  go_wp2_with (first | (go_at_call 31; refine (begin_eq (fun k => k ≠ gb ∧ k ≠ gx) g out st 0 x _ HI1.out HB1.out (fun k hk => ⟨by have := blk_lt BX1.out; omega, by have := blk_lt BG1.out; omega⟩) HCX.out H1.out H0.out (by first | omega | (simp; omega)) 0 HCD.out).mono ?_; rintro e6 w6 ⟨rfl, hI5, hb5, hk5⟩; have nBX := (hk5 gb (blk_lt BX1.out) hgbg (fun h => h.1 rfl)).trans BX1.out; have nBG := (hk5 gx (blk_lt BG1.out) hgxg (fun h => h.2 rfl)).trans BG1.out; clear HI1 HB1 BX1 BG1; have HI1 := Aside0.mk hI5; have HB1 := Aside0.mk hb5; have BX1 := Aside0.mk nBX; have BG1 := Aside0.mk nBG; have hq0 : w6.cell? ⟨gx, 0, none⟩ = some (.int .i64 x.f0) := (blk_cell BG1.out 0).trans rfl; have hq1 : w6.cell? ⟨gx, 1, none⟩ = some (.int .i64 x.f1) := (blk_cell BG1.out 1).trans rfl; have hq2 : w6.cell? ⟨gx, 2, none⟩ = some (.int .i64 x.f2) := (blk_cell BG1.out 2).trans rfl; have hp0 : w6.cell? ⟨gb, 0, none⟩ = some (.slice A2 op.length c2) := (blk_cell BX1.out 0).trans rfl; have hp1 : w6.cell? ⟨gb, 1, none⟩ = some (.slice A3 cl.length c3) := (blk_cell BX1.out 1).trans rfl; clear nBX nBG hb5 hk5 hI5) | (go_at_call 32; refine (item_some (fun k => k ≠ gb ∧ k ≠ gx) g (begR x st out).2 (begR x st out).1 0 x A2 A3 c2 c3 op cl _ HI1.out HB1.out (fun k hk => ⟨by have := blk_lt BX1.out; omega, by have := blk_lt BG1.out; omega⟩) ?ha ?hb ?hc CO.out CM.out CC.out CN.out HBR.out d1 HDEP.out).mono ?_; (case ha => first | omega | exact HLN.out); (case hb => omega); (case hc => omega); rintro e7 w7 ⟨rfl, hI5, hb5, hk5⟩; have nBX := (hk5 gb (blk_lt BX1.out) hgbg (fun h => h.1 rfl)).trans BX1.out; have nBG := (hk5 gx (blk_lt BG1.out) hgxg (fun h => h.2 rfl)).trans BG1.out; clear HI1 HB1 BX1 BG1; have HI1 := Aside0.mk hI5; have HB1 := Aside0.mk hb5; have BX1 := Aside0.mk nBX; have BG1 := Aside0.mk nBG; have hq0 : w7.cell? ⟨gx, 0, none⟩ = some (.int .i64 x.f0) := (blk_cell BG1.out 0).trans rfl; have hq1 : w7.cell? ⟨gx, 1, none⟩ = some (.int .i64 x.f1) := (blk_cell BG1.out 1).trans rfl; have hq2 : w7.cell? ⟨gx, 2, none⟩ = some (.int .i64 x.f2) := (blk_cell BG1.out 2).trans rfl; have hp0 : w7.cell? ⟨gb, 0, none⟩ = some (.slice A2 op.length c2) := (blk_cell BX1.out 0).trans rfl; have hp1 : w7.cell? ⟨gb, 1, none⟩ = some (.slice A3 cl.length c3) := (blk_cell BX1.out 1).trans rfl; clear nBX nBG hb5 hk5 hI5))
                  go_roundg (l0.length - (kk + 1))
                  case measure => omega
                  case rel => exact ⟨kk + 1, some x, _, _, d1, by go_num, by omega, by omega, ⟨by rw [hrest]; exact HRF.out⟩, ⟨fun h => absurd h (by omega), fun _ => congrArg some HNX.out⟩, ⟨HBK.out.2.1⟩, ⟨HBK.out.1⟩, ⟨by have h_ := HBK.out.2.2.2; have := HS.out; simp at h_ ⊢; omega⟩, ⟨by omega, by omega⟩, ⟨HI1.out.mono (fun _ h => h.1)⟩, BX1, HB1⟩
              · have HCD : Aside0 ((if lastC (begR x st out).1 = x.f2 then (0 : Int) else 2) = 2) := ⟨if_neg hq⟩
                have HRF : Aside0 (r = ([], 2, (kk : Int))) := ⟨by rw [HR3.out, if_neg hq]⟩
                clear HR3 hq
                go_wp2_with (go_at_call 31; refine (begin_eq (fun k => k ≠ gb ∧ k ≠ gx) g out st 0 x _ HI1.out HB1.out (fun k hk => ⟨by have := blk_lt BX1.out; omega, by have := blk_lt BG1.out; omega⟩) HCX.out H1.out H0.out (by first | omega | (simp; omega)) 2 HCD.out).mono ?_; rintro e6 w6 ⟨rfl, hI5, hb5, hk5⟩; have nBX := (hk5 gb (blk_lt BX1.out) hgbg (fun h => h.1 rfl)).trans BX1.out; have nBG := (hk5 gx (blk_lt BG1.out) hgxg (fun h => h.2 rfl)).trans BG1.out; clear HI1 HB1 BX1 BG1; have HI1 := Aside0.mk hI5; have HB1 := Aside0.mk hb5; have BX1 := Aside0.mk nBX; have BG1 := Aside0.mk nBG; have hq0 : w6.cell? ⟨gx, 0, none⟩ = some (.int .i64 x.f0) := (blk_cell BG1.out 0).trans rfl; have hq1 : w6.cell? ⟨gx, 1, none⟩ = some (.int .i64 x.f1) := (blk_cell BG1.out 1).trans rfl; have hq2 : w6.cell? ⟨gx, 2, none⟩ = some (.int .i64 x.f2) := (blk_cell BG1.out 2).trans rfl; have hp0 : w6.cell? ⟨gb, 0, none⟩ = some (.slice A2 op.length c2) := (blk_cell BX1.out 0).trans rfl; have hp1 : w6.cell? ⟨gb, 1, none⟩ = some (.slice A3 cl.length c3) := (blk_cell BX1.out 1).trans rfl; clear nBX nBG hb5 hk5 hI5)
                go_ret3
                exact ⟨_, by rw [HRF.out]; rfl, by rw [HRF.out]; exact Kd.R_nil _ _ _ _ _, by repeat (first | (with_reducible exact HB1.out) | apply below_alloc | apply pw_below_drewN | apply below_drew1)⟩
            · have z1 : ((kk : Int) == 0) = false := beq_eq_false_iff_ne.2 (by omega)
              have z2 : (kk == 0) = false := beq_eq_false_iff_ne.2 hz
              have z3 : decide (0 < (kk : Int)) = true := decide_eq_true (by omega)
              have z4 : decide (0 < kk) = true := decide_eq_true (by omega)
              have hm : (kk : Int) - 1 < (l0.length : Int) := by omega
              have hm0 : 0 ≤ (kk : Int) - 1 := by omega
              obtain ⟨ad2, e2, hv0, hv1, hv2⟩ := at_T46 CI.out ((kk : Int) - 1) hm0 hm
              cases e2
              rw [show ((kk : Int) - 1).toNat = kk - 1 by omega] at hv0 hv1 hv2
              replace hv0 := (HB1.out.cell (World.block_lt_of_cell? w _ hv0)).trans hv0
              replace hv1 := (HB1.out.cell (World.block_lt_of_cell? w _ hv1)).trans hv1
              replace hv2 := (HB1.out.cell (World.block_lt_of_cell? w _ hv2)).trans hv2
              have hpe := HP.out.2 (by omega)
              rw [show ((kk - 1 : Nat) : Int) = (kk : Int) - 1 by omega] at hpe
              generalize rd_T46 l0 ((kk : Int) - 1) = ie at *
              subst hpe
              have hwr : IntKind.i64.wrap ((kk : Int) - 1) = (kk : Int) - 1 := by rw [i64_w]; exact wrap_id (by omega) (by omega)
              have g1 : 1 ≤ (kk : Int) := by omega
              have g2 : 1 ≤ kk := by omega
              have g3 : 0 < kk := by omega
              have g4 := eq_true hm
              have g5 := eq_true hm0
              by_cases hnew : ie.f1 < x.f1
              · have y1 : decide (ie.f1 < x.f1) = true := decide_eq_true hnew
                have HR3 : Aside0 (r = if lastC (begR x st (out ++ [⟨-1, ie.f1, ie.f2⟩])).1 = x.f2 then (match depR op cl x.f0 0 with | none => ([], 3, (kk : Int)) | some d1 => layR op cl (some x) rest ((begR x st (out ++ [⟨-1, ie.f1, ie.f2⟩])).2 ++ [x]) (begR x st (out ++ [⟨-1, ie.f1, ie.f2⟩])).1 d1 ((kk : Int) + 1)) else ([], 2, (kk : Int))) := ⟨by rw [HR2]; simp only [layR]; rw [if_pos ⟨trivial, decide_eq_true hnew⟩]; try rfl⟩
                clear HR2 hz hnew
                go_wp2_with fail
                go_quiet (fail)
                go_wp2_with fail
                obtain ⟨gx, hgxe⟩ : ∃ gx, wr.heap.size = gx := ⟨_, rfl⟩
                replace HI1 := Aside0.mk (HI1.out.drewN nq)
                replace BX1 := Aside0.mk (blk_drewN BX1.out nq)
                replace BG1 := Aside0.mk (blk_drewN BG1.out nq)
                replace HB1 := Aside0.mk (pw_below_drewN HB1.out nq)
                replace hv0 : ((wr.alloc (.cells #[.int .i64 x.f0, .int .i64 x.f1, .int .i64 x.f2] 46)).drewN nq).cell? (ad.add ((kk - 1) * 3)) = some (.int .i64 ie.f0) := hv0
                replace hv1 : ((wr.alloc (.cells #[.int .i64 x.f0, .int .i64 x.f1, .int .i64 x.f2] 46)).drewN nq).cell? ⟨(ad.add ((kk - 1) * 3)).block, (ad.add ((kk - 1) * 3)).off + 1, none⟩ = some (.int .i64 ie.f1) := hv1
                replace hv2 : ((wr.alloc (.cells #[.int .i64 x.f0, .int .i64 x.f1, .int .i64 x.f2] 46)).drewN nq).cell? ⟨(ad.add ((kk - 1) * 3)).block, (ad.add ((kk - 1) * 3)).off + 2, none⟩ = some (.int .i64 ie.f2) := hv2
                clear hd2 ha0 ha1 HI BX HB hx0 hx1 hx2
                generalize hW2 : (wr.alloc (.cells #[.int .i64 x.f0, .int .i64 x.f1, .int .i64 x.f2] 46)).drewN nq = W2 at *
                clear hW2
                simp only [hgxe] at HI1 BG1 hgx ⊢
                have hgbg : gb ≠ g := by omega
                have hgxg : gx ≠ g := by omega
                have hq0 : W2.cell? ⟨gx, 0, none⟩ = some (.int .i64 x.f0) := (blk_cell BG1.out 0).trans rfl
                have hq1 : W2.cell? ⟨gx, 1, none⟩ = some (.int .i64 x.f1) := (blk_cell BG1.out 1).trans rfl
                have hq2 : W2.cell? ⟨gx, 2, none⟩ = some (.int .i64 x.f2) := (blk_cell BG1.out 2).trans rfl
                have hp0 : W2.cell? ⟨gb, 0, none⟩ = some (.slice A2 op.length c2) := (blk_cell BX1.out 0).trans rfl
                have hp1 : W2.cell? ⟨gb, 1, none⟩ = some (.slice A3 cl.length c3) := (blk_cell BX1.out 1).trans rfl
                have hbk := begR_keeps x hcx st (out ++ [⟨-1, ie.f1, ie.f2⟩]) H1.out H0.out
                have hbl : (begR x st (out ++ [⟨-1, ie.f1, ie.f2⟩])).2.length ≤ 500000 := by have := hbk.2.2.2; first | omega | (simp at this; omega)
                have HBK := Aside0.mk hbk
                have HLN := Aside0.mk hbl
                clear hbk hbl
                by_cases hq : lastC (begR x st (out ++ [⟨-1, ie.f1, ie.f2⟩])).1 = x.f2
                · have HCD : Aside0 ((if lastC (begR x st (out ++ [⟨-1, ie.f1, ie.f2⟩])).1 = x.f2 then (0 : Int) else 2) = 0) := ⟨if_pos hq⟩
                  have HR4 : Aside0 (r = match depR op cl x.f0 0 with | none => ([], 3, (kk : Int)) | some d1 => layR op cl (some x) rest ((begR x st (out ++ [⟨-1, ie.f1, ie.f2⟩])).2 ++ [x]) (begR x st (out ++ [⟨-1, ie.f1, ie.f2⟩])).1 d1 ((kk : Int) + 1)) := ⟨by rw [HR3.out, if_pos hq]⟩
                  clear HR3 hq
                  cases hdep : depR op cl x.f0 0 with
                  | none =>
                    have HDEP := Aside0.mk hdep
                    have HRF : Aside0 (r = ([], 3, (kk : Int))) := ⟨by rw [HR4.out, hdep]⟩
                    clear hdep HR4
                    go_wp2_with (first | (go_at_call 30; refine (put_hand (fun k => k ≠ gb ∧ k ≠ gx) g out st 0 (-1) ie _ HI1.out HB1.out (fun k hk => ⟨by have := blk_lt BX1.out; omega, by have := blk_lt BG1.out; omega⟩) (by omega)).mono ?_; rintro e5 w5 ⟨rfl, hI5, hb5, hk5⟩; have nBX := (hk5 gb (blk_lt BX1.out) hgbg (fun h => h.1 rfl)).trans BX1.out; have nBG := (hk5 gx (blk_lt BG1.out) hgxg (fun h => h.2 rfl)).trans BG1.out; clear HI1 HB1 BX1 BG1; have HI1 := Aside0.mk hI5; have HB1 := Aside0.mk hb5; have BX1 := Aside0.mk nBX; have BG1 := Aside0.mk nBG; have hq0 : w5.cell? ⟨gx, 0, none⟩ = some (.int .i64 x.f0) := (blk_cell BG1.out 0).trans rfl; have hq1 : w5.cell? ⟨gx, 1, none⟩ = some (.int .i64 x.f1) := (blk_cell BG1.out 1).trans rfl; have hq2 : w5.cell? ⟨gx, 2, none⟩ = some (.int .i64 x.f2) := (blk_cell BG1.out 2).trans rfl; have hp0 : w5.cell? ⟨gb, 0, none⟩ = some (.slice A2 op.length c2) := (blk_cell BX1.out 0).trans rfl; have hp1 : w5.cell? ⟨gb, 1, none⟩ = some (.slice A3 cl.length c3) := (blk_cell BX1.out 1).trans rfl; clear nBX nBG hb5 hk5 hI5) | (go_at_call 31; refine (begin_eq (fun k => k ≠ gb ∧ k ≠ gx) g (out ++ [⟨-1, ie.f1, ie.f2⟩]) st 0 x _ HI1.out HB1.out (fun k hk => ⟨by have := blk_lt BX1.out; omega, by have := blk_lt BG1.out; omega⟩) HCX.out H1.out H0.out (by first | omega | (simp; omega)) 0 HCD.out).mono ?_; rintro e6 w6 ⟨rfl, hI5, hb5, hk5⟩; have nBX := (hk5 gb (blk_lt BX1.out) hgbg (fun h => h.1 rfl)).trans BX1.out; have nBG := (hk5 gx (blk_lt BG1.out) hgxg (fun h => h.2 rfl)).trans BG1.out; clear HI1 HB1 BX1 BG1; have HI1 := Aside0.mk hI5; have HB1 := Aside0.mk hb5; have BX1 := Aside0.mk nBX; have BG1 := Aside0.mk nBG; have hq0 : w6.cell? ⟨gx, 0, none⟩ = some (.int .i64 x.f0) := (blk_cell BG1.out 0).trans rfl; have hq1 : w6.cell? ⟨gx, 1, none⟩ = some (.int .i64 x.f1) := (blk_cell BG1.out 1).trans rfl; have hq2 : w6.cell? ⟨gx, 2, none⟩ = some (.int .i64 x.f2) := (blk_cell BG1.out 2).trans rfl; have hp0 : w6.cell? ⟨gb, 0, none⟩ = some (.slice A2 op.length c2) := (blk_cell BX1.out 0).trans rfl; have hp1 : w6.cell? ⟨gb, 1, none⟩ = some (.slice A3 cl.length c3) := (blk_cell BX1.out 1).trans rfl; clear nBX nBG hb5 hk5 hI5) | (go_at_call 32; refine (item_none (fun k => k ≠ gb ∧ k ≠ gx) g (begR x st (out ++ [⟨-1, ie.f1, ie.f2⟩])).2 (begR x st (out ++ [⟨-1, ie.f1, ie.f2⟩])).1 0 x A2 A3 c2 c3 op cl _ HI1.out HB1.out (fun k hk => ⟨by have := blk_lt BX1.out; omega, by have := blk_lt BG1.out; omega⟩) ?ha ?hb ?hc CO.out CM.out CC.out CN.out HBR.out HDEP.out).mono ?_; (case ha => first | omega | exact HLN.out); (case hb => omega); (case hc => omega); rintro e7 w7 ⟨rfl, hb5, hk5⟩; have nBX := (hk5 gb (blk_lt BX1.out) hgbg (fun h => h.1 rfl)).trans BX1.out; have nBG := (hk5 gx (blk_lt BG1.out) hgxg (fun h => h.2 rfl)).trans BG1.out; clear HI1 HB1 BX1 BG1; have HB1 := Aside0.mk hb5; have BX1 := Aside0.mk nBX; have BG1 := Aside0.mk nBG; have hq0 : w7.cell? ⟨gx, 0, none⟩ = some (.int .i64 x.f0) := (blk_cell BG1.out 0).trans rfl; have hq1 : w7.cell? ⟨gx, 1, none⟩ = some (.int .i64 x.f1) := (blk_cell BG1.out 1).trans rfl; have hq2 : w7.cell? ⟨gx, 2, none⟩ = some (.int .i64 x.f2) := (blk_cell BG1.out 2).trans rfl; have hp0 : w7.cell? ⟨gb, 0, none⟩ = some (.slice A2 op.length c2) := (blk_cell BX1.out 0).trans rfl; have hp1 : w7.cell? ⟨gb, 1, none⟩ = some (.slice A3 cl.length c3) := (blk_cell BX1.out 1).trans rfl; clear nBX nBG hb5 hk5))
                    go_ret3
                    exact ⟨_, by rw [HRF.out]; rfl, by rw [HRF.out]; exact Kd.R_nil _ _ _ _ _, by repeat (first | (with_reducible exact HB1.out) | apply below_alloc | apply pw_below_drewN | apply below_drew1)⟩
                  | some d1 =>
                    have HDEP := Aside0.mk hdep
                    have hb1 := depR_bound (show 0 ≤ 0 by omega) hdep
                    have HRF : Aside0 (r = layR op cl (some x) rest ((begR x st (out ++ [⟨-1, ie.f1, ie.f2⟩])).2 ++ [x]) (begR x st (out ++ [⟨-1, ie.f1, ie.f2⟩])).1 d1 ((kk : Int) + 1)) := ⟨by rw [HR4.out, hdep]⟩
                    clear hdep HR4
                    go_wp2_with (first | (go_at_call 30; refine (put_hand (fun k => k ≠ gb ∧ k ≠ gx) g out st 0 (-1) ie _ HI1.out HB1.out (fun k hk => ⟨by have := blk_lt BX1.out; omega, by have := blk_lt BG1.out; omega⟩) (by omega)).mono ?_; rintro e5 w5 ⟨rfl, hI5, hb5, hk5⟩; have nBX := (hk5 gb (blk_lt BX1.out) hgbg (fun h => h.1 rfl)).trans BX1.out; have nBG := (hk5 gx (blk_lt BG1.out) hgxg (fun h => h.2 rfl)).trans BG1.out; clear HI1 HB1 BX1 BG1; have HI1 := Aside0.mk hI5; have HB1 := Aside0.mk hb5; have BX1 := Aside0.mk nBX; have BG1 := Aside0.mk nBG; have hq0 : w5.cell? ⟨gx, 0, none⟩ = some (.int .i64 x.f0) := (blk_cell BG1.out 0).trans rfl; have hq1 : w5.cell? ⟨gx, 1, none⟩ = some (.int .i64 x.f1) := (blk_cell BG1.out 1).trans rfl; have hq2 : w5.cell? ⟨gx, 2, none⟩ = some (.int .i64 x.f2) := (blk_cell BG1.out 2).trans rfl; have hp0 : w5.cell? ⟨gb, 0, none⟩ = some (.slice A2 op.length c2) := (blk_cell BX1.out 0).trans rfl; have hp1 : w5.cell? ⟨gb, 1, none⟩ = some (.slice A3 cl.length c3) := (blk_cell BX1.out 1).trans rfl; clear nBX nBG hb5 hk5 hI5) | (go_at_call 31; refine (begin_eq (fun k => k ≠ gb ∧ k ≠ gx) g (out ++ [⟨-1, ie.f1, ie.f2⟩]) st 0 x _ HI1.out HB1.out (fun k hk => ⟨by have := blk_lt BX1.out; omega, by have := blk_lt BG1.out; omega⟩) HCX.out H1.out H0.out (by first | omega | (simp; omega)) 0 HCD.out).mono ?_; rintro e6 w6 ⟨rfl, hI5, hb5, hk5⟩; have nBX := (hk5 gb (blk_lt BX1.out) hgbg (fun h => h.1 rfl)).trans BX1.out; have nBG := (hk5 gx (blk_lt BG1.out) hgxg (fun h => h.2 rfl)).trans BG1.out; clear HI1 HB1 BX1 BG1; have HI1 := Aside0.mk hI5; have HB1 := Aside0.mk hb5; have BX1 := Aside0.mk nBX; have BG1 := Aside0.mk nBG; have hq0 : w6.cell? ⟨gx, 0, none⟩ = some (.int .i64 x.f0) := (blk_cell BG1.out 0).trans rfl; have hq1 : w6.cell? ⟨gx, 1, none⟩ = some (.int .i64 x.f1) := (blk_cell BG1.out 1).trans rfl; have hq2 : w6.cell? ⟨gx, 2, none⟩ = some (.int .i64 x.f2) := (blk_cell BG1.out 2).trans rfl; have hp0 : w6.cell? ⟨gb, 0, none⟩ = some (.slice A2 op.length c2) := (blk_cell BX1.out 0).trans rfl; have hp1 : w6.cell? ⟨gb, 1, none⟩ = some (.slice A3 cl.length c3) := (blk_cell BX1.out 1).trans rfl; clear nBX nBG hb5 hk5 hI5) | (go_at_call 32; refine (item_some (fun k => k ≠ gb ∧ k ≠ gx) g (begR x st (out ++ [⟨-1, ie.f1, ie.f2⟩])).2 (begR x st (out ++ [⟨-1, ie.f1, ie.f2⟩])).1 0 x A2 A3 c2 c3 op cl _ HI1.out HB1.out (fun k hk => ⟨by have := blk_lt BX1.out; omega, by have := blk_lt BG1.out; omega⟩) ?ha ?hb ?hc CO.out CM.out CC.out CN.out HBR.out d1 HDEP.out).mono ?_; (case ha => first | omega | exact HLN.out); (case hb => omega); (case hc => omega); rintro e7 w7 ⟨rfl, hI5, hb5, hk5⟩; have nBX := (hk5 gb (blk_lt BX1.out) hgbg (fun h => h.1 rfl)).trans BX1.out; have nBG := (hk5 gx (blk_lt BG1.out) hgxg (fun h => h.2 rfl)).trans BG1.out; clear HI1 HB1 BX1 BG1; have HI1 := Aside0.mk hI5; have HB1 := Aside0.mk hb5; have BX1 := Aside0.mk nBX; have BG1 := Aside0.mk nBG; have hq0 : w7.cell? ⟨gx, 0, none⟩ = some (.int .i64 x.f0) := (blk_cell BG1.out 0).trans rfl; have hq1 : w7.cell? ⟨gx, 1, none⟩ = some (.int .i64 x.f1) := (blk_cell BG1.out 1).trans rfl; have hq2 : w7.cell? ⟨gx, 2, none⟩ = some (.int .i64 x.f2) := (blk_cell BG1.out 2).trans rfl; have hp0 : w7.cell? ⟨gb, 0, none⟩ = some (.slice A2 op.length c2) := (blk_cell BX1.out 0).trans rfl; have hp1 : w7.cell? ⟨gb, 1, none⟩ = some (.slice A3 cl.length c3) := (blk_cell BX1.out 1).trans rfl; clear nBX nBG hb5 hk5 hI5))
                    go_roundg (l0.length - (kk + 1))
                    case measure => omega
                    case rel => exact ⟨kk + 1, some x, _, _, d1, by go_num, by omega, by omega, ⟨by rw [hrest]; exact HRF.out⟩, ⟨fun h => absurd h (by omega), fun _ => congrArg some HNX.out⟩, ⟨HBK.out.2.1⟩, ⟨HBK.out.1⟩, ⟨by have h_ := HBK.out.2.2.2; have := HS.out; simp at h_ ⊢; omega⟩, ⟨by omega, by omega⟩, ⟨HI1.out.mono (fun _ h => h.1)⟩, BX1, HB1⟩
                · have HCD : Aside0 ((if lastC (begR x st (out ++ [⟨-1, ie.f1, ie.f2⟩])).1 = x.f2 then (0 : Int) else 2) = 2) := ⟨if_neg hq⟩
                  have HRF : Aside0 (r = ([], 2, (kk : Int))) := ⟨by rw [HR3.out, if_neg hq]⟩
                  clear HR3 hq
                  go_wp2_with (first | (go_at_call 30; refine (put_hand (fun k => k ≠ gb ∧ k ≠ gx) g out st 0 (-1) ie _ HI1.out HB1.out (fun k hk => ⟨by have := blk_lt BX1.out; omega, by have := blk_lt BG1.out; omega⟩) (by omega)).mono ?_; rintro e5 w5 ⟨rfl, hI5, hb5, hk5⟩; have nBX := (hk5 gb (blk_lt BX1.out) hgbg (fun h => h.1 rfl)).trans BX1.out; have nBG := (hk5 gx (blk_lt BG1.out) hgxg (fun h => h.2 rfl)).trans BG1.out; clear HI1 HB1 BX1 BG1; have HI1 := Aside0.mk hI5; have HB1 := Aside0.mk hb5; have BX1 := Aside0.mk nBX; have BG1 := Aside0.mk nBG; have hq0 : w5.cell? ⟨gx, 0, none⟩ = some (.int .i64 x.f0) := (blk_cell BG1.out 0).trans rfl; have hq1 : w5.cell? ⟨gx, 1, none⟩ = some (.int .i64 x.f1) := (blk_cell BG1.out 1).trans rfl; have hq2 : w5.cell? ⟨gx, 2, none⟩ = some (.int .i64 x.f2) := (blk_cell BG1.out 2).trans rfl; have hp0 : w5.cell? ⟨gb, 0, none⟩ = some (.slice A2 op.length c2) := (blk_cell BX1.out 0).trans rfl; have hp1 : w5.cell? ⟨gb, 1, none⟩ = some (.slice A3 cl.length c3) := (blk_cell BX1.out 1).trans rfl; clear nBX nBG hb5 hk5 hI5) | (go_at_call 31; refine (begin_eq (fun k => k ≠ gb ∧ k ≠ gx) g (out ++ [⟨-1, ie.f1, ie.f2⟩]) st 0 x _ HI1.out HB1.out (fun k hk => ⟨by have := blk_lt BX1.out; omega, by have := blk_lt BG1.out; omega⟩) HCX.out H1.out H0.out (by first | omega | (simp; omega)) 2 HCD.out).mono ?_; rintro e6 w6 ⟨rfl, hI5, hb5, hk5⟩; have nBX := (hk5 gb (blk_lt BX1.out) hgbg (fun h => h.1 rfl)).trans BX1.out; have nBG := (hk5 gx (blk_lt BG1.out) hgxg (fun h => h.2 rfl)).trans BG1.out; clear HI1 HB1 BX1 BG1; have HI1 := Aside0.mk hI5; have HB1 := Aside0.mk hb5; have BX1 := Aside0.mk nBX; have BG1 := Aside0.mk nBG; have hq0 : w6.cell? ⟨gx, 0, none⟩ = some (.int .i64 x.f0) := (blk_cell BG1.out 0).trans rfl; have hq1 : w6.cell? ⟨gx, 1, none⟩ = some (.int .i64 x.f1) := (blk_cell BG1.out 1).trans rfl; have hq2 : w6.cell? ⟨gx, 2, none⟩ = some (.int .i64 x.f2) := (blk_cell BG1.out 2).trans rfl; have hp0 : w6.cell? ⟨gb, 0, none⟩ = some (.slice A2 op.length c2) := (blk_cell BX1.out 0).trans rfl; have hp1 : w6.cell? ⟨gb, 1, none⟩ = some (.slice A3 cl.length c3) := (blk_cell BX1.out 1).trans rfl; clear nBX nBG hb5 hk5 hI5))
                  go_ret3
                  exact ⟨_, by rw [HRF.out]; rfl, by rw [HRF.out]; exact Kd.R_nil _ _ _ _ _, by repeat (first | (with_reducible exact HB1.out) | apply below_alloc | apply pw_below_drewN | apply below_drew1)⟩
              · have y1 : decide (ie.f1 < x.f1) = false := decide_eq_false hnew
                have HR4 : Aside0 (r = match depR op cl x.f0 0 with | none => ([], 3, (kk : Int)) | some d1 => layR op cl (some x) rest (out ++ [x]) st d1 ((kk : Int) + 1)) := ⟨by rw [HR2]; simp only [layR]; rw [if_neg (fun h => hnew (of_decide_eq_true h.2))]; try rfl⟩
                clear HR2 hz hnew
                go_wp2_with fail
                go_quiet (fail)
                go_wp2_with fail
                obtain ⟨gx, hgxe⟩ : ∃ gx, wr.heap.size = gx := ⟨_, rfl⟩
                replace HI1 := Aside0.mk (HI1.out.drewN nq)
                replace BX1 := Aside0.mk (blk_drewN BX1.out nq)
                replace BG1 := Aside0.mk (blk_drewN BG1.out nq)
                replace HB1 := Aside0.mk (pw_below_drewN HB1.out nq)
                replace hv0 : ((wr.alloc (.cells #[.int .i64 x.f0, .int .i64 x.f1, .int .i64 x.f2] 46)).drewN nq).cell? (ad.add ((kk - 1) * 3)) = some (.int .i64 ie.f0) := hv0
                replace hv1 : ((wr.alloc (.cells #[.int .i64 x.f0, .int .i64 x.f1, .int .i64 x.f2] 46)).drewN nq).cell? ⟨(ad.add ((kk - 1) * 3)).block, (ad.add ((kk - 1) * 3)).off + 1, none⟩ = some (.int .i64 ie.f1) := hv1
                replace hv2 : ((wr.alloc (.cells #[.int .i64 x.f0, .int .i64 x.f1, .int .i64 x.f2] 46)).drewN nq).cell? ⟨(ad.add ((kk - 1) * 3)).block, (ad.add ((kk - 1) * 3)).off + 2, none⟩ = some (.int .i64 ie.f2) := hv2
                clear hd2 ha0 ha1 HI BX HB hx0 hx1 hx2
                generalize hW2 : (wr.alloc (.cells #[.int .i64 x.f0, .int .i64 x.f1, .int .i64 x.f2] 46)).drewN nq = W2 at *
                clear hW2
                simp only [hgxe] at HI1 BG1 hgx ⊢
                have hgbg : gb ≠ g := by omega
                have hgxg : gx ≠ g := by omega
                have hq0 : W2.cell? ⟨gx, 0, none⟩ = some (.int .i64 x.f0) := (blk_cell BG1.out 0).trans rfl
                have hq1 : W2.cell? ⟨gx, 1, none⟩ = some (.int .i64 x.f1) := (blk_cell BG1.out 1).trans rfl
                have hq2 : W2.cell? ⟨gx, 2, none⟩ = some (.int .i64 x.f2) := (blk_cell BG1.out 2).trans rfl
                have hp0 : W2.cell? ⟨gb, 0, none⟩ = some (.slice A2 op.length c2) := (blk_cell BX1.out 0).trans rfl
                have hp1 : W2.cell? ⟨gb, 1, none⟩ = some (.slice A3 cl.length c3) := (blk_cell BX1.out 1).trans rfl
                cases hdep : depR op cl x.f0 0 with
                | none =>
                  have HDEP := Aside0.mk hdep
                  have HRF : Aside0 (r = ([], 3, (kk : Int))) := ⟨by rw [HR4.out, hdep]⟩
                  clear hdep HR4
                  go_wp2_with (go_at_call 32; refine (item_none (fun k => k ≠ gb ∧ k ≠ gx) g out st 0 x A2 A3 c2 c3 op cl _ HI1.out HB1.out (fun k hk => ⟨by have := blk_lt BX1.out; omega, by have := blk_lt BG1.out; omega⟩) ?ha ?hb ?hc CO.out CM.out CC.out CN.out HBR.out HDEP.out).mono ?_; (case ha => first | omega | exact HLN.out); (case hb => omega); (case hc => omega); rintro e7 w7 ⟨rfl, hb5, hk5⟩; have nBX := (hk5 gb (blk_lt BX1.out) hgbg (fun h => h.1 rfl)).trans BX1.out; have nBG := (hk5 gx (blk_lt BG1.out) hgxg (fun h => h.2 rfl)).trans BG1.out; clear HI1 HB1 BX1 BG1; have HB1 := Aside0.mk hb5; have BX1 := Aside0.mk nBX; have BG1 := Aside0.mk nBG; have hq0 : w7.cell? ⟨gx, 0, none⟩ = some (.int .i64 x.f0) := (blk_cell BG1.out 0).trans rfl; have hq1 : w7.cell? ⟨gx, 1, none⟩ = some (.int .i64 x.f1) := (blk_cell BG1.out 1).trans rfl; have hq2 : w7.cell? ⟨gx, 2, none⟩ = some (.int .i64 x.f2) := (blk_cell BG1.out 2).trans rfl; have hp0 : w7.cell? ⟨gb, 0, none⟩ = some (.slice A2 op.length c2) := (blk_cell BX1.out 0).trans rfl; have hp1 : w7.cell? ⟨gb, 1, none⟩ = some (.slice A3 cl.length c3) := (blk_cell BX1.out 1).trans rfl; clear nBX nBG hb5 hk5)
                  go_ret3
                  exact ⟨_, by rw [HRF.out]; rfl, by rw [HRF.out]; exact Kd.R_nil _ _ _ _ _, by repeat (first | (with_reducible exact HB1.out) | apply below_alloc | apply pw_below_drewN | apply below_drew1)⟩
                | some d1 =>
                  have HDEP := Aside0.mk hdep
                  have hb1 := depR_bound (show 0 ≤ 0 by omega) hdep
                  have HRF : Aside0 (r = layR op cl (some x) rest (out ++ [x]) st d1 ((kk : Int) + 1)) := ⟨by rw [HR4.out, hdep]⟩
                  clear hdep HR4
                  go_wp2_with (go_at_call 32; refine (item_some (fun k => k ≠ gb ∧ k ≠ gx) g out st 0 x A2 A3 c2 c3 op cl _ HI1.out HB1.out (fun k hk => ⟨by have := blk_lt BX1.out; omega, by have := blk_lt BG1.out; omega⟩) ?ha ?hb ?hc CO.out CM.out CC.out CN.out HBR.out d1 HDEP.out).mono ?_; (case ha => first | omega | exact HLN.out); (case hb => omega); (case hc => omega); rintro e7 w7 ⟨rfl, hI5, hb5, hk5⟩; have nBX := (hk5 gb (blk_lt BX1.out) hgbg (fun h => h.1 rfl)).trans BX1.out; have nBG := (hk5 gx (blk_lt BG1.out) hgxg (fun h => h.2 rfl)).trans BG1.out; clear HI1 HB1 BX1 BG1; have HI1 := Aside0.mk hI5; have HB1 := Aside0.mk hb5; have BX1 := Aside0.mk nBX; have BG1 := Aside0.mk nBG; have hq0 : w7.cell? ⟨gx, 0, none⟩ = some (.int .i64 x.f0) := (blk_cell BG1.out 0).trans rfl; have hq1 : w7.cell? ⟨gx, 1, none⟩ = some (.int .i64 x.f1) := (blk_cell BG1.out 1).trans rfl; have hq2 : w7.cell? ⟨gx, 2, none⟩ = some (.int .i64 x.f2) := (blk_cell BG1.out 2).trans rfl; have hp0 : w7.cell? ⟨gb, 0, none⟩ = some (.slice A2 op.length c2) := (blk_cell BX1.out 0).trans rfl; have hp1 : w7.cell? ⟨gb, 1, none⟩ = some (.slice A3 cl.length c3) := (blk_cell BX1.out 1).trans rfl; clear nBX nBG hb5 hk5 hI5)
                  go_roundg (l0.length - (kk + 1))
                  case measure => omega
                  case rel => exact ⟨kk + 1, some x, _, _, d1, by go_num, by omega, by omega, ⟨by rw [hrest]; exact HRF.out⟩, ⟨fun h => absurd h (by omega), fun _ => congrArg some HNX.out⟩, H1, H0, ⟨by have := HS.out; simp; omega⟩, ⟨by omega, by omega⟩, ⟨HI1.out.mono (fun _ h => h.1)⟩, BX1, HB1⟩
          · have z0 : (d == 0) = false := beq_eq_false_iff_ne.2 hd
            have HR4 : Aside0 (r = match depR op cl x.f0 d with | none => ([], 3, (kk : Int)) | some d1 => layR op cl (some x) rest (out ++ [x]) st d1 ((kk : Int) + 1)) := ⟨by rw [HR2]; simp only [layR]; rw [if_neg (fun h => hd h.1)]; try rfl⟩
            clear HR2 hd
            go_wp2_with fail
            go_quiet (fail)
            go_wp2_with fail
            obtain ⟨gx, hgxe⟩ : ∃ gx, wr.heap.size = gx := ⟨_, rfl⟩
            replace HI1 := Aside0.mk (HI1.out.drewN nq)
            replace BX1 := Aside0.mk (blk_drewN BX1.out nq)
            replace BG1 := Aside0.mk (blk_drewN BG1.out nq)
            replace HB1 := Aside0.mk (pw_below_drewN HB1.out nq)
            clear hd2 ha0 ha1 HI BX HB hx0 hx1 hx2
            generalize hW2 : (wr.alloc (.cells #[.int .i64 x.f0, .int .i64 x.f1, .int .i64 x.f2] 46)).drewN nq = W2 at *
            clear hW2
            simp only [hgxe] at HI1 BG1 hgx ⊢
            have hgbg : gb ≠ g := by omega
            have hgxg : gx ≠ g := by omega
            have hq0 : W2.cell? ⟨gx, 0, none⟩ = some (.int .i64 x.f0) := (blk_cell BG1.out 0).trans rfl
            have hq1 : W2.cell? ⟨gx, 1, none⟩ = some (.int .i64 x.f1) := (blk_cell BG1.out 1).trans rfl
            have hq2 : W2.cell? ⟨gx, 2, none⟩ = some (.int .i64 x.f2) := (blk_cell BG1.out 2).trans rfl
            have hp0 : W2.cell? ⟨gb, 0, none⟩ = some (.slice A2 op.length c2) := (blk_cell BX1.out 0).trans rfl
            have hp1 : W2.cell? ⟨gb, 1, none⟩ = some (.slice A3 cl.length c3) := (blk_cell BX1.out 1).trans rfl
            cases hdep : depR op cl x.f0 d with
            | none =>
              have HDEP := Aside0.mk hdep
              have HRF : Aside0 (r = ([], 3, (kk : Int))) := ⟨by rw [HR4.out, hdep]⟩
              clear hdep HR4
              go_wp2_with (go_at_call 32; refine (item_none (fun k => k ≠ gb ∧ k ≠ gx) g out st d x A2 A3 c2 c3 op cl _ HI1.out HB1.out (fun k hk => ⟨by have := blk_lt BX1.out; omega, by have := blk_lt BG1.out; omega⟩) ?ha ?hb ?hc CO.out CM.out CC.out CN.out HBR.out HDEP.out).mono ?_; (case ha => first | omega | exact HLN.out); (case hb => omega); (case hc => omega); rintro e7 w7 ⟨rfl, hb5, hk5⟩; have nBX := (hk5 gb (blk_lt BX1.out) hgbg (fun h => h.1 rfl)).trans BX1.out; have nBG := (hk5 gx (blk_lt BG1.out) hgxg (fun h => h.2 rfl)).trans BG1.out; clear HI1 HB1 BX1 BG1; have HB1 := Aside0.mk hb5; have BX1 := Aside0.mk nBX; have BG1 := Aside0.mk nBG; have hq0 : w7.cell? ⟨gx, 0, none⟩ = some (.int .i64 x.f0) := (blk_cell BG1.out 0).trans rfl; have hq1 : w7.cell? ⟨gx, 1, none⟩ = some (.int .i64 x.f1) := (blk_cell BG1.out 1).trans rfl; have hq2 : w7.cell? ⟨gx, 2, none⟩ = some (.int .i64 x.f2) := (blk_cell BG1.out 2).trans rfl; have hp0 : w7.cell? ⟨gb, 0, none⟩ = some (.slice A2 op.length c2) := (blk_cell BX1.out 0).trans rfl; have hp1 : w7.cell? ⟨gb, 1, none⟩ = some (.slice A3 cl.length c3) := (blk_cell BX1.out 1).trans rfl; clear nBX nBG hb5 hk5)
              go_ret3
              exact ⟨_, by rw [HRF.out]; rfl, by rw [HRF.out]; exact Kd.R_nil _ _ _ _ _, by repeat (first | (with_reducible exact HB1.out) | apply below_alloc | apply pw_below_drewN | apply below_drew1)⟩
            | some d1 =>
              have HDEP := Aside0.mk hdep
              have hb1 := depR_bound (show 0 ≤ d by omega) hdep
              have HRF : Aside0 (r = layR op cl (some x) rest (out ++ [x]) st d1 ((kk : Int) + 1)) := ⟨by rw [HR4.out, hdep]⟩
              clear hdep HR4
              go_wp2_with (go_at_call 32; refine (item_some (fun k => k ≠ gb ∧ k ≠ gx) g out st d x A2 A3 c2 c3 op cl _ HI1.out HB1.out (fun k hk => ⟨by have := blk_lt BX1.out; omega, by have := blk_lt BG1.out; omega⟩) ?ha ?hb ?hc CO.out CM.out CC.out CN.out HBR.out d1 HDEP.out).mono ?_; (case ha => first | omega | exact HLN.out); (case hb => omega); (case hc => omega); rintro e7 w7 ⟨rfl, hI5, hb5, hk5⟩; have nBX := (hk5 gb (blk_lt BX1.out) hgbg (fun h => h.1 rfl)).trans BX1.out; have nBG := (hk5 gx (blk_lt BG1.out) hgxg (fun h => h.2 rfl)).trans BG1.out; clear HI1 HB1 BX1 BG1; have HI1 := Aside0.mk hI5; have HB1 := Aside0.mk hb5; have BX1 := Aside0.mk nBX; have BG1 := Aside0.mk nBG; have hq0 : w7.cell? ⟨gx, 0, none⟩ = some (.int .i64 x.f0) := (blk_cell BG1.out 0).trans rfl; have hq1 : w7.cell? ⟨gx, 1, none⟩ = some (.int .i64 x.f1) := (blk_cell BG1.out 1).trans rfl; have hq2 : w7.cell? ⟨gx, 2, none⟩ = some (.int .i64 x.f2) := (blk_cell BG1.out 2).trans rfl; have hp0 : w7.cell? ⟨gb, 0, none⟩ = some (.slice A2 op.length c2) := (blk_cell BX1.out 0).trans rfl; have hp1 : w7.cell? ⟨gb, 1, none⟩ = some (.slice A3 cl.length c3) := (blk_cell BX1.out 1).trans rfl; clear nBX nBG hb5 hk5 hI5)
              go_roundg (l0.length - (kk + 1))
              case measure => omega
              case rel => exact ⟨kk + 1, some x, _, _, d1, by go_num, by omega, by omega, ⟨by rw [hrest]; exact HRF.out⟩, ⟨fun h => absurd h (by omega), fun _ => congrArg some HNX.out⟩, H1, H0, ⟨by have := HS.out; simp; omega⟩, ⟨by omega, by omega⟩, ⟨HI1.out.mono (fun _ h => h.1)⟩, BX1, HB1⟩
        · have hltz : ¬ (kk : Int) < (l0.length : Int) := by omega
          have hk : kk = l0.length := by omega
          have HR2 : r = if d = 0 then (endR p st out, 0, -1) else ([], 4, (l0.length : Int)) := by
            have h := HR.out
            rw [hk, List.drop_length] at h
            exact h
          have hd2 : wr.cell? ⟨g, 2, none⟩ = some (.int .i64 d) := by obtain ⟨v0, v1, hG, _⟩ := HI.out; exact (blk_cell hG 2).trans rfl
          have hd01 := HD.out
          subst hk
          clear HR
          by_cases hd : d = 0
          · subst hd
            rw [if_pos rfl] at HR2
            by_cases hz : l0.length = 0
            · have z1 : decide (0 < (l0.length : Int)) = false := decide_eq_false (by omega)
              have z2 : decide (0 < l0.length) = false := decide_eq_false (by omega)
              have hpn := HP.out.1 hz
              subst hpn
              have HRF : Aside0 (r = (out, 0, -1)) := ⟨HR2⟩
              obtain ⟨v0, v1, hG, hg', hR0, hR1⟩ := HI.out
              have hv0 : wr.cell? ⟨g, 0, none⟩ = some v0 := (blk_cell hG 0).trans rfl
              have HR0 := Aside0.mk hR0
              clear HR2 hG hg' hR0 hR1 hz
              go_wp2_with fail
              go_ret3
              subst hgb
              exact ⟨v0, by rw [HRF.out]; rfl, by rw [HRF.out]; exact Kd.R_mono HR0.out (fun _ _ => trivial), by repeat (first | (with_reducible exact HB.out) | apply below_alloc | apply pw_below_drewN | apply below_drew1)⟩
            · have z1 : decide (0 < (l0.length : Int)) = true := decide_eq_true (by omega)
              have z2 : decide (0 < l0.length) = true := decide_eq_true (by omega)
              have hm : (l0.length : Int) - 1 < (l0.length : Int) := by omega
              have hm0 : 0 ≤ (l0.length : Int) - 1 := by omega
              obtain ⟨ad, rfl, hv0, hv1, hv2⟩ := at_T46 CI.out ((l0.length : Int) - 1) hm0 hm
              rw [show ((l0.length : Int) - 1).toNat = l0.length - 1 by omega] at hv0 hv1 hv2
              replace hv0 := (HB.out.cell (World.block_lt_of_cell? w _ hv0)).trans hv0
              replace hv1 := (HB.out.cell (World.block_lt_of_cell? w _ hv1)).trans hv1
              replace hv2 := (HB.out.cell (World.block_lt_of_cell? w _ hv2)).trans hv2
              have hpe := HP.out.2 (by omega)
              rw [show ((l0.length - 1 : Nat) : Int) = (l0.length : Int) - 1 by omega] at hpe
              generalize rd_T46 l0 ((l0.length : Int) - 1) = ie at *
              subst hpe
              have hwr : IntKind.i64.wrap ((l0.length : Int) - 1) = (l0.length : Int) - 1 := by rw [i64_w]; exact wrap_id (by omega) (by omega)
              have g1 : 1 ≤ (l0.length : Int) := by omega
              have g2 : 1 ≤ l0.length := by omega
              have g3 : 0 < l0.length := by omega
              have g4 := eq_true hm
              have g5 := eq_true hm0
              have HRF : Aside0 (r = (out ++ [⟨-1, ie.f1, ie.f2⟩] ++ List.replicate (st.length - 1) (madeI (-3) ie), 0, -1)) := ⟨HR2⟩
              have hst1 := H1.out
              have hfew := HS.out
              have hws : IntKind.i64.wrap ((st.length : Int) - 1) = (st.length : Int) - 1 := by rw [i64_w]; exact wrap_id (by omega) (by omega)
              have hgx : g < wr.heap.size := by obtain ⟨v0, v1, hG, _⟩ := HI.out; exact blk_lt hG
              obtain ⟨gx, hgxe⟩ : ∃ gx, wr.heap.size = gx := ⟨_, rfl⟩
              have HI1 : Aside0 (LyS w (wr.alloc (.cells #[.int .i64 ie.f0, .int .i64 ie.f1, .int .i64 ie.f2] 46)) (fun k => k ≠ gb ∧ k ≠ gx) g out st 0) := ⟨by rw [← hgxe]; exact HI.out.alloc (.cells #[.int .i64 ie.f0, .int .i64 ie.f1, .int .i64 ie.f2] 46)⟩
              have BG1 : Aside0 ((wr.alloc (.cells #[.int .i64 ie.f0, .int .i64 ie.f1, .int .i64 ie.f2] 46)).heap[gx]? = some (.cells #[.int .i64 ie.f0, .int .i64 ie.f1, .int .i64 ie.f2] 46 (0, 0))) := ⟨by rw [← hgxe]; exact blk_new wr _⟩
              have HB1 := Aside0.mk (below_alloc HB.out (.cells #[.int .i64 ie.f0, .int .i64 ie.f1, .int .i64 ie.f2] 46))
              have hgxg : gx ≠ g := by omega
              have hgbx : gb < gx := by omega
              have SX : Aside0 (gx < (wr.alloc (.cells #[.int .i64 ie.f0, .int .i64 ie.f1, .int .i64 ie.f2] 46)).heap.size) := ⟨blk_lt BG1.out⟩
              have HFF : Aside0 (∀ k, (wr.alloc (.cells #[.int .i64 ie.f0, .int .i64 ie.f1, .int .i64 ie.f2] 46)).heap.size ≤ k → k ≠ gb ∧ k ≠ gx) := ⟨fun k hk => by have := SX.out; omega⟩
              have hc0 : (wr.alloc (.cells #[.int .i64 ie.f0, .int .i64 ie.f1, .int .i64 ie.f2] 46)).cell? ⟨gx, 0, none⟩ = some (.int .i64 ie.f0) := (blk_cell BG1.out 0).trans rfl
              clear HR2 hz HI BX
              go_wp2_with (go_at_call 30; refine (put_hand (fun k => k ≠ gb ∧ k ≠ gx) g out st 0 (-1) ie _ HI1.out HB1.out HFF.out (by omega)).mono ?_; rintro e5 w5 ⟨rfl, hI5, hb5, hk5⟩; have nBG := (hk5 gx (by have := SX.out; omega) hgxg (fun h => h.2 rfl)).trans BG1.out; obtain ⟨u0, u1, hG5, hg5, hR5, hS5⟩ := hI5; obtain ⟨A5, c5, rfl⟩ := Kd.R_slice hS5; have hs1 : w5.cell? ⟨g, 1, none⟩ = some (.slice A5 st.length c5) := (blk_cell hG5 1).trans rfl; have HI5 := Aside0.mk (⟨u0, _, hG5, hg5, hR5, hS5⟩ : LyS w w5 (fun k => k ≠ gb ∧ k ≠ gx) g (out ++ [⟨-1, ie.f1, ie.f2⟩]) st 0); have HB5 := Aside0.mk hb5; have BG5 := Aside0.mk nBG; have hq0 : w5.cell? ⟨gx, 0, none⟩ = some (.int .i64 ie.f0) := (blk_cell nBG 0).trans rfl; have hq1 : w5.cell? ⟨gx, 1, none⟩ = some (.int .i64 ie.f1) := (blk_cell nBG 1).trans rfl; have hq2 : w5.cell? ⟨gx, 2, none⟩ = some (.int .i64 ie.f2) := (blk_cell nBG 2).trans rfl; clear nBG hb5 hk5 hG5 hg5 hR5 hS5)
              go_loopg [98] st.length (fun gg v98 wr2 => ∃ j : Nat, v98 = .int .i64 j ∧ j ≤ st.length - 1 ∧ st.length - 1 - j ≤ gg ∧ Aside0 (LyS w wr2 (fun k => k ≠ gb ∧ k ≠ gx) g (out ++ [⟨-1, ie.f1, ie.f2⟩] ++ List.replicate j (madeI (-3) ie)) st 0) ∧ Aside0 (wr2.heap[gx]? = some (.cells #[.int .i64 ie.f0, .int .i64 ie.f1, .int .i64 ie.f2] 46 (0, 0))) ∧ Aside0 (Below w.heap.size w wr2))
              case atStart => exact ⟨0, rfl, Nat.zero_le _, by omega, ⟨by rw [List.replicate_zero, List.append_nil]; exact HI5.out⟩, BG5, HB5⟩
              case round =>
                clear HI5 BG5 HB5 hq0 hq1 hq2 hs1 HI1 BG1 HB1
                obtain ⟨j, rfl, hj, hjg, HI6, BG6, HB6⟩ := hrel
                have hq0 : wr.cell? ⟨gx, 0, none⟩ = some (.int .i64 ie.f0) := (blk_cell BG6.out 0).trans rfl
                have hq1 : wr.cell? ⟨gx, 1, none⟩ = some (.int .i64 ie.f1) := (blk_cell BG6.out 1).trans rfl
                have hq2 : wr.cell? ⟨gx, 2, none⟩ = some (.int .i64 ie.f2) := (blk_cell BG6.out 2).trans rfl
                by_cases hjl : j < st.length - 1
                · have hjz : (j : Int) < (st.length : Int) - 1 := by omega
                  have hjd : decide ((j : Int) < (st.length : Int) - 1) = true := decide_eq_true hjz
                  have hjt := eq_true hjz
                  go_wp2_with (go_at_call 30; refine (put_hand (fun k => k ≠ gb ∧ k ≠ gx) g (out ++ [⟨-1, ie.f1, ie.f2⟩] ++ List.replicate j (madeI (-3) ie)) st 0 (-3) ie _ HI6.out HB6.out (fun k hk => by have := blk_lt BG6.out; omega) (by simp; omega)).mono ?_; rintro e7 w7 ⟨rfl, hI7, hb7, hk7⟩)
                  go_roundg (st.length - 1 - (j + 1))
                  case measure => omega
                  case rel => exact ⟨j + 1, by go_num, by omega, by omega, ⟨by rw [List.replicate_succ', ← List.append_assoc]; exact hI7⟩, ⟨(hk7 gx (blk_lt BG6.out) hgxg (fun h => h.2 rfl)).trans BG6.out⟩, ⟨hb7⟩⟩
                · have hjz : ¬ (j : Int) < (st.length : Int) - 1 := by omega
                  have hjd : decide ((j : Int) < (st.length : Int) - 1) = false := decide_eq_false hjz
                  have hjf := eq_false hjz
                  have hje : j = st.length - 1 := by omega
                  obtain ⟨v0, v1, hG, hg', hR0, hR1⟩ := HI6.out
                  have hv0' : wr.cell? ⟨g, 0, none⟩ = some v0 := (blk_cell hG 0).trans rfl
                  have HR0 := Aside0.mk hR0
                  have HJE := Aside0.mk hje
                  clear hG hg' hR0 hR1 hje
                  go_wp2_with fail
                  go_ret3
                  subst hgb
                  exact ⟨v0, by rw [HRF.out]; rfl, by rw [HRF.out, ← HJE.out]; exact Kd.R_mono HR0.out (fun _ _ => trivial), by repeat (first | (with_reducible exact HB6.out) | apply below_alloc | apply pw_below_drewN | apply below_drew1)⟩
          · have z1 : decide (0 < d) = true := decide_eq_true (by omega)
            rw [if_neg hd] at HR2
            have HRF : Aside0 (r = ([], 4, (l0.length : Int))) := ⟨HR2⟩
            clear HR2 hd
            go_wp2_with (go_at_call 33; refine (impl_Item_33.calls A0 c0 l0 (l0.length : Int) _ (Kd.C_below CI.out (by repeat (first | (with_reducible exact HB.out) | apply below_alloc | apply pw_below_drewN | apply below_drew1))) CL.out rfl).mono ?_; rintro e w9 ⟨rfl, ⟨nd, rfl⟩⟩)
            go_ret3
            subst hgb
            exact ⟨_, by rw [HRF.out]; rfl, by rw [HRF.out]; exact Kd.R_nil _ _ _ _ _, by repeat (first | (with_reducible exact HB.out) | apply below_alloc | apply pw_below_drewN | apply below_drew1)⟩
end Go.Proofs.Ytlbjdpahhgokkaa.P
-- Made by wip/gen/pp.py of this session over the kit's print of the loaded program: a function, and the contract of its walk. Lean checks it.
namespace Go.Proofs.Ytlbjdpahhgokkaa.P
open Go.RowKit Go.Proofs.YtlbjdpahhgokkaaW.PrintWords Go.Proofs.YtlbjdpahhgokkaaW.PrintLast Go.Proofs.YtlbjdpahhgokkaaW.PrintMore
attribute [local go_sem] max2_int min2_int max_two min_two max_three min_three max_four min_four   -- for this text's walks alone
set_option linter.unusedVariables false
set_option linter.unusedSimpArgs false

/-! ### impl_Layout: function 10 -/
def impl_Layout.f (l0 : List (S46)) (l1_0 : List Int) (l1_1 : List Int) : Option ((List (S46)) × Int × Int) := if l0.length ≤ 1048576 ∧ l1_0.length ≤ 1048576 ∧ l1_1.length ≤ 1048576 then some (layB l0 l1_0 l1_1) else none
theorem impl_Layout.calls (A0 : Option Addr) (c0 : Nat) (l0 : List (S46)) (A1_0 : Option Addr) (c1_0 : Nat) (l1_0 : List Int) (A1_1 : Option Addr) (c1_1 : Nat) (l1_1 : List Int) (r1 : List (S46)) (r2 : Int) (r3 : Int) (w : World) (hr0 : Kd.C k46 w A0 l0.length l0) (hc0 : l0.length ≤ c0) (hr1_0 : Kd.C (Kd.int .i64) w A1_0 l1_0.length l1_0) (hc1_0 : l1_0.length ≤ c1_0) (hr1_1 : Kd.C (Kd.int .i64) w A1_1 l1_1.length l1_1) (hc1_1 : l1_1.length ≤ c1_1) (h : impl_Layout.f l0 l1_0 l1_1 = some (r1, r2, r3)) :
    Calls Try.prog 10 #[.slice A0 l0.length c0, .agg #[.slice A1_0 l1_0.length c1_0, .slice A1_1 l1_1.length c1_1]] w fun e w' => ∃ v0_ : Value, e = .returned (.tuple #[v0_, .int .i64 r2, .int .i64 r3]) ∧ Kd.R k46 46 w' w.heap.size (fun _ => True) v0_ r1 ∧ Below w.heap.size w w' := by
  unfold impl_Layout.f at h
  by_cases hp : l0.length ≤ 1048576 ∧ l1_0.length ≤ 1048576 ∧ l1_1.length ≤ 1048576
  · rw [if_pos hp] at h
    have hq := Option.some.inj h
    have := layout_hand A0 c0 l0 A1_0 c1_0 l1_0 A1_1 c1_1 l1_1 w hp.1 hr0 hc0 hr1_0 hc1_0 hr1_1 hc1_1
    rw [hq] at this
    exact this
  · rw [if_neg hp] at h
    exact absurd h (by simp)

end Go.Proofs.Ytlbjdpahhgokkaa.P
-- Made by wip/gen/pp.py of this session over the kit's print of the loaded program: a function, and the contract of its walk. Lean checks it.
namespace Go.Proofs.Ytlbjdpahhgokkaa.P
open Go.RowKit Go.Proofs.YtlbjdpahhgokkaaW.PrintWords Go.Proofs.YtlbjdpahhgokkaaW.PrintLast Go.Proofs.YtlbjdpahhgokkaaW.PrintMore
attribute [local go_sem] max2_int min2_int max_two min_two max_three min_three max_four min_four   -- for this text's walks alone
set_option linter.unusedVariables false
set_option linter.unusedSimpArgs false

/-! ### laws_eqItem: function 34 -/
def laws_eqItem.f (a0_0 : Int) (a0_1 : Int) (a0_2 : Int) (a1_0 : Int) (a1_1 : Int) (a1_2 : Int) : Option (Bool) := if a0_0 = a1_0 then (if a0_1 = a1_1 then (if a0_2 = a1_2 then (some true) else (some false)) else (some false)) else (some false)
set_option maxHeartbeats 8000000 in
set_option maxRecDepth 100000 in
theorem laws_eqItem.calls (a0_0 : Int) (a0_1 : Int) (a0_2 : Int) (a1_0 : Int) (a1_1 : Int) (a1_2 : Int) (r : Bool) (w : World) (h : laws_eqItem.f a0_0 a0_1 a0_2 a1_0 a1_1 a1_2 = some r) :
  Calls Try.prog 34 #[.agg #[.int .i64 a0_0, .int .i64 a0_1, .int .i64 a0_2], .agg #[.int .i64 a1_0, .int .i64 a1_1, .int .i64 a1_2]] w fun e w' => e = .returned (.bool r) ∧ Below w.heap.size w w' := by
 have hu46 := Try.underlying46
 have HB := Aside0.mk (Below.refl w.heap.size w)
 have H : (if a0_0 = a1_0 then (if a0_1 = a1_1 then (if a0_2 = a1_2 then (some true) else (some false)) else (some false)) else (some false)) = some r := h
 clear h
 by_cases c3 : a0_0 = a1_0
 ·rw [if_pos c3] at H
  have c3b0 : (a0_0 == a1_0) = true := beq_iff_eq.mpr c3
  have c3b1 : (a0_0 != a1_0) = false := bne_eq_false_iff_eq.mpr c3
  clear c3
  by_cases c4 : a0_1 = a1_1
  ·rw [if_pos c4] at H
   have c4b0 : (a0_1 == a1_1) = true := beq_iff_eq.mpr c4
   have c4b1 : (a0_1 != a1_1) = false := bne_eq_false_iff_eq.mpr c4
   clear c4
   by_cases c5 : a0_2 = a1_2
   ·rw [if_pos c5] at H
    have c5b0 : (a0_2 == a1_2) = true := beq_iff_eq.mpr c5
    have c5b1 : (a0_2 != a1_2) = false := bne_eq_false_iff_eq.mpr c5
    clear c5
    obtain rfl := Option.some.inj H
    go_enter Try.func34, Try.ntmps34
    go_wp2_with (first | ((with_reducible refine gate_dst (N := 2) rfl ?_); refine box_event ?hg (N := 2) ?hd (cs := #[.int .i64 a0_0, .int .i64 a0_1, .int .i64 a0_2]) (t := 46) ?hr ?_; (case hd => rfl); (case hg => rfl); (case hr => first | (go_simp; done) | (go_simp; rfl)); intro gb101 hg w6 hbox hb; have n0_ := Aside0.mk (below_step (by repeat (first | (with_reducible first | exact HB.out | apply below_alloc | apply pw_below_drewN | apply below_drew1) | exact HB.out)) hb); have n1_ := Aside0.mk (hbox); have n2_ := Aside0.mk ((by rw [hg]; exact (below_size (by repeat (first | (with_reducible first | exact HB.out | apply below_alloc | apply pw_below_drewN | apply below_drew1) | exact HB.out))) : w.heap.size ≤ gb101)); have n3_ := Aside0.mk ((by rw [hg]; exact (below_size (by repeat (first | (with_reducible first | exact HB.out | apply below_alloc | apply pw_below_drewN | apply below_drew1) | exact HB.out))) : w.heap.size ≤ gb101)); clear HB; have HB := n0_; have BK101 := n1_; have GW101 := n2_; have GE101 := n3_; clear n0_ n1_ n2_ n3_; clear hb hbox hg) | ((with_reducible refine gate_dst (N := 3) rfl ?_); refine box_event ?hg (N := 3) ?hd (cs := #[.int .i64 a1_0, .int .i64 a1_1, .int .i64 a1_2]) (t := 46) ?hr ?_; (case hd => rfl); (case hg => rfl); (case hr => first | (go_simp; done) | (go_simp; rfl)); intro gb102 hg w7 hbox hb; have n0_ := Aside0.mk (blk_below (g := gb101) (o := .cells #[.int .i64 a0_0, .int .i64 a0_1, .int .i64 a0_2] 46 (0, 0)) (by (with_reducible repeat (first | refine blk_drewN ?_ _ | refine blk_drew ?_ | refine blk_alloc ?_ _)); exact BK101.out) hb); have n1_ := Aside0.mk (below_step (by repeat (first | (with_reducible first | exact HB.out | apply below_alloc | apply pw_below_drewN | apply below_drew1 | refine below_set ?_ GE101.out) | exact HB.out)) hb); have n2_ := Aside0.mk (hbox); have n3_ := Aside0.mk ((by rw [hg]; exact (below_size (by repeat (first | (with_reducible first | exact HB.out | apply below_alloc | apply pw_below_drewN | apply below_drew1 | refine below_set ?_ GE101.out) | exact HB.out))) : w.heap.size ≤ gb102)); have n4_ := Aside0.mk ((by rw [hg]; exact (below_size (by repeat (first | (with_reducible first | exact HB.out | apply below_alloc | apply pw_below_drewN | apply below_drew1 | refine below_set ?_ GE101.out) | exact HB.out))) : w.heap.size ≤ gb102)); have n5_ := Aside0.mk ((by rw [hg]; exact Nat.ne_of_lt (blk_lt (g := gb101) (o := .cells #[.int .i64 a0_0, .int .i64 a0_1, .int .i64 a0_2] 46 (0, 0)) (by (with_reducible repeat (first | refine blk_drewN ?_ _ | refine blk_drew ?_ | refine blk_alloc ?_ _)); exact BK101.out)) : gb101 ≠ gb102)); have n6_ := Aside0.mk ((by rw [hg]; exact Nat.ne_of_gt (blk_lt (g := gb101) (o := .cells #[.int .i64 a0_0, .int .i64 a0_1, .int .i64 a0_2] 46 (0, 0)) (by (with_reducible repeat (first | refine blk_drewN ?_ _ | refine blk_drew ?_ | refine blk_alloc ?_ _)); exact BK101.out)) : gb102 ≠ gb101)); clear BK101; clear HB; have BK101 := n0_; have HB := n1_; have BK102 := n2_; have GW102 := n3_; have GE102 := n4_; have NB101_102 := n5_; have NB102_101 := n6_; clear n0_ n1_ n2_ n3_ n4_ n5_ n6_; clear hb hbox hg; have hnb8 := NB101_102.out; have hnc8 := NB102_101.out; have hcz9_0 : w7.cell? ⟨gb101, 0, none⟩ = some (.int .i64 a0_0) := (blk_cell BK101.out 0).trans rfl; have hcz9_1 : w7.cell? ⟨gb101, 1, none⟩ = some (.int .i64 a0_1) := (blk_cell BK101.out 1).trans rfl; have hcz9_2 : w7.cell? ⟨gb101, 2, none⟩ = some (.int .i64 a0_2) := (blk_cell BK101.out 2).trans rfl; have hfz9_0 := blk_frozen BK101.out 0; have hfz9_1 := blk_frozen BK101.out 1; have hfz9_2 := blk_frozen BK101.out 2; have hcz10_0 : w7.cell? ⟨gb102, 0, none⟩ = some (.int .i64 a1_0) := (blk_cell BK102.out 0).trans rfl; have hcz10_1 : w7.cell? ⟨gb102, 1, none⟩ = some (.int .i64 a1_1) := (blk_cell BK102.out 1).trans rfl; have hcz10_2 : w7.cell? ⟨gb102, 2, none⟩ = some (.int .i64 a1_2) := (blk_cell BK102.out 2).trans rfl; have hfz10_0 := blk_frozen BK102.out 0; have hfz10_1 := blk_frozen BK102.out 1; have hfz10_2 := blk_frozen BK102.out 2))
    go_ret
    exact ⟨by first | rfl | (simp [errW_none, errW_some] <;> rfl) | (simp [*, errW_none, errW_some] <;> rfl), by repeat (first | (with_reducible first | exact HB.out | apply below_alloc | apply pw_below_drewN | apply below_drew1 | refine below_set ?_ GE101.out | refine below_set ?_ GE102.out) | exact HB.out)⟩
   ·rw [if_neg c5] at H
    have c5b0 : (a0_2 == a1_2) = false := beq_eq_false_iff_ne.mpr c5
    have c5b1 : (a0_2 != a1_2) = true := bne_iff_ne.mpr c5
    obtain rfl := Option.some.inj H
    go_enter Try.func34, Try.ntmps34
    go_wp2_with (first | ((with_reducible refine gate_dst (N := 2) rfl ?_); refine box_event ?hg (N := 2) ?hd (cs := #[.int .i64 a0_0, .int .i64 a0_1, .int .i64 a0_2]) (t := 46) ?hr ?_; (case hd => rfl); (case hg => rfl); (case hr => first | (go_simp; done) | (go_simp; rfl)); intro gb101 hg w11 hbox hb; have n0_ := Aside0.mk (below_step (by repeat (first | (with_reducible first | exact HB.out | apply below_alloc | apply pw_below_drewN | apply below_drew1) | exact HB.out)) hb); have n1_ := Aside0.mk (hbox); have n2_ := Aside0.mk ((by rw [hg]; exact (below_size (by repeat (first | (with_reducible first | exact HB.out | apply below_alloc | apply pw_below_drewN | apply below_drew1) | exact HB.out))) : w.heap.size ≤ gb101)); have n3_ := Aside0.mk ((by rw [hg]; exact (below_size (by repeat (first | (with_reducible first | exact HB.out | apply below_alloc | apply pw_below_drewN | apply below_drew1) | exact HB.out))) : w.heap.size ≤ gb101)); clear HB; have HB := n0_; have BK101 := n1_; have GW101 := n2_; have GE101 := n3_; clear n0_ n1_ n2_ n3_; clear hb hbox hg) | ((with_reducible refine gate_dst (N := 3) rfl ?_); refine box_event ?hg (N := 3) ?hd (cs := #[.int .i64 a1_0, .int .i64 a1_1, .int .i64 a1_2]) (t := 46) ?hr ?_; (case hd => rfl); (case hg => rfl); (case hr => first | (go_simp; done) | (go_simp; rfl)); intro gb102 hg w12 hbox hb; have n0_ := Aside0.mk (blk_below (g := gb101) (o := .cells #[.int .i64 a0_0, .int .i64 a0_1, .int .i64 a0_2] 46 (0, 0)) (by (with_reducible repeat (first | refine blk_drewN ?_ _ | refine blk_drew ?_ | refine blk_alloc ?_ _)); exact BK101.out) hb); have n1_ := Aside0.mk (below_step (by repeat (first | (with_reducible first | exact HB.out | apply below_alloc | apply pw_below_drewN | apply below_drew1 | refine below_set ?_ GE101.out) | exact HB.out)) hb); have n2_ := Aside0.mk (hbox); have n3_ := Aside0.mk ((by rw [hg]; exact (below_size (by repeat (first | (with_reducible first | exact HB.out | apply below_alloc | apply pw_below_drewN | apply below_drew1 | refine below_set ?_ GE101.out) | exact HB.out))) : w.heap.size ≤ gb102)); have n4_ := Aside0.mk ((by rw [hg]; exact (below_size (by repeat (first | (with_reducible first | exact HB.out | apply below_alloc | apply pw_below_drewN | apply below_drew1 | refine below_set ?_ GE101.out) | exact HB.out))) : w.heap.size ≤ gb102)); have n5_ := Aside0.mk ((by rw [hg]; exact Nat.ne_of_lt (blk_lt (g := gb101) (o := .cells #[.int .i64 a0_0, .int .i64 a0_1, .int .i64 a0_2] 46 (0, 0)) (by (with_reducible repeat (first | refine blk_drewN ?_ _ | refine blk_drew ?_ | refine blk_alloc ?_ _)); exact BK101.out)) : gb101 ≠ gb102)); have n6_ := Aside0.mk ((by rw [hg]; exact Nat.ne_of_gt (blk_lt (g := gb101) (o := .cells #[.int .i64 a0_0, .int .i64 a0_1, .int .i64 a0_2] 46 (0, 0)) (by (with_reducible repeat (first | refine blk_drewN ?_ _ | refine blk_drew ?_ | refine blk_alloc ?_ _)); exact BK101.out)) : gb102 ≠ gb101)); clear BK101; clear HB; have BK101 := n0_; have HB := n1_; have BK102 := n2_; have GW102 := n3_; have GE102 := n4_; have NB101_102 := n5_; have NB102_101 := n6_; clear n0_ n1_ n2_ n3_ n4_ n5_ n6_; clear hb hbox hg; have hnb13 := NB101_102.out; have hnc13 := NB102_101.out; have hcz14_0 : w12.cell? ⟨gb101, 0, none⟩ = some (.int .i64 a0_0) := (blk_cell BK101.out 0).trans rfl; have hcz14_1 : w12.cell? ⟨gb101, 1, none⟩ = some (.int .i64 a0_1) := (blk_cell BK101.out 1).trans rfl; have hcz14_2 : w12.cell? ⟨gb101, 2, none⟩ = some (.int .i64 a0_2) := (blk_cell BK101.out 2).trans rfl; have hfz14_0 := blk_frozen BK101.out 0; have hfz14_1 := blk_frozen BK101.out 1; have hfz14_2 := blk_frozen BK101.out 2; have hcz15_0 : w12.cell? ⟨gb102, 0, none⟩ = some (.int .i64 a1_0) := (blk_cell BK102.out 0).trans rfl; have hcz15_1 : w12.cell? ⟨gb102, 1, none⟩ = some (.int .i64 a1_1) := (blk_cell BK102.out 1).trans rfl; have hcz15_2 : w12.cell? ⟨gb102, 2, none⟩ = some (.int .i64 a1_2) := (blk_cell BK102.out 2).trans rfl; have hfz15_0 := blk_frozen BK102.out 0; have hfz15_1 := blk_frozen BK102.out 1; have hfz15_2 := blk_frozen BK102.out 2))
    go_ret
    exact ⟨by first | rfl | (simp [errW_none, errW_some] <;> rfl) | (simp [*, errW_none, errW_some] <;> rfl), by repeat (first | (with_reducible first | exact HB.out | apply below_alloc | apply pw_below_drewN | apply below_drew1 | refine below_set ?_ GE101.out | refine below_set ?_ GE102.out) | exact HB.out)⟩
  ·rw [if_neg c4] at H
   have c4b0 : (a0_1 == a1_1) = false := beq_eq_false_iff_ne.mpr c4
   have c4b1 : (a0_1 != a1_1) = true := bne_iff_ne.mpr c4
   obtain rfl := Option.some.inj H
   go_enter Try.func34, Try.ntmps34
   go_wp2_with (first | ((with_reducible refine gate_dst (N := 2) rfl ?_); refine box_event ?hg (N := 2) ?hd (cs := #[.int .i64 a0_0, .int .i64 a0_1, .int .i64 a0_2]) (t := 46) ?hr ?_; (case hd => rfl); (case hg => rfl); (case hr => first | (go_simp; done) | (go_simp; rfl)); intro gb101 hg w16 hbox hb; have n0_ := Aside0.mk (below_step (by repeat (first | (with_reducible first | exact HB.out | apply below_alloc | apply pw_below_drewN | apply below_drew1) | exact HB.out)) hb); have n1_ := Aside0.mk (hbox); have n2_ := Aside0.mk ((by rw [hg]; exact (below_size (by repeat (first | (with_reducible first | exact HB.out | apply below_alloc | apply pw_below_drewN | apply below_drew1) | exact HB.out))) : w.heap.size ≤ gb101)); have n3_ := Aside0.mk ((by rw [hg]; exact (below_size (by repeat (first | (with_reducible first | exact HB.out | apply below_alloc | apply pw_below_drewN | apply below_drew1) | exact HB.out))) : w.heap.size ≤ gb101)); clear HB; have HB := n0_; have BK101 := n1_; have GW101 := n2_; have GE101 := n3_; clear n0_ n1_ n2_ n3_; clear hb hbox hg) | ((with_reducible refine gate_dst (N := 3) rfl ?_); refine box_event ?hg (N := 3) ?hd (cs := #[.int .i64 a1_0, .int .i64 a1_1, .int .i64 a1_2]) (t := 46) ?hr ?_; (case hd => rfl); (case hg => rfl); (case hr => first | (go_simp; done) | (go_simp; rfl)); intro gb102 hg w17 hbox hb; have n0_ := Aside0.mk (blk_below (g := gb101) (o := .cells #[.int .i64 a0_0, .int .i64 a0_1, .int .i64 a0_2] 46 (0, 0)) (by (with_reducible repeat (first | refine blk_drewN ?_ _ | refine blk_drew ?_ | refine blk_alloc ?_ _)); exact BK101.out) hb); have n1_ := Aside0.mk (below_step (by repeat (first | (with_reducible first | exact HB.out | apply below_alloc | apply pw_below_drewN | apply below_drew1 | refine below_set ?_ GE101.out) | exact HB.out)) hb); have n2_ := Aside0.mk (hbox); have n3_ := Aside0.mk ((by rw [hg]; exact (below_size (by repeat (first | (with_reducible first | exact HB.out | apply below_alloc | apply pw_below_drewN | apply below_drew1 | refine below_set ?_ GE101.out) | exact HB.out))) : w.heap.size ≤ gb102)); have n4_ := Aside0.mk ((by rw [hg]; exact (below_size (by repeat (first | (with_reducible first | exact HB.out | apply below_alloc | apply pw_below_drewN | apply below_drew1 | refine below_set ?_ GE101.out) | exact HB.out))) : w.heap.size ≤ gb102)); have n5_ := Aside0.mk ((by rw [hg]; exact Nat.ne_of_lt (blk_lt (g := gb101) (o := .cells #[.int .i64 a0_0, .int .i64 a0_1, .int .i64 a0_2] 46 (0, 0)) (by (with_reducible repeat (first | refine blk_drewN ?_ _ | refine blk_drew ?_ | refine blk_alloc ?_ _)); exact BK101.out)) : gb101 ≠ gb102)); have n6_ := Aside0.mk ((by rw [hg]; exact Nat.ne_of_gt (blk_lt (g := gb101) (o := .cells #[.int .i64 a0_0, .int .i64 a0_1, .int .i64 a0_2] 46 (0, 0)) (by (with_reducible repeat (first | refine blk_drewN ?_ _ | refine blk_drew ?_ | refine blk_alloc ?_ _)); exact BK101.out)) : gb102 ≠ gb101)); clear BK101; clear HB; have BK101 := n0_; have HB := n1_; have BK102 := n2_; have GW102 := n3_; have GE102 := n4_; have NB101_102 := n5_; have NB102_101 := n6_; clear n0_ n1_ n2_ n3_ n4_ n5_ n6_; clear hb hbox hg; have hnb18 := NB101_102.out; have hnc18 := NB102_101.out; have hcz19_0 : w17.cell? ⟨gb101, 0, none⟩ = some (.int .i64 a0_0) := (blk_cell BK101.out 0).trans rfl; have hcz19_1 : w17.cell? ⟨gb101, 1, none⟩ = some (.int .i64 a0_1) := (blk_cell BK101.out 1).trans rfl; have hcz19_2 : w17.cell? ⟨gb101, 2, none⟩ = some (.int .i64 a0_2) := (blk_cell BK101.out 2).trans rfl; have hfz19_0 := blk_frozen BK101.out 0; have hfz19_1 := blk_frozen BK101.out 1; have hfz19_2 := blk_frozen BK101.out 2; have hcz20_0 : w17.cell? ⟨gb102, 0, none⟩ = some (.int .i64 a1_0) := (blk_cell BK102.out 0).trans rfl; have hcz20_1 : w17.cell? ⟨gb102, 1, none⟩ = some (.int .i64 a1_1) := (blk_cell BK102.out 1).trans rfl; have hcz20_2 : w17.cell? ⟨gb102, 2, none⟩ = some (.int .i64 a1_2) := (blk_cell BK102.out 2).trans rfl; have hfz20_0 := blk_frozen BK102.out 0; have hfz20_1 := blk_frozen BK102.out 1; have hfz20_2 := blk_frozen BK102.out 2))
   go_ret
   exact ⟨by first | rfl | (simp [errW_none, errW_some] <;> rfl) | (simp [*, errW_none, errW_some] <;> rfl), by repeat (first | (with_reducible first | exact HB.out | apply below_alloc | apply pw_below_drewN | apply below_drew1 | refine below_set ?_ GE101.out | refine below_set ?_ GE102.out) | exact HB.out)⟩
 ·rw [if_neg c3] at H
  have c3b0 : (a0_0 == a1_0) = false := beq_eq_false_iff_ne.mpr c3
  have c3b1 : (a0_0 != a1_0) = true := bne_iff_ne.mpr c3
  obtain rfl := Option.some.inj H
  go_enter Try.func34, Try.ntmps34
  go_wp2_with (first | ((with_reducible refine gate_dst (N := 2) rfl ?_); refine box_event ?hg (N := 2) ?hd (cs := #[.int .i64 a0_0, .int .i64 a0_1, .int .i64 a0_2]) (t := 46) ?hr ?_; (case hd => rfl); (case hg => rfl); (case hr => first | (go_simp; done) | (go_simp; rfl)); intro gb101 hg w21 hbox hb; have n0_ := Aside0.mk (below_step (by repeat (first | (with_reducible first | exact HB.out | apply below_alloc | apply pw_below_drewN | apply below_drew1) | exact HB.out)) hb); have n1_ := Aside0.mk (hbox); have n2_ := Aside0.mk ((by rw [hg]; exact (below_size (by repeat (first | (with_reducible first | exact HB.out | apply below_alloc | apply pw_below_drewN | apply below_drew1) | exact HB.out))) : w.heap.size ≤ gb101)); have n3_ := Aside0.mk ((by rw [hg]; exact (below_size (by repeat (first | (with_reducible first | exact HB.out | apply below_alloc | apply pw_below_drewN | apply below_drew1) | exact HB.out))) : w.heap.size ≤ gb101)); clear HB; have HB := n0_; have BK101 := n1_; have GW101 := n2_; have GE101 := n3_; clear n0_ n1_ n2_ n3_; clear hb hbox hg) | ((with_reducible refine gate_dst (N := 3) rfl ?_); refine box_event ?hg (N := 3) ?hd (cs := #[.int .i64 a1_0, .int .i64 a1_1, .int .i64 a1_2]) (t := 46) ?hr ?_; (case hd => rfl); (case hg => rfl); (case hr => first | (go_simp; done) | (go_simp; rfl)); intro gb102 hg w22 hbox hb; have n0_ := Aside0.mk (blk_below (g := gb101) (o := .cells #[.int .i64 a0_0, .int .i64 a0_1, .int .i64 a0_2] 46 (0, 0)) (by (with_reducible repeat (first | refine blk_drewN ?_ _ | refine blk_drew ?_ | refine blk_alloc ?_ _)); exact BK101.out) hb); have n1_ := Aside0.mk (below_step (by repeat (first | (with_reducible first | exact HB.out | apply below_alloc | apply pw_below_drewN | apply below_drew1 | refine below_set ?_ GE101.out) | exact HB.out)) hb); have n2_ := Aside0.mk (hbox); have n3_ := Aside0.mk ((by rw [hg]; exact (below_size (by repeat (first | (with_reducible first | exact HB.out | apply below_alloc | apply pw_below_drewN | apply below_drew1 | refine below_set ?_ GE101.out) | exact HB.out))) : w.heap.size ≤ gb102)); have n4_ := Aside0.mk ((by rw [hg]; exact (below_size (by repeat (first | (with_reducible first | exact HB.out | apply below_alloc | apply pw_below_drewN | apply below_drew1 | refine below_set ?_ GE101.out) | exact HB.out))) : w.heap.size ≤ gb102)); have n5_ := Aside0.mk ((by rw [hg]; exact Nat.ne_of_lt (blk_lt (g := gb101) (o := .cells #[.int .i64 a0_0, .int .i64 a0_1, .int .i64 a0_2] 46 (0, 0)) (by (with_reducible repeat (first | refine blk_drewN ?_ _ | refine blk_drew ?_ | refine blk_alloc ?_ _)); exact BK101.out)) : gb101 ≠ gb102)); have n6_ := Aside0.mk ((by rw [hg]; exact Nat.ne_of_gt (blk_lt (g := gb101) (o := .cells #[.int .i64 a0_0, .int .i64 a0_1, .int .i64 a0_2] 46 (0, 0)) (by (with_reducible repeat (first | refine blk_drewN ?_ _ | refine blk_drew ?_ | refine blk_alloc ?_ _)); exact BK101.out)) : gb102 ≠ gb101)); clear BK101; clear HB; have BK101 := n0_; have HB := n1_; have BK102 := n2_; have GW102 := n3_; have GE102 := n4_; have NB101_102 := n5_; have NB102_101 := n6_; clear n0_ n1_ n2_ n3_ n4_ n5_ n6_; clear hb hbox hg; have hnb23 := NB101_102.out; have hnc23 := NB102_101.out; have hcz24_0 : w22.cell? ⟨gb101, 0, none⟩ = some (.int .i64 a0_0) := (blk_cell BK101.out 0).trans rfl; have hcz24_1 : w22.cell? ⟨gb101, 1, none⟩ = some (.int .i64 a0_1) := (blk_cell BK101.out 1).trans rfl; have hcz24_2 : w22.cell? ⟨gb101, 2, none⟩ = some (.int .i64 a0_2) := (blk_cell BK101.out 2).trans rfl; have hfz24_0 := blk_frozen BK101.out 0; have hfz24_1 := blk_frozen BK101.out 1; have hfz24_2 := blk_frozen BK101.out 2; have hcz25_0 : w22.cell? ⟨gb102, 0, none⟩ = some (.int .i64 a1_0) := (blk_cell BK102.out 0).trans rfl; have hcz25_1 : w22.cell? ⟨gb102, 1, none⟩ = some (.int .i64 a1_1) := (blk_cell BK102.out 1).trans rfl; have hcz25_2 : w22.cell? ⟨gb102, 2, none⟩ = some (.int .i64 a1_2) := (blk_cell BK102.out 2).trans rfl; have hfz25_0 := blk_frozen BK102.out 0; have hfz25_1 := blk_frozen BK102.out 1; have hfz25_2 := blk_frozen BK102.out 2))
  go_ret
  exact ⟨by first | rfl | (simp [errW_none, errW_some] <;> rfl) | (simp [*, errW_none, errW_some] <;> rfl), by repeat (first | (with_reducible first | exact HB.out | apply below_alloc | apply pw_below_drewN | apply below_drew1 | refine below_set ?_ GE101.out | refine below_set ?_ GE102.out) | exact HB.out)⟩

end Go.Proofs.Ytlbjdpahhgokkaa.P
-- Made by wip/gen/pp.py of this session over the kit's print of the loaded program: a function, and the contract of its walk. Lean checks it.
namespace Go.Proofs.Ytlbjdpahhgokkaa.P
open Go.RowKit Go.Proofs.YtlbjdpahhgokkaaW.PrintWords Go.Proofs.YtlbjdpahhgokkaaW.PrintLast Go.Proofs.YtlbjdpahhgokkaaW.PrintMore
attribute [local go_sem] max2_int min2_int max_two min_two max_three min_three max_four min_four   -- for this text's walks alone
set_option linter.unusedVariables false
set_option linter.unusedSimpArgs false

/-! ### laws_eqItemS: function 11 -/
def laws_eqItemS.l0 : Nat → List (S46) → List (S46) → Int → Option (Bool)
 | 0, _, _, _ => none
 | k + 1, x0, x1, x5 => if x5 < (x0.length : Int) then (if 0 ≤ x5 then (if x5 < (x1.length : Int) then ((laws_eqItem.f ((rd_T46 x0 x5).f0) ((rd_T46 x0 x5).f1) ((rd_T46 x0 x5).f2) ((rd_T46 x1 x5).f0) ((rd_T46 x1 x5).f1) ((rd_T46 x1 x5).f2)).bind fun t103 => (if t103 = true then (laws_eqItemS.l0 k x0 x1 (wrap64 (x5 + 1))) else (some false))) else (none)) else (none)) else (some true)
def laws_eqItemS.f (k : Nat) (l0 : List (S46)) (l1 : List (S46)) : Option (Bool) := if (l0.length : Int) = (l1.length : Int) then (laws_eqItemS.l0 k l0 l1 0) else (some false)
theorem laws_eqItemS.mono_l : ∀ k, (∀ y0 y1 y2, LeO (laws_eqItemS.l0 k y0 y1 y2) (laws_eqItemS.l0 (k + 1) y0 y1 y2))
 | 0 => fun _ _ _ r h => by simp [laws_eqItemS.l0] at h
 | k + 1 => by
  have ih0 := laws_eqItemS.mono_l k
  ·intro y0 y1 y2
   unfold laws_eqItemS.l0
   repeat' first
   | (with_reducible exact ih0 _ _ _)
   | (with_reducible exact LeO.refl _)
   | (with_reducible exact LeO.none _)
   | (with_reducible refine LeO.ite ?_ ?_)
   | (with_reducible refine LeO.bind ?_ (fun _ => ?_))
   | exact ih0 _ _ _
   | exact LeO.none _
   | refine LeO.ite ?_ ?_
   | refine LeO.bind ?_ (fun _ => ?_)
theorem laws_eqItemS.mono : ∀ a0 a1 k, LeO (laws_eqItemS.f k a0 a1) (laws_eqItemS.f (k + 1) a0 a1) := by
 intro a0 a1 k
 have ih0 := laws_eqItemS.mono_l k
 unfold laws_eqItemS.f
 repeat' first
   | (with_reducible exact ih0 _ _ _)
   | (with_reducible exact LeO.refl _)
   | (with_reducible exact LeO.none _)
   | (with_reducible refine LeO.ite ?_ ?_)
   | (with_reducible refine LeO.bind ?_ (fun _ => ?_))
   | exact ih0 _ _ _
   | exact LeO.none _
   | refine LeO.ite ?_ ?_
   | refine LeO.bind ?_ (fun _ => ?_)
def laws_eqItemS.T6 : Bool × List (List Nat × List Nat) := (true, [([], []), ([], []), ([0, 1], [0, 1]), ([2], [2]), ([], []), ([], []), ([4, 5], [4, 5]), ([6], [6]), ([3, 7], [3, 7]), ([8], [8])])
def laws_eqItemS.B6 : List Nat := [0, 0, 3, 7, 0, 0, 48, 112, 255, 511]
theorem laws_eqItemS.tab6 : rtab .any (opsOf Try.f11 6) = laws_eqItemS.T6 := by kernel_rfl
theorem laws_eqItemS.bits6 : waitsOk laws_eqItemS.T6.2 laws_eqItemS.B6 = true := by kernel_rfl
set_option maxHeartbeats 8000000 in
set_option maxRecDepth 100000 in
theorem laws_eqItemS.calls (k : Nat) (A0 : Option Addr) (c0 : Nat) (l0 : List (S46)) (A1 : Option Addr) (c1 : Nat) (l1 : List (S46)) (r : Bool) (w : World) (hr0 : Kd.C k46 w A0 l0.length l0) (hc0 : l0.length ≤ c0) (hr1 : Kd.C k46 w A1 l1.length l1) (hc1 : l1.length ≤ c1) (h : laws_eqItemS.f k l0 l1 = some r) :
  Calls Try.prog 11 #[.slice A0 l0.length c0, .slice A1 l1.length c1] w fun e w' => e = .returned (.bool r) ∧ Below w.heap.size w w' := by
 have hu46 := Try.underlying46
 have HR0 := Aside0.mk hr0
 have HC0 := Aside0.mk hc0
 clear hr0 hc0
 have HR1 := Aside0.mk hr1
 have HC1 := Aside0.mk hc1
 clear hr1 hc1
 have HB := Aside0.mk (Below.refl w.heap.size w)
 have H : (if (l0.length : Int) = (l1.length : Int) then (laws_eqItemS.l0 k l0 l1 0) else (some false)) = some r := h
 clear h
 by_cases c3 : (l0.length : Int) = (l1.length : Int)
 ·rw [if_pos c3] at H
  have c3b0 : ((l0.length : Int) == (l1.length : Int)) = true := beq_iff_eq.mpr c3
  have c3b1 : ((l0.length : Int) != (l1.length : Int)) = false := bne_eq_false_iff_eq.mpr c3
  have c3b2 : (l0.length == l1.length) = true := by first | simpa using c3 | (simp at c3 ⊢; omega)
  clear c3
  have H' := Aside0.mk H
  clear H
  go_enter Try.func11, Try.ntmps11
  go_wp2
  go_loopg [5] k (fun kq v5 w' => ∃ (x5_1 : Int), v5 = .int .i64 x5_1 ∧ Aside0 (laws_eqItemS.l0 kq l0 l1 x5_1 = some r) ∧ Aside0 (kq ≤ k) ∧ Aside0 (Below w.heap.size w w'))
  case atStart => exact ⟨(0), (by first | rfl | (simp; done) | (simp [*]; done)), H', ⟨Nat.le_refl _⟩, ⟨by repeat (first | (with_reducible first | exact HB.out | apply below_alloc | apply pw_below_drewN | apply below_drew1) | exact HB.out)⟩⟩
  case round =>
   clear H'
   try clear c1
   try clear p2
   try clear c3
   try clear c3b0
   try clear c3b1
   try clear c3b2
   obtain ⟨x5_1, rfl, HA, HK1, HB⟩ := hrel
   cases gk with
   | zero => exact absurd HA.out (by simp [laws_eqItemS.l0])
   | succ k1 =>
    have H := HA.out
    clear HA
    simp only [laws_eqItemS.l0] at H
    by_cases c4 : x5_1 < (l0.length : Int)
    ·rw [if_pos c4] at H
     have c4b0 : decide (x5_1 < (l0.length : Int)) = true := decide_eq_true c4
     clear c4
     by_cases c5 : 0 ≤ x5_1
     ·rw [if_pos c5] at H
      have c5b0 : decide (0 ≤ x5_1) = true := decide_eq_true c5
      clear c5
      by_cases c6 : x5_1 < (l1.length : Int)
      ·rw [if_pos c6] at H
       have c6b0 : decide (x5_1 < (l1.length : Int)) = true := decide_eq_true c6
       clear c6
       replace H := Option.bind_eq_some_iff.mp H
       obtain ⟨t103, A70, H⟩ := H
       replace H : (if t103 = true then (laws_eqItemS.l0 k1 l0 l1 (wrap64 (x5_1 + 1))) else (some false)) = some r := H
       have A7 := Aside0.mk A70
       clear A70
       by_cases c8 : t103 = true
       ·subst c8
        have H1 : (laws_eqItemS.l0 k1 l0 l1 (wrap64 (x5_1 + 1))) = some r := by rw [if_pos rfl] at H; exact H
        clear H
        have H := H1
        clear H1
        have H' := Aside0.mk H
        clear H
        try go_wp2
        have n0_ := Aside0.mk (below_drew1 HB.out)
        clear HB
        have HB := n0_
        clear n0_
        have p101 : 0 ≤ (x5_1 : Int) := of_decide_eq_true (by first | (with_reducible assumption) | assumption)
        have q101 : x5_1 < (l0.length : Int) := of_decide_eq_true (by first | (with_reducible assumption) | assumption)
        obtain ⟨ad101, e101, hx101_0, hx101_1, hx101_2⟩ := at_T46 HR0.out x5_1 p101 q101
        have hw101_2 := hx101_2
        have hw101_1 := hx101_1
        have hw101_0 := hx101_0
        cases e101
        replace hx101_0 := (HB.out.cell (World.block_lt_of_cell? w _ hx101_0)).trans hx101_0
        replace hx101_1 := (HB.out.cell (World.block_lt_of_cell? w _ hx101_1)).trans hx101_1
        replace hx101_2 := (HB.out.cell (World.block_lt_of_cell? w _ hx101_2)).trans hx101_2
        replace p101 := eq_true p101
        replace q101 := eq_true q101
        have p102 : 0 ≤ (x5_1 : Int) := of_decide_eq_true (by first | (with_reducible assumption) | assumption)
        have q102 : x5_1 < (l1.length : Int) := of_decide_eq_true (by first | (with_reducible assumption) | assumption)
        obtain ⟨ad102, e102, hx102_0, hx102_1, hx102_2⟩ := at_T46 HR1.out x5_1 p102 q102
        have hw102_2 := hx102_2
        have hw102_1 := hx102_1
        have hw102_0 := hx102_0
        cases e102
        replace hx102_0 := (HB.out.cell (World.block_lt_of_cell? w _ hx102_0)).trans hx102_0
        replace hx102_1 := (HB.out.cell (World.block_lt_of_cell? w _ hx102_1)).trans hx102_1
        replace hx102_2 := (HB.out.cell (World.block_lt_of_cell? w _ hx102_2)).trans hx102_2
        replace p102 := eq_true p102
        replace q102 := eq_true q102
        refine start_ (n := 10) (S := fun w' => w'.cell? (ad101.add ((x5_1).toNat * 3)) = some (.int .i64 ((rd_T46 l0 x5_1).f0)) ∧ w'.cell? ⟨(ad101.add ((x5_1).toNat * 3)).block, (ad101.add ((x5_1).toNat * 3)).off + 1, none⟩ = some (.int .i64 ((rd_T46 l0 x5_1).f1)) ∧ w'.cell? ⟨(ad101.add ((x5_1).toNat * 3)).block, (ad101.add ((x5_1).toNat * 3)).off + 2, none⟩ = some (.int .i64 ((rd_T46 l0 x5_1).f2)) ∧ w'.cell? (ad102.add ((x5_1).toNat * 3)) = some (.int .i64 ((rd_T46 l1 x5_1).f0)) ∧ w'.cell? ⟨(ad102.add ((x5_1).toNat * 3)).block, (ad102.add ((x5_1).toNat * 3)).off + 1, none⟩ = some (.int .i64 ((rd_T46 l1 x5_1).f1)) ∧ w'.cell? ⟨(ad102.add ((x5_1).toNat * 3)).block, (ad102.add ((x5_1).toNat * 3)).off + 2, none⟩ = some (.int .i64 ((rd_T46 l1 x5_1).f2))) (ds := []) #[false, false, false, false, false, false, false, false, false, false] (by kernel_rfl) rfl rfl ⟨((HB.out.cell (World.block_lt_of_cell? w _ hw101_0)).trans hw101_0), ((HB.out.cell (World.block_lt_of_cell? w _ hw101_1)).trans hw101_1), ((HB.out.cell (World.block_lt_of_cell? w _ hw101_2)).trans hw101_2), ((HB.out.cell (World.block_lt_of_cell? w _ hw102_0)).trans hw102_0), ((HB.out.cell (World.block_lt_of_cell? w _ hw102_1)).trans hw102_1), ((HB.out.cell (World.block_lt_of_cell? w _ hw102_2)).trans hw102_2)⟩ (fun hHeld => ?_); refine with_tabW laws_eqItemS.tab6 laws_eqItemS.bits6 (fun HT_ HW_ => ?_)
        generalize wr.drew = w9 at HB hx101_0 hx101_1 hx101_2 hx102_0 hx102_1 hx102_2 hHeld ⊢
        refine pure_ (i := 0) (N := some 17) (v := ?_) (a' := ?_) #[true, false, false, false, false, false, false, false, false, false] rfl rfl (any_of HT_.out (by kernel_rfl)) (fun _ _ _ h => h) (Or.inl ⟨by rfl, ?_⟩) ?_ ?_
        rotate_left
        ·intro w'
         go_simp
         with_reducible rfl
        rotate_left
        ·simp only [Act.put, List.setIfInBounds_toArray, List.set_cons_zero, List.set_cons_succ, i64_w, i32_w]
         rfl
        refine pure_ (i := 1) (N := some 18) (v := ?_) (a' := ?_) #[true, true, false, false, false, false, false, false, false, false] rfl rfl (any_of HT_.out (by kernel_rfl)) (fun _ _ _ h => h) (Or.inl ⟨by rfl, ?_⟩) ?_ ?_
        rotate_left
        ·intro w'
         go_simp
         with_reducible rfl
        rotate_left
        ·simp only [Act.put, List.setIfInBounds_toArray, List.set_cons_zero, List.set_cons_succ, i64_w, i32_w]
         rfl
        refine pure_ (i := 2) (N := some 19) (v := ?_) (a' := ?_) #[true, true, true, false, false, false, false, false, false, false] rfl rfl (any_of HT_.out (by kernel_rfl)) (fun _ _ _ h => h) (Or.inl ⟨by rfl, ?_⟩) ?_ ?_
        rotate_left
        ·intro w'
         go_simp
         with_reducible rfl
        rotate_left
        ·simp only [Act.put, List.setIfInBounds_toArray, List.set_cons_zero, List.set_cons_succ, i64_w, i32_w]
         rfl
        refine pure_ (i := 4) (N := some 21) (v := ?_) (a' := ?_) #[true, true, true, false, true, false, false, false, false, false] rfl rfl (any_of HT_.out (by kernel_rfl)) (fun _ _ _ h => h) (Or.inl ⟨by rfl, ?_⟩) ?_ ?_
        rotate_left
        ·intro w'
         go_simp
         with_reducible rfl
        rotate_left
        ·simp only [Act.put, List.setIfInBounds_toArray, List.set_cons_zero, List.set_cons_succ, i64_w, i32_w]
         rfl
        refine pure_ (i := 5) (N := some 22) (v := ?_) (a' := ?_) #[true, true, true, false, true, true, false, false, false, false] rfl rfl (any_of HT_.out (by kernel_rfl)) (fun _ _ _ h => h) (Or.inl ⟨by rfl, ?_⟩) ?_ ?_
        rotate_left
        ·intro w'
         go_simp
         with_reducible rfl
        rotate_left
        ·simp only [Act.put, List.setIfInBounds_toArray, List.set_cons_zero, List.set_cons_succ, i64_w, i32_w]
         rfl
        refine pure_ (i := 6) (N := some 23) (v := ?_) (a' := ?_) #[true, true, true, false, true, true, true, false, false, false] rfl rfl (any_of HT_.out (by kernel_rfl)) (fun _ _ _ h => h) (Or.inl ⟨by rfl, ?_⟩) ?_ ?_
        rotate_left
        ·intro w'
         go_simp
         with_reducible rfl
        rotate_left
        ·simp only [Act.put, List.setIfInBounds_toArray, List.set_cons_zero, List.set_cons_succ, i64_w, i32_w]
         rfl
        refine take_ (i := 3) (N := some 20) (v := ?_) (a' := ?_) #[true, true, true, true, true, true, true, false, false, false] rfl rfl (take_ofW HT_.out HW_.out (by kernel_rfl)) (fun _ _ _ h => h) (Or.inl ⟨by rfl, ?_⟩) hHeld ?_ ?_
        rotate_left
        ·rintro w' ⟨s0, s1, s2, s3, s4, s5⟩
         go_simp
         with_reducible rfl
        rotate_left
        ·simp only [Act.put, List.setIfInBounds_toArray, List.set_cons_zero, List.set_cons_succ, i64_w, i32_w]
         rfl
        refine take_ (i := 7) (N := some 24) (v := ?_) (a' := ?_) #[true, true, true, true, true, true, true, true, false, false] rfl rfl (take_ofW HT_.out HW_.out (by kernel_rfl)) (fun _ _ _ h => h) (Or.inl ⟨by rfl, ?_⟩) hHeld ?_ ?_
        rotate_left
        ·rintro w' ⟨s0, s1, s2, s3, s4, s5⟩
         go_simp
         with_reducible rfl
        rotate_left
        ·simp only [Act.put, List.setIfInBounds_toArray, List.set_cons_zero, List.set_cons_succ, i64_w, i32_w]
         rfl
        refine one_ (i := 8) (N := some 25) #[true, true, true, true, true, true, true, true, true, false] rfl rfl (one_of HT_.out (by kernel_rfl)) (by decide) (fun K hK => ?_)
        refine goes_ Try.func34 (by kernel_rfl) rfl #[.agg #[.int .i64 ((rd_T46 l0 x5_1).f0), .int .i64 ((rd_T46 l0 x5_1).f1), .int .i64 ((rd_T46 l0 x5_1).f2)], .agg #[.int .i64 ((rd_T46 l1 x5_1).f0), .int .i64 ((rd_T46 l1 x5_1).f1), .int .i64 ((rd_T46 l1 x5_1).f2)]] (by rfl) rfl rfl (by (try simp only [List.map_toArray, List.map_cons, List.map_nil]); first | done | rfl | (simp only [List.length_drop, List.length_take]; rfl)) ?_
        with_reducible refine (laws_eqItem.calls ((rd_T46 l0 x5_1).f0) ((rd_T46 l0 x5_1).f1) ((rd_T46 l0 x5_1).f2) ((rd_T46 l1 x5_1).f0) ((rd_T46 l1 x5_1).f1) ((rd_T46 l1 x5_1).f2) true _ A7.out).mono ?_
        rintro e w10 ⟨rfl, hb⟩
        refine ⟨_, rfl, ?_⟩
        have n0_ := Aside0.mk (below_step (by repeat (first | (with_reducible first | exact HB.out | apply below_alloc | apply pw_below_drewN | apply below_drew1) | exact HB.out)) hb)
        clear HB
        have HB := n0_
        clear n0_
        (try clear hb)
        (try clear hb2)
        (try clear hk)
        (try clear hi)
        refine hK.out _ _ ⟨((HB.out.cell (World.block_lt_of_cell? w _ hw101_0)).trans hw101_0), ((HB.out.cell (World.block_lt_of_cell? w _ hw101_1)).trans hw101_1), ((HB.out.cell (World.block_lt_of_cell? w _ hw101_2)).trans hw101_2), ((HB.out.cell (World.block_lt_of_cell? w _ hw102_0)).trans hw102_0), ((HB.out.cell (World.block_lt_of_cell? w _ hw102_1)).trans hw102_1), ((HB.out.cell (World.block_lt_of_cell? w _ hw102_2)).trans hw102_2)⟩ (fun hHeld => ?_)
        clear hK K
        refine norm_ (a' := ?_) ?_ ?_
        rotate_left
        ·show Act.put _ (some 25) _ = _
         simp only [Act.put, List.setIfInBounds_toArray, List.set_cons_zero, List.set_cons_succ, i64_w, i32_w]
         rfl
        refine pure_ (i := 9) (N := some 26) (v := ?_) (a' := ?_) #[true, true, true, true, true, true, true, true, true, true] rfl rfl (any_of HT_.out (by kernel_rfl)) (fun _ _ _ h => h) (Or.inl ⟨by rfl, ?_⟩) ?_ ?_
        rotate_left
        ·intro w'
         go_simp
         with_reducible rfl
        rotate_left
        ·simp only [Act.put, List.setIfInBounds_toArray, List.set_cons_zero, List.set_cons_succ, i64_w, i32_w]
         rfl
        refine done_ (done_of HT_.out (by kernel_rfl)) ?_
        try go_wp2
        go_roundg k1
        case measure => have := HK1.out; omega
        case rel => exact ⟨(wrap64 (x5_1 + 1)), (by first | rfl | (simp; done) | (simp [*]; done)), H', ⟨by have := HK1.out; omega⟩, ⟨by repeat (first | (with_reducible first | exact HB.out | apply below_alloc | apply pw_below_drewN | apply below_drew1) | exact HB.out)⟩⟩
       ·replace c8 := Bool.eq_false_iff.mpr c8
        subst c8
        have H1 : (some false) = some r := by rw [if_neg (show ¬ (false = true) by decide)] at H; exact H
        clear H
        have H := H1
        clear H1
        obtain rfl := Option.some.inj H
        try go_wp2
        have n0_ := Aside0.mk (below_drew1 HB.out)
        clear HB
        have HB := n0_
        clear n0_
        have p101 : 0 ≤ (x5_1 : Int) := of_decide_eq_true (by first | (with_reducible assumption) | assumption)
        have q101 : x5_1 < (l0.length : Int) := of_decide_eq_true (by first | (with_reducible assumption) | assumption)
        obtain ⟨ad101, e101, hx101_0, hx101_1, hx101_2⟩ := at_T46 HR0.out x5_1 p101 q101
        have hw101_2 := hx101_2
        have hw101_1 := hx101_1
        have hw101_0 := hx101_0
        cases e101
        replace hx101_0 := (HB.out.cell (World.block_lt_of_cell? w _ hx101_0)).trans hx101_0
        replace hx101_1 := (HB.out.cell (World.block_lt_of_cell? w _ hx101_1)).trans hx101_1
        replace hx101_2 := (HB.out.cell (World.block_lt_of_cell? w _ hx101_2)).trans hx101_2
        replace p101 := eq_true p101
        replace q101 := eq_true q101
        have p102 : 0 ≤ (x5_1 : Int) := of_decide_eq_true (by first | (with_reducible assumption) | assumption)
        have q102 : x5_1 < (l1.length : Int) := of_decide_eq_true (by first | (with_reducible assumption) | assumption)
        obtain ⟨ad102, e102, hx102_0, hx102_1, hx102_2⟩ := at_T46 HR1.out x5_1 p102 q102
        have hw102_2 := hx102_2
        have hw102_1 := hx102_1
        have hw102_0 := hx102_0
        cases e102
        replace hx102_0 := (HB.out.cell (World.block_lt_of_cell? w _ hx102_0)).trans hx102_0
        replace hx102_1 := (HB.out.cell (World.block_lt_of_cell? w _ hx102_1)).trans hx102_1
        replace hx102_2 := (HB.out.cell (World.block_lt_of_cell? w _ hx102_2)).trans hx102_2
        replace p102 := eq_true p102
        replace q102 := eq_true q102
        refine start_ (n := 10) (S := fun w' => w'.cell? (ad101.add ((x5_1).toNat * 3)) = some (.int .i64 ((rd_T46 l0 x5_1).f0)) ∧ w'.cell? ⟨(ad101.add ((x5_1).toNat * 3)).block, (ad101.add ((x5_1).toNat * 3)).off + 1, none⟩ = some (.int .i64 ((rd_T46 l0 x5_1).f1)) ∧ w'.cell? ⟨(ad101.add ((x5_1).toNat * 3)).block, (ad101.add ((x5_1).toNat * 3)).off + 2, none⟩ = some (.int .i64 ((rd_T46 l0 x5_1).f2)) ∧ w'.cell? (ad102.add ((x5_1).toNat * 3)) = some (.int .i64 ((rd_T46 l1 x5_1).f0)) ∧ w'.cell? ⟨(ad102.add ((x5_1).toNat * 3)).block, (ad102.add ((x5_1).toNat * 3)).off + 1, none⟩ = some (.int .i64 ((rd_T46 l1 x5_1).f1)) ∧ w'.cell? ⟨(ad102.add ((x5_1).toNat * 3)).block, (ad102.add ((x5_1).toNat * 3)).off + 2, none⟩ = some (.int .i64 ((rd_T46 l1 x5_1).f2))) (ds := []) #[false, false, false, false, false, false, false, false, false, false] (by kernel_rfl) rfl rfl ⟨((HB.out.cell (World.block_lt_of_cell? w _ hw101_0)).trans hw101_0), ((HB.out.cell (World.block_lt_of_cell? w _ hw101_1)).trans hw101_1), ((HB.out.cell (World.block_lt_of_cell? w _ hw101_2)).trans hw101_2), ((HB.out.cell (World.block_lt_of_cell? w _ hw102_0)).trans hw102_0), ((HB.out.cell (World.block_lt_of_cell? w _ hw102_1)).trans hw102_1), ((HB.out.cell (World.block_lt_of_cell? w _ hw102_2)).trans hw102_2)⟩ (fun hHeld => ?_); refine with_tabW laws_eqItemS.tab6 laws_eqItemS.bits6 (fun HT_ HW_ => ?_)
        generalize wr.drew = w11 at HB hx101_0 hx101_1 hx101_2 hx102_0 hx102_1 hx102_2 hHeld ⊢
        refine pure_ (i := 0) (N := some 17) (v := ?_) (a' := ?_) #[true, false, false, false, false, false, false, false, false, false] rfl rfl (any_of HT_.out (by kernel_rfl)) (fun _ _ _ h => h) (Or.inl ⟨by rfl, ?_⟩) ?_ ?_
        rotate_left
        ·intro w'
         go_simp
         with_reducible rfl
        rotate_left
        ·simp only [Act.put, List.setIfInBounds_toArray, List.set_cons_zero, List.set_cons_succ, i64_w, i32_w]
         rfl
        refine pure_ (i := 1) (N := some 18) (v := ?_) (a' := ?_) #[true, true, false, false, false, false, false, false, false, false] rfl rfl (any_of HT_.out (by kernel_rfl)) (fun _ _ _ h => h) (Or.inl ⟨by rfl, ?_⟩) ?_ ?_
        rotate_left
        ·intro w'
         go_simp
         with_reducible rfl
        rotate_left
        ·simp only [Act.put, List.setIfInBounds_toArray, List.set_cons_zero, List.set_cons_succ, i64_w, i32_w]
         rfl
        refine pure_ (i := 2) (N := some 19) (v := ?_) (a' := ?_) #[true, true, true, false, false, false, false, false, false, false] rfl rfl (any_of HT_.out (by kernel_rfl)) (fun _ _ _ h => h) (Or.inl ⟨by rfl, ?_⟩) ?_ ?_
        rotate_left
        ·intro w'
         go_simp
         with_reducible rfl
        rotate_left
        ·simp only [Act.put, List.setIfInBounds_toArray, List.set_cons_zero, List.set_cons_succ, i64_w, i32_w]
         rfl
        refine pure_ (i := 4) (N := some 21) (v := ?_) (a' := ?_) #[true, true, true, false, true, false, false, false, false, false] rfl rfl (any_of HT_.out (by kernel_rfl)) (fun _ _ _ h => h) (Or.inl ⟨by rfl, ?_⟩) ?_ ?_
        rotate_left
        ·intro w'
         go_simp
         with_reducible rfl
        rotate_left
        ·simp only [Act.put, List.setIfInBounds_toArray, List.set_cons_zero, List.set_cons_succ, i64_w, i32_w]
         rfl
        refine pure_ (i := 5) (N := some 22) (v := ?_) (a' := ?_) #[true, true, true, false, true, true, false, false, false, false] rfl rfl (any_of HT_.out (by kernel_rfl)) (fun _ _ _ h => h) (Or.inl ⟨by rfl, ?_⟩) ?_ ?_
        rotate_left
        ·intro w'
         go_simp
         with_reducible rfl
        rotate_left
        ·simp only [Act.put, List.setIfInBounds_toArray, List.set_cons_zero, List.set_cons_succ, i64_w, i32_w]
         rfl
        refine pure_ (i := 6) (N := some 23) (v := ?_) (a' := ?_) #[true, true, true, false, true, true, true, false, false, false] rfl rfl (any_of HT_.out (by kernel_rfl)) (fun _ _ _ h => h) (Or.inl ⟨by rfl, ?_⟩) ?_ ?_
        rotate_left
        ·intro w'
         go_simp
         with_reducible rfl
        rotate_left
        ·simp only [Act.put, List.setIfInBounds_toArray, List.set_cons_zero, List.set_cons_succ, i64_w, i32_w]
         rfl
        refine take_ (i := 3) (N := some 20) (v := ?_) (a' := ?_) #[true, true, true, true, true, true, true, false, false, false] rfl rfl (take_ofW HT_.out HW_.out (by kernel_rfl)) (fun _ _ _ h => h) (Or.inl ⟨by rfl, ?_⟩) hHeld ?_ ?_
        rotate_left
        ·rintro w' ⟨s0, s1, s2, s3, s4, s5⟩
         go_simp
         with_reducible rfl
        rotate_left
        ·simp only [Act.put, List.setIfInBounds_toArray, List.set_cons_zero, List.set_cons_succ, i64_w, i32_w]
         rfl
        refine take_ (i := 7) (N := some 24) (v := ?_) (a' := ?_) #[true, true, true, true, true, true, true, true, false, false] rfl rfl (take_ofW HT_.out HW_.out (by kernel_rfl)) (fun _ _ _ h => h) (Or.inl ⟨by rfl, ?_⟩) hHeld ?_ ?_
        rotate_left
        ·rintro w' ⟨s0, s1, s2, s3, s4, s5⟩
         go_simp
         with_reducible rfl
        rotate_left
        ·simp only [Act.put, List.setIfInBounds_toArray, List.set_cons_zero, List.set_cons_succ, i64_w, i32_w]
         rfl
        refine one_ (i := 8) (N := some 25) #[true, true, true, true, true, true, true, true, true, false] rfl rfl (one_of HT_.out (by kernel_rfl)) (by decide) (fun K hK => ?_)
        refine goes_ Try.func34 (by kernel_rfl) rfl #[.agg #[.int .i64 ((rd_T46 l0 x5_1).f0), .int .i64 ((rd_T46 l0 x5_1).f1), .int .i64 ((rd_T46 l0 x5_1).f2)], .agg #[.int .i64 ((rd_T46 l1 x5_1).f0), .int .i64 ((rd_T46 l1 x5_1).f1), .int .i64 ((rd_T46 l1 x5_1).f2)]] (by rfl) rfl rfl (by (try simp only [List.map_toArray, List.map_cons, List.map_nil]); first | done | rfl | (simp only [List.length_drop, List.length_take]; rfl)) ?_
        with_reducible refine (laws_eqItem.calls ((rd_T46 l0 x5_1).f0) ((rd_T46 l0 x5_1).f1) ((rd_T46 l0 x5_1).f2) ((rd_T46 l1 x5_1).f0) ((rd_T46 l1 x5_1).f1) ((rd_T46 l1 x5_1).f2) false _ A7.out).mono ?_
        rintro e w12 ⟨rfl, hb⟩
        refine ⟨_, rfl, ?_⟩
        have n0_ := Aside0.mk (below_step (by repeat (first | (with_reducible first | exact HB.out | apply below_alloc | apply pw_below_drewN | apply below_drew1) | exact HB.out)) hb)
        clear HB
        have HB := n0_
        clear n0_
        (try clear hb)
        (try clear hb2)
        (try clear hk)
        (try clear hi)
        refine hK.out _ _ ⟨((HB.out.cell (World.block_lt_of_cell? w _ hw101_0)).trans hw101_0), ((HB.out.cell (World.block_lt_of_cell? w _ hw101_1)).trans hw101_1), ((HB.out.cell (World.block_lt_of_cell? w _ hw101_2)).trans hw101_2), ((HB.out.cell (World.block_lt_of_cell? w _ hw102_0)).trans hw102_0), ((HB.out.cell (World.block_lt_of_cell? w _ hw102_1)).trans hw102_1), ((HB.out.cell (World.block_lt_of_cell? w _ hw102_2)).trans hw102_2)⟩ (fun hHeld => ?_)
        clear hK K
        refine norm_ (a' := ?_) ?_ ?_
        rotate_left
        ·show Act.put _ (some 25) _ = _
         simp only [Act.put, List.setIfInBounds_toArray, List.set_cons_zero, List.set_cons_succ, i64_w, i32_w]
         rfl
        refine pure_ (i := 9) (N := some 26) (v := ?_) (a' := ?_) #[true, true, true, true, true, true, true, true, true, true] rfl rfl (any_of HT_.out (by kernel_rfl)) (fun _ _ _ h => h) (Or.inl ⟨by rfl, ?_⟩) ?_ ?_
        rotate_left
        ·intro w'
         go_simp
         with_reducible rfl
        rotate_left
        ·simp only [Act.put, List.setIfInBounds_toArray, List.set_cons_zero, List.set_cons_succ, i64_w, i32_w]
         rfl
        refine done_ (done_of HT_.out (by kernel_rfl)) ?_
        try go_wp2
        go_ret
        exact ⟨by first | rfl | (simp [errW_none, errW_some] <;> rfl) | (simp [*, errW_none, errW_some] <;> rfl), by repeat (first | (with_reducible first | exact HB.out | apply below_alloc | apply pw_below_drewN | apply below_drew1) | exact HB.out)⟩
      ·rw [if_neg c6] at H
       exact absurd H (by simp)
     ·rw [if_neg c5] at H
      exact absurd H (by simp)
    ·rw [if_neg c4] at H
     have c4b0 : decide (x5_1 < (l0.length : Int)) = false := decide_eq_false c4
     clear c4
     obtain rfl := Option.some.inj H
     go_wp2
     go_ret
     exact ⟨by first | rfl | (simp [errW_none, errW_some] <;> rfl) | (simp [*, errW_none, errW_some] <;> rfl), by repeat (first | (with_reducible first | exact HB.out | apply below_alloc | apply pw_below_drewN | apply below_drew1) | exact HB.out)⟩
 ·rw [if_neg c3] at H
  have c3b0 : ((l0.length : Int) == (l1.length : Int)) = false := beq_eq_false_iff_ne.mpr c3
  have c3b1 : ((l0.length : Int) != (l1.length : Int)) = true := bne_iff_ne.mpr c3
  have c3b2 : (l0.length == l1.length) = false := by first | simpa using c3 | (simp at c3 ⊢; omega)
  obtain rfl := Option.some.inj H
  go_enter Try.func11, Try.ntmps11
  go_wp2
  go_ret
  exact ⟨by first | rfl | (simp [errW_none, errW_some] <;> rfl) | (simp [*, errW_none, errW_some] <;> rfl), by repeat (first | (with_reducible first | exact HB.out | apply below_alloc | apply pw_below_drewN | apply below_drew1) | exact HB.out)⟩

end Go.Proofs.Ytlbjdpahhgokkaa.P
-- Made by wip/gen/pp.py of this session over the kit's print of the loaded program: a function, and the contract of its walk. Lean checks it.
namespace Go.Proofs.Ytlbjdpahhgokkaa.P
open Go.RowKit Go.Proofs.YtlbjdpahhgokkaaW.PrintWords Go.Proofs.YtlbjdpahhgokkaaW.PrintLast Go.Proofs.YtlbjdpahhgokkaaW.PrintMore
attribute [local go_sem] max2_int min2_int max_two min_two max_three min_three max_four min_four   -- for this text's walks alone
set_option linter.unusedVariables false
set_option linter.unusedSimpArgs false

/-! ### laws_eqInt64S: function 35 -/
def laws_eqInt64S.l0 : Nat → List Int → List Int → Int → Option (Bool)
 | 0, _, _, _ => none
 | k + 1, x0, x1, x5 => if x5 < (x0.length : Int) then (if 0 ≤ x5 then (if x5 < (x1.length : Int) then (if (rd x0 x5) = (rd x1 x5) then (laws_eqInt64S.l0 k x0 x1 (wrap64 (x5 + 1))) else (some false)) else (none)) else (none)) else (some true)
def laws_eqInt64S.f (k : Nat) (l0 : List Int) (l1 : List Int) : Option (Bool) := if (l0.length : Int) = (l1.length : Int) then (laws_eqInt64S.l0 k l0 l1 0) else (some false)
theorem laws_eqInt64S.mono_l : ∀ k, (∀ y0 y1 y2, LeO (laws_eqInt64S.l0 k y0 y1 y2) (laws_eqInt64S.l0 (k + 1) y0 y1 y2))
 | 0 => fun _ _ _ r h => by simp [laws_eqInt64S.l0] at h
 | k + 1 => by
  have ih0 := laws_eqInt64S.mono_l k
  ·intro y0 y1 y2
   unfold laws_eqInt64S.l0
   repeat' first
   | (with_reducible exact ih0 _ _ _)
   | (with_reducible exact LeO.refl _)
   | (with_reducible exact LeO.none _)
   | (with_reducible refine LeO.ite ?_ ?_)
   | (with_reducible refine LeO.bind ?_ (fun _ => ?_))
   | exact ih0 _ _ _
   | exact LeO.none _
   | refine LeO.ite ?_ ?_
   | refine LeO.bind ?_ (fun _ => ?_)
theorem laws_eqInt64S.mono : ∀ a0 a1 k, LeO (laws_eqInt64S.f k a0 a1) (laws_eqInt64S.f (k + 1) a0 a1) := by
 intro a0 a1 k
 have ih0 := laws_eqInt64S.mono_l k
 unfold laws_eqInt64S.f
 repeat' first
   | (with_reducible exact ih0 _ _ _)
   | (with_reducible exact LeO.refl _)
   | (with_reducible exact LeO.none _)
   | (with_reducible refine LeO.ite ?_ ?_)
   | (with_reducible refine LeO.bind ?_ (fun _ => ?_))
   | exact ih0 _ _ _
   | exact LeO.none _
   | refine LeO.ite ?_ ?_
   | refine LeO.bind ?_ (fun _ => ?_)
set_option maxHeartbeats 8000000 in
set_option maxRecDepth 100000 in
theorem laws_eqInt64S.calls (k : Nat) (A0 : Option Addr) (c0 : Nat) (l0 : List Int) (A1 : Option Addr) (c1 : Nat) (l1 : List Int) (r : Bool) (w : World) (hr0 : Kd.C (Kd.int .i64) w A0 l0.length l0) (hc0 : l0.length ≤ c0) (hr1 : Kd.C (Kd.int .i64) w A1 l1.length l1) (hc1 : l1.length ≤ c1) (h : laws_eqInt64S.f k l0 l1 = some r) :
  Calls Try.prog 35 #[.slice A0 l0.length c0, .slice A1 l1.length c1] w fun e w' => e = .returned (.bool r) ∧ Drawn0 w w' := by
 have HR0 := Aside0.mk hr0
 have HC0 := Aside0.mk hc0
 clear hr0 hc0
 have HR1 := Aside0.mk hr1
 have HC1 := Aside0.mk hc1
 clear hr1 hc1
 have H : (if (l0.length : Int) = (l1.length : Int) then (laws_eqInt64S.l0 k l0 l1 0) else (some false)) = some r := h
 clear h
 by_cases c3 : (l0.length : Int) = (l1.length : Int)
 ·rw [if_pos c3] at H
  have c3b0 : ((l0.length : Int) == (l1.length : Int)) = true := beq_iff_eq.mpr c3
  have c3b1 : ((l0.length : Int) != (l1.length : Int)) = false := bne_eq_false_iff_eq.mpr c3
  have c3b2 : (l0.length == l1.length) = true := by first | simpa using c3 | (simp at c3 ⊢; omega)
  clear c3
  have H' := Aside0.mk H
  clear H
  go_enter Try.func35, Try.ntmps35
  go_wp2
  repeat (go_quiet (fail); try go_wp2)
  go_loopg [5] k (fun kq v5 w' => ∃ (x5_1 : Int), v5 = .int .i64 x5_1 ∧ Aside0 (laws_eqInt64S.l0 kq l0 l1 x5_1 = some r) ∧ Aside0 (kq ≤ k) ∧ Drawn0 w w')
  case atStart => exact ⟨(0), (by first | rfl | (simp; done) | (simp [*]; done)), H', ⟨Nat.le_refl _⟩, by repeat (first | exact Drawn0.refl _ | apply Drawn0.step)⟩
  case round =>
   clear H'
   try clear c1
   try clear p2
   try clear c3
   try clear c3b0
   try clear c3b1
   try clear c3b2
   obtain ⟨x5_1, rfl, HA, HK1, ⟨m1, rfl⟩⟩ := hrel
   cases gk with
   | zero => exact absurd HA.out (by simp [laws_eqInt64S.l0])
   | succ k1 =>
    have H := HA.out
    clear HA
    simp only [laws_eqInt64S.l0] at H
    by_cases c4 : x5_1 < (l0.length : Int)
    ·rw [if_pos c4] at H
     have c4b0 : decide (x5_1 < (l0.length : Int)) = true := decide_eq_true c4
     clear c4
     by_cases c5 : 0 ≤ x5_1
     ·rw [if_pos c5] at H
      have c5b0 : decide (0 ≤ x5_1) = true := decide_eq_true c5
      clear c5
      by_cases c6 : x5_1 < (l1.length : Int)
      ·rw [if_pos c6] at H
       have c6b0 : decide (x5_1 < (l1.length : Int)) = true := decide_eq_true c6
       clear c6
       by_cases c7 : (rd l0 x5_1) = (rd l1 x5_1)
       ·rw [if_pos c7] at H
        have c7b0 : ((rd l0 x5_1) == (rd l1 x5_1)) = true := beq_iff_eq.mpr c7
        have c7b1 : ((rd l0 x5_1) != (rd l1 x5_1)) = false := bne_eq_false_iff_eq.mpr c7
        clear c7
        have H' := Aside0.mk H
        clear H
        have p101 : 0 ≤ (x5_1 : Int) := of_decide_eq_true (by first | (with_reducible assumption) | assumption)
        have q101 : x5_1 < (l0.length : Int) := of_decide_eq_true (by first | (with_reducible assumption) | assumption)
        obtain ⟨ad101, e101, hx101_0⟩ := Kd.at_int HR0.out x5_1 p101 q101
        cases e101
        replace p101 := eq_true p101
        replace q101 := eq_true q101
        have p102 : 0 ≤ (x5_1 : Int) := of_decide_eq_true (by first | (with_reducible assumption) | assumption)
        have q102 : x5_1 < (l1.length : Int) := of_decide_eq_true (by first | (with_reducible assumption) | assumption)
        obtain ⟨ad102, e102, hx102_0⟩ := Kd.at_int HR1.out x5_1 p102 q102
        cases e102
        replace p102 := eq_true p102
        replace q102 := eq_true q102
        go_wp2
        repeat (go_quiet (fail); try go_wp2)
        go_roundg k1
        case measure => have := HK1.out; omega
        case rel => exact ⟨(wrap64 (x5_1 + 1)), (by first | rfl | (simp; done) | (simp [*]; done)), H', ⟨by have := HK1.out; omega⟩, by repeat (first | exact Drawn0.refl _ | apply Drawn0.step)⟩
       ·rw [if_neg c7] at H
        have c7b0 : ((rd l0 x5_1) == (rd l1 x5_1)) = false := beq_eq_false_iff_ne.mpr c7
        have c7b1 : ((rd l0 x5_1) != (rd l1 x5_1)) = true := bne_iff_ne.mpr c7
        obtain rfl := Option.some.inj H
        have p101 : 0 ≤ (x5_1 : Int) := of_decide_eq_true (by first | (with_reducible assumption) | assumption)
        have q101 : x5_1 < (l0.length : Int) := of_decide_eq_true (by first | (with_reducible assumption) | assumption)
        obtain ⟨ad101, e101, hx101_0⟩ := Kd.at_int HR0.out x5_1 p101 q101
        cases e101
        replace p101 := eq_true p101
        replace q101 := eq_true q101
        have p102 : 0 ≤ (x5_1 : Int) := of_decide_eq_true (by first | (with_reducible assumption) | assumption)
        have q102 : x5_1 < (l1.length : Int) := of_decide_eq_true (by first | (with_reducible assumption) | assumption)
        obtain ⟨ad102, e102, hx102_0⟩ := Kd.at_int HR1.out x5_1 p102 q102
        cases e102
        replace p102 := eq_true p102
        replace q102 := eq_true q102
        go_wp2
        repeat (go_quiet (fail); try go_wp2)
        go_ret
        exact ⟨by first | rfl | (simp; done) | (simp [*]; done), by repeat (first | exact Drawn0.refl _ | apply Drawn0.step)⟩
      ·rw [if_neg c6] at H
       exact absurd H (by simp)
     ·rw [if_neg c5] at H
      exact absurd H (by simp)
    ·rw [if_neg c4] at H
     have c4b0 : decide (x5_1 < (l0.length : Int)) = false := decide_eq_false c4
     clear c4
     obtain rfl := Option.some.inj H
     go_wp2
     repeat (go_quiet (fail); try go_wp2)
     go_ret
     exact ⟨by first | rfl | (simp; done) | (simp [*]; done), by repeat (first | exact Drawn0.refl _ | apply Drawn0.step)⟩
 ·rw [if_neg c3] at H
  have c3b0 : ((l0.length : Int) == (l1.length : Int)) = false := beq_eq_false_iff_ne.mpr c3
  have c3b1 : ((l0.length : Int) != (l1.length : Int)) = true := bne_iff_ne.mpr c3
  have c3b2 : (l0.length == l1.length) = false := by first | simpa using c3 | (simp at c3 ⊢; omega)
  obtain rfl := Option.some.inj H
  go_enter Try.func35, Try.ntmps35
  go_wp2
  repeat (go_quiet (fail); try go_wp2)
  go_ret
  exact ⟨by first | rfl | (simp; done) | (simp [*]; done), by repeat (first | exact Drawn0.refl _ | apply Drawn0.step)⟩

end Go.Proofs.Ytlbjdpahhgokkaa.P
