/- The law FnLaidOut holds for every call: part 3 of 6 of the proof (walks of functions, and what they answer). Conditions: none beyond what the given row says. -/
import Derived.Test.YtlbjdpahhgokkaaMFnLaidOut0
import Derived.Shelf.Abstract
import Derived.Lib.Hide
import Derived.Test.YtlbjdpahhgokkaaMFnLaidOut1
/- The walk of layouter's begin where no column is deeper: columns come off the stack. -/
namespace Go.Proofs.Ytlbjdpahhgokkaa.P
open Go.RowKit Go.Shelf Go.Proofs.YtlbjdpahhgokkaaW.PrintWords Go.Proofs.YtlbjdpahhgokkaaW.PrintLast Go.Proofs.YtlbjdpahhgokkaaW.PrintMore Go.Proofs.YtlbjdpahhgokkaaEv
set_option linter.unusedVariables false
set_option linter.unusedSimpArgs false
set_option maxHeartbeats 16000000 in
set_option maxRecDepth 100000 in
theorem begin_pop {w0 : World} (ok : Nat → Prop) (g : Nat) (out : List S46) (st : List Int) (d : Int) (x : S46) (w : World) (hI : LyS w0 w ok g out st d) (hB : Below w0.heap.size w0 w) (hF : ∀ k, w.heap.size ≤ k → ok k) (hx : 1 ≤ x.f2) (h1 : 1 ≤ st.length) (h0 : st[0]? = some 1) (hl : out.length + st.length ≤ 500000) (hc : ¬ lastC st < x.f2) :
    Calls Try.prog 31 #[.pointer (some ⟨g, 0, none⟩), .agg #[.int .i64 x.f0, .int .i64 x.f1, .int .i64 x.f2]] w fun e w' => e = .returned (.int .i64 (if lastC (popR x (st.length - 1) st out).1 = x.f2 then 0 else 2)) ∧ LyS w0 w' ok g (popR x (st.length - 1) st out).2 (popR x (st.length - 1) st out).1 d ∧ Below w0.heap.size w0 w' ∧ KeepOk w w' ok g := by
  have cA : decide (lastC st < x.f2) = false := decide_eq_false hc
  clear hc
  have HI := Aside0.mk (hI.alloc (.cells #[.int .i64 x.f0, .int .i64 x.f1, .int .i64 x.f2] 46))
  have BX := Aside0.mk (blk_new w (.cells #[.int .i64 x.f0, .int .i64 x.f1, .int .i64 x.f2] 46))
  have HB := Aside0.mk (below_alloc hB (.cells #[.int .i64 x.f0, .int .i64 x.f1, .int .i64 x.f2] 46))
  have SZ1 : Aside0 (w.heap.size + 1 ≤ (w.alloc (.cells #[.int .i64 x.f0, .int .i64 x.f1, .int .i64 x.f2] 46)).heap.size) := ⟨by simp⟩
  have KP1 : Aside0 (∀ k, k < w.heap.size → k ≠ g → ¬ ok k → (w.alloc (.cells #[.int .i64 x.f0, .int .i64 x.f1, .int .i64 x.f2] 46)).heap[k]? = w.heap[k]?) := ⟨fun k hk _ _ => Below.heap_alloc w _ k hk⟩
  have HF1 : Aside0 (∀ k, w.heap.size + 1 ≤ k → ok k ∧ k ≠ w.heap.size) := ⟨fun k hk => ⟨hF k (by omega), by omega⟩⟩
  have hgw : g < w.heap.size := by obtain ⟨v0, v1, hG, _⟩ := hI; exact blk_lt hG
  clear hI hB hF
  obtain ⟨r, hr⟩ : ∃ r, popR x (st.length - 1) st out = r := ⟨_, rfl⟩
  have hr0 : Aside0 (∃ n, st.length = n + 1 ∧ popR x n st out = r) := ⟨⟨st.length - 1, by omega, hr⟩⟩
  rw [hr]
  clear hr
  obtain ⟨cd, hcd⟩ : ∃ cd : Int, (if lastC r.1 = x.f2 then (0 : Int) else 2) = cd := ⟨_, rfl⟩
  rw [hcd]
  replace hcd := Aside0.mk hcd
  go_enter Try.func31, Try.ntmps31
  go_wp2_with fail
  go_quiet ((go_at_call 50; with_reducible exact last_hand g _ st d _ HI.out (by omega) (by omega) _))
  go_wp2_with fail
  obtain ⟨gb, hgb⟩ : ∃ gb, w.heap.size = gb := ⟨_, rfl⟩
  replace HI := Aside0.mk (HI.out.drewN nq)
  replace BX := Aside0.mk (blk_drewN BX.out nq)
  replace HB := Aside0.mk (pw_below_drewN HB.out nq)
  replace SZ1 : Aside0 (w.heap.size + 1 ≤ ((w.alloc (.cells #[.int .i64 x.f0, .int .i64 x.f1, .int .i64 x.f2] 46)).drewN nq).heap.size) := SZ1
  replace KP1 : Aside0 (∀ k, k < w.heap.size → k ≠ g → ¬ ok k → ((w.alloc (.cells #[.int .i64 x.f0, .int .i64 x.f1, .int .i64 x.f2] 46)).drewN nq).heap[k]? = w.heap[k]?) := KP1
  generalize hW : (w.alloc (.cells #[.int .i64 x.f0, .int .i64 x.f1, .int .i64 x.f2] 46)).drewN nq = W at *
  clear hW
  simp only [hgb] at HI BX HF1 SZ1 KP1 hgw ⊢
  go_loopg [24] st.length (fun gg _ wr => ∃ (n : Nat) (st1 : List Int) (out1 : List S46), n < gg ∧ st1.length = n + 1 ∧ st1[0]? = some 1 ∧ out1.length + st1.length ≤ 500000 ∧ Aside0 (popR x n st1 out1 = r) ∧ Aside0 (LyS w0 wr (fun k => ok k ∧ k ≠ gb) g out1 st1 d) ∧ Aside0 (wr.heap[gb]? = some (.cells #[.int .i64 x.f0, .int .i64 x.f1, .int .i64 x.f2] 46 (0, 0))) ∧ Aside0 (Below w0.heap.size w0 wr) ∧ Aside0 (gb + 1 ≤ wr.heap.size) ∧ Aside0 (∀ k, k < gb → k ≠ g → ¬ ok k → wr.heap[k]? = w.heap[k]?))
  case atStart =>
    obtain ⟨n, hn, hrn⟩ := hr0.out
    exact ⟨n, st, out, by omega, hn, h0, hl, ⟨hrn⟩, HI, BX, HB, SZ1, KP1⟩
  case round =>
    clear hr0 HI BX HB SZ1 KP1 cA h1 h0 hl
    obtain ⟨n, st1, out1, hng, hn, h0, hl, HR, HI, BX, HB, SZ1, KP1⟩ := hrel
    have h1 : 1 ≤ st1.length := by omega
    have hy2 : wr.cell? ⟨gb, 2, none⟩ = some (.int .i64 x.f2) := (blk_cell BX.out 2).trans rfl
    by_cases hc : x.f2 < lastC st1
    · have cB : decide (x.f2 < lastC st1) = true := decide_eq_true hc
      cases n with
      | zero =>
        have := (popR_keeps x hx 0 st1 out1 hn h0).2.2.2.1
        simp only [popR] at this
        omega
      | succ n =>
      have HR2 : Aside0 (popR x n (st1.take (st1.length - 1)) (out1 ++ [⟨-3, x.f1, x.f2⟩]) = r) := ⟨by have := HR.out; simp only [popR] at this; rw [if_pos hc] at this; exact this⟩
      have ht1 : (st1.take (st1.length - 1)).length = n + 1 := by simp; omega
      have ht0 : (st1.take (st1.length - 1))[0]? = some 1 := by rw [List.getElem?_take, if_pos (by omega)]; exact h0
      clear HR hc
      go_wp2_with fail
      go_quiet ((go_at_call 50; with_reducible exact last_hand g _ st1 d _ HI.out (by omega) (by omega) _))
      go_wp2_with fail
      replace HI := Aside0.mk (HI.out.drewN nq)
      replace BX := Aside0.mk (blk_drewN BX.out nq)
      replace HB := Aside0.mk (pw_below_drewN HB.out nq)
      replace SZ1 : Aside0 (gb + 1 ≤ (wr.drewN nq).heap.size) := SZ1
      replace KP1 : Aside0 (∀ k, k < gb → k ≠ g → ¬ ok k → (wr.drewN nq).heap[k]? = w.heap[k]?) := KP1
      clear hy2
      generalize hW : wr.drewN nq = W2 at *
      clear hW
      obtain ⟨v0, v1, hG, hg, hR0, hR1⟩ := HI.out
      obtain ⟨A1, c1, rfl⟩ := Kd.R_slice hR1
      have BK1 := Aside0.mk (blk_drew hG)
      have BX1 := Aside0.mk (blk_drew BX.out)
      have HO0 := Aside0.mk (Kd.R_drew hR0)
      have HO1 := Aside0.mk (Kd.R_drew hR1)
      have HB1 := Aside0.mk (below_drew1 HB.out)
      have GE := Aside0.mk hg
      clear hG hg hR0 hR1 HI BX
      have hc1 := (Kd.R_reads' HO1.out).2.1
      have hwr : IntKind.i64.wrap ((st1.length : Int) - 1) = (st1.length : Int) - 1 := by rw [i64_w]; exact wrap_id (by omega) (by omega)
      have b0 : (0 : Int) ≤ (st1.length : Int) - 1 := by omega
      have b1 : (st1.length : Int) - 1 ≤ (c1 : Int) := by omega
      have b2 : (st1.length : Int) - 1 ≤ (st1.length : Int) := by omega
      have b3 := eq_true b0
      have b4 := eq_true b1
      have b5 : 1 ≤ st1.length := by omega
      have b6 : st1.length - 1 ≤ c1 := by omega
      have b7 : (1 : Int) ≤ (st1.length : Int) := by omega
      have hton : ((st1.length : Int) - 1).toNat = st1.length - 1 := by omega
      replace hn := Aside0.mk hn
      replace ht1 := Aside0.mk ht1
      replace SZ1 : Aside0 (gb + 1 ≤ W2.drew.heap.size) := SZ1
      replace KP1 : Aside0 (∀ k, k < gb → k ≠ g → ¬ ok k → W2.drew.heap[k]? = w.heap[k]?) := KP1
      refine start_ (n := 15) (S := fun w' => w'.cell? ⟨g, 1, none⟩ = some (.slice A1 st1.length c1)) (ds := [14]) #[false, false, false, false, false, false, false, false, false, false, false, false, false, false, false] (by kernel_rfl) rfl rfl (by exact (blk_cell BK1.out 1).trans rfl) (fun hHeld => ?_)
      generalize hW1 : W2.drew = W1 at BK1 BX1 HO0 HO1 HB1 SZ1 KP1 hHeld ⊢
      have hx0 := (blk_cell BK1.out 1)
      have hf0 := blk_frozen BK1.out 1
      refine pure_ (i := 0) (N := (some 29)) (v := ?_) (a' := ?_) #[true, false, false, false, false, false, false, false, false, false, false, false, false, false, false] rfl rfl (by kernel_rfl) (fun _ _ _ h => h) (Or.inl ⟨by rfl, ?_⟩) ?_ ?_
      rotate_left
      · intro w'
        go_simp
        with_reducible rfl
      rotate_left
      · simp only [Act.put, List.setIfInBounds_toArray, List.set_cons_zero, List.set_cons_succ, i64_w, i32_w]
        rfl
      refine pure_ (i := 1) (N := (some 30)) (v := ?_) (a' := ?_) #[true, true, false, false, false, false, false, false, false, false, false, false, false, false, false] rfl rfl (by kernel_rfl) (fun _ _ _ h => h) (Or.inl ⟨by rfl, ?_⟩) ?_ ?_
      rotate_left
      · intro w'
        go_simp
        with_reducible rfl
      rotate_left
      · simp only [Act.put, List.setIfInBounds_toArray, List.set_cons_zero, List.set_cons_succ, i64_w, i32_w]
        rfl
      refine pure_ (i := 2) (N := (some 31)) (v := ?_) (a' := ?_) #[true, true, true, false, false, false, false, false, false, false, false, false, false, false, false] rfl rfl (by kernel_rfl) (fun _ _ _ h => h) (Or.inl ⟨by rfl, ?_⟩) ?_ ?_
      rotate_left
      · intro w'
        go_simp
        with_reducible rfl
      rotate_left
      · simp only [Act.put, List.setIfInBounds_toArray, List.set_cons_zero, List.set_cons_succ, i64_w, i32_w]
        rfl
      refine pure_ (i := 3) (N := (some 32)) (v := ?_) (a' := ?_) #[true, true, true, true, false, false, false, false, false, false, false, false, false, false, false] rfl rfl (by kernel_rfl) (fun _ _ _ h => h) (Or.inl ⟨by rfl, ?_⟩) ?_ ?_
      rotate_left
      · intro w'
        go_simp
        with_reducible rfl
      rotate_left
      · simp only [Act.put, List.setIfInBounds_toArray, List.set_cons_zero, List.set_cons_succ, i64_w, i32_w]
        rfl
      refine pure_ (i := 5) (N := (some 34)) (v := ?_) (a' := ?_) #[true, true, true, true, false, true, false, false, false, false, false, false, false, false, false] rfl rfl (by kernel_rfl) (fun _ _ _ h => h) (Or.inl ⟨by rfl, ?_⟩) ?_ ?_
      rotate_left
      · intro w'
        go_simp
        with_reducible rfl
      rotate_left
      · simp only [Act.put, List.setIfInBounds_toArray, List.set_cons_zero, List.set_cons_succ, i64_w, i32_w]
        rfl
      refine pure_ (i := 6) (N := (some 35)) (v := ?_) (a' := ?_) #[true, true, true, true, false, true, true, false, false, false, false, false, false, false, false] rfl rfl (by kernel_rfl) (fun _ _ _ h => h) (Or.inl ⟨by rfl, ?_⟩) ?_ ?_
      rotate_left
      · intro w'
        go_simp
        with_reducible rfl
      rotate_left
      · simp only [Act.put, List.setIfInBounds_toArray, List.set_cons_zero, List.set_cons_succ, i64_w, i32_w]
        rfl
      refine pure_ (i := 7) (N := (some 36)) (v := ?_) (a' := ?_) #[true, true, true, true, false, true, true, true, false, false, false, false, false, false, false] rfl rfl (by kernel_rfl) (fun _ _ _ h => h) (Or.inl ⟨by rfl, ?_⟩) ?_ ?_
      rotate_left
      · intro w'
        go_simp
        with_reducible rfl
      rotate_left
      · simp only [Act.put, List.setIfInBounds_toArray, List.set_cons_zero, List.set_cons_succ, i64_w, i32_w]
        rfl
      refine take_ (i := 4) (N := (some 33)) (v := ?_) (a' := ?_) #[true, true, true, true, true, true, true, true, false, false, false, false, false, false, false] rfl rfl (by kernel_rfl) (fun _ _ _ h => h) (Or.inl ⟨by rfl, ?_⟩) hHeld ?_ ?_
      rotate_left
      · rintro w' s0
        go_simp
        with_reducible rfl
      rotate_left
      · simp only [Act.put, List.setIfInBounds_toArray, List.set_cons_zero, List.set_cons_succ, i64_w, i32_w]
        rfl
      refine take_ (i := 8) (N := (some 37)) (v := ?_) (a' := ?_) #[true, true, true, true, true, true, true, true, true, false, false, false, false, false, false] rfl rfl (by kernel_rfl) (fun _ _ _ h => h) (Or.inl ⟨by rfl, ?_⟩) hHeld ?_ ?_
      rotate_left
      · rintro w' s0
        go_simp
        with_reducible rfl
      rotate_left
      · simp only [Act.put, List.setIfInBounds_toArray, List.set_cons_zero, List.set_cons_succ, i64_w, i32_w]
        rfl
      refine pure_ (i := 9) (N := (some 38)) (v := ?_) (a' := ?_) #[true, true, true, true, true, true, true, true, true, true, false, false, false, false, false] rfl rfl (by kernel_rfl) (fun _ _ _ h => h) (Or.inl ⟨by rfl, ?_⟩) ?_ ?_
      rotate_left
      · intro w'
        go_simp
        with_reducible rfl
      rotate_left
      · simp only [Act.put, List.setIfInBounds_toArray, List.set_cons_zero, List.set_cons_succ, i64_w, i32_w]
        rfl
      refine pure_ (i := 10) (N := (some 39)) (v := ?_) (a' := ?_) #[true, true, true, true, true, true, true, true, true, true, true, false, false, false, false] rfl rfl (by kernel_rfl) (fun _ _ _ h => h) (Or.inl ⟨by rfl, ?_⟩) ?_ ?_
      rotate_left
      · intro w'
        go_simp
        with_reducible rfl
      rotate_left
      · simp only [Act.put, List.setIfInBounds_toArray, List.set_cons_zero, List.set_cons_succ, i64_w, i32_w]
        rfl
      refine pure_ (i := 11) (N := (some 40)) (v := ?_) (a' := ?_) #[true, true, true, true, true, true, true, true, true, true, true, true, false, false, false] rfl rfl (by kernel_rfl) (fun _ _ _ h => h) (Or.inl ⟨by rfl, ?_⟩) ?_ ?_
      rotate_left
      · intro w'
        go_simp
        with_reducible rfl
      rotate_left
      · simp only [Act.put, List.setIfInBounds_toArray, List.set_cons_zero, List.set_cons_succ, i64_w, i32_w]
        rfl
      refine pure_ (i := 12) (N := (some 41)) (v := ?_) (a' := ?_) #[true, true, true, true, true, true, true, true, true, true, true, true, true, false, false] rfl rfl (by kernel_rfl) (fun _ _ _ h => h) (Or.inl ⟨by rfl, ?_⟩) ?_ ?_
      rotate_left
      · intro w'
        go_simp
        with_reducible rfl
      rotate_left
      · simp only [Act.put, List.setIfInBounds_toArray, List.set_cons_zero, List.set_cons_succ, i64_w, i32_w]
        rfl
      refine pure_ (i := 13) (N := (some 42)) (v := ?_) (a' := ?_) #[true, true, true, true, true, true, true, true, true, true, true, true, true, true, false] rfl rfl (by kernel_rfl) (fun _ _ _ h => h) (Or.inl ⟨by rfl, ?_⟩) ?_ ?_
      rotate_left
      · intro w'
        go_simp
        with_reducible rfl
      rotate_left
      · simp only [Act.put, List.setIfInBounds_toArray, List.set_cons_zero, List.set_cons_succ, i64_w, i32_w]
        rfl
      refine last_ (i := 14) (N := none) #[true, true, true, true, true, true, true, true, true, true, true, true, true, true, true] rfl rfl (by kernel_rfl) (by decide) (fun K hK => ?_)
      refine skip_ (w1 := ?_) (by rfl) rfl ?_ ?_
      rotate_left
      · go_simp
        rfl
      refine hK.out _ _ ?_
      clear hK K
      refine done_ (by kernel_rfl) ?_
      have HTK := Kd.R_take HO1.out (m := st1.length - 1) (by omega)
      have HI3 : Aside0 (LyS w0 (W1.setCell ⟨g, 1, none⟩ (.slice A1 (st1.length - 1) c1)) (fun k => ok k ∧ k ≠ gb) g out1 (st1.take (st1.length - 1)) d) := ⟨⟨_, _, (blk_set BK1.out 1 _).trans rfl, GE.out, Kd.R_set HO0.out BK1.out (by decide) 1 _, Kd.R_set HTK BK1.out (by decide) 1 _⟩⟩
      have hgg : gb ≠ g := by omega
      have BX3 := Aside0.mk (blk_far BX1.out (p := ⟨g, 1, none⟩) hgg (.slice A1 (st1.length - 1) c1))
      have HB3 := Aside0.mk (below_set HB1.out GE.out (j := 1) (v := .slice A1 (st1.length - 1) c1))
      have KP3 : Aside0 (∀ k, k < gb → k ≠ g → ¬ ok k → (W1.setCell ⟨g, 1, none⟩ (.slice A1 (st1.length - 1) c1)).heap[k]? = w.heap[k]?) := ⟨fun k hk hkg hko => (Below.heap_setCell W1 _ _ k hkg).trans (KP1.out k hk hkg hko)⟩
      have SZ3 : Aside0 (gb + 1 ≤ (W1.setCell ⟨g, 1, none⟩ (.slice A1 (st1.length - 1) c1)).heap.size) := ⟨by have := SZ1.out; simpa using this⟩
      have ol : (out1 ++ [(⟨-3, x.f1, x.f2⟩ : S46)]).length + (st1.take (st1.length - 1)).length ≤ 500000 := by simp; omega
      have ol1 : out1.length ≤ 1000000 := by omega
      have hm : n + 1 < gk := by omega
      replace hl := Aside0.mk hl
      clear HO0 HO1 HB1 BK1 BX1 HTK hx0 hf0 hHeld hW1 SZ1 KP1 b0 b1 b2 b3 b4 b5 b6 b7 hton hwr hc1 h1 h0
      generalize st1.take (st1.length - 1) = st2 at *
      generalize W1.setCell ⟨g, 1, none⟩ (.slice A1 (st1.length - 1) c1) = w3 at *
      have hy0 := blk_cell BX3.out 0
      have hy1 := blk_cell BX3.out 1
      have hy2 := blk_cell BX3.out 2
      go_wp2_with (go_at_call 30; refine (put_hand (fun k => ok k ∧ k ≠ gb) g out1 st2 d (-3) x w3 HI3.out HB3.out ?hff (by omega)).mono ?_; (case hff => exact fun k hk => HF1.out k (by have := SZ3.out; omega)); rintro e w' ⟨rfl, hi, hb, hk⟩)
      have BX4 := (hk gb (by have := SZ3.out; omega) hgg (fun h => h.2 rfl)).trans BX3.out
      go_roundg (n + 1)
      case measure => omega
      case rel => exact ⟨n, st2, _, by omega, ht1.out, ht0, ol, HR2, ⟨hi⟩, ⟨BX4⟩, ⟨hb⟩, ⟨blk_lt BX4⟩, ⟨fun k hk1 hkg hko => (hk k (by have := SZ3.out; omega) hkg (fun h => hko h.1)).trans (KP3.out k hk1 hkg hko)⟩⟩
    · have cB : decide (x.f2 < lastC st1) = false := decide_eq_false hc
      have hr : popR x n st1 out1 = (st1, out1) := by
        cases n with
        | zero => rfl
        | succ n => simp only [popR]; rw [if_neg (by omega)]
      have hr2 := HR.out
      rw [hr] at hr2
      subst hr2
      clear HR hr hn h0
      by_cases hq : lastC st1 = x.f2
      · have hz : Aside0 (cd = 0) := ⟨hcd.out.symm.trans (if_pos hq)⟩
        clear hcd
        have HQ := Aside0.mk hq
        clear hq hc cB
        go_wp2_with fail
        go_quiet ((go_at_call 50; with_reducible exact last_is g _ st1 d _ _ HI.out (by omega) (by omega) HQ.out _))
        go_wp2_with fail
        replace HI := Aside0.mk (HI.out.drewN nq)
        replace hy2 : (wr.drewN nq).cell? ⟨gb, 2, none⟩ = some (.int .i64 x.f2) := hy2
        replace HB := Aside0.mk (pw_below_drewN HB.out nq)
        replace KP1 : Aside0 (∀ k, k < gb → k ≠ g → ¬ ok k → (wr.drewN nq).heap[k]? = w.heap[k]?) := KP1
        clear BX SZ1
        generalize hW : wr.drewN nq = W5 at *
        clear hW
        go_quiet ((go_at_call 50; with_reducible exact last_is g _ st1 d _ _ HI.out (by omega) (by omega) HQ.out _))
        go_wp2_with fail
        go_ret
        exact ⟨by rw [hz.out]; rfl, (HI.out.drewN _).mono (fun _ h => h.1), by repeat (first | (with_reducible exact HB.out) | apply pw_below_drewN | apply below_drew1), fun k hk1 hkg hko => KP1.out k (by omega) hkg hko⟩
      · have e1 : (x.f2 != lastC st1) = true := bne_iff_ne.2 (fun h => hq h.symm)
        have hz : Aside0 (cd = 2) := ⟨hcd.out.symm.trans (if_neg hq)⟩
        clear hcd
        clear hq hc
        go_wp2_with fail
        go_quiet ((go_at_call 50; with_reducible exact last_hand g _ st1 d _ HI.out (by omega) (by omega) _))
        go_wp2_with fail
        replace HI := Aside0.mk (HI.out.drewN nq)
        replace hy2 : (wr.drewN nq).cell? ⟨gb, 2, none⟩ = some (.int .i64 x.f2) := hy2
        replace HB := Aside0.mk (pw_below_drewN HB.out nq)
        replace KP1 : Aside0 (∀ k, k < gb → k ≠ g → ¬ ok k → (wr.drewN nq).heap[k]? = w.heap[k]?) := KP1
        clear BX SZ1
        generalize hW : wr.drewN nq = W5 at *
        clear hW
        go_quiet ((go_at_call 50; with_reducible exact last_hand g _ st1 d _ HI.out (by omega) (by omega) _))
        go_wp2_with fail
        go_ret
        exact ⟨by rw [hz.out]; rfl, (HI.out.drewN _).mono (fun _ h => h.1), by repeat (first | (with_reducible exact HB.out) | apply pw_below_drewN | apply below_drew1), fun k hk1 hkg hko => KP1.out k (by omega) hkg hko⟩
theorem begin_hand {w0 : World} (ok : Nat → Prop) (g : Nat) (out : List S46) (st : List Int) (d : Int) (x : S46) (w : World) (hI : LyS w0 w ok g out st d) (hB : Below w0.heap.size w0 w) (hF : ∀ k, w.heap.size ≤ k → ok k) (hx : 1 ≤ x.f2) (h1 : 1 ≤ st.length) (h0 : st[0]? = some 1) (hl : out.length + st.length ≤ 500000) :
    Calls Try.prog 31 #[.pointer (some ⟨g, 0, none⟩), .agg #[.int .i64 x.f0, .int .i64 x.f1, .int .i64 x.f2]] w fun e w' => e = .returned (.int .i64 (if lastC (begR x st out).1 = x.f2 then 0 else 2)) ∧ LyS w0 w' ok g (begR x st out).2 (begR x st out).1 d ∧ Below w0.heap.size w0 w' ∧ KeepOk w w' ok g := by
  by_cases hc : lastC st < x.f2
  · have hl2 : lastC (st ++ [x.f2]) = x.f2 := by
      unfold lastC rd
      rw [List.getD_eq_getElem?_getD, List.getElem?_append_right (by simp)]
      simp
    rw [begR_push hc, if_pos hl2]
    exact begin_push ok g out st d x w hI hB hF h1 hl hc
  · have : begR x st out = popR x (st.length - 1) st out := by unfold begR; rw [if_neg (by omega)]
    rw [this]
    exact begin_pop ok g out st d x w hI hB hF hx h1 h0 hl hc
end Go.Proofs.Ytlbjdpahhgokkaa.P
-- Made by wip/gen/pp.py of this session over the kit's print of the loaded program: a function, and the contract of its walk. Lean checks it.
namespace Go.Proofs.Ytlbjdpahhgokkaa.P
open Go.RowKit Go.Proofs.YtlbjdpahhgokkaaW.PrintWords Go.Proofs.YtlbjdpahhgokkaaW.PrintLast Go.Proofs.YtlbjdpahhgokkaaW.PrintMore
attribute [local go_sem] max2_int min2_int max_two min_two max_three min_three max_four min_four   -- for this text's walks alone
set_option linter.unusedVariables false
set_option linter.unusedSimpArgs false

/-! ### slices_Index_int64_int64: function 57 -/
def slices_Index_int64_int64.l0 : Nat → List Int → Int → Int → Int → Option (Int)
 | 0, _, _, _, _ => none
 | k + 1, x0, x1, x7, x8 => if x8 < x7 then (if 0 ≤ x8 then (if x8 < (x0.length : Int) then (if x1 = (rd x0 x8) then (some x8) else (slices_Index_int64_int64.l0 k x0 x1 x7 (wrap64 (x8 + 1)))) else (none)) else (none)) else (some (-1))
def slices_Index_int64_int64.f (k : Nat) (l0 : List Int) (a1 : Int) : Option (Int) := slices_Index_int64_int64.l0 k l0 a1 (l0.length : Int) 0
theorem slices_Index_int64_int64.mono_l : ∀ k, (∀ y0 y1 y2 y3, LeO (slices_Index_int64_int64.l0 k y0 y1 y2 y3) (slices_Index_int64_int64.l0 (k + 1) y0 y1 y2 y3))
 | 0 => fun _ _ _ _ r h => by simp [slices_Index_int64_int64.l0] at h
 | k + 1 => by
  have ih0 := slices_Index_int64_int64.mono_l k
  ·intro y0 y1 y2 y3
   unfold slices_Index_int64_int64.l0
   repeat' first
   | (with_reducible exact ih0 _ _ _ _)
   | (with_reducible exact LeO.refl _)
   | (with_reducible exact LeO.none _)
   | (with_reducible refine LeO.ite ?_ ?_)
   | (with_reducible refine LeO.bind ?_ (fun _ => ?_))
   | exact ih0 _ _ _ _
   | exact LeO.none _
   | refine LeO.ite ?_ ?_
   | refine LeO.bind ?_ (fun _ => ?_)
theorem slices_Index_int64_int64.mono : ∀ a0 a1 k, LeO (slices_Index_int64_int64.f k a0 a1) (slices_Index_int64_int64.f (k + 1) a0 a1) := by
 intro a0 a1 k
 have ih0 := slices_Index_int64_int64.mono_l k
 unfold slices_Index_int64_int64.f
 repeat' first
   | (with_reducible exact ih0 _ _ _ _)
   | (with_reducible exact LeO.refl _)
   | (with_reducible exact LeO.none _)
   | (with_reducible refine LeO.ite ?_ ?_)
   | (with_reducible refine LeO.bind ?_ (fun _ => ?_))
   | exact ih0 _ _ _ _
   | exact LeO.none _
   | refine LeO.ite ?_ ?_
   | refine LeO.bind ?_ (fun _ => ?_)
set_option maxHeartbeats 8000000 in
set_option maxRecDepth 100000 in
theorem slices_Index_int64_int64.calls (k : Nat) (A0 : Option Addr) (c0 : Nat) (l0 : List Int) (a1 : Int) (r : Int) (w : World) (hr0 : Kd.C (Kd.int .i64) w A0 l0.length l0) (hc0 : l0.length ≤ c0) (h : slices_Index_int64_int64.f k l0 a1 = some r) :
  Calls Try.prog 57 #[.slice A0 l0.length c0, .int .i64 a1] w fun e w' => e = .returned (.int .i64 r) ∧ Drawn0 w w' := by
 have HR0 := Aside0.mk hr0
 have HC0 := Aside0.mk hc0
 clear hr0 hc0
 have H : (slices_Index_int64_int64.l0 k l0 a1 (l0.length : Int) 0) = some r := h
 clear h
 have H' := Aside0.mk H
 clear H
 go_enter Try.func57, Try.ntmps57
 go_wp2
 go_loopg [8] k (fun kq v8 w' => ∃ (x8_1 : Int), v8 = .int .i64 x8_1 ∧ Aside0 (slices_Index_int64_int64.l0 kq l0 a1 (l0.length : Int) x8_1 = some r) ∧ Aside0 (kq ≤ k) ∧ Drawn0 w w')
 case atStart => exact ⟨(0), (by first | rfl | (simp; done) | (simp [*]; done)), H', ⟨Nat.le_refl _⟩, by repeat (first | exact Drawn0.refl _ | apply Drawn0.step)⟩
 case round =>
  clear H'
  try clear p2
  obtain ⟨x8_1, rfl, HA, HK1, ⟨m1, rfl⟩⟩ := hrel
  cases gk with
  | zero => exact absurd HA.out (by simp [slices_Index_int64_int64.l0])
  | succ k1 =>
   have H := HA.out
   clear HA
   simp only [slices_Index_int64_int64.l0] at H
   by_cases c3 : x8_1 < (l0.length : Int)
   ·rw [if_pos c3] at H
    have c3b0 : decide (x8_1 < (l0.length : Int)) = true := decide_eq_true c3
    clear c3
    by_cases c4 : 0 ≤ x8_1
    ·rw [if_pos c4] at H
     have c4b0 : decide (0 ≤ x8_1) = true := decide_eq_true c4
     clear c4
     by_cases c5 : x8_1 < (l0.length : Int)
     ·rw [if_pos c5] at H
      have c5b0 : decide (x8_1 < (l0.length : Int)) = true := decide_eq_true c5
      clear c5
      by_cases c6 : a1 = (rd l0 x8_1)
      ·rw [if_pos c6] at H
       have c6b0 : (a1 == (rd l0 x8_1)) = true := beq_iff_eq.mpr c6
       have c6b1 : (a1 != (rd l0 x8_1)) = false := bne_eq_false_iff_eq.mpr c6
       clear c6
       obtain rfl := Option.some.inj H
       have p101 : 0 ≤ (x8_1 : Int) := of_decide_eq_true (by first | (with_reducible assumption) | assumption)
       have q101 : x8_1 < (l0.length : Int) := of_decide_eq_true (by first | (with_reducible assumption) | assumption)
       obtain ⟨ad101, e101, hx101_0⟩ := Kd.at_int HR0.out x8_1 p101 q101
       cases e101
       replace p101 := eq_true p101
       replace q101 := eq_true q101
       go_wp2
       go_ret
       exact ⟨by first | rfl | (simp; done) | (simp [*]; done), by repeat (first | exact Drawn0.refl _ | apply Drawn0.step)⟩
      ·rw [if_neg c6] at H
       have c6b0 : (a1 == (rd l0 x8_1)) = false := beq_eq_false_iff_ne.mpr c6
       have c6b1 : (a1 != (rd l0 x8_1)) = true := bne_iff_ne.mpr c6
       have H' := Aside0.mk H
       clear H
       have p101 : 0 ≤ (x8_1 : Int) := of_decide_eq_true (by first | (with_reducible assumption) | assumption)
       have q101 : x8_1 < (l0.length : Int) := of_decide_eq_true (by first | (with_reducible assumption) | assumption)
       obtain ⟨ad101, e101, hx101_0⟩ := Kd.at_int HR0.out x8_1 p101 q101
       cases e101
       replace p101 := eq_true p101
       replace q101 := eq_true q101
       go_wp2
       go_roundg k1
       case measure => have := HK1.out; omega
       case rel => exact ⟨(wrap64 (x8_1 + 1)), (by first | rfl | (simp; done) | (simp [*]; done)), H', ⟨by have := HK1.out; omega⟩, by repeat (first | exact Drawn0.refl _ | apply Drawn0.step)⟩
     ·rw [if_neg c5] at H
      exact absurd H (by simp)
    ·rw [if_neg c4] at H
     exact absurd H (by simp)
   ·rw [if_neg c3] at H
    have c3b0 : decide (x8_1 < (l0.length : Int)) = false := decide_eq_false c3
    clear c3
    obtain rfl := Option.some.inj H
    go_wp2
    go_ret
    exact ⟨by first | rfl | (simp; done) | (simp [*]; done), by repeat (first | exact Drawn0.refl _ | apply Drawn0.step)⟩

end Go.Proofs.Ytlbjdpahhgokkaa.P
-- Made by wip/gen/pp.py of this session over the kit's print of the loaded program: a function, and the contract of its walk. Lean checks it.
namespace Go.Proofs.Ytlbjdpahhgokkaa.P
open Go.RowKit Go.Proofs.YtlbjdpahhgokkaaW.PrintWords Go.Proofs.YtlbjdpahhgokkaaW.PrintLast Go.Proofs.YtlbjdpahhgokkaaW.PrintMore
attribute [local go_sem] max2_int min2_int max_two min_two max_three min_three max_four min_four   -- for this text's walks alone
set_option linter.unusedVariables false
set_option linter.unusedSimpArgs false

/-! ### slices_Contains_int64_int64: function 49 -/
def slices_Contains_int64_int64.f (k : Nat) (l0 : List Int) (a1 : Int) : Option (Bool) := (slices_Index_int64_int64.f k l0 a1).bind fun t101 => (some (decide (t101 ≥ 0)))
theorem slices_Contains_int64_int64.mono : ∀ a0 a1 k, LeO (slices_Contains_int64_int64.f k a0 a1) (slices_Contains_int64_int64.f (k + 1) a0 a1) := by
 intro a0 a1 k
 unfold slices_Contains_int64_int64.f
 repeat' first
   | (with_reducible exact slices_Index_int64_int64.mono _ _ _)
   | (with_reducible exact LeO.refl _)
   | (with_reducible exact LeO.none _)
   | (with_reducible refine LeO.ite ?_ ?_)
   | (with_reducible refine LeO.bind ?_ (fun _ => ?_))
   | exact slices_Index_int64_int64.mono _ _ _
   | exact LeO.none _
   | refine LeO.ite ?_ ?_
   | refine LeO.bind ?_ (fun _ => ?_)
set_option maxHeartbeats 8000000 in
set_option maxRecDepth 100000 in
theorem slices_Contains_int64_int64.calls (k : Nat) (A0 : Option Addr) (c0 : Nat) (l0 : List Int) (a1 : Int) (r : Bool) (w : World) (hr0 : Kd.C (Kd.int .i64) w A0 l0.length l0) (hc0 : l0.length ≤ c0) (h : slices_Contains_int64_int64.f k l0 a1 = some r) :
  Calls Try.prog 49 #[.slice A0 l0.length c0, .int .i64 a1] w fun e w' => e = .returned (.bool r) ∧ Drawn0 w w' := by
 have HR0 := Aside0.mk hr0
 have HC0 := Aside0.mk hc0
 clear hr0 hc0
 have H : ((slices_Index_int64_int64.f k l0 a1).bind fun t101 => (some (decide (t101 ≥ 0)))) = some r := h
 clear h
 replace H := Option.bind_eq_some_iff.mp H
 obtain ⟨t101, A30, H⟩ := H
 replace H : (some (decide (t101 ≥ 0))) = some r := H
 have A3 := Aside0.mk A30
 clear A30
 obtain rfl := Option.some.inj H
 go_enter Try.func49, Try.ntmps49
 go_wp2_with (first | ((with_reducible refine gate_callee (f := 57) rfl ?_); refine goesL_ (some 7) rfl rfl Try.func57 (by kernel_rfl) rfl #[.slice A0 l0.length c0, .int .i64 a1] rfl (by (try simp only [List.map_toArray, List.map_cons, List.map_nil]); first | done | rfl | (simp only [List.length_drop, List.length_take]; rfl)) ?_; (with_reducible refine (slices_Index_int64_int64.calls k _ _ l0 a1 t101 _ ?side1 ?side2 A3.out).mono ?_); (case side1 => repeat (first | exact HR0.out | (with_reducible refine Kd.C_alloc ?_ _) | (with_reducible refine Kd.C_drewN ?_ _) | (with_reducible refine Kd.C_drew ?_))); (case side2 => exact HC0.out); rintro e w' ⟨rfl, ⟨nd, rfl⟩⟩; refine ⟨_, rfl, ?_⟩))
 go_ret
 exact ⟨by first | rfl | (simp; done) | (simp [*]; done), by repeat (first | exact Drawn0.refl _ | apply Drawn0.step)⟩

end Go.Proofs.Ytlbjdpahhgokkaa.P
/- The walk of layouter's item: an item is put out, and the depth told by brackets. -/
namespace Go.Proofs.Ytlbjdpahhgokkaa.P
open Go.RowKit Go.Shelf Go.Proofs.YtlbjdpahhgokkaaW.PrintWords Go.Proofs.YtlbjdpahhgokkaaW.PrintLast Go.Proofs.YtlbjdpahhgokkaaW.PrintMore Go.Proofs.YtlbjdpahhgokkaaEv
set_option linter.unusedVariables false
set_option linter.unusedSimpArgs false
set_option maxHeartbeats 16000000 in
set_option maxRecDepth 100000 in
theorem item_hand {w0 : World} (ok : Nat → Prop) (g : Nat) (out : List S46) (st : List Int) (d : Int) (x : S46) (A2 A3 : Option Addr) (c2 c3 : Nat) (op cl : List Int) (w : World) (hI : LyS w0 w ok g out st d) (hB : Below w0.heap.size w0 w) (hF : ∀ k, w.heap.size ≤ k → ok k) (hl : out.length ≤ 500000) (hd0 : 0 ≤ d) (hd1 : d ≤ 500000)
    (hC2 : Kd.C (Kd.int .i64) w0 A2 op.length op) (hc2 : op.length ≤ c2) (hC3 : Kd.C (Kd.int .i64) w0 A3 cl.length cl) (hc3 : cl.length ≤ c3) (bo bc : Bool) (ko kc : Nat) (ho1 : slices_Contains_int64_int64.f ko op x.f0 = some bo) (hc1 : slices_Contains_int64_int64.f kc cl x.f0 = some bc) :
    Calls Try.prog 32 #[.pointer (some ⟨g, 0, none⟩), .agg #[.int .i64 x.f0, .int .i64 x.f1, .int .i64 x.f2], .agg #[.slice A2 op.length c2, .slice A3 cl.length c3]] w fun e w' => e = .returned (.int .i64 (if bo then 0 else if bc then (if d = 0 then 3 else 0) else 0)) ∧ ((bo = false → bc = true → d ≠ 0) → LyS w0 w' ok g (out ++ [x]) st (if bo then d + 1 else if bc then d - 1 else d)) ∧ Below w0.heap.size w0 w' ∧ KeepOk w w' ok g := by
  have HI := Aside0.mk ((hI.alloc (.cells #[.int .i64 x.f0, .int .i64 x.f1, .int .i64 x.f2] 46)).alloc (.cells #[.slice A2 op.length c2, .slice A3 cl.length c3] 32))
  have BX := Aside0.mk (blk_alloc (blk_new w (.cells #[.int .i64 x.f0, .int .i64 x.f1, .int .i64 x.f2] 46)) (.cells #[.slice A2 op.length c2, .slice A3 cl.length c3] 32))
  have BY := Aside0.mk (blk_new (w.alloc (.cells #[.int .i64 x.f0, .int .i64 x.f1, .int .i64 x.f2] 46)) (.cells #[.slice A2 op.length c2, .slice A3 cl.length c3] 32))
  have HB := Aside0.mk (below_alloc (below_alloc hB (.cells #[.int .i64 x.f0, .int .i64 x.f1, .int .i64 x.f2] 46)) (.cells #[.slice A2 op.length c2, .slice A3 cl.length c3] 32))
  have SZ1 : Aside0 (w.heap.size + 2 ≤ ((w.alloc (.cells #[.int .i64 x.f0, .int .i64 x.f1, .int .i64 x.f2] 46)).alloc (.cells #[.slice A2 op.length c2, .slice A3 cl.length c3] 32)).heap.size) := ⟨by simp⟩
  have KP1 : Aside0 (∀ k, k < w.heap.size → k ≠ g → ¬ ok k → ((w.alloc (.cells #[.int .i64 x.f0, .int .i64 x.f1, .int .i64 x.f2] 46)).alloc (.cells #[.slice A2 op.length c2, .slice A3 cl.length c3] 32)).heap[k]? = w.heap[k]?) := ⟨fun k hk _ _ => (Below.heap_alloc _ _ k (by simp; omega)).trans (Below.heap_alloc w _ k hk)⟩
  have HF1 : Aside0 (∀ k, ((w.alloc (.cells #[.int .i64 x.f0, .int .i64 x.f1, .int .i64 x.f2] 46)).alloc (.cells #[.slice A2 op.length c2, .slice A3 cl.length c3] 32)).heap.size ≤ k → ok k ∧ k ≠ w.heap.size) := ⟨fun k hk => ⟨hF k (by have := SZ1.out; omega), by have := SZ1.out; omega⟩⟩
  replace HI := Aside0.mk (HI.out.mono (ok' := fun k => ok k ∧ k ≠ w.heap.size) (fun k hk => hk.1))
  have hgw : g < w.heap.size := by obtain ⟨v0, v1, hG, _⟩ := hI; exact blk_lt hG
  have hgy : (w.alloc (.cells #[.int .i64 x.f0, .int .i64 x.f1, .int .i64 x.f2] 46)).heap.size = w.heap.size + 1 := by simp
  have CO := Aside0.mk ho1
  have CC := Aside0.mk hc1
  have CA := Aside0.mk hC2
  have CB := Aside0.mk hC3
  have CL := Aside0.mk hc2
  have CM := Aside0.mk hc3
  rw [hgy] at BY
  clear hI hB hF ho1 hc1 hC2 hC3 hc2 hc3 hgy
  go_enter Try.func32, Try.ntmps32
  go_wp2_with fail
  obtain ⟨gb, hgb⟩ : ∃ gb, w.heap.size = gb := ⟨_, rfl⟩
  generalize hW : ((w.alloc (.cells #[.int .i64 x.f0, .int .i64 x.f1, .int .i64 x.f2] 46)).alloc (.cells #[.slice A2 op.length c2, .slice A3 cl.length c3] 32)) = W at *
  clear hW
  simp only [hgb] at HI BX BY HF1 SZ1 KP1 hgw ⊢
  obtain ⟨v0, v1, hG, hg, hR0, hR1⟩ := HI.out
  obtain ⟨A0, c0, rfl⟩ := Kd.R_slice hR0
  have BK1 := Aside0.mk (blk_drew hG)
  have BX1 := Aside0.mk (blk_drew BX.out)
  have BY1 := Aside0.mk (blk_drew BY.out)
  have HO0 := Aside0.mk (Kd.R_drew hR0)
  have HO1 := Aside0.mk (Kd.R_drew hR1)
  have HB1 := Aside0.mk (below_drew1 HB.out)
  have GE := Aside0.mk hg
  replace SZ1 : Aside0 (gb + 2 ≤ W.drew.heap.size) := SZ1
  replace KP1 : Aside0 (∀ k, k < gb → k ≠ g → ¬ ok k → W.drew.heap[k]? = w.heap[k]?) := KP1
  replace HF1 : Aside0 (∀ k, W.drew.heap.size ≤ k → ok k ∧ k ≠ gb) := HF1
  clear hG hg hR0 hR1 HI BX BY HB
  refine start_ (n := 11) (S := fun w' => w'.cell? ⟨g, 0, none⟩ = some (.slice A0 out.length c0) ∧ w'.cell? ⟨gb, 0, none⟩ = some (.int .i64 x.f0) ∧ w'.cell? ⟨gb, 1, none⟩ = some (.int .i64 x.f1) ∧ w'.cell? ⟨gb, 2, none⟩ = some (.int .i64 x.f2)) (ds := [10]) #[false, false, false, false, false, false, false, false, false, false, false] (by kernel_rfl) rfl rfl ⟨(blk_cell BK1.out 0).trans rfl, (blk_cell BX1.out 0).trans rfl, (blk_cell BX1.out 1).trans rfl, (blk_cell BX1.out 2).trans rfl⟩ (fun hHeld => ?_)
  generalize hW1 : W.drew = W1 at BK1 BX1 BY1 HO0 HO1 HB1 SZ1 KP1 HF1 hHeld ⊢
  refine pure_ (i := 0) (N := (some 7)) (v := ?_) (a' := ?_) #[true, false, false, false, false, false, false, false, false, false, false] rfl rfl (by kernel_rfl) (fun _ _ _ h => h) (Or.inl ⟨by rfl, ?_⟩) ?_ ?_
  rotate_left
  · intro w'
    go_simp
    with_reducible rfl
  rotate_left
  · simp only [Act.put, List.setIfInBounds_toArray, List.set_cons_zero, List.set_cons_succ, i64_w, i32_w]
    rfl
  refine pure_ (i := 1) (N := (some 8)) (v := ?_) (a' := ?_) #[true, true, false, false, false, false, false, false, false, false, false] rfl rfl (by kernel_rfl) (fun _ _ _ h => h) (Or.inl ⟨by rfl, ?_⟩) ?_ ?_
  rotate_left
  · intro w'
    go_simp
    with_reducible rfl
  rotate_left
  · simp only [Act.put, List.setIfInBounds_toArray, List.set_cons_zero, List.set_cons_succ, i64_w, i32_w]
    rfl
  refine pure_ (i := 2) (N := (some 9)) (v := ?_) (a' := ?_) #[true, true, true, false, false, false, false, false, false, false, false] rfl rfl (by kernel_rfl) (fun _ _ _ h => h) (Or.inl ⟨by rfl, ?_⟩) ?_ ?_
  rotate_left
  · intro w'
    go_simp
    with_reducible rfl
  rotate_left
  · simp only [Act.put, List.setIfInBounds_toArray, List.set_cons_zero, List.set_cons_succ, i64_w, i32_w]
    rfl
  refine pure_ (i := 3) (N := (some 10)) (v := ?_) (a' := ?_) #[true, true, true, true, false, false, false, false, false, false, false] rfl rfl (by kernel_rfl) (fun _ _ _ h => h) (Or.inl ⟨by rfl, ?_⟩) ?_ ?_
  rotate_left
  · intro w'
    go_simp
    with_reducible rfl
  rotate_left
  · simp only [Act.put, List.setIfInBounds_toArray, List.set_cons_zero, List.set_cons_succ, i64_w, i32_w]
    rfl
  refine take_ (i := 4) (N := (some 11)) (v := ?_) (a' := ?_) #[true, true, true, true, true, false, false, false, false, false, false] rfl rfl (by kernel_rfl) (fun _ _ _ h => h) (Or.inl ⟨by rfl, ?_⟩) hHeld ?_ ?_
  rotate_left
  · rintro w' ⟨s0, s1, s2, s3⟩
    go_simp
    with_reducible rfl
  rotate_left
  · simp only [Act.put, List.setIfInBounds_toArray, List.set_cons_zero, List.set_cons_succ, i64_w, i32_w]
    rfl
  refine take_ (i := 5) (N := (some 12)) (v := ?_) (a' := ?_) #[true, true, true, true, true, true, false, false, false, false, false] rfl rfl (by kernel_rfl) (fun _ _ _ h => h) (Or.inl ⟨by rfl, ?_⟩) hHeld ?_ ?_
  rotate_left
  · rintro w' ⟨s0, s1, s2, s3⟩
    go_simp
    with_reducible rfl
  rotate_left
  · simp only [Act.put, List.setIfInBounds_toArray, List.set_cons_zero, List.set_cons_succ, i64_w, i32_w]
    rfl
  refine one_ (i := 6) (N := (some 13)) #[true, true, true, true, true, true, true, false, false, false, false] rfl rfl (by kernel_rfl) (by decide) (fun K hK => ?_)
  refine value_ (w1 := ?_) (v := ?_) (by rfl) rfl ?_ ?_
  rotate_left 2
  · go_simp
    constructor
    · rfl
    · rfl
  refine hK.out _ _ ⟨(World.cell?_alloc_lt _ _ _ (World.block_lt_of_cell? _ _ (hHeld.1))).trans (hHeld.1), (World.cell?_alloc_lt _ _ _ (World.block_lt_of_cell? _ _ (hHeld.2.1))).trans (hHeld.2.1), (World.cell?_alloc_lt _ _ _ (World.block_lt_of_cell? _ _ (hHeld.2.2.1))).trans (hHeld.2.2.1), (World.cell?_alloc_lt _ _ _ (World.block_lt_of_cell? _ _ (hHeld.2.2.2))).trans (hHeld.2.2.2)⟩ (fun hHeld => ?_)
  clear hK K
  refine norm_ (a' := ?_) ?_ ?_
  rotate_left
  · show Act.put _ (some 13) _ = _
    simp only [Act.put, List.setIfInBounds_toArray, List.set_cons_zero, List.set_cons_succ, i64_w, i32_w]
    rfl
  refine one_ (i := 7) (N := (some 14)) #[true, true, true, true, true, true, true, true, false, false, false] rfl rfl (by kernel_rfl) (by decide) (fun K hK => ?_)
  refine Kd.R_append_step k46 (w0 := w0) w0.heap.size (by rfl) (.tmp 11) (.tmp 13) 28 46 (.agg #[(.int .i64 0), (.int .i64 0), (.int .i64 0)]) 24 rfl Try.underlying28 info46 rfl (by decide) (by omega) (.slice A0 out.length c0) out x [.int .i64 x.f0, .int .i64 x.f1, .int .i64 x.f2] (fun k => ok k ∧ k ≠ gb) (fun _ => False) rfl rfl ?aP (fun _ hk => hk.elim) HF1.out HO0.out HB1.out (below_size HB1.out) ?aL ?_
  (case aP => exact k46_mkM _ _ _ x)
  (case aL => omega)
  intro v2 w2 ho hb hgr hat
  have hne := Kd.R_ne HO0.out BK1.out (by decide)
  have hnx := Kd.R_away HO0.out (g := gb) (fun _ hk => hk.2)
  have hny := Kd.R_ne HO0.out BY1.out (by decide)
  have HOb := Aside0.mk (Kd.R_over' HO1.out (Kd.R_typed HO0.out) (by decide) hgr)
  have BK2 := Aside0.mk (blk_grown BK1.out hgr hne)
  have BX2 := Aside0.mk (blk_grown BX1.out hgr hnx)
  have BY2 := Aside0.mk (blk_grown BY1.out hgr hny)
  have KP2 : Aside0 (∀ k, k < gb → k ≠ g → ¬ ok k → w2.heap[k]? = w.heap[k]?) := ⟨fun k hk hkg hko => (hgr.block k (by have := SZ1.out; omega) (fun e => hko (HO0.out.1 k e.symm).1)).trans (KP1.out k hk hkg hko)⟩
  obtain ⟨A4, c4, rfl⟩ := Kd.R_slice ho
  have hln : (out ++ [x]).length = out.length + 1 := by simp
  rw [hln] at ho ⊢
  refine hK.out _ _ ⟨(blk_cell BK2.out 0).trans rfl, (blk_cell BX2.out 0).trans rfl, (blk_cell BX2.out 1).trans rfl, (blk_cell BX2.out 2).trans rfl⟩ (fun hHeld => ?_)
  have hx0 := (blk_cell BK2.out 0)
  have hf0 := blk_frozen BK2.out 0
  clear hK K
  refine norm_ (a' := ?_) ?_ ?_
  rotate_left
  · show Act.put _ (some 14) _ = _
    simp only [Act.put, List.setIfInBounds_toArray, List.set_cons_zero, List.set_cons_succ, i64_w, i32_w]
    rfl
  refine pure_ (i := 8) (N := (some 15)) (v := ?_) (a' := ?_) #[true, true, true, true, true, true, true, true, true, false, false] rfl rfl (by kernel_rfl) (fun _ _ _ h => h) (Or.inl ⟨by rfl, ?_⟩) ?_ ?_
  rotate_left
  · intro w'
    go_simp
    with_reducible rfl
  rotate_left
  · simp only [Act.put, List.setIfInBounds_toArray, List.set_cons_zero, List.set_cons_succ, i64_w, i32_w]
    rfl
  refine pure_ (i := 9) (N := (some 16)) (v := ?_) (a' := ?_) #[true, true, true, true, true, true, true, true, true, true, false] rfl rfl (by kernel_rfl) (fun _ _ _ h => h) (Or.inl ⟨by rfl, ?_⟩) ?_ ?_
  rotate_left
  · intro w'
    go_simp
    with_reducible rfl
  rotate_left
  · simp only [Act.put, List.setIfInBounds_toArray, List.set_cons_zero, List.set_cons_succ, i64_w, i32_w]
    rfl
  refine last_ (i := 10) (N := none) #[true, true, true, true, true, true, true, true, true, true, true] rfl rfl (by kernel_rfl) (by decide) (fun K hK => ?_)
  refine skip_ (w1 := ?_) (by rfl) rfl ?_ ?_
  rotate_left
  · go_simp
    rfl
  refine hK.out _ _ ?_
  clear hK K
  refine done_ (by kernel_rfl) ?_
  have BK3 := Aside0.mk ((blk_set BK2.out 0 (.slice A4 (out.length + 1) c4)).trans rfl)
  have hgg : gb ≠ g := by omega
  have hgh : gb + 1 ≠ g := by omega
  have BX3 := Aside0.mk (blk_far BX2.out (p := ⟨g, 0, none⟩) hgg (.slice A4 (out.length + 1) c4))
  have BY3 := Aside0.mk (blk_far BY2.out (p := ⟨g, 0, none⟩) hgh (.slice A4 (out.length + 1) c4))
  have HP0 := Aside0.mk (Kd.R_set ho BK2.out (by decide) 0 (.slice A4 (out.length + 1) c4))
  have HP1 := Aside0.mk (Kd.R_set HOb.out BK2.out (by decide) 0 (.slice A4 (out.length + 1) c4))
  have HB3 := Aside0.mk (below_set hb GE.out (j := 0) (v := .slice A4 (out.length + 1) c4))
  have KP3 : Aside0 (∀ k, k < gb → k ≠ g → ¬ ok k → (w2.setCell ⟨g, 0, none⟩ (.slice A4 (out.length + 1) c4)).heap[k]? = w.heap[k]?) := ⟨fun k hk hkg hko => (Below.heap_setCell w2 _ _ k hkg).trans (KP2.out k hk hkg hko)⟩
  clear HO0 HO1 HB1 BK1 BX1 BY1 ho hb hgr hat hne hnx hny HOb BK2 BX2 BY2 KP2 hx0 hf0 hHeld hW1 SZ1 KP1 HF1
  generalize w2.setCell ⟨g, 0, none⟩ (.slice A4 (out.length + 1) c4) = w3 at *
  have hy0 : w3.cell? ⟨gb, 0, none⟩ = some (.int .i64 x.f0) := (blk_cell BX3.out 0).trans rfl
  have hz0 : w3.cell? ⟨gb + 1, 0, none⟩ = some (.slice A2 op.length c2) := (blk_cell BY3.out 0).trans rfl
  have hz1 : w3.cell? ⟨gb + 1, 1, none⟩ = some (.slice A3 cl.length c3) := (blk_cell BY3.out 1).trans rfl
  have hk2 : w3.cell? ⟨g, 2, none⟩ = some (.int .i64 d) := (blk_cell BK3.out 2).trans rfl
  have hf2 := blk_frozen BK3.out 2
  clear BX3 BY3

  cases bo with
  | true =>
    have hwr : IntKind.i64.wrap (d + 1) = d + 1 := by rw [i64_w]; exact wrap_id (by omega) (by omega)
    go_wp2_with (go_at_call 49; with_reducible refine (slices_Contains_int64_int64.calls _ _ _ op _ true _ ?hcb CL.out CO.out).mono ?_; (case hcb => exact Kd.C_below CA.out (by repeat (first | (with_reducible exact HB3.out) | apply pw_below_drewN | apply below_drew1))); rintro e w' ⟨rfl, ⟨nd, rfl⟩⟩)
    go_ret
    exact ⟨rfl, ⟨_, _, (blk_set BK3.out 2 _).trans rfl, GE.out, Kd.R_mono (Kd.R_set HP0.out BK3.out (by decide) 2 _) (fun _ h => h.1), Kd.R_mono (Kd.R_set HP1.out BK3.out (by decide) 2 _) (fun _ h => h.1)⟩, by repeat (first | (with_reducible exact HB3.out) | apply pw_below_drewN | apply below_drew1 | refine below_set ?_ GE.out), fun k hk hkg hko => (Below.heap_setCell w3 _ _ k hkg).trans (KP3.out k (by omega) hkg hko)⟩
  | false =>
    cases bc with
    | false =>
      go_wp2_with (first | (go_at_call 49; with_reducible refine (slices_Contains_int64_int64.calls _ _ _ op _ false _ ?hcb CL.out CO.out).mono ?_; (case hcb => exact Kd.C_below CA.out (by repeat (first | (with_reducible exact HB3.out) | apply pw_below_drewN | apply below_drew1))); rintro e w' ⟨rfl, ⟨nd, rfl⟩⟩) | (go_at_call 49; with_reducible refine (slices_Contains_int64_int64.calls _ _ _ cl _ false _ ?hcb CM.out CC.out).mono ?_; (case hcb => exact Kd.C_below CB.out (by repeat (first | (with_reducible exact HB3.out) | apply pw_below_drewN | apply below_drew1))); rintro e w' ⟨rfl, ⟨nd, rfl⟩⟩))
      go_ret
      exact ⟨rfl, ⟨_, _, BK3.out, GE.out, Kd.R_mono HP0.out (fun _ h => h.1), Kd.R_mono HP1.out (fun _ h => h.1)⟩, by repeat (first | (with_reducible exact HB3.out) | apply pw_below_drewN | apply below_drew1 | refine below_set ?_ GE.out), fun k hk hkg hko => KP3.out k (by omega) hkg hko⟩
    | true =>
      by_cases hd : d = 0
      · subst hd
        go_wp2_with (first | (go_at_call 49; with_reducible refine (slices_Contains_int64_int64.calls _ _ _ op _ false _ ?hcb CL.out CO.out).mono ?_; (case hcb => exact Kd.C_below CA.out (by repeat (first | (with_reducible exact HB3.out) | apply pw_below_drewN | apply below_drew1))); rintro e w' ⟨rfl, ⟨nd, rfl⟩⟩) | (go_at_call 49; with_reducible refine (slices_Contains_int64_int64.calls _ _ _ cl _ true _ ?hcb CM.out CC.out).mono ?_; (case hcb => exact Kd.C_below CB.out (by repeat (first | (with_reducible exact HB3.out) | apply pw_below_drewN | apply below_drew1))); rintro e w' ⟨rfl, ⟨nd, rfl⟩⟩))
        go_ret
        exact ⟨rfl, by repeat (first | (with_reducible exact HB3.out) | apply pw_below_drewN | apply below_drew1 | refine below_set ?_ GE.out), fun k hk hkg hko => KP3.out k (by omega) hkg hko⟩
      · have hwr : IntKind.i64.wrap (d - 1) = d - 1 := by rw [i64_w]; exact wrap_id (by omega) (by omega)
        have he : (d == 0) = false := beq_eq_false_iff_ne.2 hd
        go_wp2_with (first | (go_at_call 49; with_reducible refine (slices_Contains_int64_int64.calls _ _ _ op _ false _ ?hcb CL.out CO.out).mono ?_; (case hcb => exact Kd.C_below CA.out (by repeat (first | (with_reducible exact HB3.out) | apply pw_below_drewN | apply below_drew1))); rintro e w' ⟨rfl, ⟨nd, rfl⟩⟩) | (go_at_call 49; with_reducible refine (slices_Contains_int64_int64.calls _ _ _ cl _ true _ ?hcb CM.out CC.out).mono ?_; (case hcb => exact Kd.C_below CB.out (by repeat (first | (with_reducible exact HB3.out) | apply pw_below_drewN | apply below_drew1))); rintro e w' ⟨rfl, ⟨nd, rfl⟩⟩))
        go_ret
        exact ⟨rfl, ⟨_, _, (blk_set BK3.out 2 _).trans rfl, GE.out, Kd.R_mono (Kd.R_set HP0.out BK3.out (by decide) 2 _) (fun _ h => h.1), Kd.R_mono (Kd.R_set HP1.out BK3.out (by decide) 2 _) (fun _ h => h.1)⟩, by repeat (first | (with_reducible exact HB3.out) | apply pw_below_drewN | apply below_drew1 | refine below_set ?_ GE.out), fun k hk hkg hko => (Below.heap_setCell w3 _ _ k hkg).trans (KP3.out k (by omega) hkg hko)⟩
end Go.Proofs.Ytlbjdpahhgokkaa.P
-- Made by wip/gen/pp.py of this session over the kit's print of the loaded program: a function, and the contract of its walk. Lean checks it.
namespace Go.Proofs.Ytlbjdpahhgokkaa.P
open Go.RowKit Go.Proofs.YtlbjdpahhgokkaaW.PrintWords Go.Proofs.YtlbjdpahhgokkaaW.PrintLast Go.Proofs.YtlbjdpahhgokkaaW.PrintMore
attribute [local go_sem] max2_int min2_int max_two min_two max_three min_three max_four min_four   -- for this text's walks alone
set_option linter.unusedVariables false
set_option linter.unusedSimpArgs false

/-! ### impl_kindsOk: function 46 -/
def impl_kindsOk.l0 : Nat → List Int → List Int → Int → Int → Option (Bool)
 | 0, _, _, _, _ => none
 | k + 1, x0, x5, x6, x7 => if x7 < x6 then (if 0 ≤ x7 then (if x7 < (x5.length : Int) then (if (rd x5 x7) < 0 then (some false) else (if x7 > 0 then (if 0 ≤ (wrap64 (x7 - 1)) then (if (wrap64 (x7 - 1)) < (x0.length : Int) then (if (rd x0 (wrap64 (x7 - 1))) ≥ (rd x5 x7) then (some false) else (impl_kindsOk.l0 k x0 x5 x6 (wrap64 (x7 + 1)))) else (none)) else (none)) else (impl_kindsOk.l0 k x0 x5 x6 (wrap64 (x7 + 1))))) else (none)) else (none)) else (some (decide ((x0.length : Int) ≤ 20)))
def impl_kindsOk.f (k : Nat) (l0 : List Int) : Option (Bool) := impl_kindsOk.l0 k l0 l0 (l0.length : Int) 0
theorem impl_kindsOk.mono_l : ∀ k, (∀ y0 y1 y2 y3, LeO (impl_kindsOk.l0 k y0 y1 y2 y3) (impl_kindsOk.l0 (k + 1) y0 y1 y2 y3))
 | 0 => fun _ _ _ _ r h => by simp [impl_kindsOk.l0] at h
 | k + 1 => by
  have ih0 := impl_kindsOk.mono_l k
  ·intro y0 y1 y2 y3
   unfold impl_kindsOk.l0
   repeat' first
   | (with_reducible exact ih0 _ _ _ _)
   | (with_reducible exact LeO.refl _)
   | (with_reducible exact LeO.none _)
   | (with_reducible refine LeO.ite ?_ ?_)
   | (with_reducible refine LeO.bind ?_ (fun _ => ?_))
   | exact ih0 _ _ _ _
   | exact LeO.none _
   | refine LeO.ite ?_ ?_
   | refine LeO.bind ?_ (fun _ => ?_)
theorem impl_kindsOk.mono : ∀ a0 k, LeO (impl_kindsOk.f k a0) (impl_kindsOk.f (k + 1) a0) := by
 intro a0 k
 have ih0 := impl_kindsOk.mono_l k
 unfold impl_kindsOk.f
 repeat' first
   | (with_reducible exact ih0 _ _ _ _)
   | (with_reducible exact LeO.refl _)
   | (with_reducible exact LeO.none _)
   | (with_reducible refine LeO.ite ?_ ?_)
   | (with_reducible refine LeO.bind ?_ (fun _ => ?_))
   | exact ih0 _ _ _ _
   | exact LeO.none _
   | refine LeO.ite ?_ ?_
   | refine LeO.bind ?_ (fun _ => ?_)
set_option maxHeartbeats 8000000 in
set_option maxRecDepth 100000 in
theorem impl_kindsOk.calls (k : Nat) (A0 : Option Addr) (c0 : Nat) (l0 : List Int) (r : Bool) (w : World) (hr0 : Kd.C (Kd.int .i64) w A0 l0.length l0) (hc0 : l0.length ≤ c0) (h : impl_kindsOk.f k l0 = some r) :
  Calls Try.prog 46 #[.slice A0 l0.length c0] w fun e w' => e = .returned (.bool r) ∧ Drawn0 w w' := by
 have HR0 := Aside0.mk hr0
 have HC0 := Aside0.mk hc0
 clear hr0 hc0
 have H : (impl_kindsOk.l0 k l0 l0 (l0.length : Int) 0) = some r := h
 clear h
 have H' := Aside0.mk H
 clear H
 go_enter Try.func46, Try.ntmps46
 go_wp2
 go_loopg [7] k (fun kq v7 w' => ∃ (x7_1 : Int), v7 = .int .i64 x7_1 ∧ Aside0 (impl_kindsOk.l0 kq l0 l0 (l0.length : Int) x7_1 = some r) ∧ Aside0 (kq ≤ k) ∧ Drawn0 w w')
 case atStart => exact ⟨(0), (by first | rfl | (simp; done) | (simp [*]; done)), H', ⟨Nat.le_refl _⟩, by repeat (first | exact Drawn0.refl _ | apply Drawn0.step)⟩
 case round =>
  clear H'
  obtain ⟨x7_1, rfl, HA, HK1, ⟨m1, rfl⟩⟩ := hrel
  cases gk with
  | zero => exact absurd HA.out (by simp [impl_kindsOk.l0])
  | succ k1 =>
   have H := HA.out
   clear HA
   simp only [impl_kindsOk.l0] at H
   by_cases c2 : x7_1 < (l0.length : Int)
   ·rw [if_pos c2] at H
    have c2b0 : decide (x7_1 < (l0.length : Int)) = true := decide_eq_true c2
    clear c2
    by_cases c3 : 0 ≤ x7_1
    ·rw [if_pos c3] at H
     have c3b0 : decide (0 ≤ x7_1) = true := decide_eq_true c3
     clear c3
     by_cases c4 : x7_1 < (l0.length : Int)
     ·rw [if_pos c4] at H
      have c4b0 : decide (x7_1 < (l0.length : Int)) = true := decide_eq_true c4
      clear c4
      by_cases c5 : (rd l0 x7_1) < 0
      ·rw [if_pos c5] at H
       have c5b0 : decide ((rd l0 x7_1) < 0) = true := decide_eq_true c5
       clear c5
       obtain rfl := Option.some.inj H
       have p101 : 0 ≤ (x7_1 : Int) := of_decide_eq_true (by first | (with_reducible assumption) | assumption)
       have q101 : x7_1 < (l0.length : Int) := of_decide_eq_true (by first | (with_reducible assumption) | assumption)
       obtain ⟨ad101, e101, hx101_0⟩ := Kd.at_int HR0.out x7_1 p101 q101
       cases e101
       replace p101 := eq_true p101
       replace q101 := eq_true q101
       go_wp2
       go_ret
       exact ⟨by first | rfl | (simp; done) | (simp [*]; done), by repeat (first | exact Drawn0.refl _ | apply Drawn0.step)⟩
      ·rw [if_neg c5] at H
       have c5b0 : decide ((rd l0 x7_1) < 0) = false := decide_eq_false c5
       clear c5
       by_cases c6 : x7_1 > 0
       ·rw [if_pos c6] at H
        have c6b0 : decide (0 < x7_1) = true := decide_eq_true c6
        clear c6
        obtain ⟨ji7, hji7⟩ : ∃ j_ : Int, (wrap64 (x7_1 - 1)) = j_ := ⟨_, rfl⟩
        replace H : (if 0 ≤ (ji7) then (if (ji7) < (l0.length : Int) then (if (rd l0 (ji7)) ≥ (rd l0 x7_1) then (some false) else (impl_kindsOk.l0 k1 l0 l0 (l0.length : Int) (wrap64 (x7_1 + 1)))) else (none)) else (none)) = some r := by first | (rw [hji7] at H; exact H) | (simp only [hji7] at H ⊢; exact H)
        have hji7w : (IntKind.i64.wrap (x7_1 - 1)) = ji7 := (i64_w _).trans hji7
        by_cases c8 : 0 ≤ (ji7)
        ·rw [if_pos c8] at H
         have c8b0 : decide (0 ≤ (ji7)) = true := decide_eq_true c8
         clear c8
         by_cases c9 : (ji7) < (l0.length : Int)
         ·rw [if_pos c9] at H
          have c9b0 : decide ((ji7) < (l0.length : Int)) = true := decide_eq_true c9
          clear c9
          by_cases c10 : (rd l0 (ji7)) ≥ (rd l0 x7_1)
          ·rw [if_pos c10] at H
           have c10b0 : decide ((rd l0 x7_1) ≤ (rd l0 (ji7))) = true := decide_eq_true c10
           clear c10
           obtain rfl := Option.some.inj H
           have p101 : 0 ≤ (x7_1 : Int) := of_decide_eq_true (by first | (with_reducible assumption) | assumption)
           have q101 : x7_1 < (l0.length : Int) := of_decide_eq_true (by first | (with_reducible assumption) | assumption)
           obtain ⟨ad101, e101, hx101_0⟩ := Kd.at_int HR0.out x7_1 p101 q101
           cases e101
           replace p101 := eq_true p101
           replace q101 := eq_true q101
           have p102 : 0 ≤ ((ji7) : Int) := of_decide_eq_true (by first | (with_reducible assumption) | assumption)
           have q102 : (ji7) < (l0.length : Int) := of_decide_eq_true (by first | (with_reducible assumption) | assumption)
           obtain ⟨ad102, e102, hx102_0⟩ := Kd.at_int HR0.out (ji7) p102 q102
           obtain rfl : ad101 = ad102 := (by injection e102)
           replace p102 := eq_true p102
           replace q102 := eq_true q102
           go_wp2
           go_ret
           exact ⟨by first | rfl | (simp; done) | (simp only [← hji7] <;> (first | rfl | simp)) | (simp [*]; done), by repeat (first | exact Drawn0.refl _ | apply Drawn0.step)⟩
          ·rw [if_neg c10] at H
           have c10b0 : decide ((rd l0 x7_1) ≤ (rd l0 (ji7))) = false := decide_eq_false c10
           clear c10
           have H' := Aside0.mk H
           clear H
           have p101 : 0 ≤ (x7_1 : Int) := of_decide_eq_true (by first | (with_reducible assumption) | assumption)
           have q101 : x7_1 < (l0.length : Int) := of_decide_eq_true (by first | (with_reducible assumption) | assumption)
           obtain ⟨ad101, e101, hx101_0⟩ := Kd.at_int HR0.out x7_1 p101 q101
           cases e101
           replace p101 := eq_true p101
           replace q101 := eq_true q101
           have p102 : 0 ≤ ((ji7) : Int) := of_decide_eq_true (by first | (with_reducible assumption) | assumption)
           have q102 : (ji7) < (l0.length : Int) := of_decide_eq_true (by first | (with_reducible assumption) | assumption)
           obtain ⟨ad102, e102, hx102_0⟩ := Kd.at_int HR0.out (ji7) p102 q102
           obtain rfl : ad101 = ad102 := (by injection e102)
           replace p102 := eq_true p102
           replace q102 := eq_true q102
           go_wp2
           go_roundg k1
           case measure => have := HK1.out; omega
           case rel => exact ⟨(wrap64 (x7_1 + 1)), (by first | rfl | (simp; done) | (simp [*]; done)), H', ⟨by have := HK1.out; omega⟩, by repeat (first | exact Drawn0.refl _ | apply Drawn0.step)⟩
         ·rw [if_neg c9] at H
          exact absurd H (by simp)
        ·rw [if_neg c8] at H
         exact absurd H (by simp)
       ·rw [if_neg c6] at H
        have c6b0 : decide (0 < x7_1) = false := decide_eq_false c6
        clear c6
        have H' := Aside0.mk H
        clear H
        have p101 : 0 ≤ (x7_1 : Int) := of_decide_eq_true (by first | (with_reducible assumption) | assumption)
        have q101 : x7_1 < (l0.length : Int) := of_decide_eq_true (by first | (with_reducible assumption) | assumption)
        obtain ⟨ad101, e101, hx101_0⟩ := Kd.at_int HR0.out x7_1 p101 q101
        cases e101
        replace p101 := eq_true p101
        replace q101 := eq_true q101
        go_wp2
        go_roundg k1
        case measure => have := HK1.out; omega
        case rel => exact ⟨(wrap64 (x7_1 + 1)), (by first | rfl | (simp; done) | (simp [*]; done)), H', ⟨by have := HK1.out; omega⟩, by repeat (first | exact Drawn0.refl _ | apply Drawn0.step)⟩
     ·rw [if_neg c4] at H
      exact absurd H (by simp)
    ·rw [if_neg c3] at H
     exact absurd H (by simp)
   ·rw [if_neg c2] at H
    have c2b0 : decide (x7_1 < (l0.length : Int)) = false := decide_eq_false c2
    clear c2
    obtain rfl := Option.some.inj H
    go_wp2
    go_ret
    exact ⟨by first | rfl | (simp; done) | (simp [*]; done), by repeat (first | exact Drawn0.refl _ | apply Drawn0.step)⟩

end Go.Proofs.Ytlbjdpahhgokkaa.P
/- What the program's check of rising kinds, and her search in a list of numbers, answer. -/
namespace Go.Proofs.Ytlbjdpahhgokkaa.P
open Go.RowKit Go.Proofs.YtlbjdpahhgokkaaW.PrintWords Go.Proofs.YtlbjdpahhgokkaaW.PrintLast Go.Proofs.YtlbjdpahhgokkaaEv
set_option linter.unusedVariables false
set_option linter.unusedSimpArgs false

theorem impl_kindsOk_ev (l : List Int) (hl : l.length ≤ 9223372036854775807) : Ev (fun k => impl_kindsOk.f k l) (kindsB l) := by
  unfold impl_kindsOk.f kindsB
  have key := down l.length (fun i => ∀ last : Int, (i = 0 → last = -1) → (0 < i → last = rd l ((i - 1 : Nat) : Int)) → Ev (fun k => impl_kindsOk.l0 k l l l.length (i : Nat)) (decide (l.length ≤ 20) && kindsR last (l.drop i))) ?_ ?_ 0 (by omega) (-1) (fun _ => rfl) (by omega)
  · exact key
  · intro last _ _
    rw [ev_succ]
    simp only [impl_kindsOk.l0, ev_ite, ev_some]
    rw [if_neg (by omega), List.drop_length]
    simp only [kindsR, Bool.and_true]
    by_cases h : l.length ≤ 20
    · rw [decide_eq_true h, decide_eq_true (show (l.length : Int) ≤ 20 by omega)]
    · rw [decide_eq_false h, decide_eq_false (show ¬ (l.length : Int) ≤ 20 by omega)]
  · intro i hi ih last hl0 hl1
    rw [ev_succ, drop_cons l 0 i hi, rd_nat]
    have ih2 := ih (rd l i) (by omega) (fun _ => by rw [Nat.add_sub_cancel])
    simp only [impl_kindsOk.l0, Option.bind_some, ev_ite, ev_some, kindsR]
    rw [if_pos (by omega), if_pos (by omega), if_pos (by omega), wrap_succ hi (by omega)]
    have hprev : 0 < i → (0 ≤ wrap64 ((i : Int) - 1) ∧ wrap64 ((i : Int) - 1) < l.length ∧ rd l (wrap64 ((i : Int) - 1)) = last) := by
      intro hp
      rw [wrap_id (x := (i : Int) - 1) (by omega) (by omega)]
      exact ⟨by omega, by omega, by rw [hl1 hp, show ((i : Int) - 1) = ((i - 1 : Nat) : Int) by omega]⟩
    generalize decide (l.length ≤ 20) = D at *
    generalize (l.drop (i + 1)) = T at *
    generalize rd l (i : Int) = a at *
    generalize hG : (fun k => impl_kindsOk.l0 k l l (l.length : Int) ((i + 1 : Nat) : Int)) = G at *
    by_cases c1 : a < 0
    · rw [if_pos c1]; simp [show ¬ 0 ≤ a by omega]
    rw [if_neg c1]
    have hend : (last < a) → Ev G (D && (decide (0 ≤ a) && decide (last < a) && kindsR a T)) := by
      intro h5
      refine ev_congr ih2 ?_
      simp [show 0 ≤ a by omega, h5]
    by_cases h00 : i = 0
    · rw [if_neg (by omega)]
      exact hend (by have := hl0 h00; omega)
    · obtain ⟨h1', h2', h3'⟩ := hprev (by omega)
      rw [if_pos (by omega), if_pos h1', if_pos h2', h3']
      by_cases c5 : last ≥ a
      · rw [if_pos c5]; simp [show ¬ last < a by omega]
      · rw [if_neg c5]
        exact hend (by omega)
theorem slices_Contains_ev (l : List Int) (x : Int) (hl : l.length ≤ 9223372036854775807) : Ev (fun k => slices_Contains_int64_int64.f k l x) (hasB l x) := by
  have hi : ∃ r : Int, Ev (fun k => slices_Index_int64_int64.f k l x) r ∧ decide (r ≥ 0) = hasB l x := by
    unfold slices_Index_int64_int64.f hasB
    have key := down l.length (fun i => ∃ r : Int, Ev (fun k => slices_Index_int64_int64.l0 k l x l.length (i : Nat)) r ∧ decide (r ≥ 0) = (l.drop i).any (· == x)) ?_ ?_ 0 (by omega)
    · exact key
    · refine ⟨-1, ?_, by simp⟩
      rw [ev_succ]
      simp [slices_Index_int64_int64.l0, ev_some]
    · rintro i hi ⟨r, hr, hd⟩
      by_cases h : x = rd l i
      · refine ⟨i, ?_, ?_⟩
        · rw [ev_succ]
          simp only [slices_Index_int64_int64.l0, ev_ite, ev_some]
          rw [if_pos (by omega), if_pos (by omega), if_pos (by omega), if_pos h]
          trivial
        · rw [any_drop l 0 _ i hi, rd_nat, ← h]
          simp
      · refine ⟨r, ?_, ?_⟩
        · rw [ev_succ]
          simp only [slices_Index_int64_int64.l0, ev_ite, ev_some]
          rw [if_pos (by omega), if_pos (by omega), if_pos (by omega), if_neg h, wrap_succ hi (by omega)]
          exact hr
        · rw [any_drop l 0 _ i hi, rd_nat, hd, beq_eq_false_iff_ne.2 (Ne.symm h), Bool.false_or]
  obtain ⟨r, hr, hd⟩ := hi
  unfold slices_Contains_int64_int64.f
  rw [ev_bind hr]
  exact ev_some.2 hd
end Go.Proofs.Ytlbjdpahhgokkaa.P
/- What begin and item of a layouter do, in the words of the plain fold. -/
namespace Go.Proofs.Ytlbjdpahhgokkaa.P
open Go.RowKit Go.Shelf Go.Proofs.YtlbjdpahhgokkaaW.PrintWords Go.Proofs.YtlbjdpahhgokkaaW.PrintLast Go.Proofs.YtlbjdpahhgokkaaW.PrintMore Go.Proofs.YtlbjdpahhgokkaaEv
set_option linter.unusedVariables false
set_option linter.unusedSimpArgs false
theorem begin_eq {w0 : World} (ok : Nat → Prop) (g : Nat) (out : List S46) (st : List Int) (d : Int) (x : S46) (w : World) (hI : LyS w0 w ok g out st d) (hB : Below w0.heap.size w0 w) (hF : ∀ k, w.heap.size ≤ k → ok k) (hx : 1 ≤ x.f2) (h1 : 1 ≤ st.length) (h0 : st[0]? = some 1) (hl : out.length + st.length ≤ 500000) (cd : Int) (hc : (if lastC (begR x st out).1 = x.f2 then (0 : Int) else 2) = cd) :
    Calls Try.prog 31 #[.pointer (some ⟨g, 0, none⟩), .agg #[.int .i64 x.f0, .int .i64 x.f1, .int .i64 x.f2]] w fun e w' => e = .returned (.int .i64 cd) ∧ LyS w0 w' ok g (begR x st out).2 (begR x st out).1 d ∧ Below w0.heap.size w0 w' ∧ KeepOk w w' ok g := by
  subst hc
  exact begin_hand ok g out st d x w hI hB hF hx h1 h0 hl
theorem item_dep {w0 : World} (ok : Nat → Prop) (g : Nat) (out : List S46) (st : List Int) (d : Int) (x : S46) (A2 A3 : Option Addr) (c2 c3 : Nat) (op cl : List Int) (w : World) (hI : LyS w0 w ok g out st d) (hB : Below w0.heap.size w0 w) (hF : ∀ k, w.heap.size ≤ k → ok k) (hl : out.length ≤ 500000) (hd0 : 0 ≤ d) (hd1 : d ≤ 500000)
    (hC2 : Kd.C (Kd.int .i64) w0 A2 op.length op) (hc2 : op.length ≤ c2) (hC3 : Kd.C (Kd.int .i64) w0 A3 cl.length cl) (hc3 : cl.length ≤ c3) (hb : bracketsB op cl = true) (o : Option Int) (hdep : depR op cl x.f0 d = o) :
    Calls Try.prog 32 #[.pointer (some ⟨g, 0, none⟩), .agg #[.int .i64 x.f0, .int .i64 x.f1, .int .i64 x.f2], .agg #[.slice A2 op.length c2, .slice A3 cl.length c3]] w fun e w' => e = .returned (.int .i64 (if o = none then 3 else 0)) ∧ (∀ d1, o = some d1 → LyS w0 w' ok g (out ++ [x]) st d1) ∧ Below w0.heap.size w0 w' ∧ KeepOk w w' ok g := by
  obtain ⟨ko, ho⟩ := ev_get (slices_Contains_ev op x.f0 hC2.2.1)
  obtain ⟨kc, hc⟩ := ev_get (slices_Contains_ev cl x.f0 hC3.2.1)
  have hdis : hasB op x.f0 = true → hasB cl x.f0 = false := by
    intro h
    unfold bracketsB at hb
    simp only [Bool.and_eq_true, Bool.not_eq_true', List.any_eq_false] at hb
    unfold hasB at h
    obtain ⟨y, hy, e⟩ := List.any_eq_true.1 h
    have := hb.2 y hy
    rw [beq_iff_eq.1 e] at this
    simpa using this
  refine (item_hand ok g out st d x A2 A3 c2 c3 op cl w hI hB hF hl hd0 hd1 hC2 hc2 hC3 hc3 _ _ ko kc ho hc).mono ?_
  rintro e w' ⟨rfl, h1, h2, h3⟩
  subst hdep
  unfold depR
  cases hbo : hasB op x.f0
  · rw [hbo] at h1
    cases hbc : hasB cl x.f0
    · rw [hbc] at h1
      refine ⟨by simp, fun d1 hd => ?_, h2, h3⟩
      simp only [Bool.false_eq_true, if_false, Option.some.injEq] at hd h1
      subst hd
      exact h1 (fun _ h => by cases h)
    · rw [hbc] at h1
      by_cases hd : d = 0
      · refine ⟨by simp [hd], fun d1 h => by simp [hd] at h, h2, h3⟩
      · refine ⟨by simp [hd], fun d1 h => ?_, h2, h3⟩
        simp only [Bool.false_eq_true, if_false, if_true, if_neg hd, Option.some.injEq] at h h1
        subst h
        exact h1 (fun _ _ => hd)
  · rw [hbo] at h1
    have hbc := hdis hbo
    rw [hbc] at h1 ⊢
    refine ⟨by simp, fun d1 hd => ?_, h2, h3⟩
    simp only [Bool.false_eq_true, if_false, if_true, Option.some.injEq] at hd h1
    subst hd
    exact h1 (fun h => by cases h)
theorem item_none {w0 : World} (ok : Nat → Prop) (g : Nat) (out : List S46) (st : List Int) (d : Int) (x : S46) (A2 A3 : Option Addr) (c2 c3 : Nat) (op cl : List Int) (w : World) (hI : LyS w0 w ok g out st d) (hB : Below w0.heap.size w0 w) (hF : ∀ k, w.heap.size ≤ k → ok k) (hl : out.length ≤ 500000) (hd0 : 0 ≤ d) (hd1 : d ≤ 500000) (hC2 : Kd.C (Kd.int .i64) w0 A2 op.length op) (hc2 : op.length ≤ c2) (hC3 : Kd.C (Kd.int .i64) w0 A3 cl.length cl) (hc3 : cl.length ≤ c3) (hb : bracketsB op cl = true) (hdep : depR op cl x.f0 d = none) :
    Calls Try.prog 32 #[.pointer (some ⟨g, 0, none⟩), .agg #[.int .i64 x.f0, .int .i64 x.f1, .int .i64 x.f2], .agg #[.slice A2 op.length c2, .slice A3 cl.length c3]] w fun e w' => e = .returned (.int .i64 3) ∧ Below w0.heap.size w0 w' ∧ KeepOk w w' ok g := by
  refine (item_dep ok g out st d x A2 A3 c2 c3 op cl w hI hB hF hl hd0 hd1 hC2 hc2 hC3 hc3 hb none hdep).mono ?_
  rintro e w' ⟨rfl, _, h2, h3⟩
  exact ⟨rfl, h2, h3⟩
theorem item_some {w0 : World} (ok : Nat → Prop) (g : Nat) (out : List S46) (st : List Int) (d : Int) (x : S46) (A2 A3 : Option Addr) (c2 c3 : Nat) (op cl : List Int) (w : World) (hI : LyS w0 w ok g out st d) (hB : Below w0.heap.size w0 w) (hF : ∀ k, w.heap.size ≤ k → ok k) (hl : out.length ≤ 500000) (hd0 : 0 ≤ d) (hd1 : d ≤ 500000) (hC2 : Kd.C (Kd.int .i64) w0 A2 op.length op) (hc2 : op.length ≤ c2) (hC3 : Kd.C (Kd.int .i64) w0 A3 cl.length cl) (hc3 : cl.length ≤ c3) (hb : bracketsB op cl = true) (d1 : Int) (hdep : depR op cl x.f0 d = some d1) :
    Calls Try.prog 32 #[.pointer (some ⟨g, 0, none⟩), .agg #[.int .i64 x.f0, .int .i64 x.f1, .int .i64 x.f2], .agg #[.slice A2 op.length c2, .slice A3 cl.length c3]] w fun e w' => e = .returned (.int .i64 0) ∧ LyS w0 w' ok g (out ++ [x]) st d1 ∧ Below w0.heap.size w0 w' ∧ KeepOk w w' ok g := by
  refine (item_dep ok g out st d x A2 A3 c2 c3 op cl w hI hB hF hl hd0 hd1 hC2 hc2 hC3 hc3 hb (some d1) hdep).mono ?_
  rintro e w' ⟨rfl, h1, h2, h3⟩
  exact ⟨rfl, h1 d1 rfl, h2, h3⟩
end Go.Proofs.Ytlbjdpahhgokkaa.P
/- What slices.IndexFunc and slices.ContainsFunc answer at a []int64, for whatever predicate that writes and makes nothing. -/
namespace Go.Proofs.Ytlbjdpahhgokkaa.P
open Go.RowKit Go.Shelf Go.Proofs.YtlbjdpahhgokkaaW.PrintWords Go.Proofs.YtlbjdpahhgokkaaW.PrintLast Go.Proofs.YtlbjdpahhgokkaaW.PrintMore Go.Proofs.YtlbjdpahhgokkaaEv
set_option linter.unusedVariables false
set_option linter.unusedSimpArgs false

theorem IndexFunc_int (g : Nat) (lb : Array Value) (eg : ∀ args w, (callFunc g args).run Try.prog w = .ok (.enter g args) w) (p : Int → Bool) (A0 : Option Addr) (c0 : Nat) (l0 : List Int) (w : World) (hr0 : Kd.C (Kd.int .i64) w A0 l0.length l0)
    (hp : ∀ (n : Nat) (x : Int), x ∈ l0 → Calls Try.prog g (#[.int .i64 x] ++ lb) (w.drewN n) fun e w' => e = .returned (.bool (p x)) ∧ ∃ m, w' = (w.drewN n).drewN m) :
    Calls Try.prog 56 #[.slice A0 l0.length c0, .func (.func g) #[] lb] w fun e w' => e = .returned (.int .i64 (idxP p l0 0)) ∧ Drawn0 w w' := by
  have hn := hr0.2.1
  have HP := Lib.hid hp
  clear hp
  have HR := Aside0.mk hr0
  clear hr0
  go_enter Try.func56, Try.ntmps56
  go_wp2
  go_loopg [5, 8] l0.length (fun gg _ s8 wr => ∃ kk nd : Nat, kk ≤ l0.length ∧ l0.length - kk ≤ gg ∧ s8 = .int .i64 kk ∧ wr = w.drewN nd ∧ Aside0 (idxP p l0 0 = idxP p (l0.drop kk) kk))
  case atStart => exact ⟨0, 0, Nat.zero_le _, by omega, rfl, rfl, ⟨by simp⟩⟩
  case round =>
    obtain ⟨kk, nd, hkk, hg, rfl, rfl, HA⟩ := hrel
    by_cases hlt : kk < l0.length
    · have hltz : (kk : Int) < (l0.length : Int) := by omega
      obtain ⟨ad, rfl, hx0⟩ := Kd.at_int HR.out (kk : Int) (by omega) hltz
      rw [Int.toNat_natCast] at hx0
      have hmem : rd l0 (kk : Int) ∈ l0 := by
        unfold rd
        rw [List.getD_eq_getElem?_getD, List.getElem?_eq_getElem (by simpa using hlt)]
        exact List.getElem_mem _
      have hcall := HP.out nd (rd l0 (kk : Int)) hmem
      have hstep : Aside0 (idxP p l0 0 = if p (rd l0 (kk : Int)) then (kk : Int) else idxP p (l0.drop (kk + 1)) ((kk + 1 : Nat) : Int)) := ⟨by
        rw [HA.out, drop_cons l0 0 kk hlt]
        have hr : l0.getD kk 0 = rd l0 (kk : Int) := by simp [rd]
        rw [hr]
        rfl⟩
      clear hmem
      generalize rd l0 (kk : Int) = y at *
      cases hq : p y with
      | true =>
        rw [hq] at hcall
        have hs2 : Aside0 (idxP p l0 0 = (kk : Int)) := ⟨by rw [hstep.out, hq]; rfl⟩
        clear hstep hq HA
        go_wp2_with (go_at_fn g; refine hcall.mono ?_; rintro e w' ⟨rfl, m, rfl⟩)
        go_ret
        exact ⟨by (rw [hs2.out]; try rfl), by repeat (first | exact Drawn0.refl _ | apply Drawn0.step)⟩
      | false =>
        rw [hq] at hcall
        have hs2 : Aside0 (idxP p l0 0 = idxP p (l0.drop (kk + 1)) ((kk + 1 : Nat) : Int)) := ⟨by rw [hstep.out, hq]; rfl⟩
        clear hstep hq HA
        go_wp2_with (go_at_fn g; refine hcall.mono ?_; rintro e w' ⟨rfl, m, rfl⟩)
        go_roundg (l0.length - (kk + 1))
        case measure => omega
        case rel => exact ⟨kk + 1, _, by omega, by omega, by go_num, by first | rfl | exact World.drewN_drewN _ _ _, hs2⟩
    · have hltz : ¬ (kk : Int) < (l0.length : Int) := by omega
      have hk : kk = l0.length := by omega
      have hs2 : Aside0 (idxP p l0 0 = -1) := ⟨by rw [HA.out, hk]; simp [idxP]⟩
      clear hk HA
      go_wp2
      go_ret
      exact ⟨by (rw [hs2.out]; try rfl), by repeat (first | exact Drawn0.refl _ | apply Drawn0.step)⟩

theorem ContainsFunc_int (g : Nat) (lb : Array Value) (eg : ∀ args w, (callFunc g args).run Try.prog w = .ok (.enter g args) w) (p : Int → Bool) (A0 : Option Addr) (c0 : Nat) (l0 : List Int) (w : World) (hr0 : Kd.C (Kd.int .i64) w A0 l0.length l0)
    (hp : ∀ (n : Nat) (x : Int), x ∈ l0 → Calls Try.prog g (#[.int .i64 x] ++ lb) (w.drewN n) fun e w' => e = .returned (.bool (p x)) ∧ ∃ m, w' = (w.drewN n).drewN m) :
    Calls Try.prog 47 #[.slice A0 l0.length c0, .func (.func g) #[] lb] w fun e w' => e = .returned (.bool (l0.any p)) ∧ Drawn0 w w' := by
  have hc := IndexFunc_int g lb eg p A0 c0 l0 w hr0 hp
  have ha : l0.any p = decide (0 ≤ idxP p l0 0) := by
    rw [Bool.eq_iff_iff, decide_eq_true_iff, idxP_ge p l0 0 (by omega)]
  rw [ha]
  clear ha hr0 hp
  generalize idxP p l0 0 = i at hc ⊢
  go_enter Try.func47, Try.ntmps47
  go_wp2_with (go_at_call 56; refine hc.mono ?_; rintro e w' ⟨rfl, ⟨nd, rfl⟩⟩)
  go_ret
  exact ⟨rfl, by repeat (first | exact Drawn0.refl _ | apply Drawn0.step)⟩
end Go.Proofs.Ytlbjdpahhgokkaa.P
/- The walk of bracketsOk with its closure, by hand. -/
namespace Go.Proofs.Ytlbjdpahhgokkaa.P
open Go.RowKit Go.Shelf Go.Proofs.YtlbjdpahhgokkaaW.PrintWords Go.Proofs.YtlbjdpahhgokkaaW.PrintLast Go.Proofs.YtlbjdpahhgokkaaW.PrintMore Go.Proofs.YtlbjdpahhgokkaaEv
set_option linter.unusedVariables false
set_option linter.unusedSimpArgs false
set_option maxRecDepth 100000 in
/-- The closure: is a kind one of those that close? -/
theorem brackets_1_calls (B : Nat) (w : World) (n : Nat) (A3 : Option Addr) (c3 : Nat) (cl : List Int) (hcell : w.cell? ⟨B, 1, none⟩ = some (.slice A3 cl.length c3)) (hr : Kd.C (Kd.int .i64) w A3 cl.length cl) (hc : cl.length ≤ c3) (x : Int) :
    Calls Try.prog 48 #[.int .i64 x, .pointer (some ⟨B, 0, none⟩)] (w.drewN n) fun e w' => e = .returned (.bool (hasB cl x)) ∧ ∃ m, w' = (w.drewN n).drewN m := by
  obtain ⟨k, hk⟩ := ev_get (slices_Contains_ev cl x hr.2.1)
  have HK := Aside0.mk hk
  have HR := Aside0.mk (Kd.C_below hr (pw_below_drewN (Below.refl _ _) n))
  have HC := Aside0.mk hc
  clear hk hr hc
  generalize hasB cl x = b at *
  go_enter Try.func48, Try.ntmps48
  go_wp2_with (go_at_call 49; refine (slices_Contains_int64_int64.calls k A3 c3 cl x b _ HR.out HC.out HK.out).mono ?_; rintro e w' ⟨rfl, ⟨nd, rfl⟩⟩)
  go_ret
  exact ⟨rfl, _, by first | rfl | exact World.drewN_drewN _ _ _ | exact (World.drewN_drewN _ _ _).symm⟩
set_option maxHeartbeats 4000000 in
set_option maxRecDepth 100000 in
theorem bracketsOk_hand (A2 A3 : Option Addr) (c2 c3 : Nat) (op cl : List Int) (w : World) (hr2 : Kd.C (Kd.int .i64) w A2 op.length op) (hc2 : op.length ≤ c2) (hr3 : Kd.C (Kd.int .i64) w A3 cl.length cl) (hc3 : cl.length ≤ c3) :
    Calls Try.prog 29 #[.agg #[.slice A2 op.length c2, .slice A3 cl.length c3]] w fun e w' => e = .returned (.bool (bracketsB op cl)) ∧ Below w.heap.size w w' := by
  obtain ⟨k2, hk2⟩ := ev_get (impl_kindsOk_ev op hr2.2.1)
  obtain ⟨k3, hk3⟩ := ev_get (impl_kindsOk_ev cl hr3.2.1)
  have HK2 := Aside0.mk hk2
  have HK3 := Aside0.mk hk3
  have HR2 := Aside0.mk hr2
  have HC2 := Aside0.mk hc2
  have HR3 := Aside0.mk hr3
  have HC3 := Aside0.mk hc3
  have eg : ∀ args w, (callFunc 48 args).run Try.prog w = .ok (.enter 48 args) w := enters_of Try.func48 (by kernel_rfl) rfl
  have EG := Aside0.mk eg
  have HB := Aside0.mk (below_alloc (Below.refl w.heap.size w) (.cells #[.slice A2 op.length c2, .slice A3 cl.length c3] 32))
  have BK := Aside0.mk (blk_new w (.cells #[.slice A2 op.length c2, .slice A3 cl.length c3] 32))
  have HB0 : Aside0 (bracketsB op cl = (kindsB op && kindsB cl && !(op.any fun k => hasB cl k))) := ⟨rfl⟩
  clear hk2 hk3 hr2 hc2 hr3 hc3 eg
  generalize bracketsB op cl = bb at *
  generalize hk2 : kindsB op = b2 at *
  generalize hk3 : kindsB cl = b3 at *
  clear hk2 hk3
  cases b2 with
  | false =>
    have hb : Aside0 (bb = false) := ⟨by rw [HB0.out]; rfl⟩
    clear HB0
    go_enter Try.func29, Try.ntmps29
    go_wp2_with (go_at_call 46; with_reducible refine (impl_kindsOk.calls _ _ _ op _ _ ?hcb HC2.out HK2.out).mono ?_; (case hcb => exact Kd.C_below HR2.out (by repeat (first | (with_reducible exact HB.out) | apply pw_below_drewN | apply below_drew1))); rintro e w' ⟨rfl, ⟨nd, rfl⟩⟩)
    go_ret
    exact ⟨by rw [hb.out]; rfl, by repeat (first | (with_reducible exact HB.out) | apply pw_below_drewN | apply below_drew1)⟩
  | true =>
    cases b3 with
    | false =>
      have hb : Aside0 (bb = false) := ⟨by rw [HB0.out]; rfl⟩
      clear HB0
      go_enter Try.func29, Try.ntmps29
      go_wp2_with (first | (go_at_call 46; with_reducible refine (impl_kindsOk.calls _ _ _ op _ _ ?hcb HC2.out HK2.out).mono ?_; (case hcb => exact Kd.C_below HR2.out (by repeat (first | (with_reducible exact HB.out) | apply pw_below_drewN | apply below_drew1))); rintro e w' ⟨rfl, ⟨nd, rfl⟩⟩) | (go_at_call 46; with_reducible refine (impl_kindsOk.calls _ _ _ cl _ _ ?hcb HC3.out HK3.out).mono ?_; (case hcb => exact Kd.C_below HR3.out (by repeat (first | (with_reducible exact HB.out) | apply pw_below_drewN | apply below_drew1))); rintro e w' ⟨rfl, ⟨nd, rfl⟩⟩))
      go_ret
      exact ⟨by rw [hb.out]; rfl, by repeat (first | (with_reducible exact HB.out) | apply pw_below_drewN | apply below_drew1)⟩
    | true =>
      have hb : Aside0 (bb = !(op.any fun k => hasB cl k)) := ⟨by rw [HB0.out]; rfl⟩
      have hcf : Aside0 (∀ n : Nat, Calls Try.prog 47 #[.slice A2 op.length c2, .func (.func 48) #[] #[.pointer (some ⟨w.heap.size, 0, none⟩)]] ((w.alloc (.cells #[.slice A2 op.length c2, .slice A3 cl.length c3] 32)).drewN n) fun e w' => e = .returned (.bool (op.any fun k => hasB cl k)) ∧ Drawn0 ((w.alloc (.cells #[.slice A2 op.length c2, .slice A3 cl.length c3] 32)).drewN n) w') := ⟨fun n =>
        ContainsFunc_int 48 #[.pointer (some ⟨w.heap.size, 0, none⟩)] EG.out (fun k => hasB cl k) A2 c2 op _ (Kd.C_below HR2.out (pw_below_drewN HB.out n)) (fun m x _ => by
          have h1 := brackets_1_calls w.heap.size ((w.alloc (.cells #[.slice A2 op.length c2, .slice A3 cl.length c3] 32)).drewN n) m A3 c3 cl ((blk_cell (blk_drewN BK.out n) 1).trans rfl) (Kd.C_below HR3.out (pw_below_drewN HB.out n)) HC3.out x
          exact h1)⟩
      clear HB0 EG BK
      generalize (op.any fun k => hasB cl k) = an at *
      go_enter Try.func29, Try.ntmps29
      go_wp2_with (first | (go_at_call 46; with_reducible refine (impl_kindsOk.calls _ _ _ op _ _ ?hcb HC2.out HK2.out).mono ?_; (case hcb => exact Kd.C_below HR2.out (by repeat (first | (with_reducible exact HB.out) | apply pw_below_drewN | apply below_drew1))); rintro e w' ⟨rfl, ⟨nd, rfl⟩⟩) | (go_at_call 46; with_reducible refine (impl_kindsOk.calls _ _ _ cl _ _ ?hcb HC3.out HK3.out).mono ?_; (case hcb => exact Kd.C_below HR3.out (by repeat (first | (with_reducible exact HB.out) | apply pw_below_drewN | apply below_drew1))); rintro e w' ⟨rfl, ⟨nd, rfl⟩⟩) | (go_at_call 47; refine (hcf.out _).mono ?_; rintro e w' ⟨rfl, ⟨nd, rfl⟩⟩))
      go_ret
      exact ⟨by rw [hb.out]; rfl, by repeat (first | (with_reducible exact HB.out) | apply pw_below_drewN | apply below_drew1)⟩
end Go.Proofs.Ytlbjdpahhgokkaa.P
/- The walk of the program's check of items, by hand: each way once. -/
namespace Go.Proofs.Ytlbjdpahhgokkaa.P
open Go.RowKit Go.Shelf Go.Proofs.YtlbjdpahhgokkaaW.PrintWords Go.Proofs.YtlbjdpahhgokkaaW.PrintLast Go.Proofs.YtlbjdpahhgokkaaW.PrintMore Go.Proofs.YtlbjdpahhgokkaaEv
set_option linter.unusedVariables false
set_option linter.unusedSimpArgs false
theorem quiet_within {x lo hi : Int} {b : Bool} (h : impl_within.f x lo hi = some b) (W : World) (n : Nat) : Calls Try.prog 45 #[.int .i64 x, .int .i64 lo, .int .i64 hi] (W.drewN n) fun e w' => e = .returned (.bool b) ∧ ∃ m, w' = W.drewN m := by
  refine (impl_within.calls x lo hi b _ h).mono ?_
  rintro e w' ⟨rfl, ⟨nd, rfl⟩⟩
  exact ⟨rfl, _, World.drewN_drewN _ _ _⟩
set_option maxHeartbeats 8000000 in
set_option maxRecDepth 100000 in
theorem itemsOk_hand (A0 : Option Addr) (c0 : Nat) (l0 : List S46) (w : World) (hr0 : Kd.C k46 w A0 l0.length l0) :
    Calls Try.prog 28 #[.slice A0 l0.length c0] w fun e w' => e = .returned (.bool (itemsB l0)) ∧ Below w.heap.size w w' := by
  have HR := Aside0.mk hr0
  have hn := hr0.2.1
  clear hr0
  have HB := Aside0.mk (Below.refl w.heap.size w)
  · have hf : Aside0 (itemsB l0 = (decide (l0.length ≤ 5000) && itemsR (lineAhead l0 0) (l0.drop 0))) := ⟨by simp [itemsB, lineAhead]⟩
    go_enter Try.func28, Try.ntmps28
    go_wp2
    go_loopg [7] l0.length (fun gg s3 wr => ∃ kk : Nat, kk ≤ l0.length ∧ l0.length - kk ≤ gg ∧ s3 = .int .i64 kk ∧ Aside0 (itemsB l0 = (decide (l0.length ≤ 5000) && itemsR (lineAhead l0 kk) (l0.drop kk))) ∧ Aside0 (Below w.heap.size w wr))
    case atStart => exact ⟨0, Nat.zero_le _, by omega, rfl, hf, ⟨by repeat (first | (with_reducible exact HB.out) | apply pw_below_drewN | apply below_drew1)⟩⟩
    case round =>
      clear hf HB
      obtain ⟨kk, hkk, hg, rfl, HA, HB⟩ := hrel
      by_cases hlt : kk < l0.length
      · have hltz : (kk : Int) < (l0.length : Int) := by omega
        have hk0 : (0 : Int) ≤ (kk : Int) := by omega
        obtain ⟨ad, rfl, hx0, hx1, hx2⟩ := at_T46 HR.out (kk : Int) (by omega) hltz
        replace hx0 := (HB.out.cell (World.block_lt_of_cell? w _ hx0)).trans hx0
        replace hx1 := (HB.out.cell (World.block_lt_of_cell? w _ hx1)).trans hx1
        replace hx2 := (HB.out.cell (World.block_lt_of_cell? w _ hx2)).trans hx2
        rw [Int.toNat_natCast] at hx0 hx1 hx2
        have hs := HA.out.trans (show (decide (l0.length ≤ 5000) && itemsR (lineAhead l0 kk) (l0.drop kk)) = (decide (l0.length ≤ 5000) && (itemB (lineAhead l0 kk) (rd_T46 l0 (kk : Int)) && itemsR (lineAhead l0 (kk + 1)) (l0.drop (kk + 1)))) by rw [itemsR_step l0 kk hlt])
        clear HA
        have hn1 : lineAhead l0 (kk + 1) = (rd_T46 l0 (kk : Int)).f1 := by simp [lineAhead]
        have hp : Aside0 (0 < kk → lineAhead l0 kk = (rd_T46 l0 ((kk : Int) - 1)).f1) := ⟨fun h => by unfold lineAhead; rw [if_neg (by omega), show ((kk - 1 : Nat) : Int) = (kk : Int) - 1 by omega]⟩
        have hz0 : kk = 0 → lineAhead l0 kk = 0 := fun h => by simp [lineAhead, h]
        unfold itemB at hs
        rw [hn1] at hs
        generalize hy0 : (rd_T46 l0 (kk : Int)).f0 = y0 at *
        generalize hy1 : (rd_T46 l0 (kk : Int)).f1 = y1 at *
        generalize hy2 : (rd_T46 l0 (kk : Int)).f2 = y2 at *
        clear hy0 hy1 hy2
        generalize hrest : itemsR y1 (l0.drop (kk + 1)) = rest at *
        have HI := Aside0.mk (impl_within_eq y1 1 1000000000000)
        have HJ := Aside0.mk (impl_within_eq y2 1 1000000000000)
        by_cases c3 : y0 < 0
        · have c3b : decide (y0 < 0) = true := decide_eq_true c3
          have hs2 : Aside0 (itemsB l0 = false) := ⟨by rw [hs, decide_eq_false (show ¬ 0 ≤ y0 by omega)]; simp⟩
          clear hs HI HJ c3 hn1 hp hz0 hrest
          go_wp2_with fail
          go_quiet (fail)
          go_wp2_with fail
          go_ret
          exact ⟨by rw [hs2.out]; rfl, by repeat (first | (with_reducible exact HB.out) | apply below_alloc | apply pw_below_drewN | apply below_drew1)⟩
        have c3b : decide (y0 < 0) = false := decide_eq_false c3
        rw [decide_eq_true (show 0 ≤ y0 by omega), Bool.true_and] at hs
        clear c3
        cases hb1 : decide (1 ≤ y1 ∧ y1 ≤ 1000000000000)
        · rw [hb1] at HI hs
          have hs2 : Aside0 (itemsB l0 = false) := ⟨by rw [hs]; simp⟩
          clear hs HJ hb1 hn1 hp hz0 hrest
          go_wp2_with fail
          go_quiet ((go_at_call 45; with_reducible exact quiet_within HI.out _ _))
          go_wp2_with fail
          go_ret
          exact ⟨by rw [hs2.out]; rfl, by repeat (first | (with_reducible exact HB.out) | apply below_alloc | apply pw_below_drewN | apply below_drew1)⟩
        rw [hb1] at HI hs
        have hy1 := of_decide_eq_true hb1
        clear hb1
        rw [Bool.true_and] at hs
        cases hb2 : decide (1 ≤ y2 ∧ y2 ≤ 1000000000000)
        · rw [hb2] at HJ hs
          have hs2 : Aside0 (itemsB l0 = false) := ⟨by rw [hs]; simp⟩
          clear hs hb2 hn1 hp hz0 hy1 hrest
          go_wp2_with fail
          go_quiet (first | (go_at_call 45; with_reducible exact quiet_within HI.out _ _) | (go_at_call 45; with_reducible exact quiet_within HJ.out _ _))
          go_wp2_with fail
          go_ret
          exact ⟨by rw [hs2.out]; rfl, by repeat (first | (with_reducible exact HB.out) | apply below_alloc | apply pw_below_drewN | apply below_drew1)⟩
        rw [hb2] at HJ hs
        clear hb2
        rw [Bool.true_and] at hs
        by_cases h0 : kk = 0
        · have hz : decide (0 < (kk : Int)) = false := decide_eq_false (by omega)
          have hzn : decide (0 < kk) = false := decide_eq_false (by omega)
          have hs2 : Aside0 (itemsB l0 = (decide (l0.length ≤ 5000) && itemsR (lineAhead l0 (kk + 1)) (l0.drop (kk + 1)))) := ⟨by rw [hs, hz0 h0, decide_eq_true (show (0 : Int) ≤ y1 by omega), Bool.true_and, hn1, hrest]⟩
          clear hs hn1 hp hz0 hy1 h0 hrest
          go_wp2_with fail
          go_quiet (first | (go_at_call 45; with_reducible exact quiet_within HI.out _ _) | (go_at_call 45; with_reducible exact quiet_within HJ.out _ _))
          go_wp2_with fail
          go_roundg (l0.length - (kk + 1))
          case measure => omega
          case rel => exact ⟨kk + 1, by omega, by omega, by go_num, hs2, ⟨by repeat (first | (with_reducible exact HB.out) | apply below_alloc | apply pw_below_drewN | apply below_drew1)⟩⟩
        have hz : decide (0 < (kk : Int)) = true := decide_eq_true (by omega)
        have hzn : decide (0 < kk) = true := decide_eq_true (by omega)
        have hm : (kk : Int) - 1 < (l0.length : Int) := by omega
        have hm0 : 0 ≤ (kk : Int) - 1 := by omega
        obtain ⟨ad2, e2, hv0, hv1, hv2⟩ := at_T46 HR.out ((kk : Int) - 1) hm0 hm
        cases e2
        rw [show ((kk : Int) - 1).toNat = kk - 1 by omega] at hv1
        replace hv1 := (HB.out.cell (World.block_lt_of_cell? w _ hv1)).trans hv1
        clear hv0 hv2
        have hvb := World.block_lt_of_cell? wr _ hv1
        have hva : (wr.alloc (.cells #[.int .i64 y0, .int .i64 y1, .int .i64 y2] 46)).cell? ⟨(ad.add ((kk - 1) * 3)).block, (ad.add ((kk - 1) * 3)).off + 1, none⟩ = some (.int .i64 (rd_T46 l0 ((kk : Int) - 1)).f1) := ((below_alloc (Below.refl _ _) _ : Below wr.heap.size wr _).cell hvb).trans hv1
        rw [hp.out (by omega)] at hs
        generalize (rd_T46 l0 ((kk : Int) - 1)).f1 = y3 at *
        have hwr : IntKind.i64.wrap ((kk : Int) - 1) = (kk : Int) - 1 := by rw [i64_w]; exact wrap_id (by omega) (by omega)
        have g1 : 1 ≤ (kk : Int) := by omega
        have g2 : 1 ≤ kk := by omega
        have g3 : 0 < kk := by omega
        have g4 := eq_true hm
        have g5 := eq_true hm0
        by_cases c5 : y1 < y3
        · have c5b : decide (y1 < y3) = true := decide_eq_true c5
          have hs2 : Aside0 (itemsB l0 = false) := ⟨by rw [hs, decide_eq_false (show ¬ y3 ≤ y1 by omega)]; simp⟩
          clear hs hn1 hp hz0 hy1 h0 hrest c5
          go_wp2_with fail
          go_quiet (first | (go_at_call 45; with_reducible exact quiet_within HI.out _ _) | (go_at_call 45; with_reducible exact quiet_within HJ.out _ _))
          go_wp2_with fail
          go_ret
          exact ⟨by rw [hs2.out]; rfl, by repeat (first | (with_reducible exact HB.out) | apply below_alloc | apply pw_below_drewN | apply below_drew1)⟩
        have c5b : decide (y1 < y3) = false := decide_eq_false c5
        have hs2 : Aside0 (itemsB l0 = (decide (l0.length ≤ 5000) && itemsR (lineAhead l0 (kk + 1)) (l0.drop (kk + 1)))) := ⟨by rw [hs, decide_eq_true (show y3 ≤ y1 by omega), Bool.true_and, hn1, hrest]⟩
        clear hs hn1 hp hz0 hy1 h0 hrest c5
        go_wp2_with fail
        go_quiet (first | (go_at_call 45; with_reducible exact quiet_within HI.out _ _) | (go_at_call 45; with_reducible exact quiet_within HJ.out _ _))
        go_wp2_with fail
        go_roundg (l0.length - (kk + 1))
        case measure => omega
        case rel => exact ⟨kk + 1, by omega, by omega, by go_num, hs2, ⟨by repeat (first | (with_reducible exact HB.out) | apply below_alloc | apply pw_below_drewN | apply below_drew1)⟩⟩
      · have hltz : ¬ (kk : Int) < (l0.length : Int) := by omega
        have hk : kk = l0.length := by omega
        have hs2 : Aside0 (itemsB l0 = decide (l0.length ≤ 5000)) := ⟨by rw [HA.out, hk, List.drop_length]; simp [itemsR]⟩
        clear hk HA
        by_cases c6 : l0.length ≤ 5000
        · have c6a : decide ((l0.length : Int) ≤ 5000) = true := decide_eq_true (by omega)
          rw [decide_eq_true c6] at hs2
          have c6b : decide (l0.length ≤ 5000) = true := decide_eq_true c6
          clear c6
          go_wp2
          go_ret
          exact ⟨by rw [hs2.out]; rfl, by repeat (first | (with_reducible exact HB.out) | apply below_alloc | apply pw_below_drewN | apply below_drew1)⟩
        · have c6a : decide ((l0.length : Int) ≤ 5000) = false := decide_eq_false (by omega)
          rw [decide_eq_false c6] at hs2
          have c6b : decide (l0.length ≤ 5000) = false := decide_eq_false c6
          clear c6
          go_wp2
          go_ret
          exact ⟨by rw [hs2.out]; rfl, by repeat (first | (with_reducible exact HB.out) | apply below_alloc | apply pw_below_drewN | apply below_drew1)⟩
end Go.Proofs.Ytlbjdpahhgokkaa.P
-- Made by wip/gen/pp.py of this session over the kit's print of the loaded program: a function, and the contract of its walk. Lean checks it.
namespace Go.Proofs.Ytlbjdpahhgokkaa.P
open Go.RowKit Go.Proofs.YtlbjdpahhgokkaaW.PrintWords Go.Proofs.YtlbjdpahhgokkaaW.PrintLast Go.Proofs.YtlbjdpahhgokkaaW.PrintMore
attribute [local go_sem] max2_int min2_int max_two min_two max_three min_three max_four min_four   -- for this text's walks alone
set_option linter.unusedVariables false
set_option linter.unusedSimpArgs false

/-! ### impl_Item_33: function 33 -/
def impl_Item_33.f (l0 : List (S46)) : Option (Int) := some (l0.length : Int)
set_option maxHeartbeats 8000000 in
set_option maxRecDepth 100000 in
theorem impl_Item_33.calls (A0 : Option Addr) (c0 : Nat) (l0 : List (S46)) (r : Int) (w : World) (hr0 : Kd.C k46 w A0 l0.length l0) (hc0 : l0.length ≤ c0) (h : impl_Item_33.f l0 = some r) :
  Calls Try.prog 33 #[.slice A0 l0.length c0] w fun e w' => e = .returned (.int .i64 r) ∧ Drawn0 w w' := by
 have HR0 := Aside0.mk hr0
 have HC0 := Aside0.mk hc0
 clear hr0 hc0
 have H : (some (l0.length : Int)) = some r := h
 clear h
 obtain rfl := Option.some.inj H
 go_enter Try.func33, Try.ntmps33
 go_wp2
 go_ret
 exact ⟨by first | rfl | (simp; done) | (simp [*]; done), by repeat (first | exact Drawn0.refl _ | apply Drawn0.step)⟩

end Go.Proofs.Ytlbjdpahhgokkaa.P
/- The walk of the program's Layout, by hand. -/
namespace Go.Proofs.Ytlbjdpahhgokkaa.P
open Go.RowKit Go.Shelf Go.Proofs.YtlbjdpahhgokkaaW.PrintWords Go.Proofs.YtlbjdpahhgokkaaW.PrintLast Go.Proofs.YtlbjdpahhgokkaaW.PrintMore Go.Proofs.YtlbjdpahhgokkaaEv
set_option linter.unusedVariables false
set_option linter.unusedSimpArgs false
set_option maxHeartbeats 32000000 in
set_option maxRecDepth 100000 in
theorem layout_hand (A0 : Option Addr) (c0 : Nat) (l0 : List S46) (A2 : Option Addr) (c2 : Nat) (op : List Int) (A3 : Option Addr) (c3 : Nat) (cl : List Int) (w : World) (hl0 : l0.length ≤ 1048576) (hr0 : Kd.C k46 w A0 l0.length l0) (hc0 : l0.length ≤ c0) (hr2 : Kd.C (Kd.int .i64) w A2 op.length op) (hc2 : op.length ≤ c2) (hr3 : Kd.C (Kd.int .i64) w A3 cl.length cl) (hc3 : cl.length ≤ c3) :
    Calls Try.prog 10 #[.slice A0 l0.length c0, .agg #[.slice A2 op.length c2, .slice A3 cl.length c3]] w fun e w' => ∃ v0_ : Value, e = .returned (.tuple #[v0_, .int .i64 (layB l0 op cl).2.1, .int .i64 (layB l0 op cl).2.2]) ∧ Kd.R k46 46 w' w.heap.size (fun _ => True) v0_ (layB l0 op cl).1 ∧ Below w.heap.size w w' := by
  have CI := Aside0.mk hr0
  have CL := Aside0.mk hc0
  have CO := Aside0.mk hr2
  have CM := Aside0.mk hc2
  have CC := Aside0.mk hr3
  have CN := Aside0.mk hc3
  have BX := Aside0.mk (blk_new w (.cells #[.slice A2 op.length c2, .slice A3 cl.length c3] 32))
  have HB := Aside0.mk (below_alloc (Below.refl w.heap.size w) (.cells #[.slice A2 op.length c2, .slice A3 cl.length c3] 32))
  have HL : Aside0 (layB l0 op cl = if itemsB l0 && bracketsB op cl then layR op cl none l0 [] [1] 0 0 else ([], 1, -1)) := ⟨rfl⟩
  clear hr0 hc0 hr2 hc2 hr3 hc3
  generalize layB l0 op cl = r at *
  cases hi : itemsB l0 with
  | false =>
    have hr : Aside0 (r = ([], 1, -1)) := ⟨by rw [HL.out, hi]; rfl⟩
    clear HL
    go_enter Try.func10, Try.ntmps10
    go_wp2_with (go_at_call 28; refine (itemsOk_hand A0 c0 l0 _ (Kd.C_below CI.out (by repeat (first | (with_reducible exact HB.out) | apply below_alloc | apply pw_below_drewN | apply below_drew1)))).mono ?_; rintro e w1 ⟨rfl, hb1⟩; have nBX := blk_below (by (with_reducible repeat (first | refine blk_drewN ?_ _ | refine blk_drew ?_)); exact BX.out) hb1; have nHB := below_step (by repeat (first | (with_reducible exact HB.out) | apply below_alloc | apply pw_below_drewN | apply below_drew1)) hb1; clear BX HB; have BX := Aside0.mk nBX; have HB := Aside0.mk nHB; have hb0 : w1.cell? ⟨w.heap.size, 0, none⟩ = some (.slice A2 op.length c2) := (blk_cell nBX 0).trans rfl; have hb1c : w1.cell? ⟨w.heap.size, 1, none⟩ = some (.slice A3 cl.length c3) := (blk_cell nBX 1).trans rfl; clear nBX nHB hb1)
    go_ret3
    exact ⟨_, by rw [hr.out]; rfl, by rw [hr.out]; exact Kd.R_nil _ _ _ _ _, by repeat (first | (with_reducible exact HB.out) | apply below_alloc | apply pw_below_drewN | apply below_drew1)⟩
  | true =>
    cases hbr : bracketsB op cl with
    | false =>
      have hr : Aside0 (r = ([], 1, -1)) := ⟨by rw [HL.out, hi, hbr]; rfl⟩
      clear HL
      go_enter Try.func10, Try.ntmps10
      go_wp2_with (first | (go_at_call 28; refine (itemsOk_hand A0 c0 l0 _ (Kd.C_below CI.out (by repeat (first | (with_reducible exact HB.out) | apply below_alloc | apply pw_below_drewN | apply below_drew1)))).mono ?_; rintro e w1 ⟨rfl, hb1⟩; have nBX := blk_below (by (with_reducible repeat (first | refine blk_drewN ?_ _ | refine blk_drew ?_)); exact BX.out) hb1; have nHB := below_step (by repeat (first | (with_reducible exact HB.out) | apply below_alloc | apply pw_below_drewN | apply below_drew1)) hb1; clear BX HB; have BX := Aside0.mk nBX; have HB := Aside0.mk nHB; have hb0 : w1.cell? ⟨w.heap.size, 0, none⟩ = some (.slice A2 op.length c2) := (blk_cell nBX 0).trans rfl; have hb1c : w1.cell? ⟨w.heap.size, 1, none⟩ = some (.slice A3 cl.length c3) := (blk_cell nBX 1).trans rfl; clear nBX nHB hb1) | (go_at_call 29; refine (bracketsOk_hand A2 A3 c2 c3 op cl _ (Kd.C_below CO.out (by repeat (first | (with_reducible exact HB.out) | apply below_alloc | apply pw_below_drewN | apply below_drew1))) CM.out (Kd.C_below CC.out (by repeat (first | (with_reducible exact HB.out) | apply below_alloc | apply pw_below_drewN | apply below_drew1))) CN.out).mono ?_; rintro e w2 ⟨rfl, hb2⟩; have nBX := blk_below (by (with_reducible repeat (first | refine blk_drewN ?_ _ | refine blk_drew ?_)); exact BX.out) hb2; have nHB := below_step (by repeat (first | (with_reducible exact HB.out) | apply below_alloc | apply pw_below_drewN | apply below_drew1)) hb2; clear BX HB; have BX := Aside0.mk nBX; have HB := Aside0.mk nHB; clear nBX nHB hb2))
      go_ret3
      exact ⟨_, by rw [hr.out]; rfl, by rw [hr.out]; exact Kd.R_nil _ _ _ _ _, by repeat (first | (with_reducible exact HB.out) | apply below_alloc | apply pw_below_drewN | apply below_drew1)⟩
    | true =>
      have hr : Aside0 (r = layR op cl none l0 [] [1] 0 0) := ⟨by rw [HL.out, hi, hbr]; rfl⟩
      have HBR := Aside0.mk hbr
      clear HL
      have hi5 : l0.length ≤ 5000 := itemsB_len hi
      have hcol : Aside0 (∀ i, i < l0.length → 1 ≤ (rd_T46 l0 (i : Int)).f2) := ⟨fun i h => itemsR_col l0 0 (by simp only [itemsB, Bool.and_eq_true] at hi; exact hi.2) _ (by
        unfold rd_T46
        rw [List.getD_eq_getElem?_getD, Int.toNat_natCast, List.getElem?_eq_getElem h]
        exact List.getElem_mem _)⟩
      go_enter Try.func10, Try.ntmps10
      go_wp2_with (first | (go_at_call 28; refine (itemsOk_hand A0 c0 l0 _ (Kd.C_below CI.out (by repeat (first | (with_reducible exact HB.out) | apply below_alloc | apply pw_below_drewN | apply below_drew1)))).mono ?_; rintro e w1 ⟨rfl, hb1⟩; have nBX := blk_below (by (with_reducible repeat (first | refine blk_drewN ?_ _ | refine blk_drew ?_)); exact BX.out) hb1; have nHB := below_step (by repeat (first | (with_reducible exact HB.out) | apply below_alloc | apply pw_below_drewN | apply below_drew1)) hb1; clear BX HB; have BX := Aside0.mk nBX; have HB := Aside0.mk nHB; have hb0 : w1.cell? ⟨w.heap.size, 0, none⟩ = some (.slice A2 op.length c2) := (blk_cell nBX 0).trans rfl; have hb1c : w1.cell? ⟨w.heap.size, 1, none⟩ = some (.slice A3 cl.length c3) := (blk_cell nBX 1).trans rfl; clear nBX nHB hb1) | (go_at_call 29; refine (bracketsOk_hand A2 A3 c2 c3 op cl _ (Kd.C_below CO.out (by repeat (first | (with_reducible exact HB.out) | apply below_alloc | apply pw_below_drewN | apply below_drew1))) CM.out (Kd.C_below CC.out (by repeat (first | (with_reducible exact HB.out) | apply below_alloc | apply pw_below_drewN | apply below_drew1))) CN.out).mono ?_; rintro e w2 ⟨rfl, hb2⟩; have nBX := blk_below (by (with_reducible repeat (first | refine blk_drewN ?_ _ | refine blk_drew ?_)); exact BX.out) hb2; have nHB := below_step (by repeat (first | (with_reducible exact HB.out) | apply below_alloc | apply pw_below_drewN | apply below_drew1)) hb2; clear BX HB; have BX := Aside0.mk nBX; have HB := Aside0.mk nHB; clear nBX nHB hb2) | ((with_reducible refine gate_dst (N := 20) rfl ?_); refine Kd.R_lit (Kd.int .i64) _ 2 ?hg (N := 20) ?hd (xs := ([1] : List Int)) (inner := [.int .i64 1]) (ok := fun _ => True) (okp := fun _ => True) ?hr ?hp (fun _ hk => hk) trivial (Below.refl _ _) (Nat.le_refl _) (by simp) ?_; (case hd => rfl); (case hg => rfl); (case hr => first | (go_simp; done) | (go_simp; rfl)); (case hp => exact (Reps.one (show Kd.M (Kd.int .i64) _ _ _ 1 [.int .i64 1] from rfl) (Reps.none _ _))); intro v3 w3 ho hb hg_ hnew_; clear hg_ hnew_; have nBX := blk_below (by (with_reducible repeat (first | refine blk_drewN ?_ _ | refine blk_drew ?_)); exact BX.out) hb; have nHB := below_step (by repeat (first | (with_reducible exact HB.out) | apply below_alloc | apply pw_below_drewN | apply below_drew1)) hb; have hlt0 := blk_lt BX.out; have nHO := Kd.R_lower (Kd.R_mono (Kd.R_bound ho) (ok' := fun k => k ≠ w.heap.size) (fun k hk => by have h_ := hk.2.1; (first | omega | (simp at h_; omega)))) (below_size (by repeat (first | (with_reducible exact HB.out) | apply below_alloc | apply pw_below_drewN | apply below_drew1))); clear BX HB ho hb hlt0; have BX := Aside0.mk nBX; have HB := Aside0.mk nHB; obtain ⟨A9, c9, rfl⟩ := Kd.R_slice nHO; rw [show ([1] : List Int).length = 1 from rfl] at nHO ⊢; have HO := Aside0.mk nHO; clear nBX nHB nHO))
      obtain ⟨gb, hgb⟩ : ∃ gb, w.heap.size = gb := ⟨_, rfl⟩
      obtain ⟨g, hgg⟩ : ∃ g, w3.heap.size = g := ⟨_, rfl⟩
      have hgg2 : gb < g := by have := blk_lt BX.out; omega
      have HI : Aside0 (LyS w (w3.alloc (.cells #[.slice none 0 0, .slice A9 1 c9, .int .i64 0] 58)) (fun k => k ≠ gb) g [] [1] 0) := ⟨⟨_, _, by rw [← hgg]; exact blk_new w3 _, by omega, Kd.R_nil _ _ _ _ _, Kd.R_alloc (by rw [← hgb]; exact HO.out) _⟩⟩
      replace BX := Aside0.mk (blk_alloc BX.out (.cells #[.slice none 0 0, .slice A9 1 c9, .int .i64 0] 58))
      replace HB := Aside0.mk (below_alloc HB.out (.cells #[.slice none 0 0, .slice A9 1 c9, .int .i64 0] 58))
      generalize hW : w3.alloc (.cells #[.slice none 0 0, .slice A9 1 c9, .int .i64 0] 58) = W at *
      clear hW HO hb0 hb1c
      simp only [hgb, hgg] at BX ⊢
      have hn : l0.length ≤ 9223372036854775807 := by omega
      have HI0 := HI
      go_loopg [25] l0.length (fun gg v25 wr => ∃ (kk : Nat) (p : Option S46) (out : List S46) (st : List Int) (d : Int), v25 = .int .i64 kk ∧ kk ≤ l0.length ∧ l0.length - kk ≤ gg ∧ Aside0 (r = layR op cl p (l0.drop kk) out st d kk) ∧ Aside0 ((kk = 0 → p = none) ∧ (0 < kk → p = some (rd_T46 l0 ((kk - 1 : Nat) : Int)))) ∧ Aside0 (1 ≤ st.length) ∧ Aside0 (st[0]? = some 1) ∧ Aside0 (out.length + st.length ≤ 4 * kk + 1) ∧ Aside0 (0 ≤ d ∧ d ≤ kk) ∧ Aside0 (LyS w wr (fun k => k ≠ gb) g out st d) ∧ Aside0 (wr.heap[gb]? = some (.cells #[.slice A2 op.length c2, .slice A3 cl.length c3] 32 (0, 0))) ∧ Aside0 (Below w.heap.size w wr))
      case atStart => exact ⟨0, none, [], [1], 0, rfl, Nat.zero_le _, by omega, ⟨by rw [List.drop_zero]; exact hr.out⟩, ⟨fun _ => rfl, fun h => absurd h (by omega)⟩, ⟨by simp⟩, ⟨rfl⟩, ⟨by simp⟩, ⟨by omega, by omega⟩, HI0, BX, HB⟩
      case round =>
        clear HI0 HI BX HB hr
        obtain ⟨kk, p, out, st, d, rfl, hkk, hg, HR, HP, H1, H0, HS, HD, HI, BX, HB⟩ := hrel
        by_cases hlt : kk < l0.length
        · have hltz : (kk : Int) < (l0.length : Int) := by omega
          have hk0 : (0 : Int) ≤ (kk : Int) := by omega
          obtain ⟨ad, rfl, hx0, hx1, hx2⟩ := at_T46 CI.out (kk : Int) (by omega) hltz
          replace hx0 := (HB.out.cell (World.block_lt_of_cell? w _ hx0)).trans hx0
          replace hx1 := (HB.out.cell (World.block_lt_of_cell? w _ hx1)).trans hx1
          replace hx2 := (HB.out.cell (World.block_lt_of_cell? w _ hx2)).trans hx2
          rw [Int.toNat_natCast] at hx0 hx1 hx2
          have hcx := hcol.out kk hlt
          have hdr := drop_cons l0 z46 kk hlt
          have hrd : l0.getD kk z46 = rd_T46 l0 (kk : Int) := by simp [rd_T46]
          rw [hrd] at hdr
          have HR2 := HR.out
          rw [hdr] at HR2
          have HNX : Aside0 (rd_T46 l0 (kk : Int) = rd_T46 l0 ((kk + 1 - 1 : Nat) : Int)) := ⟨by rw [Nat.add_sub_cancel]⟩
          clear hdr hrd HR
          generalize hrest : l0.drop (kk + 1) = rest at *
          generalize rd_T46 l0 (kk : Int) = x at *
          have HI1 := Aside0.mk (HI.out.alloc (.cells #[.int .i64 x.f0, .int .i64 x.f1, .int .i64 x.f2] 46))
          have BX1 := Aside0.mk (blk_alloc BX.out (.cells #[.int .i64 x.f0, .int .i64 x.f1, .int .i64 x.f2] 46))
          have BG1 := Aside0.mk (blk_new wr (.cells #[.int .i64 x.f0, .int .i64 x.f1, .int .i64 x.f2] 46))
          have HB1 := Aside0.mk (below_alloc HB.out (.cells #[.int .i64 x.f0, .int .i64 x.f1, .int .i64 x.f2] 46))
          have hd2 : (wr.alloc (.cells #[.int .i64 x.f0, .int .i64 x.f1, .int .i64 x.f2] 46)).cell? ⟨g, 2, none⟩ = some (.int .i64 d) := by obtain ⟨v0, v1, hG, _⟩ := HI1.out; exact (blk_cell hG 2).trans rfl
          have ha0 : (wr.alloc (.cells #[.int .i64 x.f0, .int .i64 x.f1, .int .i64 x.f2] 46)).cell? ⟨gb, 0, none⟩ = some (.slice A2 op.length c2) := (blk_cell BX1.out 0).trans rfl
          have ha1 : (wr.alloc (.cells #[.int .i64 x.f0, .int .i64 x.f1, .int .i64 x.f2] 46)).cell? ⟨gb, 1, none⟩ = some (.slice A3 cl.length c3) := (blk_cell BX1.out 1).trans rfl
          have hgx : g < wr.heap.size := by obtain ⟨v0, v1, hG, _⟩ := HI.out; exact blk_lt hG
          have HLN0 : out.length + st.length ≤ 20001 := by have := HS.out; omega
          have hd01 := HD.out
          have HCX := Aside0.mk hcx
          by_cases hd : d = 0
          · subst hd
            by_cases hz : kk = 0
            · have z1 : ((kk : Int) == 0) = true := by rw [hz]; rfl
              have z2 : (kk == 0) = true := by rw [hz]; rfl
              have z3 : decide (0 < (kk : Int)) = false := decide_eq_false (by omega)
              have z4 : decide (0 < kk) = false := decide_eq_false (by omega)
              obtain rfl := HP.out.1 hz
              have HR3 : Aside0 (r = if lastC (begR x st out).1 = x.f2 then (match depR op cl x.f0 0 with | none => ([], 3, (kk : Int)) | some d1 => layR op cl (some x) rest ((begR x st out).2 ++ [x]) (begR x st out).1 d1 ((kk : Int) + 1)) else ([], 2, (kk : Int))) := ⟨by rw [HR2]; simp only [layR]; rw [if_pos ⟨trivial, rfl⟩]; try rfl⟩
              clear HR2 hz
              go_wp2_with fail
              go_quiet (fail)
              go_wp2_with fail
              obtain ⟨gx, hgxe⟩ : ∃ gx, wr.heap.size = gx := ⟨_, rfl⟩
              replace HI1 := Aside0.mk (HI1.out.drewN nq)
              replace BX1 := Aside0.mk (blk_drewN BX1.out nq)
              replace BG1 := Aside0.mk (blk_drewN BG1.out nq)
              replace HB1 := Aside0.mk (pw_below_drewN HB1.out nq)
              clear hd2 ha0 ha1 HI BX HB hx0 hx1 hx2
              generalize hW2 : (wr.alloc (.cells #[.int .i64 x.f0, .int .i64 x.f1, .int .i64 x.f2] 46)).drewN nq = W2 at *
              clear hW2
              simp only [hgxe] at HI1 BG1 hgx ⊢
              have hgbg : gb ≠ g := by omega
              have hgxg : gx ≠ g := by omega
              have hq0 : W2.cell? ⟨gx, 0, none⟩ = some (.int .i64 x.f0) := (blk_cell BG1.out 0).trans rfl
              have hq1 : W2.cell? ⟨gx, 1, none⟩ = some (.int .i64 x.f1) := (blk_cell BG1.out 1).trans rfl
              have hq2 : W2.cell? ⟨gx, 2, none⟩ = some (.int .i64 x.f2) := (blk_cell BG1.out 2).trans rfl
              have hp0 : W2.cell? ⟨gb, 0, none⟩ = some (.slice A2 op.length c2) := (blk_cell BX1.out 0).trans rfl
              have hp1 : W2.cell? ⟨gb, 1, none⟩ = some (.slice A3 cl.length c3) := (blk_cell BX1.out 1).trans rfl
              have hbk := begR_keeps x hcx st out H1.out H0.out
              have hbl : (begR x st out).2.length ≤ 500000 := by have := hbk.2.2.2; first | omega | (simp at this; omega)
              have HBK := Aside0.mk hbk
              have HLN := Aside0.mk hbl
              clear hbk hbl
              by_cases hq : lastC (begR x st out).1 = x.f2
              · have HCD : Aside0 ((if lastC (begR x st out).1 = x.f2 then (0 : Int) else 2) = 0) := ⟨if_pos hq⟩
                have HR4 : Aside0 (r = match depR op cl x.f0 0 with | none => ([], 3, (kk : Int)) | some d1 => layR op cl (some x) rest ((begR x st out).2 ++ [x]) (begR x st out).1 d1 ((kk : Int) + 1)) := ⟨by rw [HR3.out, if_pos hq]⟩
                clear HR3 hq
                cases hdep : depR op cl x.f0 0 with
                | none =>
                  have HDEP := Aside0.mk hdep
                  have HRF : Aside0 (r = ([], 3, (kk : Int))) := ⟨by rw [HR4.out, hdep]⟩
                  clear hdep HR4
                  go_wp2_with (first | (go_at_call 31; refine (begin_eq (fun k => k ≠ gb ∧ k ≠ gx) g out st 0 x _ HI1.out HB1.out (fun k hk => ⟨by have := blk_lt BX1.out; omega, by have := blk_lt BG1.out; omega⟩) HCX.out H1.out H0.out (by first | omega | (simp; omega)) 0 HCD.out).mono ?_; rintro e6 w6 ⟨rfl, hI5, hb5, hk5⟩; have nBX := (hk5 gb (blk_lt BX1.out) hgbg (fun h => h.1 rfl)).trans BX1.out; have nBG := (hk5 gx (blk_lt BG1.out) hgxg (fun h => h.2 rfl)).trans BG1.out; clear HI1 HB1 BX1 BG1; have HI1 := Aside0.mk hI5; have HB1 := Aside0.mk hb5; have BX1 := Aside0.mk nBX; have BG1 := Aside0.mk nBG; have hq0 : w6.cell? ⟨gx, 0, none⟩ = some (.int .i64 x.f0) := (blk_cell BG1.out 0).trans rfl; have hq1 : w6.cell? ⟨gx, 1, none⟩ = some (.int .i64 x.f1) := (blk_cell BG1.out 1).trans rfl; have hq2 : w6.cell? ⟨gx, 2, none⟩ = some (.int .i64 x.f2) := (blk_cell BG1.out 2).trans rfl; have hp0 : w6.cell? ⟨gb, 0, none⟩ = some (.slice A2 op.length c2) := (blk_cell BX1.out 0).trans rfl; have hp1 : w6.cell? ⟨gb, 1, none⟩ = some (.slice A3 cl.length c3) := (blk_cell BX1.out 1).trans rfl; clear nBX nBG hb5 hk5 hI5) | (go_at_call 32; refine (item_none (fun k => k ≠ gb ∧ k ≠ gx) g (begR x st out).2 (begR x st out).1 0 x A2 A3 c2 c3 op cl _ HI1.out HB1.out (fun k hk => ⟨by have := blk_lt BX1.out; omega, by have := blk_lt BG1.out; omega⟩) ?ha ?hb ?hc CO.out CM.out CC.out CN.out HBR.out HDEP.out).mono ?_; (case ha => first | omega | exact HLN.out); (case hb => omega); (case hc => omega); rintro e7 w7 ⟨rfl, hb5, hk5⟩; have nBX := (hk5 gb (blk_lt BX1.out) hgbg (fun h => h.1 rfl)).trans BX1.out; have nBG := (hk5 gx (blk_lt BG1.out) hgxg (fun h => h.2 rfl)).trans BG1.out; clear HI1 HB1 BX1 BG1; have HB1 := Aside0.mk hb5; have BX1 := Aside0.mk nBX; have BG1 := Aside0.mk nBG; have hq0 : w7.cell? ⟨gx, 0, none⟩ = some (.int .i64 x.f0) := (blk_cell BG1.out 0).trans rfl; have hq1 : w7.cell? ⟨gx, 1, none⟩ = some (.int .i64 x.f1) := (blk_cell BG1.out 1).trans rfl; have hq2 : w7.cell? ⟨gx, 2, none⟩ = some (.int .i64 x.f2) := (blk_cell BG1.out 2).trans rfl; have hp0 : w7.cell? ⟨gb, 0, none⟩ = some (.slice A2 op.length c2) := (blk_cell BX1.out 0).trans rfl; have hp1 : w7.cell? ⟨gb, 1, none⟩ = some (.slice A3 cl.length c3) := (blk_cell BX1.out 1).trans rfl; clear nBX nBG hb5 hk5))
                  go_ret3
                  exact ⟨_, by rw [HRF.out]; rfl, by rw [HRF.out]; exact Kd.R_nil _ _ _ _ _, by repeat (first | (with_reducible exact HB1.out) | apply below_alloc | apply pw_below_drewN | apply below_drew1)⟩
                | some d1 =>
                  have HDEP := Aside0.mk hdep
                  have hb1 := depR_bound (show 0 ≤ 0 by omega) hdep
                  have HRF : Aside0 (r = layR op cl (some x) rest ((begR x st out).2 ++ [x]) (begR x st out).1 d1 ((kk : Int) + 1)) := ⟨by rw [HR4.out, hdep]⟩
                  clear hdep HR4
                  go_wp2_with (first | (go_at_call 31; refine (begin_eq (fun k => k ≠ gb ∧ k ≠ gx) g out st 0 x _ HI1.out HB1.out (fun k hk => ⟨by have := blk_lt BX1.out; omega, by have := blk_lt BG1.out; omega⟩) HCX.out H1.out H0.out (by first | omega | (simp; omega)) 0 HCD.out).mono ?_; rintro e6 w6 ⟨rfl, hI5, hb5, hk5⟩; have nBX := (hk5 gb (blk_lt BX1.out) hgbg (fun h => h.1 rfl)).trans BX1.out; have nBG := (hk5 gx (blk_lt BG1.out) hgxg (fun h => h.2 rfl)).trans BG1.out; clear HI1 HB1 BX1 BG1; have HI1 := Aside0.mk hI5; have HB1 := Aside0.mk hb5; have BX1 := Aside0.mk nBX; have BG1 := Aside0.mk nBG; have hq0 : w6.cell? ⟨gx, 0, none⟩ = some (.int .i64 x.f0) := (blk_cell BG1.out 0).trans rfl; have hq1 : w6.cell? ⟨gx, 1, none⟩ = some (.int .i64 x.f1) := (blk_cell BG1.out 1).trans rfl; have hq2 : w6.cell? ⟨gx, 2, none⟩ = some (.int .i64 x.f2) := (blk_cell BG1.out 2).trans rfl; have hp0 : w6.cell? ⟨gb, 0, none⟩ = some (.slice A2 op.length c2) := (blk_cell BX1.out 0).trans rfl; have hp1 : w6.cell? ⟨gb, 1, none⟩ = some (.slice A3 cl.length c3) := (blk_cell BX1.out 1).trans rfl; clear nBX nBG hb5 hk5 hI5) | (go_at_call 32; refine (item_some (fun k => k ≠ gb ∧ k ≠ gx) g (begR x st out).2 (begR x st out).1 0 x A2 A3 c2 c3 op cl _ HI1.out HB1.out (fun k hk => ⟨by have := blk_lt BX1.out; omega, by have := blk_lt BG1.out; omega⟩) ?ha ?hb ?hc CO.out CM.out CC.out CN.out HBR.out d1 HDEP.out).mono ?_; (case ha => first | omega | exact HLN.out); (case hb => omega); (case hc => omega); rintro e7 w7 ⟨rfl, hI5, hb5, hk5⟩; have nBX := (hk5 gb (blk_lt BX1.out) hgbg (fun h => h.1 rfl)).trans BX1.out; have nBG := (hk5 gx (blk_lt BG1.out) hgxg (fun h => h.2 rfl)).trans BG1.out; clear HI1 HB1 BX1 BG1; have HI1 := Aside0.mk hI5; have HB1 := Aside0.mk hb5; have BX1 := Aside0.mk nBX; have BG1 := Aside0.mk nBG; have hq0 : w7.cell? ⟨gx, 0, none⟩ = some (.int .i64 x.f0) := (blk_cell BG1.out 0).trans rfl; have hq1 : w7.cell? ⟨gx, 1, none⟩ = some (.int .i64 x.f1) := (blk_cell BG1.out 1).trans rfl; have hq2 : w7.cell? ⟨gx, 2, none⟩ = some (.int .i64 x.f2) := (blk_cell BG1.out 2).trans rfl; have hp0 : w7.cell? ⟨gb, 0, none⟩ = some (.slice A2 op.length c2) := (blk_cell BX1.out 0).trans rfl; have hp1 : w7.cell? ⟨gb, 1, none⟩ = some (.slice A3 cl.length c3) := (blk_cell BX1.out 1).trans rfl; clear nBX nBG hb5 hk5 hI5))
                  go_roundg (l0.length - (kk + 1))
                  case measure => omega
                  case rel => exact ⟨kk + 1, some x, _, _, d1, by go_num, by omega, by omega, ⟨by rw [hrest]; exact HRF.out⟩, ⟨fun h => absurd h (by omega), fun _ => congrArg some HNX.out⟩, ⟨HBK.out.2.1⟩, ⟨HBK.out.1⟩, ⟨by have h_ := HBK.out.2.2.2; have := HS.out; simp at h_ ⊢; omega⟩, ⟨by omega, by omega⟩, ⟨HI1.out.mono (fun _ h => h.1)⟩, BX1, HB1⟩
              · have HCD : Aside0 ((if lastC (begR x st out).1 = x.f2 then (0 : Int) else 2) = 2) := ⟨if_neg hq⟩
                have HRF : Aside0 (r = ([], 2, (kk : Int))) := ⟨by rw [HR3.out, if_neg hq]⟩
                clear HR3 hq
                go_wp2_with (go_at_call 31; refine (begin_eq (fun k => k ≠ gb ∧ k ≠ gx) g out st 0 x _ HI1.out HB1.out (fun k hk => ⟨by have := blk_lt BX1.out; omega, by have := blk_lt BG1.out; omega⟩) HCX.out H1.out H0.out (by first | omega | (simp; omega)) 2 HCD.out).mono ?_; rintro e6 w6 ⟨rfl, hI5, hb5, hk5⟩; have nBX := (hk5 gb (blk_lt BX1.out) hgbg (fun h => h.1 rfl)).trans BX1.out; have nBG := (hk5 gx (blk_lt BG1.out) hgxg (fun h => h.2 rfl)).trans BG1.out; clear HI1 HB1 BX1 BG1; have HI1 := Aside0.mk hI5; have HB1 := Aside0.mk hb5; have BX1 := Aside0.mk nBX; have BG1 := Aside0.mk nBG; have hq0 : w6.cell? ⟨gx, 0, none⟩ = some (.int .i64 x.f0) := (blk_cell BG1.out 0).trans rfl; have hq1 : w6.cell? ⟨gx, 1, none⟩ = some (.int .i64 x.f1) := (blk_cell BG1.out 1).trans rfl; have hq2 : w6.cell? ⟨gx, 2, none⟩ = some (.int .i64 x.f2) := (blk_cell BG1.out 2).trans rfl; have hp0 : w6.cell? ⟨gb, 0, none⟩ = some (.slice A2 op.length c2) := (blk_cell BX1.out 0).trans rfl; have hp1 : w6.cell? ⟨gb, 1, none⟩ = some (.slice A3 cl.length c3) := (blk_cell BX1.out 1).trans rfl; clear nBX nBG hb5 hk5 hI5)
                go_ret3
                exact ⟨_, by rw [HRF.out]; rfl, by rw [HRF.out]; exact Kd.R_nil _ _ _ _ _, by repeat (first | (with_reducible exact HB1.out) | apply below_alloc | apply pw_below_drewN | apply below_drew1)⟩
            · have z1 : ((kk : Int) == 0) = false := beq_eq_false_iff_ne.2 (by omega)
              have z2 : (kk == 0) = false := beq_eq_false_iff_ne.2 hz
              have z3 : decide (0 < (kk : Int)) = true := decide_eq_true (by omega)
              have z4 : decide (0 < kk) = true := decide_eq_true (by omega)
              have hm : (kk : Int) - 1 < (l0.length : Int) := by omega
              have hm0 : 0 ≤ (kk : Int) - 1 := by omega
              obtain ⟨ad2, e2, hv0, hv1, hv2⟩ := at_T46 CI.out ((kk : Int) - 1) hm0 hm
              cases e2
              rw [show ((kk : Int) - 1).toNat = kk - 1 by omega] at hv0 hv1 hv2
              replace hv0 := (HB1.out.cell (World.block_lt_of_cell? w _ hv0)).trans hv0
              replace hv1 := (HB1.out.cell (World.block_lt_of_cell? w _ hv1)).trans hv1
              replace hv2 := (HB1.out.cell (World.block_lt_of_cell? w _ hv2)).trans hv2
              have hpe := HP.out.2 (by omega)
              rw [show ((kk - 1 : Nat) : Int) = (kk : Int) - 1 by omega] at hpe
              generalize rd_T46 l0 ((kk : Int) - 1) = ie at *
              subst hpe
              have hwr : IntKind.i64.wrap ((kk : Int) - 1) = (kk : Int) - 1 := by rw [i64_w]; exact wrap_id (by omega) (by omega)
              have g1 : 1 ≤ (kk : Int) := by omega
              have g2 : 1 ≤ kk := by omega
              have g3 : 0 < kk := by omega
              have g4 := eq_true hm
              have g5 := eq_true hm0
              by_cases hnew : ie.f1 < x.f1
              · have y1 : decide (ie.f1 < x.f1) = true := decide_eq_true hnew
                have HR3 : Aside0 (r = if lastC (begR x st (out ++ [⟨-1, ie.f1, ie.f2⟩])).1 = x.f2 then (match depR op cl x.f0 0 with | none => ([], 3, (kk : Int)) | some d1 => layR op cl (some x) rest ((begR x st (out ++ [⟨-1, ie.f1, ie.f2⟩])).2 ++ [x]) (begR x st (out ++ [⟨-1, ie.f1, ie.f2⟩])).1 d1 ((kk : Int) + 1)) else ([], 2, (kk : Int))) := ⟨by rw [HR2]; simp only [layR]; rw [if_pos ⟨trivial, decide_eq_true hnew⟩]; try rfl⟩
                clear HR2 hz hnew
                go_wp2_with fail
                go_quiet (fail)
                go_wp2_with fail
                obtain ⟨gx, hgxe⟩ : ∃ gx, wr.heap.size = gx := ⟨_, rfl⟩
                replace HI1 := Aside0.mk (HI1.out.drewN nq)
                replace BX1 := Aside0.mk (blk_drewN BX1.out nq)
                replace BG1 := Aside0.mk (blk_drewN BG1.out nq)
                replace HB1 := Aside0.mk (pw_below_drewN HB1.out nq)
                replace hv0 : ((wr.alloc (.cells #[.int .i64 x.f0, .int .i64 x.f1, .int .i64 x.f2] 46)).drewN nq).cell? (ad.add ((kk - 1) * 3)) = some (.int .i64 ie.f0) := hv0
                replace hv1 : ((wr.alloc (.cells #[.int .i64 x.f0, .int .i64 x.f1, .int .i64 x.f2] 46)).drewN nq).cell? ⟨(ad.add ((kk - 1) * 3)).block, (ad.add ((kk - 1) * 3)).off + 1, none⟩ = some (.int .i64 ie.f1) := hv1
                replace hv2 : ((wr.alloc (.cells #[.int .i64 x.f0, .int .i64 x.f1, .int .i64 x.f2] 46)).drewN nq).cell? ⟨(ad.add ((kk - 1) * 3)).block, (ad.add ((kk - 1) * 3)).off + 2, none⟩ = some (.int .i64 ie.f2) := hv2
                clear hd2 ha0 ha1 HI BX HB hx0 hx1 hx2
                generalize hW2 : (wr.alloc (.cells #[.int .i64 x.f0, .int .i64 x.f1, .int .i64 x.f2] 46)).drewN nq = W2 at *
                clear hW2
                simp only [hgxe] at HI1 BG1 hgx ⊢
                have hgbg : gb ≠ g := by omega
                have hgxg : gx ≠ g := by omega
                have hq0 : W2.cell? ⟨gx, 0, none⟩ = some (.int .i64 x.f0) := (blk_cell BG1.out 0).trans rfl
                have hq1 : W2.cell? ⟨gx, 1, none⟩ = some (.int .i64 x.f1) := (blk_cell BG1.out 1).trans rfl
                have hq2 : W2.cell? ⟨gx, 2, none⟩ = some (.int .i64 x.f2) := (blk_cell BG1.out 2).trans rfl
                have hp0 : W2.cell? ⟨gb, 0, none⟩ = some (.slice A2 op.length c2) := (blk_cell BX1.out 0).trans rfl
                have hp1 : W2.cell? ⟨gb, 1, none⟩ = some (.slice A3 cl.length c3) := (blk_cell BX1.out 1).trans rfl
                have hbk := begR_keeps x hcx st (out ++ [⟨-1, ie.f1, ie.f2⟩]) H1.out H0.out
                have hbl : (begR x st (out ++ [⟨-1, ie.f1, ie.f2⟩])).2.length ≤ 500000 := by have := hbk.2.2.2; first | omega | (simp at this; omega)
                have HBK := Aside0.mk hbk
                have HLN := Aside0.mk hbl
                clear hbk hbl
                by_cases hq : lastC (begR x st (out ++ [⟨-1, ie.f1, ie.f2⟩])).1 = x.f2
                · have HCD : Aside0 ((if lastC (begR x st (out ++ [⟨-1, ie.f1, ie.f2⟩])).1 = x.f2 then (0 : Int) else 2) = 0) := ⟨if_pos hq⟩
                  have HR4 : Aside0 (r = match depR op cl x.f0 0 with | none => ([], 3, (kk : Int)) | some d1 => layR op cl (some x) rest ((begR x st (out ++ [⟨-1, ie.f1, ie.f2⟩])).2 ++ [x]) (begR x st (out ++ [⟨-1, ie.f1, ie.f2⟩])).1 d1 ((kk : Int) + 1)) := ⟨by rw [HR3.out, if_pos hq]⟩
                  clear HR3 hq
                  cases hdep : depR op cl x.f0 0 with
                  | none =>
                    have HDEP := Aside0.mk hdep
                    have HRF : Aside0 (r = ([], 3, (kk : Int))) := ⟨by rw [HR4.out, hdep]⟩
                    clear hdep HR4
                    go_wp2_with (first | (go_at_call 30; refine (put_hand (fun k => k ≠ gb ∧ k ≠ gx) g out st 0 (-1) ie _ HI1.out HB1.out (fun k hk => ⟨by have := blk_lt BX1.out; omega, by have := blk_lt BG1.out; omega⟩) (by omega)).mono ?_; rintro e5 w5 ⟨rfl, hI5, hb5, hk5⟩; have nBX := (hk5 gb (blk_lt BX1.out) hgbg (fun h => h.1 rfl)).trans BX1.out; have nBG := (hk5 gx (blk_lt BG1.out) hgxg (fun h => h.2 rfl)).trans BG1.out; clear HI1 HB1 BX1 BG1; have HI1 := Aside0.mk hI5; have HB1 := Aside0.mk hb5; have BX1 := Aside0.mk nBX; have BG1 := Aside0.mk nBG; have hq0 : w5.cell? ⟨gx, 0, none⟩ = some (.int .i64 x.f0) := (blk_cell BG1.out 0).trans rfl; have hq1 : w5.cell? ⟨gx, 1, none⟩ = some (.int .i64 x.f1) := (blk_cell BG1.out 1).trans rfl; have hq2 : w5.cell? ⟨gx, 2, none⟩ = some (.int .i64 x.f2) := (blk_cell BG1.out 2).trans rfl; have hp0 : w5.cell? ⟨gb, 0, none⟩ = some (.slice A2 op.length c2) := (blk_cell BX1.out 0).trans rfl; have hp1 : w5.cell? ⟨gb, 1, none⟩ = some (.slice A3 cl.length c3) := (blk_cell BX1.out 1).trans rfl; clear nBX nBG hb5 hk5 hI5) | (go_at_call 31; refine (begin_eq (fun k => k ≠ gb ∧ k ≠ gx) g (out ++ [⟨-1, ie.f1, ie.f2⟩]) st 0 x _ HI1.out HB1.out (fun k hk => ⟨by have := blk_lt BX1.out; omega, by have := blk_lt BG1.out; omega⟩) HCX.out H1.out H0.out (by first | omega | (simp; omega)) 0 HCD.out).mono ?_; rintro e6 w6 ⟨rfl, hI5, hb5, hk5⟩; have nBX := (hk5 gb (blk_lt BX1.out) hgbg (fun h => h.1 rfl)).trans BX1.out; have nBG := (hk5 gx (blk_lt BG1.out) hgxg (fun h => h.2 rfl)).trans BG1.out; clear HI1 HB1 BX1 BG1; have HI1 := Aside0.mk hI5; have HB1 := Aside0.mk hb5; have BX1 := Aside0.mk nBX; have BG1 := Aside0.mk nBG; have hq0 : w6.cell? ⟨gx, 0, none⟩ = some (.int .i64 x.f0) := (blk_cell BG1.out 0).trans rfl; have hq1 : w6.cell? ⟨gx, 1, none⟩ = some (.int .i64 x.f1) := (blk_cell BG1.out 1).trans rfl; have hq2 : w6.cell? ⟨gx, 2, none⟩ = some (.int .i64 x.f2) := (blk_cell BG1.out 2).trans rfl; have hp0 : w6.cell? ⟨gb, 0, none⟩ = some (.slice A2 op.length c2) := (blk_cell BX1.out 0).trans rfl; have hp1 : w6.cell? ⟨gb, 1, none⟩ = some (.slice A3 cl.length c3) := (blk_cell BX1.out 1).trans rfl; clear nBX nBG hb5 hk5 hI5) | (go_at_call 32; refine (item_none (fun k => k ≠ gb ∧ k ≠ gx) g (begR x st (out ++ [⟨-1, ie.f1, ie.f2⟩])).2 (begR x st (out ++ [⟨-1, ie.f1, ie.f2⟩])).1 0 x A2 A3 c2 c3 op cl _ HI1.out HB1.out (fun k hk => ⟨by have := blk_lt BX1.out; omega, by have := blk_lt BG1.out; omega⟩) ?ha ?hb ?hc CO.out CM.out CC.out CN.out HBR.out HDEP.out).mono ?_; (case ha => first | omega | exact HLN.out); (case hb => omega); (case hc => omega); rintro e7 w7 ⟨rfl, hb5, hk5⟩; have nBX := (hk5 gb (blk_lt BX1.out) hgbg (fun h => h.1 rfl)).trans BX1.out; have nBG := (hk5 gx (blk_lt BG1.out) hgxg (fun h => h.2 rfl)).trans BG1.out; clear HI1 HB1 BX1 BG1; have HB1 := Aside0.mk hb5; have BX1 := Aside0.mk nBX; have BG1 := Aside0.mk nBG; have hq0 : w7.cell? ⟨gx, 0, none⟩ = some (.int .i64 x.f0) := (blk_cell BG1.out 0).trans rfl; have hq1 : w7.cell? ⟨gx, 1, none⟩ = some (.int .i64 x.f1) := (blk_cell BG1.out 1).trans rfl; have hq2 : w7.cell? ⟨gx, 2, none⟩ = some (.int .i64 x.f2) := (blk_cell BG1.out 2).trans rfl; have hp0 : w7.cell? ⟨gb, 0, none⟩ = some (.slice A2 op.length c2) := (blk_cell BX1.out 0).trans rfl; have hp1 : w7.cell? ⟨gb, 1, none⟩ = some (.slice A3 cl.length c3) := (blk_cell BX1.out 1).trans rfl; clear nBX nBG hb5 hk5))
                    go_ret3
                    exact ⟨_, by rw [HRF.out]; rfl, by rw [HRF.out]; exact Kd.R_nil _ _ _ _ _, by repeat (first | (with_reducible exact HB1.out) | apply below_alloc | apply pw_below_drewN | apply below_drew1)⟩
                  | some d1 =>
                    have HDEP := Aside0.mk hdep
                    have hb1 := depR_bound (show 0 ≤ 0 by omega) hdep
                    have HRF : Aside0 (r = layR op cl (some x) rest ((begR x st (out ++ [⟨-1, ie.f1, ie.f2⟩])).2 ++ [x]) (begR x st (out ++ [⟨-1, ie.f1, ie.f2⟩])).1 d1 ((kk : Int) + 1)) := ⟨by rw [HR4.out, hdep]⟩
                    clear hdep HR4
                    go_wp2_with (first | (go_at_call 30; refine (put_hand (fun k => k ≠ gb ∧ k ≠ gx) g out st 0 (-1) ie _ HI1.out HB1.out (fun k hk => ⟨by have := blk_lt BX1.out; omega, by have := blk_lt BG1.out; omega⟩) (by omega)).mono ?_; rintro e5 w5 ⟨rfl, hI5, hb5, hk5⟩; have nBX := (hk5 gb (blk_lt BX1.out) hgbg (fun h => h.1 rfl)).trans BX1.out; have nBG := (hk5 gx (blk_lt BG1.out) hgxg (fun h => h.2 rfl)).trans BG1.out; clear HI1 HB1 BX1 BG1; have HI1 := Aside0.mk hI5; have HB1 := Aside0.mk hb5; have BX1 := Aside0.mk nBX; have BG1 := Aside0.mk nBG; have hq0 : w5.cell? ⟨gx, 0, none⟩ = some (.int .i64 x.f0) := (blk_cell BG1.out 0).trans rfl; have hq1 : w5.cell? ⟨gx, 1, none⟩ = some (.int .i64 x.f1) := (blk_cell BG1.out 1).trans rfl; have hq2 : w5.cell? ⟨gx, 2, none⟩ = some (.int .i64 x.f2) := (blk_cell BG1.out 2).trans rfl; have hp0 : w5.cell? ⟨gb, 0, none⟩ = some (.slice A2 op.length c2) := (blk_cell BX1.out 0).trans rfl; have hp1 : w5.cell? ⟨gb, 1, none⟩ = some (.slice A3 cl.length c3) := (blk_cell BX1.out 1).trans rfl; clear nBX nBG hb5 hk5 hI5) | (go_at_call 31; refine (begin_eq (fun k => k ≠ gb ∧ k ≠ gx) g (out ++ [⟨-1, ie.f1, ie.f2⟩]) st 0 x _ HI1.out HB1.out (fun k hk => ⟨by have := blk_lt BX1.out; omega, by have := blk_lt BG1.out; omega⟩) HCX.out H1.out H0.out (by first | omega | (simp; omega)) 0 HCD.out).mono ?_; rintro e6 w6 ⟨rfl, hI5, hb5, hk5⟩; have nBX := (hk5 gb (blk_lt BX1.out) hgbg (fun h => h.1 rfl)).trans BX1.out; have nBG := (hk5 gx (blk_lt BG1.out) hgxg (fun h => h.2 rfl)).trans BG1.out; clear HI1 HB1 BX1 BG1; have HI1 := Aside0.mk hI5; have HB1 := Aside0.mk hb5; have BX1 := Aside0.mk nBX; have BG1 := Aside0.mk nBG; have hq0 : w6.cell? ⟨gx, 0, none⟩ = some (.int .i64 x.f0) := (blk_cell BG1.out 0).trans rfl; have hq1 : w6.cell? ⟨gx, 1, none⟩ = some (.int .i64 x.f1) := (blk_cell BG1.out 1).trans rfl; have hq2 : w6.cell? ⟨gx, 2, none⟩ = some (.int .i64 x.f2) := (blk_cell BG1.out 2).trans rfl; have hp0 : w6.cell? ⟨gb, 0, none⟩ = some (.slice A2 op.length c2) := (blk_cell BX1.out 0).trans rfl; have hp1 : w6.cell? ⟨gb, 1, none⟩ = some (.slice A3 cl.length c3) := (blk_cell BX1.out 1).trans rfl; clear nBX nBG hb5 hk5 hI5) | (go_at_call 32; refine (item_some (fun k => k ≠ gb ∧ k ≠ gx) g (begR x st (out ++ [⟨-1, ie.f1, ie.f2⟩])).2 (begR x st (out ++ [⟨-1, ie.f1, ie.f2⟩])).1 0 x A2 A3 c2 c3 op cl _ HI1.out HB1.out (fun k hk => ⟨by have := blk_lt BX1.out; omega, by have := blk_lt BG1.out; omega⟩) ?ha ?hb ?hc CO.out CM.out CC.out CN.out HBR.out d1 HDEP.out).mono ?_; (case ha => first | omega | exact HLN.out); (case hb => omega); (case hc => omega); rintro e7 w7 ⟨rfl, hI5, hb5, hk5⟩; have nBX := (hk5 gb (blk_lt BX1.out) hgbg (fun h => h.1 rfl)).trans BX1.out; have nBG := (hk5 gx (blk_lt BG1.out) hgxg (fun h => h.2 rfl)).trans BG1.out; clear HI1 HB1 BX1 BG1; have HI1 := Aside0.mk hI5; have HB1 := Aside0.mk hb5; have BX1 := Aside0.mk nBX; have BG1 := Aside0.mk nBG; have hq0 : w7.cell? ⟨gx, 0, none⟩ = some (.int .i64 x.f0) := (blk_cell BG1.out 0).trans rfl; have hq1 : w7.cell? ⟨gx, 1, none⟩ = some (.int .i64 x.f1) := (blk_cell BG1.out 1).trans rfl; have hq2 : w7.cell? ⟨gx, 2, none⟩ = some (.int .i64 x.f2) := (blk_cell BG1.out 2).trans rfl; have hp0 : w7.cell? ⟨gb, 0, none⟩ = some (.slice A2 op.length c2) := (blk_cell BX1.out 0).trans rfl; have hp1 : w7.cell? ⟨gb, 1, none⟩ = some (.slice A3 cl.length c3) := (blk_cell BX1.out 1).trans rfl; clear nBX nBG hb5 hk5 hI5))
                    go_roundg (l0.length - (kk + 1))
                    case measure => omega
                    case rel => exact ⟨kk + 1, some x, _, _, d1, by go_num, by omega, by omega, ⟨by rw [hrest]; exact HRF.out⟩, ⟨fun h => absurd h (by omega), fun _ => congrArg some HNX.out⟩, ⟨HBK.out.2.1⟩, ⟨HBK.out.1⟩, ⟨by have h_ := HBK.out.2.2.2; have := HS.out; simp at h_ ⊢; omega⟩, ⟨by omega, by omega⟩, ⟨HI1.out.mono (fun _ h => h.1)⟩, BX1, HB1⟩
                · have HCD : Aside0 ((if lastC (begR x st (out ++ [⟨-1, ie.f1, ie.f2⟩])).1 = x.f2 then (0 : Int) else 2) = 2) := ⟨if_neg hq⟩
                  have HRF : Aside0 (r = ([], 2, (kk : Int))) := ⟨by rw [HR3.out, if_neg hq]⟩
                  clear HR3 hq
                  go_wp2_with (first | (go_at_call 30; refine (put_hand (fun k => k ≠ gb ∧ k ≠ gx) g out st 0 (-1) ie _ HI1.out HB1.out (fun k hk => ⟨by have := blk_lt BX1.out; omega, by have := blk_lt BG1.out; omega⟩) (by omega)).mono ?_; rintro e5 w5 ⟨rfl, hI5, hb5, hk5⟩; have nBX := (hk5 gb (blk_lt BX1.out) hgbg (fun h => h.1 rfl)).trans BX1.out; have nBG := (hk5 gx (blk_lt BG1.out) hgxg (fun h => h.2 rfl)).trans BG1.out; clear HI1 HB1 BX1 BG1; have HI1 := Aside0.mk hI5; have HB1 := Aside0.mk hb5; have BX1 := Aside0.mk nBX; have BG1 := Aside0.mk nBG; have hq0 : w5.cell? ⟨gx, 0, none⟩ = some (.int .i64 x.f0) := (blk_cell BG1.out 0).trans rfl; have hq1 : w5.cell? ⟨gx, 1, none⟩ = some (.int .i64 x.f1) := (blk_cell BG1.out 1).trans rfl; have hq2 : w5.cell? ⟨gx, 2, none⟩ = some (.int .i64 x.f2) := (blk_cell BG1.out 2).trans rfl; have hp0 : w5.cell? ⟨gb, 0, none⟩ = some (.slice A2 op.length c2) := (blk_cell BX1.out 0).trans rfl; have hp1 : w5.cell? ⟨gb, 1, none⟩ = some (.slice A3 cl.length c3) := (blk_cell BX1.out 1).trans rfl; clear nBX nBG hb5 hk5 hI5) | (go_at_call 31; refine (begin_eq (fun k => k ≠ gb ∧ k ≠ gx) g (out ++ [⟨-1, ie.f1, ie.f2⟩]) st 0 x _ HI1.out HB1.out (fun k hk => ⟨by have := blk_lt BX1.out; omega, by have := blk_lt BG1.out; omega⟩) HCX.out H1.out H0.out (by first | omega | (simp; omega)) 2 HCD.out).mono ?_; rintro e6 w6 ⟨rfl, hI5, hb5, hk5⟩; have nBX := (hk5 gb (blk_lt BX1.out) hgbg (fun h => h.1 rfl)).trans BX1.out; have nBG := (hk5 gx (blk_lt BG1.out) hgxg (fun h => h.2 rfl)).trans BG1.out; clear HI1 HB1 BX1 BG1; have HI1 := Aside0.mk hI5; have HB1 := Aside0.mk hb5; have BX1 := Aside0.mk nBX; have BG1 := Aside0.mk nBG; have hq0 : w6.cell? ⟨gx, 0, none⟩ = some (.int .i64 x.f0) := (blk_cell BG1.out 0).trans rfl; have hq1 : w6.cell? ⟨gx, 1, none⟩ = some (.int .i64 x.f1) := (blk_cell BG1.out 1).trans rfl; have hq2 : w6.cell? ⟨gx, 2, none⟩ = some (.int .i64 x.f2) := (blk_cell BG1.out 2).trans rfl; have hp0 : w6.cell? ⟨gb, 0, none⟩ = some (.slice A2 op.length c2) := (blk_cell BX1.out 0).trans rfl; have hp1 : w6.cell? ⟨gb, 1, none⟩ = some (.slice A3 cl.length c3) := (blk_cell BX1.out 1).trans rfl; clear nBX nBG hb5 hk5 hI5))
                  go_ret3
                  exact ⟨_, by rw [HRF.out]; rfl, by rw [HRF.out]; exact Kd.R_nil _ _ _ _ _, by repeat (first | (with_reducible exact HB1.out) | apply below_alloc | apply pw_below_drewN | apply below_drew1)⟩
              · have y1 : decide (ie.f1 < x.f1) = false := decide_eq_false hnew
                have HR4 : Aside0 (r = match depR op cl x.f0 0 with | none => ([], 3, (kk : Int)) | some d1 => layR op cl (some x) rest (out ++ [x]) st d1 ((kk : Int) + 1)) := ⟨by rw [HR2]; simp only [layR]; rw [if_neg (fun h => hnew (of_decide_eq_true h.2))]; try rfl⟩
                clear HR2 hz hnew
                go_wp2_with fail
                go_quiet (fail)
                go_wp2_with fail
                obtain ⟨gx, hgxe⟩ : ∃ gx, wr.heap.size = gx := ⟨_, rfl⟩
                replace HI1 := Aside0.mk (HI1.out.drewN nq)
                replace BX1 := Aside0.mk (blk_drewN BX1.out nq)
                replace BG1 := Aside0.mk (blk_drewN BG1.out nq)
                replace HB1 := Aside0.mk (pw_below_drewN HB1.out nq)
                replace hv0 : ((wr.alloc (.cells #[.int .i64 x.f0, .int .i64 x.f1, .int .i64 x.f2] 46)).drewN nq).cell? (ad.add ((kk - 1) * 3)) = some (.int .i64 ie.f0) := hv0
                replace hv1 : ((wr.alloc (.cells #[.int .i64 x.f0, .int .i64 x.f1, .int .i64 x.f2] 46)).drewN nq).cell? ⟨(ad.add ((kk - 1) * 3)).block, (ad.add ((kk - 1) * 3)).off + 1, none⟩ = some (.int .i64 ie.f1) := hv1
                replace hv2 : ((wr.alloc (.cells #[.int .i64 x.f0, .int .i64 x.f1, .int .i64 x.f2] 46)).drewN nq).cell? ⟨(ad.add ((kk - 1) * 3)).block, (ad.add ((kk - 1) * 3)).off + 2, none⟩ = some (.int .i64 ie.f2) := hv2
                clear hd2 ha0 ha1 HI BX HB hx0 hx1 hx2
                generalize hW2 : (wr.alloc (.cells #[.int .i64 x.f0, .int .i64 x.f1, .int .i64 x.f2] 46)).drewN nq = W2 at *
                clear hW2
                simp only [hgxe] at HI1 BG1 hgx ⊢
                have hgbg : gb ≠ g := by omega
                have hgxg : gx ≠ g := by omega
                have hq0 : W2.cell? ⟨gx, 0, none⟩ = some (.int .i64 x.f0) := (blk_cell BG1.out 0).trans rfl
                have hq1 : W2.cell? ⟨gx, 1, none⟩ = some (.int .i64 x.f1) := (blk_cell BG1.out 1).trans rfl
                have hq2 : W2.cell? ⟨gx, 2, none⟩ = some (.int .i64 x.f2) := (blk_cell BG1.out 2).trans rfl
                have hp0 : W2.cell? ⟨gb, 0, none⟩ = some (.slice A2 op.length c2) := (blk_cell BX1.out 0).trans rfl
                have hp1 : W2.cell? ⟨gb, 1, none⟩ = some (.slice A3 cl.length c3) := (blk_cell BX1.out 1).trans rfl
                cases hdep : depR op cl x.f0 0 with
                | none =>
                  have HDEP := Aside0.mk hdep
                  have HRF : Aside0 (r = ([], 3, (kk : Int))) := ⟨by rw [HR4.out, hdep]⟩
                  clear hdep HR4
                  go_wp2_with (go_at_call 32; refine (item_none (fun k => k ≠ gb ∧ k ≠ gx) g out st 0 x A2 A3 c2 c3 op cl _ HI1.out HB1.out (fun k hk => ⟨by have := blk_lt BX1.out; omega, by have := blk_lt BG1.out; omega⟩) ?ha ?hb ?hc CO.out CM.out CC.out CN.out HBR.out HDEP.out).mono ?_; (case ha => first | omega | exact HLN.out); (case hb => omega); (case hc => omega); rintro e7 w7 ⟨rfl, hb5, hk5⟩; have nBX := (hk5 gb (blk_lt BX1.out) hgbg (fun h => h.1 rfl)).trans BX1.out; have nBG := (hk5 gx (blk_lt BG1.out) hgxg (fun h => h.2 rfl)).trans BG1.out; clear HI1 HB1 BX1 BG1; have HB1 := Aside0.mk hb5; have BX1 := Aside0.mk nBX; have BG1 := Aside0.mk nBG; have hq0 : w7.cell? ⟨gx, 0, none⟩ = some (.int .i64 x.f0) := (blk_cell BG1.out 0).trans rfl; have hq1 : w7.cell? ⟨gx, 1, none⟩ = some (.int .i64 x.f1) := (blk_cell BG1.out 1).trans rfl; have hq2 : w7.cell? ⟨gx, 2, none⟩ = some (.int .i64 x.f2) := (blk_cell BG1.out 2).trans rfl; have hp0 : w7.cell? ⟨gb, 0, none⟩ = some (.slice A2 op.length c2) := (blk_cell BX1.out 0).trans rfl; have hp1 : w7.cell? ⟨gb, 1, none⟩ = some (.slice A3 cl.length c3) := (blk_cell BX1.out 1).trans rfl; clear nBX nBG hb5 hk5)
                  go_ret3
                  exact ⟨_, by rw [HRF.out]; rfl, by rw [HRF.out]; exact Kd.R_nil _ _ _ _ _, by repeat (first | (with_reducible exact HB1.out) | apply below_alloc | apply pw_below_drewN | apply below_drew1)⟩
                | some d1 =>
                  have HDEP := Aside0.mk hdep
                  have hb1 := depR_bound (show 0 ≤ 0 by omega) hdep
                  have HRF : Aside0 (r = layR op cl (some x) rest (out ++ [x]) st d1 ((kk : Int) + 1)) := ⟨by rw [HR4.out, hdep]⟩
                  clear hdep HR4
                  go_wp2_with (go_at_call 32; refine (item_some (fun k => k ≠ gb ∧ k ≠ gx) g out st 0 x A2 A3 c2 c3 op cl _ HI1.out HB1.out (fun k hk => ⟨by have := blk_lt BX1.out; omega, by have := blk_lt BG1.out; omega⟩) ?ha ?hb ?hc CO.out CM.out CC.out CN.out HBR.out d1 HDEP.out).mono ?_; (case ha => first | omega | exact HLN.out); (case hb => omega); (case hc => omega); rintro e7 w7 ⟨rfl, hI5, hb5, hk5⟩; have nBX := (hk5 gb (blk_lt BX1.out) hgbg (fun h => h.1 rfl)).trans BX1.out; have nBG := (hk5 gx (blk_lt BG1.out) hgxg (fun h => h.2 rfl)).trans BG1.out; clear HI1 HB1 BX1 BG1; have HI1 := Aside0.mk hI5; have HB1 := Aside0.mk hb5; have BX1 := Aside0.mk nBX; have BG1 := Aside0.mk nBG; have hq0 : w7.cell? ⟨gx, 0, none⟩ = some (.int .i64 x.f0) := (blk_cell BG1.out 0).trans rfl; have hq1 : w7.cell? ⟨gx, 1, none⟩ = some (.int .i64 x.f1) := (blk_cell BG1.out 1).trans rfl; have hq2 : w7.cell? ⟨gx, 2, none⟩ = some (.int .i64 x.f2) := (blk_cell BG1.out 2).trans rfl; have hp0 : w7.cell? ⟨gb, 0, none⟩ = some (.slice A2 op.length c2) := (blk_cell BX1.out 0).trans rfl; have hp1 : w7.cell? ⟨gb, 1, none⟩ = some (.slice A3 cl.length c3) := (blk_cell BX1.out 1).trans rfl; clear nBX nBG hb5 hk5 hI5)
                  go_roundg (l0.length - (kk + 1))
                  case measure => omega
                  case rel => exact ⟨kk + 1, some x, _, _, d1, by go_num, by omega, by omega, ⟨by rw [hrest]; exact HRF.out⟩, ⟨fun h => absurd h (by omega), fun _ => congrArg some HNX.out⟩, H1, H0, ⟨by have := HS.out; simp; omega⟩, ⟨by omega, by omega⟩, ⟨HI1.out.mono (fun _ h => h.1)⟩, BX1, HB1⟩
          · have z0 : (d == 0) = false := beq_eq_false_iff_ne.2 hd
            have HR4 : Aside0 (r = match depR op cl x.f0 d with | none => ([], 3, (kk : Int)) | some d1 => layR op cl (some x) rest (out ++ [x]) st d1 ((kk : Int) + 1)) := ⟨by rw [HR2]; simp only [layR]; rw [if_neg (fun h => hd h.1)]; try rfl⟩
            clear HR2 hd
            go_wp2_with fail
            go_quiet (fail)
            go_wp2_with fail
            obtain ⟨gx, hgxe⟩ : ∃ gx, wr.heap.size = gx := ⟨_, rfl⟩
            replace HI1 := Aside0.mk (HI1.out.drewN nq)
            replace BX1 := Aside0.mk (blk_drewN BX1.out nq)
            replace BG1 := Aside0.mk (blk_drewN BG1.out nq)
            replace HB1 := Aside0.mk (pw_below_drewN HB1.out nq)
            clear hd2 ha0 ha1 HI BX HB hx0 hx1 hx2
            generalize hW2 : (wr.alloc (.cells #[.int .i64 x.f0, .int .i64 x.f1, .int .i64 x.f2] 46)).drewN nq = W2 at *
            clear hW2
            simp only [hgxe] at HI1 BG1 hgx ⊢
            have hgbg : gb ≠ g := by omega
            have hgxg : gx ≠ g := by omega
            have hq0 : W2.cell? ⟨gx, 0, none⟩ = some (.int .i64 x.f0) := (blk_cell BG1.out 0).trans rfl
            have hq1 : W2.cell? ⟨gx, 1, none⟩ = some (.int .i64 x.f1) := (blk_cell BG1.out 1).trans rfl
            have hq2 : W2.cell? ⟨gx, 2, none⟩ = some (.int .i64 x.f2) := (blk_cell BG1.out 2).trans rfl
            have hp0 : W2.cell? ⟨gb, 0, none⟩ = some (.slice A2 op.length c2) := (blk_cell BX1.out 0).trans rfl
            have hp1 : W2.cell? ⟨gb, 1, none⟩ = some (.slice A3 cl.length c3) := (blk_cell BX1.out 1).trans rfl
            cases hdep : depR op cl x.f0 d with
            | none =>
              have HDEP := Aside0.mk hdep
              have HRF : Aside0 (r = ([], 3, (kk : Int))) := ⟨by rw [HR4.out, hdep]⟩
              clear hdep HR4
              go_wp2_with (go_at_call 32; refine (item_none (fun k => k ≠ gb ∧ k ≠ gx) g out st d x A2 A3 c2 c3 op cl _ HI1.out HB1.out (fun k hk => ⟨by have := blk_lt BX1.out; omega, by have := blk_lt BG1.out; omega⟩) ?ha ?hb ?hc CO.out CM.out CC.out CN.out HBR.out HDEP.out).mono ?_; (case ha => first | omega | exact HLN.out); (case hb => omega); (case hc => omega); rintro e7 w7 ⟨rfl, hb5, hk5⟩; have nBX := (hk5 gb (blk_lt BX1.out) hgbg (fun h => h.1 rfl)).trans BX1.out; have nBG := (hk5 gx (blk_lt BG1.out) hgxg (fun h => h.2 rfl)).trans BG1.out; clear HI1 HB1 BX1 BG1; have HB1 := Aside0.mk hb5; have BX1 := Aside0.mk nBX; have BG1 := Aside0.mk nBG; have hq0 : w7.cell? ⟨gx, 0, none⟩ = some (.int .i64 x.f0) := (blk_cell BG1.out 0).trans rfl; have hq1 : w7.cell? ⟨gx, 1, none⟩ = some (.int .i64 x.f1) := (blk_cell BG1.out 1).trans rfl; have hq2 : w7.cell? ⟨gx, 2, none⟩ = some (.int .i64 x.f2) := (blk_cell BG1.out 2).trans rfl; have hp0 : w7.cell? ⟨gb, 0, none⟩ = some (.slice A2 op.length c2) := (blk_cell BX1.out 0).trans rfl; have hp1 : w7.cell? ⟨gb, 1, none⟩ = some (.slice A3 cl.length c3) := (blk_cell BX1.out 1).trans rfl; clear nBX nBG hb5 hk5)
              go_ret3
              exact ⟨_, by rw [HRF.out]; rfl, by rw [HRF.out]; exact Kd.R_nil _ _ _ _ _, by repeat (first | (with_reducible exact HB1.out) | apply below_alloc | apply pw_below_drewN | apply below_drew1)⟩
            | some d1 =>
              have HDEP := Aside0.mk hdep
              have hb1 := depR_bound (show 0 ≤ d by omega) hdep
              have HRF : Aside0 (r = layR op cl (some x) rest (out ++ [x]) st d1 ((kk : Int) + 1)) := ⟨by rw [HR4.out, hdep]⟩
              clear hdep HR4
              go_wp2_with (go_at_call 32; refine (item_some (fun k => k ≠ gb ∧ k ≠ gx) g out st d x A2 A3 c2 c3 op cl _ HI1.out HB1.out (fun k hk => ⟨by have := blk_lt BX1.out; omega, by have := blk_lt BG1.out; omega⟩) ?ha ?hb ?hc CO.out CM.out CC.out CN.out HBR.out d1 HDEP.out).mono ?_; (case ha => first | omega | exact HLN.out); (case hb => omega); (case hc => omega); rintro e7 w7 ⟨rfl, hI5, hb5, hk5⟩; have nBX := (hk5 gb (blk_lt BX1.out) hgbg (fun h => h.1 rfl)).trans BX1.out; have nBG := (hk5 gx (blk_lt BG1.out) hgxg (fun h => h.2 rfl)).trans BG1.out; clear HI1 HB1 BX1 BG1; have HI1 := Aside0.mk hI5; have HB1 := Aside0.mk hb5; have BX1 := Aside0.mk nBX; have BG1 := Aside0.mk nBG; have hq0 : w7.cell? ⟨gx, 0, none⟩ = some (.int .i64 x.f0) := (blk_cell BG1.out 0).trans rfl; have hq1 : w7.cell? ⟨gx, 1, none⟩ = some (.int .i64 x.f1) := (blk_cell BG1.out 1).trans rfl; have hq2 : w7.cell? ⟨gx, 2, none⟩ = some (.int .i64 x.f2) := (blk_cell BG1.out 2).trans rfl; have hp0 : w7.cell? ⟨gb, 0, none⟩ = some (.slice A2 op.length c2) := (blk_cell BX1.out 0).trans rfl; have hp1 : w7.cell? ⟨gb, 1, none⟩ = some (.slice A3 cl.length c3) := (blk_cell BX1.out 1).trans rfl; clear nBX nBG hb5 hk5 hI5)
              go_roundg (l0.length - (kk + 1))
              case measure => omega
              case rel => exact ⟨kk + 1, some x, _, _, d1, by go_num, by omega, by omega, ⟨by rw [hrest]; exact HRF.out⟩, ⟨fun h => absurd h (by omega), fun _ => congrArg some HNX.out⟩, H1, H0, ⟨by have := HS.out; simp; omega⟩, ⟨by omega, by omega⟩, ⟨HI1.out.mono (fun _ h => h.1)⟩, BX1, HB1⟩
        · have hltz : ¬ (kk : Int) < (l0.length : Int) := by omega
          have hk : kk = l0.length := by omega
          have HR2 : r = if d = 0 then (endR p st out, 0, -1) else ([], 4, (l0.length : Int)) := by
            have h := HR.out
            rw [hk, List.drop_length] at h
            exact h
          have hd2 : wr.cell? ⟨g, 2, none⟩ = some (.int .i64 d) := by obtain ⟨v0, v1, hG, _⟩ := HI.out; exact (blk_cell hG 2).trans rfl
          have hd01 := HD.out
          subst hk
          clear HR
          by_cases hd : d = 0
          · subst hd
            rw [if_pos rfl] at HR2
            by_cases hz : l0.length = 0
            · have z1 : decide (0 < (l0.length : Int)) = false := decide_eq_false (by omega)
              have z2 : decide (0 < l0.length) = false := decide_eq_false (by omega)
              have hpn := HP.out.1 hz
              subst hpn
              have HRF : Aside0 (r = (out, 0, -1)) := ⟨HR2⟩
              obtain ⟨v0, v1, hG, hg', hR0, hR1⟩ := HI.out
              have hv0 : wr.cell? ⟨g, 0, none⟩ = some v0 := (blk_cell hG 0).trans rfl
              have HR0 := Aside0.mk hR0
              clear HR2 hG hg' hR0 hR1 hz
              go_wp2_with fail
              go_ret3
              subst hgb
              exact ⟨v0, by rw [HRF.out]; rfl, by rw [HRF.out]; exact Kd.R_mono HR0.out (fun _ _ => trivial), by repeat (first | (with_reducible exact HB.out) | apply below_alloc | apply pw_below_drewN | apply below_drew1)⟩
            · have z1 : decide (0 < (l0.length : Int)) = true := decide_eq_true (by omega)
              have z2 : decide (0 < l0.length) = true := decide_eq_true (by omega)
              have hm : (l0.length : Int) - 1 < (l0.length : Int) := by omega
              have hm0 : 0 ≤ (l0.length : Int) - 1 := by omega
              obtain ⟨ad, rfl, hv0, hv1, hv2⟩ := at_T46 CI.out ((l0.length : Int) - 1) hm0 hm
              rw [show ((l0.length : Int) - 1).toNat = l0.length - 1 by omega] at hv0 hv1 hv2
              replace hv0 := (HB.out.cell (World.block_lt_of_cell? w _ hv0)).trans hv0
              replace hv1 := (HB.out.cell (World.block_lt_of_cell? w _ hv1)).trans hv1
              replace hv2 := (HB.out.cell (World.block_lt_of_cell? w _ hv2)).trans hv2
              have hpe := HP.out.2 (by omega)
              rw [show ((l0.length - 1 : Nat) : Int) = (l0.length : Int) - 1 by omega] at hpe
              generalize rd_T46 l0 ((l0.length : Int) - 1) = ie at *
              subst hpe
              have hwr : IntKind.i64.wrap ((l0.length : Int) - 1) = (l0.length : Int) - 1 := by rw [i64_w]; exact wrap_id (by omega) (by omega)
              have g1 : 1 ≤ (l0.length : Int) := by omega
              have g2 : 1 ≤ l0.length := by omega
              have g3 : 0 < l0.length := by omega
              have g4 := eq_true hm
              have g5 := eq_true hm0
              have HRF : Aside0 (r = (out ++ [⟨-1, ie.f1, ie.f2⟩] ++ List.replicate (st.length - 1) (madeI (-3) ie), 0, -1)) := ⟨HR2⟩
              have hst1 := H1.out
              have hfew := HS.out
              have hws : IntKind.i64.wrap ((st.length : Int) - 1) = (st.length : Int) - 1 := by rw [i64_w]; exact wrap_id (by omega) (by omega)
              have hgx : g < wr.heap.size := by obtain ⟨v0, v1, hG, _⟩ := HI.out; exact blk_lt hG
              obtain ⟨gx, hgxe⟩ : ∃ gx, wr.heap.size = gx := ⟨_, rfl⟩
              have HI1 : Aside0 (LyS w (wr.alloc (.cells #[.int .i64 ie.f0, .int .i64 ie.f1, .int .i64 ie.f2] 46)) (fun k => k ≠ gb ∧ k ≠ gx) g out st 0) := ⟨by rw [← hgxe]; exact HI.out.alloc (.cells #[.int .i64 ie.f0, .int .i64 ie.f1, .int .i64 ie.f2] 46)⟩
              have BG1 : Aside0 ((wr.alloc (.cells #[.int .i64 ie.f0, .int .i64 ie.f1, .int .i64 ie.f2] 46)).heap[gx]? = some (.cells #[.int .i64 ie.f0, .int .i64 ie.f1, .int .i64 ie.f2] 46 (0, 0))) := ⟨by rw [← hgxe]; exact blk_new wr _⟩
              have HB1 := Aside0.mk (below_alloc HB.out (.cells #[.int .i64 ie.f0, .int .i64 ie.f1, .int .i64 ie.f2] 46))
              have hgxg : gx ≠ g := by omega
              have hgbx : gb < gx := by omega
              have SX : Aside0 (gx < (wr.alloc (.cells #[.int .i64 ie.f0, .int .i64 ie.f1, .int .i64 ie.f2] 46)).heap.size) := ⟨blk_lt BG1.out⟩
              have HFF : Aside0 (∀ k, (wr.alloc (.cells #[.int .i64 ie.f0, .int .i64 ie.f1, .int .i64 ie.f2] 46)).heap.size ≤ k → k ≠ gb ∧ k ≠ gx) := ⟨fun k hk => by have := SX.out; omega⟩
              have hc0 : (wr.alloc (.cells #[.int .i64 ie.f0, .int .i64 ie.f1, .int .i64 ie.f2] 46)).cell? ⟨gx, 0, none⟩ = some (.int .i64 ie.f0) := (blk_cell BG1.out 0).trans rfl
              clear HR2 hz HI BX
              go_wp2_with (go_at_call 30; refine (put_hand (fun k => k ≠ gb ∧ k ≠ gx) g out st 0 (-1) ie _ HI1.out HB1.out HFF.out (by omega)).mono ?_; rintro e5 w5 ⟨rfl, hI5, hb5, hk5⟩; have nBG := (hk5 gx (by have := SX.out; omega) hgxg (fun h => h.2 rfl)).trans BG1.out; obtain ⟨u0, u1, hG5, hg5, hR5, hS5⟩ := hI5; obtain ⟨A5, c5, rfl⟩ := Kd.R_slice hS5; have hs1 : w5.cell? ⟨g, 1, none⟩ = some (.slice A5 st.length c5) := (blk_cell hG5 1).trans rfl; have HI5 := Aside0.mk (⟨u0, _, hG5, hg5, hR5, hS5⟩ : LyS w w5 (fun k => k ≠ gb ∧ k ≠ gx) g (out ++ [⟨-1, ie.f1, ie.f2⟩]) st 0); have HB5 := Aside0.mk hb5; have BG5 := Aside0.mk nBG; have hq0 : w5.cell? ⟨gx, 0, none⟩ = some (.int .i64 ie.f0) := (blk_cell nBG 0).trans rfl; have hq1 : w5.cell? ⟨gx, 1, none⟩ = some (.int .i64 ie.f1) := (blk_cell nBG 1).trans rfl; have hq2 : w5.cell? ⟨gx, 2, none⟩ = some (.int .i64 ie.f2) := (blk_cell nBG 2).trans rfl; clear nBG hb5 hk5 hG5 hg5 hR5 hS5)
              go_loopg [98] st.length (fun gg v98 wr2 => ∃ j : Nat, v98 = .int .i64 j ∧ j ≤ st.length - 1 ∧ st.length - 1 - j ≤ gg ∧ Aside0 (LyS w wr2 (fun k => k ≠ gb ∧ k ≠ gx) g (out ++ [⟨-1, ie.f1, ie.f2⟩] ++ List.replicate j (madeI (-3) ie)) st 0) ∧ Aside0 (wr2.heap[gx]? = some (.cells #[.int .i64 ie.f0, .int .i64 ie.f1, .int .i64 ie.f2] 46 (0, 0))) ∧ Aside0 (Below w.heap.size w wr2))
              case atStart => exact ⟨0, rfl, Nat.zero_le _, by omega, ⟨by rw [List.replicate_zero, List.append_nil]; exact HI5.out⟩, BG5, HB5⟩
              case round =>
                clear HI5 BG5 HB5 hq0 hq1 hq2 hs1 HI1 BG1 HB1
                obtain ⟨j, rfl, hj, hjg, HI6, BG6, HB6⟩ := hrel
                have hq0 : wr.cell? ⟨gx, 0, none⟩ = some (.int .i64 ie.f0) := (blk_cell BG6.out 0).trans rfl
                have hq1 : wr.cell? ⟨gx, 1, none⟩ = some (.int .i64 ie.f1) := (blk_cell BG6.out 1).trans rfl
                have hq2 : wr.cell? ⟨gx, 2, none⟩ = some (.int .i64 ie.f2) := (blk_cell BG6.out 2).trans rfl
                by_cases hjl : j < st.length - 1
                · have hjz : (j : Int) < (st.length : Int) - 1 := by omega
                  have hjd : decide ((j : Int) < (st.length : Int) - 1) = true := decide_eq_true hjz
                  have hjt := eq_true hjz
                  go_wp2_with (go_at_call 30; refine (put_hand (fun k => k ≠ gb ∧ k ≠ gx) g (out ++ [⟨-1, ie.f1, ie.f2⟩] ++ List.replicate j (madeI (-3) ie)) st 0 (-3) ie _ HI6.out HB6.out (fun k hk => by have := blk_lt BG6.out; omega) (by simp; omega)).mono ?_; rintro e7 w7 ⟨rfl, hI7, hb7, hk7⟩)
                  go_roundg (st.length - 1 - (j + 1))
                  case measure => omega
                  case rel => exact ⟨j + 1, by go_num, by omega, by omega, ⟨by rw [List.replicate_succ', ← List.append_assoc]; exact hI7⟩, ⟨(hk7 gx (blk_lt BG6.out) hgxg (fun h => h.2 rfl)).trans BG6.out⟩, ⟨hb7⟩⟩
                · have hjz : ¬ (j : Int) < (st.length : Int) - 1 := by omega
                  have hjd : decide ((j : Int) < (st.length : Int) - 1) = false := decide_eq_false hjz
                  have hjf := eq_false hjz
                  have hje : j = st.length - 1 := by omega
                  obtain ⟨v0, v1, hG, hg', hR0, hR1⟩ := HI6.out
                  have hv0' : wr.cell? ⟨g, 0, none⟩ = some v0 := (blk_cell hG 0).trans rfl
                  have HR0 := Aside0.mk hR0
                  have HJE := Aside0.mk hje
                  clear hG hg' hR0 hR1 hje
                  go_wp2_with fail
                  go_ret3
                  subst hgb
                  exact ⟨v0, by rw [HRF.out]; rfl, by rw [HRF.out, ← HJE.out]; exact Kd.R_mono HR0.out (fun _ _ => trivial), by repeat (first | (with_reducible exact HB6.out) | apply below_alloc | apply pw_below_drewN | apply below_drew1)⟩
          · have z1 : decide (0 < d) = true := decide_eq_true (by omega)
            rw [if_neg hd] at HR2
            have HRF : Aside0 (r = ([], 4, (l0.length : Int))) := ⟨HR2⟩
            clear HR2 hd
            go_wp2_with (go_at_call 33; refine (impl_Item_33.calls A0 c0 l0 (l0.length : Int) _ (Kd.C_below CI.out (by repeat (first | (with_reducible exact HB.out) | apply below_alloc | apply pw_below_drewN | apply below_drew1))) CL.out rfl).mono ?_; rintro e w9 ⟨rfl, ⟨nd, rfl⟩⟩)
            go_ret3
            subst hgb
            exact ⟨_, by rw [HRF.out]; rfl, by rw [HRF.out]; exact Kd.R_nil _ _ _ _ _, by repeat (first | (with_reducible exact HB.out) | apply below_alloc | apply pw_below_drewN | apply below_drew1)⟩
end Go.Proofs.Ytlbjdpahhgokkaa.P
-- Made by wip/gen/pp.py of this session over the kit's print of the loaded program: a function, and the contract of its walk. Lean checks it.
namespace Go.Proofs.Ytlbjdpahhgokkaa.P
open Go.RowKit Go.Proofs.YtlbjdpahhgokkaaW.PrintWords Go.Proofs.YtlbjdpahhgokkaaW.PrintLast Go.Proofs.YtlbjdpahhgokkaaW.PrintMore
attribute [local go_sem] max2_int min2_int max_two min_two max_three min_three max_four min_four   -- for this text's walks alone
set_option linter.unusedVariables false
set_option linter.unusedSimpArgs false

/-! ### impl_Layout: function 10 -/
def impl_Layout.f (l0 : List (S46)) (l1_0 : List Int) (l1_1 : List Int) : Option ((List (S46)) × Int × Int) := if l0.length ≤ 1048576 ∧ l1_0.length ≤ 1048576 ∧ l1_1.length ≤ 1048576 then some (layB l0 l1_0 l1_1) else none
theorem impl_Layout.calls (A0 : Option Addr) (c0 : Nat) (l0 : List (S46)) (A1_0 : Option Addr) (c1_0 : Nat) (l1_0 : List Int) (A1_1 : Option Addr) (c1_1 : Nat) (l1_1 : List Int) (r1 : List (S46)) (r2 : Int) (r3 : Int) (w : World) (hr0 : Kd.C k46 w A0 l0.length l0) (hc0 : l0.length ≤ c0) (hr1_0 : Kd.C (Kd.int .i64) w A1_0 l1_0.length l1_0) (hc1_0 : l1_0.length ≤ c1_0) (hr1_1 : Kd.C (Kd.int .i64) w A1_1 l1_1.length l1_1) (hc1_1 : l1_1.length ≤ c1_1) (h : impl_Layout.f l0 l1_0 l1_1 = some (r1, r2, r3)) :
    Calls Try.prog 10 #[.slice A0 l0.length c0, .agg #[.slice A1_0 l1_0.length c1_0, .slice A1_1 l1_1.length c1_1]] w fun e w' => ∃ v0_ : Value, e = .returned (.tuple #[v0_, .int .i64 r2, .int .i64 r3]) ∧ Kd.R k46 46 w' w.heap.size (fun _ => True) v0_ r1 ∧ Below w.heap.size w w' := by
  unfold impl_Layout.f at h
  by_cases hp : l0.length ≤ 1048576 ∧ l1_0.length ≤ 1048576 ∧ l1_1.length ≤ 1048576
  · rw [if_pos hp] at h
    have hq := Option.some.inj h
    have := layout_hand A0 c0 l0 A1_0 c1_0 l1_0 A1_1 c1_1 l1_1 w hp.1 hr0 hc0 hr1_0 hc1_0 hr1_1 hc1_1
    rw [hq] at this
    exact this
  · rw [if_neg hp] at h
    exact absurd h (by simp)

end Go.Proofs.Ytlbjdpahhgokkaa.P
-- Made by wip/gen/pp.py of this session over the kit's print of the loaded program: a function, and the contract of its walk. Lean checks it.
namespace Go.Proofs.Ytlbjdpahhgokkaa.P
open Go.RowKit Go.Proofs.YtlbjdpahhgokkaaW.PrintWords Go.Proofs.YtlbjdpahhgokkaaW.PrintLast Go.Proofs.YtlbjdpahhgokkaaW.PrintMore
attribute [local go_sem] max2_int min2_int max_two min_two max_three min_three max_four min_four   -- for this text's walks alone
set_option linter.unusedVariables false
set_option linter.unusedSimpArgs false

/-! ### laws_big: function 16 -/
def laws_big.f (l0 : List Int) : Option (Bool) := some (decide ((l0.length : Int) > 1048576))
set_option maxHeartbeats 8000000 in
set_option maxRecDepth 100000 in
theorem laws_big.calls (A0 : Option Addr) (c0 : Nat) (l0 : List Int) (r : Bool) (w : World) (hr0 : Kd.C (Kd.int .u8) w A0 l0.length l0) (hc0 : l0.length ≤ c0) (h : laws_big.f l0 = some r) :
  Calls Try.prog 16 #[.slice A0 l0.length c0] w fun e w' => e = .returned (.bool r) ∧ Drawn0 w w' := by
 have HR0 := Aside0.mk hr0
 have HC0 := Aside0.mk hc0
 clear hr0 hc0
 have H : (some (decide ((l0.length : Int) > 1048576))) = some r := h
 clear h
 obtain rfl := Option.some.inj H
 go_enter Try.func16, Try.ntmps16
 go_wp2
 go_ret
 exact ⟨by first | rfl | (simp; done) | (simp [*]; done), by repeat (first | exact Drawn0.refl _ | apply Drawn0.step)⟩

end Go.Proofs.Ytlbjdpahhgokkaa.P
-- Made by wip/gen/pp.py of this session over the kit's print of the loaded program: a function, and the contract of its walk. Lean checks it.
namespace Go.Proofs.Ytlbjdpahhgokkaa.P
open Go.RowKit Go.Proofs.YtlbjdpahhgokkaaW.PrintWords Go.Proofs.YtlbjdpahhgokkaaW.PrintLast Go.Proofs.YtlbjdpahhgokkaaW.PrintMore
attribute [local go_sem] max2_int min2_int max_two min_two max_three min_three max_four min_four   -- for this text's walks alone
set_option linter.unusedVariables false
set_option linter.unusedSimpArgs false

/-- A state of type 77 at block g of W; what its slices lead to came in by w0. -/
def IsS77 (w0 W : World) (g : Nat) (f0 : List Int) (f1 : Int) : Prop := ∃ A0 c0, W.heap[g]? = some (.cells #[.slice A0 f0.length c0, .int .i64 f1] 77 (0, 0)) ∧ w0.heap.size ≤ g ∧ Kd.C (Kd.int .u8) w0 A0 f0.length f0
theorem IsS77.grown {w0 W : World} {g : Nat} {f0 : List Int} {f1 : Int} {W1 : World} {row : Option Nat} (h : IsS77 w0 W g f0 f1) (hw : W.grownBy W1 row) (hne : some g ≠ row) : IsS77 w0 W1 g f0 f1 := by
 obtain ⟨A0, c0, hb, hg, hr0⟩ := h
 exact ⟨A0, c0, blk_grown hb hw hne, hg, hr0⟩
theorem IsS77.own_neN {w0 W : World} {g : Nat} {f0 : List Int} {f1 : Int} {α : Type} {d : Kd α} {e : Nat} {base : Nat} {ok : Nat → Prop} {v : Value} {xs : List α} (h : IsS77 w0 W g f0 f1) (ho : Kd.N d e W base ok v xs) (ht : e ≠ 77) : some g ≠ v.ownBlock := by
 obtain ⟨A0, c0, hb, hg, hr0⟩ := h
 exact Kd.N_ne ho hb ht
theorem IsS77.fresh {w0 W : World} {g : Nat} {f0 : List Int} {f1 : Int} (h : IsS77 w0 W g f0 f1) : ∀ k, W.heap.size ≤ k → k ≠ g := by
 obtain ⟨A0, c0, hb, hg, hr0⟩ := h
 exact Kd.freshB hb
theorem IsS77.kept {w0 W : World} {g : Nat} {f0 : List Int} {f1 : Int} {W1 : World} {S : Nat → Prop} (h : IsS77 w0 W g f0 f1) (hk : Kept W W1 S) (hne : ¬ S g) : IsS77 w0 W1 g f0 f1 := by
 obtain ⟨A0, c0, hb, hg, hr0⟩ := h
 exact ⟨A0, c0, blk_kept hb hk hne, hg, hr0⟩
theorem IsS77.below {w0 W : World} {g : Nat} {f0 : List Int} {f1 : Int} {W1 : World} (h : IsS77 w0 W g f0 f1) (hw : Below W.heap.size W W1) : IsS77 w0 W1 g f0 f1 := h.grown (grown_of_below hw none) (by simp)
theorem IsS77.alloc {w0 W : World} {g : Nat} {f0 : List Int} {f1 : Int} (h : IsS77 w0 W g f0 f1) (o : Obj) : IsS77 w0 (W.alloc o) g f0 f1 := h.below (below_alloc (Below.refl _ _) o)
theorem IsS77.drewN {w0 W : World} {g : Nat} {f0 : List Int} {f1 : Int} (h : IsS77 w0 W g f0 f1) (m : Nat) : IsS77 w0 (W.drewN m) g f0 f1 := h
theorem IsS77.drew {w0 W : World} {g : Nat} {f0 : List Int} {f1 : Int} (h : IsS77 w0 W g f0 f1) : IsS77 w0 W.drew g f0 f1 := h
theorem IsS77.at_ {w0 W : World} {g : Nat} {f0 : List Int} {f1 : Int} {w' : World} {m : Nat} (hq : W.drewN m = w') (h : IsS77 w0 W g f0 f1) : IsS77 w0 w' g f0 f1 := by subst hq; exact IsS77.drewN h m
theorem IsS77.apart {w0 W : World} {g : Nat} {f0 : List Int} {f1 : Int} {α : Type} {d : Kd α} {e : Nat} {base : Nat} {ok : Nat → Prop} {v : Value} {xs : List α} (h : IsS77 w0 W g f0 f1) (ho : d.R e W base ok v xs) (ht : ∀ q, q ∈ e :: d.E → q ≠ 77) : d.R e W base (fun k => ok k ∧ k ≠ g) v xs := by
 obtain ⟨A0, c0, hb, hg, hr0⟩ := h
 exact Kd.R_types ho hb ht
theorem IsS77.own_ne {w0 W : World} {g : Nat} {f0 : List Int} {f1 : Int} {α : Type} {d : Kd α} {e : Nat} {base : Nat} {ok : Nat → Prop} {v : Value} {xs : List α} (h : IsS77 w0 W g f0 f1) (ho : d.R e W base ok v xs) (ht : e ≠ 77) : some g ≠ v.ownBlock := by
 obtain ⟨A0, c0, hb, hg, hr0⟩ := h
 exact Kd.R_ne ho hb ht
theorem IsS77.apartQ {w0 W : World} {g : Nat} {f0 : List Int} {f1 : Int} {α : Type} {d : Kd α} {e : Nat} {base : Nat} {ok : Nat → Prop} {v : Value} {xs : List α} (h : IsS77 w0 W g f0 f1) (ho : d.Q e W base ok v xs) (ht : ∀ q, q ∈ e :: d.E → q ≠ 77) : d.Q e W base (fun k => ok k ∧ k ≠ g) v xs := by
 obtain ⟨A0, c0, hb, hg, hr0⟩ := h
 exact Kd.Q_types ho hb ht
theorem IsS77.own_neQ {w0 W : World} {g : Nat} {f0 : List Int} {f1 : Int} {α : Type} {d : Kd α} {e : Nat} {base : Nat} {ok : Nat → Prop} {v : Value} {xs : List α} (h : IsS77 w0 W g f0 f1) (ho : d.Q e W base ok v xs) (ht : e ≠ 77) : some g ≠ v.ownBlock := by
 obtain ⟨A0, c0, hb, hg, hr0⟩ := h
 exact Kd.Q_ne ho hb ht
theorem IsS77.apartS {w0 W : World} {g : Nat} {f0 : List Int} {f1 : Int} {α : Type} {d : Kd α} {e : Nat} {base : Nat} {ok : Nat → Prop} {v : Value} {xs : List α} (h : IsS77 w0 W g f0 f1) (ho : d.S e W base ok v xs) (ht : ∀ q, q ∈ e :: d.E → q ≠ 77) : d.S e W base (fun k => ok k ∧ k ≠ g) v xs := by
 obtain ⟨A0, c0, hb, hg, hr0⟩ := h
 exact Kd.S_types ho hb ht
theorem IsS77.own_neS {w0 W : World} {g : Nat} {f0 : List Int} {f1 : Int} {α : Type} {d : Kd α} {e : Nat} {base : Nat} {ok : Nat → Prop} {v : Value} {xs : List α} (h : IsS77 w0 W g f0 f1) (ho : d.S e W base ok v xs) (ht : e ≠ 77) : some g ≠ v.ownBlock := by
 obtain ⟨A0, c0, hb, hg, hr0⟩ := h
 exact Kd.S_ne ho hb ht
theorem IsS77.lt {w0 W : World} {g : Nat} {f0 : List Int} {f1 : Int} (h : IsS77 w0 W g f0 f1) : g < W.heap.size := by
 obtain ⟨A0, c0, hb, hg, hr0⟩ := h
 exact blk_lt hb
theorem IsS77.ge {w0 W : World} {g : Nat} {f0 : List Int} {f1 : Int} (h : IsS77 w0 W g f0 f1) : w0.heap.size ≤ g := by
 obtain ⟨A0, c0, hb, hg, hr0⟩ := h
 exact hg
theorem IsS77.ne_blk {w0 W : World} {g : Nat} {f0 : List Int} {f1 : Int} {a : Nat} {cs : Array Value} {t : TypeId} {fr : Nat × Nat} (h : IsS77 w0 W g f0 f1) (hb2 : W.heap[a]? = some (.cells cs t fr)) (ht : t ≠ 77) : g ≠ a := by
 obtain ⟨A0, c0, hb, hg, hr0⟩ := h
 rintro rfl
 rw [hb] at hb2
 injection hb2 with hb2
 injection hb2 with _ ht2
 exact ht ht2.symm
theorem IsS77.far {w0 W : World} {g : Nat} {f0 : List Int} {f1 : Int} {p : Addr} (h : IsS77 w0 W g f0 f1) (hne : g ≠ p.block) (u : Value) : IsS77 w0 (W.setCell p u) g f0 f1 := by
 obtain ⟨A0, c0, hb, hg, hr0⟩ := h
 exact ⟨A0, c0, blk_far hb hne u, hg, hr0⟩
theorem cellS77_0 {W : World} {g : Nat} {A0 : Option Addr} {c0 : Nat} {f0 : List Int} {f1 : Int} (h : W.heap[g]? = some (.cells #[.slice A0 f0.length c0, .int .i64 f1] 77 (0, 0))) : W.cell? ⟨g, 0, none⟩ = some (.slice A0 f0.length c0) := (blk_cell h 0).trans rfl
theorem cellS77_1 {W : World} {g : Nat} {A0 : Option Addr} {c0 : Nat} {f0 : List Int} {f1 : Int} (h : W.heap[g]? = some (.cells #[.slice A0 f0.length c0, .int .i64 f1] 77 (0, 0))) : W.cell? ⟨g, 1, none⟩ = some (.int .i64 f1) := (blk_cell h 1).trans rfl
theorem IsS77.set_1 {w0 W : World} {g : Nat} {f0 : List Int} {f1 : Int} (h : IsS77 w0 W g f0 f1) (x : Int) : IsS77 w0 (W.setCell ⟨g, 1, none⟩ (.int .i64 x)) g f0 x := by
 obtain ⟨A0, c0, hb, hg, hr0⟩ := h
 exact ⟨A0, c0, by simpa using blk_set hb 1 (.int .i64 x), hg, hr0⟩
theorem IsS77.new (w0 W : World) (A0 : Option Addr) (c0 : Nat) (f0 : List Int) (f1 : Int) (hB : Below w0.heap.size w0 W) (hr0 : Kd.C (Kd.int .u8) w0 A0 f0.length f0) : IsS77 w0 (W.alloc (.cells #[.slice A0 f0.length c0, .int .i64 f1] 77)) W.heap.size f0 f1 := ⟨A0, c0, by simpa using heap_alloc_new W _, hB.size, hr0⟩

/-! ### spec_l1Open: function 37 -/
def spec_l1Open.f (l0 : List Int) : Option (List Int × Int) := some (l0, 0)
set_option maxHeartbeats 8000000 in
set_option maxRecDepth 100000 in
theorem spec_l1Open.calls (A0 : Option Addr) (c0 : Nat) (l0 : List Int) (r1 : List Int) (r2 : Int) (w0 w : World) (hB : Below w0.heap.size w0 w) (hr0 : Kd.C (Kd.int .u8) w0 A0 l0.length l0) (hc0 : l0.length ≤ c0) (h : spec_l1Open.f l0 = some (r1, r2)) :
  Calls Try.prog 37 #[.slice A0 l0.length c0] w fun e w' => ∃ g_ : Nat, e = .returned (.pointer (some ⟨g_, 0, none⟩)) ∧ IsS77 w0 w' g_ r1 r2 ∧ Below w0.heap.size w0 w' ∧ Below w.heap.size w w' := by
 have hu77 := Try.underlying77
 have HR0 := Aside0.mk hr0
 have HC0 := Aside0.mk hc0
 clear hr0 hc0
 have HBW := Aside0.mk (Below.refl w.heap.size w)
 have HW0 := Aside0.mk hB.size
 have HB := Aside0.mk hB
 clear hB
 have H : (some (l0, 0)) = some (r1, r2) := h
 clear h
 simp only [Option.some.injEq, Prod.mk.injEq] at H
 obtain ⟨rfl, rfl⟩ := H
 go_enter Try.func37, Try.ntmps37
 go_wp2_with (first | ((with_reducible refine gate_dst (N := 5) rfl ?_); refine box_event ?hg (N := 5) ?hd (cs := #[.slice A0 l0.length c0, .int .i64 0]) (t := 77) ?hr ?_; (case hd => rfl); (case hg => rfl); (case hr => first | (go_simp; done) | (go_simp; rfl)); intro gb101 hg w2 hbox hb; have n0_ := Aside0.mk (below_step HBW.out hb); have n1_ := Aside0.mk (below_step (by repeat (first | (with_reducible first | exact HB.out | apply below_alloc | apply pw_below_drewN | apply below_drew1) | exact HB.out)) hb); have n2_ := Aside0.mk (hbox); have n3_ := Aside0.mk ((by rw [hg]; exact (below_size (by repeat (first | (with_reducible first | exact HBW.out | apply below_alloc | apply pw_below_drewN | apply below_drew1) | exact HBW.out))) : w.heap.size ≤ gb101)); have n4_ := Aside0.mk ((Nat.le_trans HW0.out (by rw [hg]; exact (below_size (by repeat (first | (with_reducible first | exact HBW.out | apply below_alloc | apply pw_below_drewN | apply below_drew1) | exact HBW.out))) : w.heap.size ≤ gb101) : w0.heap.size ≤ gb101)); clear HBW; clear HB; have HBW := n0_; have HB := n1_; have BK101 := n2_; have GW101 := n3_; have GE101 := n4_; clear n0_ n1_ n2_ n3_ n4_; clear hb hbox hg))
 go_ret
 exact ⟨_, rfl, (show IsS77 w0 _ gb101 l0 0 from ⟨_, _, by (with_reducible repeat (first | refine blk_drewN ?_ _ | refine blk_drew ?_ | refine blk_alloc ?_ _)); exact BK101.out, GE101.out, HR0.out⟩), by repeat (first | (with_reducible first | exact HB.out | apply below_alloc | apply pw_below_drewN | apply below_drew1 | refine below_set ?_ GE101.out) | exact HB.out), by repeat (first | (with_reducible first | exact HBW.out | apply below_alloc | apply pw_below_drewN | apply below_drew1 | refine below_set ?_ GW101.out) | exact HBW.out)⟩

end Go.Proofs.Ytlbjdpahhgokkaa.P
-- Made by wip/gen/pp.py of this session over the kit's print of the loaded program: a function, and the contract of its walk. Lean checks it.
namespace Go.Proofs.Ytlbjdpahhgokkaa.P
open Go.RowKit Go.Proofs.YtlbjdpahhgokkaaW.PrintWords Go.Proofs.YtlbjdpahhgokkaaW.PrintLast Go.Proofs.YtlbjdpahhgokkaaW.PrintMore
attribute [local go_sem] max2_int min2_int max_two min_two max_three min_three max_four min_four   -- for this text's walks alone
set_option linter.unusedVariables false
set_option linter.unusedSimpArgs false

/-! ### spec_l1Rd_next: function 58 -/
def spec_l1Rd_next.f (s0_0 : List Int) (s0_1 : Int) : Option (Int × Int) := if s0_1 ≥ (s0_0.length : Int) then (some (0, s0_1)) else (if 0 ≤ (wrap64 ((wrap64 (s0_1 + 1)) - 1)) then (if (wrap64 ((wrap64 (s0_1 + 1)) - 1)) < (s0_0.length : Int) then (some (wrap64 (rd s0_0 (wrap64 ((wrap64 (s0_1 + 1)) - 1))), wrap64 (s0_1 + 1))) else (none)) else (none))
set_option maxHeartbeats 8000000 in
set_option maxRecDepth 100000 in
theorem spec_l1Rd_next.calls (g : Nat) (s0_0 : List Int) (s0_1 : Int) (r1 : Int) (r2 : Int) (w0 w : World) (hI : IsS77 w0 w g s0_0 s0_1) (hB : Below w0.heap.size w0 w) (h : spec_l1Rd_next.f s0_0 s0_1 = some (r1, r2)) :
  Calls Try.prog 58 #[.pointer (some ⟨g, 0, none⟩)] w fun e w' => e = .returned (.int .i64 r1) ∧ IsS77 w0 w' g s0_0 r2 ∧ Below w0.heap.size w0 w' ∧ KeepBut w w' g none := by
 have HI0 := Aside0.mk hI
 have HK := Aside0.mk (KeepBut.refl w g none)
 have HL := Aside0.mk hB.size
 clear hI
 have HW0 := Aside0.mk hB.size
 have HB := Aside0.mk hB
 clear hB
 have H : (if s0_1 ≥ (s0_0.length : Int) then (some (0, s0_1)) else (if 0 ≤ (wrap64 ((wrap64 (s0_1 + 1)) - 1)) then (if (wrap64 ((wrap64 (s0_1 + 1)) - 1)) < (s0_0.length : Int) then (some (wrap64 (rd s0_0 (wrap64 ((wrap64 (s0_1 + 1)) - 1))), wrap64 (s0_1 + 1))) else (none)) else (none))) = some (r1, r2) := h
 clear h
 by_cases c2 : s0_1 ≥ (s0_0.length : Int)
 ·rw [if_pos c2] at H
  have c2b0 : decide ((s0_0.length : Int) ≤ s0_1) = true := decide_eq_true c2
  clear c2
  simp only [Option.some.injEq, Prod.mk.injEq] at H
  obtain ⟨rfl, rfl⟩ := H
  obtain ⟨ASz3_0, cSz3_0, HGz3, hgz3, HSz3_0⟩ := HI0.out
  have hcz3_0 := cellS77_0 HGz3
  have hcz3_1 := cellS77_1 HGz3
  have hfz3_1 := blk_frozen HGz3 1
  clear HGz3 hgz3
  go_enter Try.func58, Try.ntmps58
  go_wp2
  repeat (go_quiet (fail); try go_wp2)
  go_ret
  exact ⟨by first | rfl | (simp [errW_none, errW_some] <;> rfl) | (simp [*, errW_none, errW_some] <;> rfl), by repeat (first | (with_reducible first | exact HI0.out | apply IsS77.alloc | apply IsS77.drewN | apply IsS77.drew | apply IsS77.set_1) | exact HI0.out), by repeat (first | (with_reducible first | exact HB.out | apply below_alloc | apply pw_below_drewN | apply below_drew1 | refine below_set ?_ (IsS77.ge HI0.out)) | exact HB.out), by repeat (first | (with_reducible first | exact HK.out | apply KeepBut.set_ | apply keep_drewN | apply keep_drew | apply keep_alloc) | exact HK.out)⟩
 ·rw [if_neg c2] at H
  have c2b0 : decide ((s0_0.length : Int) ≤ s0_1) = false := decide_eq_false c2
  clear c2
  obtain ⟨ji4, hji4⟩ : ∃ j_ : Int, (wrap64 ((wrap64 (s0_1 + 1)) - 1)) = j_ := ⟨_, rfl⟩
  replace H : (if 0 ≤ (ji4) then (if (ji4) < (s0_0.length : Int) then (some (wrap64 (rd s0_0 (ji4)), wrap64 (s0_1 + 1))) else (none)) else (none)) = some (r1, r2) := by first | (rw [hji4] at H; exact H) | (simp only [hji4] at H ⊢; exact H)
  have hji4w : (IntKind.i64.wrap ((wrap64 (s0_1 + 1)) - 1)) = ji4 := (i64_w _).trans hji4
  by_cases c5 : 0 ≤ (ji4)
  ·rw [if_pos c5] at H
   have c5b0 : decide (0 ≤ (ji4)) = true := decide_eq_true c5
   clear c5
   by_cases c6 : (ji4) < (s0_0.length : Int)
   ·rw [if_pos c6] at H
    have c6b0 : decide ((ji4) < (s0_0.length : Int)) = true := decide_eq_true c6
    clear c6
    simp only [Option.some.injEq, Prod.mk.injEq] at H
    obtain ⟨rfl, rfl⟩ := H
    obtain ⟨ASz7_0, cSz7_0, HGz7, hgz7, HSz7_0⟩ := HI0.out
    have hcz7_0 := cellS77_0 HGz7
    have hcz7_1 := cellS77_1 HGz7
    have hfz7_1 := blk_frozen HGz7 1
    clear HGz7 hgz7
    have p101 : 0 ≤ ((ji4) : Int) := of_decide_eq_true (by first | (with_reducible assumption) | assumption)
    have q101 : (ji4) < (s0_0.length : Int) := of_decide_eq_true (by first | (with_reducible assumption) | assumption)
    obtain ⟨ad101, e101, hx101_0⟩ := Kd.at_int HSz7_0 (ji4) p101 q101
    cases e101
    have hn101_0 : ad101.block ≠ g := Nat.ne_of_lt (Nat.lt_of_lt_of_le (by have := World.block_lt_of_cell? _ _ hx101_0; first | rwa [add_block] at this | exact this) (IsS77.ge HI0.out))
    replace hx101_0 := pw_cell_below HB.out hx101_0
    replace hx101_0 := (cell_far (p := ⟨g, 1, none⟩) (by first | (rw [add_block]; exact hn101_0) | (show (Addr.add _ _).block ≠ _; rw [add_block]; exact hn101_0) | exact hn101_0) (.int .i64 (wrap64 (s0_1 + 1)))).trans hx101_0
    (try have hy101_0 := fun (n_ : Nat) => (show (((w.drewN n_).setCell ⟨g, 1, none⟩ (.int .i64 (wrap64 (s0_1 + 1))))).cell? _ = some _ from hx101_0))
    clear hn101_0
    replace p101 := eq_true p101
    replace q101 := eq_true q101
    go_enter Try.func58, Try.ntmps58
    go_wp2
    repeat (go_quiet (fail); try go_wp2)
    go_ret
    exact ⟨by first | rfl | (simp [errW_none, errW_some] <;> rfl) | (simp only [← hji4]; first | rfl | (simp [errW_none, errW_some] <;> rfl)) | (simp [*, errW_none, errW_some] <;> rfl), by repeat (first | (with_reducible first | exact HI0.out | apply IsS77.alloc | apply IsS77.drewN | apply IsS77.drew | apply IsS77.set_1) | exact HI0.out), by repeat (first | (with_reducible first | exact HB.out | apply below_alloc | apply pw_below_drewN | apply below_drew1 | refine below_set ?_ (IsS77.ge HI0.out)) | exact HB.out), by repeat (first | (with_reducible first | exact HK.out | apply KeepBut.set_ | apply keep_drewN | apply keep_drew | apply keep_alloc) | exact HK.out)⟩
   ·rw [if_neg c6] at H
    exact absurd H (by simp)
  ·rw [if_neg c5] at H
   exact absurd H (by simp)

end Go.Proofs.Ytlbjdpahhgokkaa.P
-- Made by wip/gen/pp.py of this session over the kit's print of the loaded program: a function, and the contract of its walk. Lean checks it.
namespace Go.Proofs.Ytlbjdpahhgokkaa.P
open Go.RowKit Go.Proofs.YtlbjdpahhgokkaaW.PrintWords Go.Proofs.YtlbjdpahhgokkaaW.PrintLast Go.Proofs.YtlbjdpahhgokkaaW.PrintMore
attribute [local go_sem] max2_int min2_int max_two min_two max_three min_three max_four min_four   -- for this text's walks alone
set_option linter.unusedVariables false
set_option linter.unusedSimpArgs false

/-! ### spec_l1Rd_below: function 52 -/
def spec_l1Rd_below.f (s0_0 : List Int) (s0_1 : Int) (a1 : Int) : Option (Int × Int) := if a1 ≤ 1 then (some (0, s0_1)) else (if a1 ≤ 256 then ((spec_l1Rd_next.f s0_0 s0_1).bind fun bt101 => (if a1 = 0 then (none) else (some (Int.tmod bt101.1 a1, bt101.2)))) else ((spec_l1Rd_next.f s0_0 s0_1).bind fun bt103 => ((spec_l1Rd_next.f s0_0 bt103.2).bind fun bt105 => (if a1 = 0 then (none) else (some (Int.tmod (wrap64 ((wrap64 (bt103.1 * 256)) + bt105.1)) a1, bt105.2))))))
set_option maxHeartbeats 8000000 in
set_option maxRecDepth 100000 in
theorem spec_l1Rd_below.calls (g : Nat) (s0_0 : List Int) (s0_1 : Int) (a1 : Int) (r1 : Int) (r2 : Int) (w0 w : World) (hI : IsS77 w0 w g s0_0 s0_1) (hB : Below w0.heap.size w0 w) (h : spec_l1Rd_below.f s0_0 s0_1 a1 = some (r1, r2)) :
  Calls Try.prog 52 #[.pointer (some ⟨g, 0, none⟩), .int .i64 a1] w fun e w' => e = .returned (.int .i64 r1) ∧ IsS77 w0 w' g s0_0 r2 ∧ Below w0.heap.size w0 w' ∧ KeepBut w w' g none := by
 have HI0 := Aside0.mk hI
 have HK := Aside0.mk (KeepBut.refl w g none)
 have HL := Aside0.mk hB.size
 clear hI
 have HW0 := Aside0.mk hB.size
 have HB := Aside0.mk hB
 clear hB
 have H : (if a1 ≤ 1 then (some (0, s0_1)) else (if a1 ≤ 256 then ((spec_l1Rd_next.f s0_0 s0_1).bind fun bt101 => (if a1 = 0 then (none) else (some (Int.tmod bt101.1 a1, bt101.2)))) else ((spec_l1Rd_next.f s0_0 s0_1).bind fun bt103 => ((spec_l1Rd_next.f s0_0 bt103.2).bind fun bt105 => (if a1 = 0 then (none) else (some (Int.tmod (wrap64 ((wrap64 (bt103.1 * 256)) + bt105.1)) a1, bt105.2))))))) = some (r1, r2) := h
 clear h
 by_cases c3 : a1 ≤ 1
 ·rw [if_pos c3] at H
  have c3b0 : decide (a1 ≤ 1) = true := decide_eq_true c3
  clear c3
  simp only [Option.some.injEq, Prod.mk.injEq] at H
  obtain ⟨rfl, rfl⟩ := H
  go_enter Try.func52, Try.ntmps52
  go_wp2
  go_ret
  exact ⟨by first | rfl | (simp [errW_none, errW_some] <;> rfl) | (simp [*, errW_none, errW_some] <;> rfl), by repeat (first | (with_reducible first | exact HI0.out | apply IsS77.alloc | apply IsS77.drewN | apply IsS77.drew | apply IsS77.set_1) | exact HI0.out), by repeat (first | (with_reducible first | exact HB.out | apply below_alloc | apply pw_below_drewN | apply below_drew1 | refine below_set ?_ (IsS77.ge HI0.out)) | exact HB.out), by repeat (first | (with_reducible first | exact HK.out | apply KeepBut.set_ | apply keep_drewN | apply keep_drew | apply keep_alloc) | exact HK.out)⟩
 ·rw [if_neg c3] at H
  have c3b0 : decide (a1 ≤ 1) = false := decide_eq_false c3
  clear c3
  by_cases c4 : a1 ≤ 256
  ·rw [if_pos c4] at H
   have c4b0 : decide (a1 ≤ 256) = true := decide_eq_true c4
   clear c4
   replace H := Option.bind_eq_some_iff.mp H
   obtain ⟨⟨t101, t102⟩, A50, H⟩ := H
   replace H : (if a1 = 0 then (none) else (some (Int.tmod t101 a1, t102))) = some (r1, r2) := H
   have A5 := Aside0.mk A50
   clear A50
   by_cases c6 : a1 = 0
   ·rw [if_pos c6] at H
    exact absurd H (by simp)
   ·rw [if_neg c6] at H
    have c6b0 : (a1 == 0) = false := beq_eq_false_iff_ne.mpr c6
    have c6b1 : (a1 != 0) = true := bne_iff_ne.mpr c6
    simp only [Option.some.injEq, Prod.mk.injEq] at H
    obtain ⟨rfl, rfl⟩ := H
    go_enter Try.func52, Try.ntmps52
    go_wp2_with (first | ((with_reducible refine gate_callee (f := 58) rfl ?_); refine goesL_ (some 11) rfl rfl Try.func58 (by kernel_rfl) rfl #[.pointer (some ⟨g, 0, none⟩)] rfl (by (try simp only [List.map_toArray, List.map_cons, List.map_nil]); first | done | rfl | (simp only [List.length_drop, List.length_take]; rfl)) ?_; (with_reducible refine (spec_l1Rd_next.calls g s0_0 s0_1 t101 t102 w0 _ ?side1 ?side2 A5.out).mono ?_); (case side1 => repeat (first | (with_reducible first | exact HI0.out | apply IsS77.alloc | apply IsS77.drewN | apply IsS77.drew | apply IsS77.set_1) | exact HI0.out)); (case side2 => repeat (first | (with_reducible first | exact HB.out | apply below_alloc | apply pw_below_drewN | apply below_drew1 | refine below_set ?_ (IsS77.ge HI0.out)) | exact HB.out)); rintro e w7 ⟨rfl, hi, hb, hk⟩; refine ⟨_, rfl, ?_⟩; have n0_ := Aside0.mk (KeepBut.trans (by repeat (first | (with_reducible first | exact HK.out | apply KeepBut.set_ | apply keep_drewN | apply keep_drew | apply keep_alloc) | exact HK.out)) hk (.inl rfl)); have n1_ := Aside0.mk (hb); have n2_ := Aside0.mk (hi); clear HK; clear HB; clear HI0; have HK := n0_; have HB := n1_; have HI0 := n2_; clear n0_ n1_ n2_; (try clear hb); (try clear hb2); (try clear hk); (try clear hi)))
    go_ret
    exact ⟨by first | rfl | (simp [errW_none, errW_some] <;> rfl) | (simp [*, errW_none, errW_some] <;> rfl), by repeat (first | (with_reducible first | exact HI0.out | apply IsS77.alloc | apply IsS77.drewN | apply IsS77.drew | apply IsS77.set_1) | exact HI0.out), by repeat (first | (with_reducible first | exact HB.out | apply below_alloc | apply pw_below_drewN | apply below_drew1 | refine below_set ?_ (IsS77.ge HI0.out)) | exact HB.out), by repeat (first | (with_reducible first | exact HK.out | apply KeepBut.set_ | apply keep_drewN | apply keep_drew | apply keep_alloc) | exact HK.out)⟩
  ·rw [if_neg c4] at H
   have c4b0 : decide (a1 ≤ 256) = false := decide_eq_false c4
   clear c4
   replace H := Option.bind_eq_some_iff.mp H
   obtain ⟨⟨t103, t104⟩, A80, H⟩ := H
   replace H : ((spec_l1Rd_next.f s0_0 t104).bind fun bt105 => (if a1 = 0 then (none) else (some (Int.tmod (wrap64 ((wrap64 (t103 * 256)) + bt105.1)) a1, bt105.2)))) = some (r1, r2) := H
   have A8 := Aside0.mk A80
   clear A80
   replace H := Option.bind_eq_some_iff.mp H
   obtain ⟨⟨t105, t106⟩, A90, H⟩ := H
   replace H : (if a1 = 0 then (none) else (some (Int.tmod (wrap64 ((wrap64 (t103 * 256)) + t105)) a1, t106))) = some (r1, r2) := H
   have A9 := Aside0.mk A90
   clear A90
   by_cases c10 : a1 = 0
   ·rw [if_pos c10] at H
    exact absurd H (by simp)
   ·rw [if_neg c10] at H
    have c10b0 : (a1 == 0) = false := beq_eq_false_iff_ne.mpr c10
    have c10b1 : (a1 != 0) = true := bne_iff_ne.mpr c10
    simp only [Option.some.injEq, Prod.mk.injEq] at H
    obtain ⟨rfl, rfl⟩ := H
    go_enter Try.func52, Try.ntmps52
    go_wp2_with (first | ((with_reducible refine gate_callee (f := 58) rfl ?_); refine goesL_ (some 15) rfl rfl Try.func58 (by kernel_rfl) rfl #[.pointer (some ⟨g, 0, none⟩)] rfl (by (try simp only [List.map_toArray, List.map_cons, List.map_nil]); first | done | rfl | (simp only [List.length_drop, List.length_take]; rfl)) ?_; (with_reducible refine (spec_l1Rd_next.calls g s0_0 s0_1 t103 t104 w0 _ ?side1 ?side2 A8.out).mono ?_); (case side1 => repeat (first | (with_reducible first | exact HI0.out | apply IsS77.alloc | apply IsS77.drewN | apply IsS77.drew | apply IsS77.set_1) | exact HI0.out)); (case side2 => repeat (first | (with_reducible first | exact HB.out | apply below_alloc | apply pw_below_drewN | apply below_drew1 | refine below_set ?_ (IsS77.ge HI0.out)) | exact HB.out)); rintro e w11 ⟨rfl, hi, hb, hk⟩; refine ⟨_, rfl, ?_⟩; have n0_ := Aside0.mk (KeepBut.trans (by repeat (first | (with_reducible first | exact HK.out | apply KeepBut.set_ | apply keep_drewN | apply keep_drew | apply keep_alloc) | exact HK.out)) hk (.inl rfl)); have n1_ := Aside0.mk (hb); have n2_ := Aside0.mk (hi); clear HK; clear HB; clear HI0; have HK := n0_; have HB := n1_; have HI0 := n2_; clear n0_ n1_ n2_; (try clear hb); (try clear hb2); (try clear hk); (try clear hi)) | ((with_reducible refine gate_callee (f := 58) rfl ?_); refine goesL_ (some 19) rfl rfl Try.func58 (by kernel_rfl) rfl #[.pointer (some ⟨g, 0, none⟩)] rfl (by (try simp only [List.map_toArray, List.map_cons, List.map_nil]); first | done | rfl | (simp only [List.length_drop, List.length_take]; rfl)) ?_; (with_reducible refine (spec_l1Rd_next.calls g s0_0 t104 t105 t106 w0 _ ?side1 ?side2 A9.out).mono ?_); (case side1 => repeat (first | (with_reducible first | exact HI0.out | apply IsS77.alloc | apply IsS77.drewN | apply IsS77.drew | apply IsS77.set_1) | exact HI0.out)); (case side2 => repeat (first | (with_reducible first | exact HB.out | apply below_alloc | apply pw_below_drewN | apply below_drew1 | refine below_set ?_ (IsS77.ge HI0.out)) | exact HB.out)); rintro e w12 ⟨rfl, hi, hb, hk⟩; refine ⟨_, rfl, ?_⟩; have n0_ := Aside0.mk (KeepBut.trans (by repeat (first | (with_reducible first | exact HK.out | apply KeepBut.set_ | apply keep_drewN | apply keep_drew | apply keep_alloc) | exact HK.out)) hk (.inl rfl)); have n1_ := Aside0.mk (hb); have n2_ := Aside0.mk (hi); clear HK; clear HB; clear HI0; have HK := n0_; have HB := n1_; have HI0 := n2_; clear n0_ n1_ n2_; (try clear hb); (try clear hb2); (try clear hk); (try clear hi)))
    go_ret
    exact ⟨by first | rfl | (simp [errW_none, errW_some] <;> rfl) | (simp [*, errW_none, errW_some] <;> rfl), by repeat (first | (with_reducible first | exact HI0.out | apply IsS77.alloc | apply IsS77.drewN | apply IsS77.drew | apply IsS77.set_1) | exact HI0.out), by repeat (first | (with_reducible first | exact HB.out | apply below_alloc | apply pw_below_drewN | apply below_drew1 | refine below_set ?_ (IsS77.ge HI0.out)) | exact HB.out), by repeat (first | (with_reducible first | exact HK.out | apply KeepBut.set_ | apply keep_drewN | apply keep_drew | apply keep_alloc) | exact HK.out)⟩

end Go.Proofs.Ytlbjdpahhgokkaa.P
-- Made by wip/gen/pp.py of this session over the kit's print of the loaded program: a function, and the contract of its walk. Lean checks it.
namespace Go.Proofs.Ytlbjdpahhgokkaa.P
open Go.RowKit Go.Proofs.YtlbjdpahhgokkaaW.PrintWords Go.Proofs.YtlbjdpahhgokkaaW.PrintLast Go.Proofs.YtlbjdpahhgokkaaW.PrintMore
attribute [local go_sem] max2_int min2_int max_two min_two max_three min_three max_four min_four   -- for this text's walks alone
set_option linter.unusedVariables false
set_option linter.unusedSimpArgs false

/-! ### spec_l1Rd_size: function 51 -/
def spec_l1Rd_size.f (s0_0 : List Int) (s0_1 : Int) (a1 : Int) (a2 : Int) : Option (Int × Int) := if a1 = 0 then (none) else (if (wrap64 (1 + (wrap64 ((s0_0.length : Int) / a1)))) > a2 then ((spec_l1Rd_below.f s0_0 s0_1 a2).bind fun bt101 => (some (wrap64 (1 + bt101.1), bt101.2))) else ((spec_l1Rd_below.f s0_0 s0_1 (wrap64 (1 + (wrap64 ((s0_0.length : Int) / a1))))).bind fun bt103 => (some (wrap64 (1 + bt103.1), bt103.2))))
set_option maxHeartbeats 8000000 in
set_option maxRecDepth 100000 in
theorem spec_l1Rd_size.calls (g : Nat) (s0_0 : List Int) (s0_1 : Int) (a1 : Int) (a2 : Int) (r1 : Int) (r2 : Int) (w0 w : World) (hI : IsS77 w0 w g s0_0 s0_1) (hB : Below w0.heap.size w0 w) (h : spec_l1Rd_size.f s0_0 s0_1 a1 a2 = some (r1, r2)) :
  Calls Try.prog 51 #[.pointer (some ⟨g, 0, none⟩), .int .i64 a1, .int .i64 a2] w fun e w' => e = .returned (.int .i64 r1) ∧ IsS77 w0 w' g s0_0 r2 ∧ Below w0.heap.size w0 w' ∧ KeepBut w w' g none := by
 have HI0 := Aside0.mk hI
 have HK := Aside0.mk (KeepBut.refl w g none)
 have HL := Aside0.mk hB.size
 clear hI
 have HW0 := Aside0.mk hB.size
 have HB := Aside0.mk hB
 clear hB
 have H : (if a1 = 0 then (none) else (if (wrap64 (1 + (wrap64 ((s0_0.length : Int) / a1)))) > a2 then ((spec_l1Rd_below.f s0_0 s0_1 a2).bind fun bt101 => (some (wrap64 (1 + bt101.1), bt101.2))) else ((spec_l1Rd_below.f s0_0 s0_1 (wrap64 (1 + (wrap64 ((s0_0.length : Int) / a1))))).bind fun bt103 => (some (wrap64 (1 + bt103.1), bt103.2))))) = some (r1, r2) := h
 clear h
 by_cases c4 : a1 = 0
 ·rw [if_pos c4] at H
  exact absurd H (by simp)
 ·rw [if_neg c4] at H
  have c4b0 : (a1 == 0) = false := beq_eq_false_iff_ne.mpr c4
  have c4b1 : (a1 != 0) = true := bne_iff_ne.mpr c4
  by_cases c5 : (wrap64 (1 + (wrap64 ((s0_0.length : Int) / a1)))) > a2
  ·rw [if_pos c5] at H
   have c5b0 : decide (a2 < (wrap64 (1 + (wrap64 ((s0_0.length : Int) / a1))))) = true := decide_eq_true c5
   clear c5
   replace H := Option.bind_eq_some_iff.mp H
   obtain ⟨⟨t101, t102⟩, A60, H⟩ := H
   replace H : (some (wrap64 (1 + t101), t102)) = some (r1, r2) := H
   have A6 := Aside0.mk A60
   clear A60
   simp only [Option.some.injEq, Prod.mk.injEq] at H
   obtain ⟨rfl, rfl⟩ := H
   obtain ⟨ASz7_0, cSz7_0, HGz7, hgz7, HSz7_0⟩ := HI0.out
   have hcz7_0 := cellS77_0 HGz7
   have hcz7_1 := cellS77_1 HGz7
   have hfz7_1 := blk_frozen HGz7 1
   clear HGz7 hgz7
   go_enter Try.func51, Try.ntmps51
   go_wp2_with (first | ((with_reducible refine gate_callee (f := 52) rfl ?_); refine goesL_ (some 22) rfl rfl Try.func52 (by kernel_rfl) rfl #[.pointer (some ⟨g, 0, none⟩), .int .i64 a2] rfl (by (try simp only [List.map_toArray, List.map_cons, List.map_nil]); first | done | rfl | (simp only [List.length_drop, List.length_take]; rfl)) ?_; (with_reducible refine (spec_l1Rd_below.calls g s0_0 s0_1 a2 t101 t102 w0 _ ?side1 ?side2 A6.out).mono ?_); (case side1 => repeat (first | (with_reducible first | exact HI0.out | apply IsS77.alloc | apply IsS77.drewN | apply IsS77.drew | apply IsS77.set_1) | exact HI0.out)); (case side2 => repeat (first | (with_reducible first | exact HB.out | apply below_alloc | apply pw_below_drewN | apply below_drew1 | refine below_set ?_ (IsS77.ge HI0.out)) | exact HB.out)); rintro e w8 ⟨rfl, hi, hb, hk⟩; refine ⟨_, rfl, ?_⟩; have n0_ := Aside0.mk (KeepBut.trans (by repeat (first | (with_reducible first | exact HK.out | apply KeepBut.set_ | apply keep_drewN | apply keep_drew | apply keep_alloc) | exact HK.out)) hk (.inl rfl)); have n1_ := Aside0.mk (hb); have n2_ := Aside0.mk (hi); clear HK; clear HB; clear HI0; have HK := n0_; have HB := n1_; have HI0 := n2_; clear n0_ n1_ n2_; (try clear hb); (try clear hb2); (try clear hk); (try clear hi)))
   go_ret
   exact ⟨by first | rfl | (simp [errW_none, errW_some] <;> rfl) | (simp [*, errW_none, errW_some] <;> rfl), by repeat (first | (with_reducible first | exact HI0.out | apply IsS77.alloc | apply IsS77.drewN | apply IsS77.drew | apply IsS77.set_1) | exact HI0.out), by repeat (first | (with_reducible first | exact HB.out | apply below_alloc | apply pw_below_drewN | apply below_drew1 | refine below_set ?_ (IsS77.ge HI0.out)) | exact HB.out), by repeat (first | (with_reducible first | exact HK.out | apply KeepBut.set_ | apply keep_drewN | apply keep_drew | apply keep_alloc) | exact HK.out)⟩
  ·rw [if_neg c5] at H
   have c5b0 : decide (a2 < (wrap64 (1 + (wrap64 ((s0_0.length : Int) / a1))))) = false := decide_eq_false c5
   clear c5
   replace H := Option.bind_eq_some_iff.mp H
   obtain ⟨⟨t103, t104⟩, A90, H⟩ := H
   replace H : (some (wrap64 (1 + t103), t104)) = some (r1, r2) := H
   have A9 := Aside0.mk A90
   clear A90
   simp only [Option.some.injEq, Prod.mk.injEq] at H
   obtain ⟨rfl, rfl⟩ := H
   obtain ⟨ASz10_0, cSz10_0, HGz10, hgz10, HSz10_0⟩ := HI0.out
   have hcz10_0 := cellS77_0 HGz10
   have hcz10_1 := cellS77_1 HGz10
   have hfz10_1 := blk_frozen HGz10 1
   clear HGz10 hgz10
   go_enter Try.func51, Try.ntmps51
   go_wp2_with (first | ((with_reducible refine gate_callee (f := 52) rfl ?_); refine goesL_ (some 22) rfl rfl Try.func52 (by kernel_rfl) rfl #[.pointer (some ⟨g, 0, none⟩), .int .i64 (wrap64 (1 + (wrap64 ((s0_0.length : Int) / a1))))] rfl (by (try simp only [List.map_toArray, List.map_cons, List.map_nil]); first | done | rfl | (simp only [List.length_drop, List.length_take]; rfl)) ?_; (with_reducible refine (spec_l1Rd_below.calls g s0_0 s0_1 (wrap64 (1 + (wrap64 ((s0_0.length : Int) / a1)))) t103 t104 w0 _ ?side1 ?side2 A9.out).mono ?_); (case side1 => repeat (first | (with_reducible first | exact HI0.out | apply IsS77.alloc | apply IsS77.drewN | apply IsS77.drew | apply IsS77.set_1) | exact HI0.out)); (case side2 => repeat (first | (with_reducible first | exact HB.out | apply below_alloc | apply pw_below_drewN | apply below_drew1 | refine below_set ?_ (IsS77.ge HI0.out)) | exact HB.out)); rintro e w11 ⟨rfl, hi, hb, hk⟩; refine ⟨_, rfl, ?_⟩; have n0_ := Aside0.mk (KeepBut.trans (by repeat (first | (with_reducible first | exact HK.out | apply KeepBut.set_ | apply keep_drewN | apply keep_drew | apply keep_alloc) | exact HK.out)) hk (.inl rfl)); have n1_ := Aside0.mk (hb); have n2_ := Aside0.mk (hi); clear HK; clear HB; clear HI0; have HK := n0_; have HB := n1_; have HI0 := n2_; clear n0_ n1_ n2_; (try clear hb); (try clear hb2); (try clear hk); (try clear hi)))
   go_ret
   exact ⟨by first | rfl | (simp [errW_none, errW_some] <;> rfl) | (simp [*, errW_none, errW_some] <;> rfl), by repeat (first | (with_reducible first | exact HI0.out | apply IsS77.alloc | apply IsS77.drewN | apply IsS77.drew | apply IsS77.set_1) | exact HI0.out), by repeat (first | (with_reducible first | exact HB.out | apply below_alloc | apply pw_below_drewN | apply below_drew1 | refine below_set ?_ (IsS77.ge HI0.out)) | exact HB.out), by repeat (first | (with_reducible first | exact HK.out | apply KeepBut.set_ | apply keep_drewN | apply keep_drew | apply keep_alloc) | exact HK.out)⟩

end Go.Proofs.Ytlbjdpahhgokkaa.P
-- Made by wip/gen/pp.py of this session over the kit's print of the loaded program: a function, and the contract of its walk. Lean checks it.
namespace Go.Proofs.Ytlbjdpahhgokkaa.P
open Go.RowKit Go.Proofs.YtlbjdpahhgokkaaW.PrintWords Go.Proofs.YtlbjdpahhgokkaaW.PrintLast Go.Proofs.YtlbjdpahhgokkaaW.PrintMore
attribute [local go_sem] max2_int min2_int max_two min_two max_three min_three max_four min_four   -- for this text's walks alone
set_option linter.unusedVariables false
set_option linter.unusedSimpArgs false

/-! ### spec_l1Rd_once: function 53 -/
def spec_l1Rd_once.f (s0_0 : List Int) (s0_1 : Int) (a1 : Int) : Option (Bool × Int) := (spec_l1Rd_below.f s0_0 s0_1 a1).bind fun bt101 => (some ((bt101.1 == (wrap64 (a1 - 1))), bt101.2))
set_option maxHeartbeats 8000000 in
set_option maxRecDepth 100000 in
theorem spec_l1Rd_once.calls (g : Nat) (s0_0 : List Int) (s0_1 : Int) (a1 : Int) (r1 : Bool) (r2 : Int) (w0 w : World) (hI : IsS77 w0 w g s0_0 s0_1) (hB : Below w0.heap.size w0 w) (h : spec_l1Rd_once.f s0_0 s0_1 a1 = some (r1, r2)) :
  Calls Try.prog 53 #[.pointer (some ⟨g, 0, none⟩), .int .i64 a1] w fun e w' => e = .returned (.bool r1) ∧ IsS77 w0 w' g s0_0 r2 ∧ Below w0.heap.size w0 w' ∧ KeepBut w w' g none := by
 have HI0 := Aside0.mk hI
 have HK := Aside0.mk (KeepBut.refl w g none)
 have HL := Aside0.mk hB.size
 clear hI
 have HW0 := Aside0.mk hB.size
 have HB := Aside0.mk hB
 clear hB
 have H : ((spec_l1Rd_below.f s0_0 s0_1 a1).bind fun bt101 => (some ((bt101.1 == (wrap64 (a1 - 1))), bt101.2))) = some (r1, r2) := h
 clear h
 replace H := Option.bind_eq_some_iff.mp H
 obtain ⟨⟨t101, t102⟩, A30, H⟩ := H
 replace H : (some ((t101 == (wrap64 (a1 - 1))), t102)) = some (r1, r2) := H
 have A3 := Aside0.mk A30
 clear A30
 simp only [Option.some.injEq, Prod.mk.injEq] at H
 obtain ⟨rfl, rfl⟩ := H
 go_enter Try.func53, Try.ntmps53
 go_wp2_with (first | ((with_reducible refine gate_callee (f := 52) rfl ?_); refine goesL_ (some 7) rfl rfl Try.func52 (by kernel_rfl) rfl #[.pointer (some ⟨g, 0, none⟩), .int .i64 a1] rfl (by (try simp only [List.map_toArray, List.map_cons, List.map_nil]); first | done | rfl | (simp only [List.length_drop, List.length_take]; rfl)) ?_; (with_reducible refine (spec_l1Rd_below.calls g s0_0 s0_1 a1 t101 t102 w0 _ ?side1 ?side2 A3.out).mono ?_); (case side1 => repeat (first | (with_reducible first | exact HI0.out | apply IsS77.alloc | apply IsS77.drewN | apply IsS77.drew | apply IsS77.set_1) | exact HI0.out)); (case side2 => repeat (first | (with_reducible first | exact HB.out | apply below_alloc | apply pw_below_drewN | apply below_drew1 | refine below_set ?_ (IsS77.ge HI0.out)) | exact HB.out)); rintro e w4 ⟨rfl, hi, hb, hk⟩; refine ⟨_, rfl, ?_⟩; have n0_ := Aside0.mk (KeepBut.trans (by repeat (first | (with_reducible first | exact HK.out | apply KeepBut.set_ | apply keep_drewN | apply keep_drew | apply keep_alloc) | exact HK.out)) hk (.inl rfl)); have n1_ := Aside0.mk (hb); have n2_ := Aside0.mk (hi); clear HK; clear HB; clear HI0; have HK := n0_; have HB := n1_; have HI0 := n2_; clear n0_ n1_ n2_; (try clear hb); (try clear hb2); (try clear hk); (try clear hi)))
 go_ret
 exact ⟨by first | rfl | (simp [errW_none, errW_some] <;> rfl) | (simp [*, errW_none, errW_some] <;> rfl), by repeat (first | (with_reducible first | exact HI0.out | apply IsS77.alloc | apply IsS77.drewN | apply IsS77.drew | apply IsS77.set_1) | exact HI0.out), by repeat (first | (with_reducible first | exact HB.out | apply below_alloc | apply pw_below_drewN | apply below_drew1 | refine below_set ?_ (IsS77.ge HI0.out)) | exact HB.out), by repeat (first | (with_reducible first | exact HK.out | apply KeepBut.set_ | apply keep_drewN | apply keep_drew | apply keep_alloc) | exact HK.out)⟩

end Go.Proofs.Ytlbjdpahhgokkaa.P
-- Made by wip/gen/pp.py of this session over the kit's print of the loaded program: a function, and the contract of its walk. Lean checks it.
namespace Go.Proofs.Ytlbjdpahhgokkaa.P
open Go.RowKit Go.Proofs.YtlbjdpahhgokkaaW.PrintWords Go.Proofs.YtlbjdpahhgokkaaW.PrintLast Go.Proofs.YtlbjdpahhgokkaaW.PrintMore
attribute [local go_sem] max2_int min2_int max_two min_two max_three min_three max_four min_four   -- for this text's walks alone
set_option linter.unusedVariables false
set_option linter.unusedSimpArgs false

/-! ### spec_l1Rd_word: function 60 -/
def spec_l1Rd_word.l0 : Nat → Int → Int → List Int → Int → Option (Int × Int)
 | 0, _, _, _, _ => none
 | k + 1, x3, x4, x1000, x1001 => if x4 < 8 then ((spec_l1Rd_next.f x1000 x1001).bind fun bt101 => (spec_l1Rd_word.l0 k (Go.bits .or .u64 (IntKind.u64.wrap (x3 * 256)) (IntKind.u64.wrap (bt101.1))) (wrap64 (x4 + 1)) x1000 bt101.2)) else (some (x3, x1001))
def spec_l1Rd_word.f (k : Nat) (s0_0 : List Int) (s0_1 : Int) : Option (Int × Int) := spec_l1Rd_word.l0 k 0 0 s0_0 s0_1
theorem spec_l1Rd_word.mono_l : ∀ k, (∀ y0 y1 y2 y3, LeO (spec_l1Rd_word.l0 k y0 y1 y2 y3) (spec_l1Rd_word.l0 (k + 1) y0 y1 y2 y3))
 | 0 => fun _ _ _ _ r h => by simp [spec_l1Rd_word.l0] at h
 | k + 1 => by
  have ih0 := spec_l1Rd_word.mono_l k
  ·intro y0 y1 y2 y3
   unfold spec_l1Rd_word.l0
   repeat' first
   | (with_reducible exact ih0 _ _ _ _)
   | (with_reducible exact LeO.refl _)
   | (with_reducible exact LeO.none _)
   | (with_reducible refine LeO.ite ?_ ?_)
   | (with_reducible refine LeO.bind ?_ (fun _ => ?_))
   | exact ih0 _ _ _ _
   | exact LeO.none _
   | refine LeO.ite ?_ ?_
   | refine LeO.bind ?_ (fun _ => ?_)
theorem spec_l1Rd_word.mono : ∀ a0 a1 k, LeO (spec_l1Rd_word.f k a0 a1) (spec_l1Rd_word.f (k + 1) a0 a1) := by
 intro a0 a1 k
 have ih0 := spec_l1Rd_word.mono_l k
 unfold spec_l1Rd_word.f
 repeat' first
   | (with_reducible exact ih0 _ _ _ _)
   | (with_reducible exact LeO.refl _)
   | (with_reducible exact LeO.none _)
   | (with_reducible refine LeO.ite ?_ ?_)
   | (with_reducible refine LeO.bind ?_ (fun _ => ?_))
   | exact ih0 _ _ _ _
   | exact LeO.none _
   | refine LeO.ite ?_ ?_
   | refine LeO.bind ?_ (fun _ => ?_)
set_option maxHeartbeats 8000000 in
set_option maxRecDepth 100000 in
theorem spec_l1Rd_word.calls (k : Nat) (g : Nat) (s0_0 : List Int) (s0_1 : Int) (r1 : Int) (r2 : Int) (w0 w : World) (hI : IsS77 w0 w g s0_0 s0_1) (hB : Below w0.heap.size w0 w) (h : spec_l1Rd_word.f k s0_0 s0_1 = some (r1, r2)) :
  Calls Try.prog 60 #[.pointer (some ⟨g, 0, none⟩)] w fun e w' => e = .returned (.int .u64 r1) ∧ IsS77 w0 w' g s0_0 r2 ∧ Below w0.heap.size w0 w' ∧ KeepBut w w' g none := by
 have HI0 := Aside0.mk hI
 have HK := Aside0.mk (KeepBut.refl w g none)
 have HL := Aside0.mk hB.size
 clear hI
 have HW0 := Aside0.mk hB.size
 have HB := Aside0.mk hB
 clear hB
 have H : (spec_l1Rd_word.l0 k 0 0 s0_0 s0_1) = some (r1, r2) := h
 clear h
 have H' := Aside0.mk H
 clear H
 go_enter Try.func60, Try.ntmps60
 go_wp2
 go_loopg [3, 4] k (fun kq v3 v4 w' => ∃ (x3_1 : Int) (x4_1 : Int) (x1001_1 : Int), v3 = .int .u64 x3_1 ∧ v4 = .int .i64 x4_1 ∧ Aside0 (spec_l1Rd_word.l0 kq x3_1 x4_1 s0_0 x1001_1 = some (r1, r2)) ∧ Aside0 (kq ≤ k) ∧ Aside0 (IsS77 w0 w' g s0_0 x1001_1) ∧ Aside0 (KeepBut w w' g none) ∧ Aside0 (Below w0.heap.size w0 w'))
 case atStart => exact ⟨(0), (0), (s0_1), (by first | rfl | (simp; done) | (simp [*]; done)), (by first | rfl | (simp; done) | (simp [*]; done)), H', ⟨Nat.le_refl _⟩, ⟨by repeat (first | (with_reducible first | exact HI0.out | apply IsS77.alloc | apply IsS77.drewN | apply IsS77.drew | apply IsS77.set_1) | exact HI0.out)⟩, ⟨by repeat (first | (with_reducible first | exact HK.out | apply KeepBut.set_ | apply keep_drewN | apply keep_drew | apply keep_alloc) | exact HK.out)⟩, ⟨by repeat (first | (with_reducible first | exact HB.out | apply below_alloc | apply pw_below_drewN | apply below_drew1 | refine below_set ?_ (IsS77.ge HI0.out)) | exact HB.out)⟩⟩
 case round =>
  clear H'
  obtain ⟨x3_1, x4_1, x1001_1, rfl, rfl, HA, HK1, HI0, HK, HB⟩ := hrel
  cases gk with
  | zero => exact absurd HA.out (by simp [spec_l1Rd_word.l0])
  | succ k1 =>
   have H := HA.out
   clear HA
   simp only [spec_l1Rd_word.l0] at H
   by_cases c2 : x4_1 < 8
   ·rw [if_pos c2] at H
    have c2b0 : decide (x4_1 < 8) = true := decide_eq_true c2
    clear c2
    replace H := Option.bind_eq_some_iff.mp H
    obtain ⟨⟨t101, t102⟩, A30, H⟩ := H
    replace H : (spec_l1Rd_word.l0 k1 (Go.bits .or .u64 (IntKind.u64.wrap (x3_1 * 256)) (IntKind.u64.wrap (t101))) (wrap64 (x4_1 + 1)) s0_0 t102) = some (r1, r2) := H
    have A3 := Aside0.mk A30
    clear A30
    have H' := Aside0.mk H
    clear H
    go_wp2_with (first | ((with_reducible refine gate_callee (f := 58) rfl ?_); refine goesL_ (some 12) rfl rfl Try.func58 (by kernel_rfl) rfl #[.pointer (some ⟨g, 0, none⟩)] rfl (by (try simp only [List.map_toArray, List.map_cons, List.map_nil]); first | done | rfl | (simp only [List.length_drop, List.length_take]; rfl)) ?_; (with_reducible refine (spec_l1Rd_next.calls g s0_0 x1001_1 t101 t102 w0 _ ?side1 ?side2 A3.out).mono ?_); (case side1 => repeat (first | (with_reducible first | exact HI0.out | apply IsS77.alloc | apply IsS77.drewN | apply IsS77.drew | apply IsS77.set_1) | exact HI0.out)); (case side2 => repeat (first | (with_reducible first | exact HB.out | apply below_alloc | apply pw_below_drewN | apply below_drew1 | refine below_set ?_ (IsS77.ge HI0.out)) | exact HB.out)); rintro e w4 ⟨rfl, hi, hb, hk⟩; refine ⟨_, rfl, ?_⟩; have n0_ := Aside0.mk (KeepBut.trans (by repeat (first | (with_reducible first | exact HK.out | apply KeepBut.set_ | apply keep_drewN | apply keep_drew | apply keep_alloc) | exact HK.out)) hk (.inl rfl)); have n1_ := Aside0.mk (hb); have n2_ := Aside0.mk (hi); clear HK; clear HB; clear HI0; have HK := n0_; have HB := n1_; have HI0 := n2_; clear n0_ n1_ n2_; (try clear hb); (try clear hb2); (try clear hk); (try clear hi)))
    go_roundg k1
    case measure => have := HK1.out; omega
    case rel => exact ⟨(Go.bits .or .u64 (IntKind.u64.wrap (x3_1 * 256)) (IntKind.u64.wrap (t101))), (wrap64 (x4_1 + 1)), (t102), (by first | rfl | (simp; done) | (simp [*]; done)), (by first | rfl | (simp; done) | (simp [*]; done)), H', ⟨by have := HK1.out; omega⟩, ⟨by repeat (first | (with_reducible first | exact HI0.out | apply IsS77.alloc | apply IsS77.drewN | apply IsS77.drew | apply IsS77.set_1) | exact HI0.out)⟩, ⟨by repeat (first | (with_reducible first | exact HK.out | apply KeepBut.set_ | apply keep_drewN | apply keep_drew | apply keep_alloc) | exact HK.out)⟩, ⟨by repeat (first | (with_reducible first | exact HB.out | apply below_alloc | apply pw_below_drewN | apply below_drew1 | refine below_set ?_ (IsS77.ge HI0.out)) | exact HB.out)⟩⟩
   ·rw [if_neg c2] at H
    have c2b0 : decide (x4_1 < 8) = false := decide_eq_false c2
    clear c2
    simp only [Option.some.injEq, Prod.mk.injEq] at H
    obtain ⟨rfl, rfl⟩ := H
    go_wp2
    go_ret
    exact ⟨by first | rfl | (simp [errW_none, errW_some] <;> rfl) | (simp [*, errW_none, errW_some] <;> rfl), by repeat (first | (with_reducible first | exact HI0.out | apply IsS77.alloc | apply IsS77.drewN | apply IsS77.drew | apply IsS77.set_1) | exact HI0.out), by repeat (first | (with_reducible first | exact HB.out | apply below_alloc | apply pw_below_drewN | apply below_drew1 | refine below_set ?_ (IsS77.ge HI0.out)) | exact HB.out), by repeat (first | (with_reducible first | exact HK.out | apply KeepBut.set_ | apply keep_drewN | apply keep_drew | apply keep_alloc) | exact HK.out)⟩

end Go.Proofs.Ytlbjdpahhgokkaa.P
-- Made by wip/gen/pp.py of this session over the kit's print of the loaded program: a function, and the contract of its walk. Lean checks it.
namespace Go.Proofs.Ytlbjdpahhgokkaa.P
open Go.RowKit Go.Proofs.YtlbjdpahhgokkaaW.PrintWords Go.Proofs.YtlbjdpahhgokkaaW.PrintLast Go.Proofs.YtlbjdpahhgokkaaW.PrintMore
attribute [local go_sem] max2_int min2_int max_two min_two max_three min_three max_four min_four   -- for this text's walks alone
set_option linter.unusedVariables false
set_option linter.unusedSimpArgs false

/-! ### spec_l1Rd_near: function 59 -/
def spec_l1Rd_near.f (k : Nat) (s0_0 : List Int) (s0_1 : Int) (a1 : Int) (a2 : Int) : Option (Int × Int) := (spec_l1Rd_below.f s0_0 s0_1 8).bind fun bt101 => (if bt101.1 = 0 then (some (a1, bt101.2)) else (if bt101.1 = 1 then (some (a2, bt101.2)) else (if a2 < a1 then (some (a1, bt101.2)) else ((spec_l1Rd_word.f k s0_0 bt101.2).bind fun bt103 => (if (IntKind.u64.wrap (wrap64 ((wrap64 (a2 - a1)) + 1))) = 0 then (none) else (some (wrap64 (a1 + (wrap64 (Int.tmod (bt103.1 / 2) (IntKind.u64.wrap (wrap64 ((wrap64 (a2 - a1)) + 1)))))), bt103.2)))))))
theorem spec_l1Rd_near.mono : ∀ a0 a1 a2 a3 k, LeO (spec_l1Rd_near.f k a0 a1 a2 a3) (spec_l1Rd_near.f (k + 1) a0 a1 a2 a3) := by
 intro a0 a1 a2 a3 k
 unfold spec_l1Rd_near.f
 repeat' first
   | (with_reducible exact spec_l1Rd_word.mono _ _ _)
   | (with_reducible exact LeO.refl _)
   | (with_reducible exact LeO.none _)
   | (with_reducible refine LeO.ite ?_ ?_)
   | (with_reducible refine LeO.bind ?_ (fun _ => ?_))
   | exact spec_l1Rd_word.mono _ _ _
   | exact LeO.none _
   | refine LeO.ite ?_ ?_
   | refine LeO.bind ?_ (fun _ => ?_)
set_option maxHeartbeats 8000000 in
set_option maxRecDepth 100000 in
theorem spec_l1Rd_near.calls (k : Nat) (g : Nat) (s0_0 : List Int) (s0_1 : Int) (a1 : Int) (a2 : Int) (r1 : Int) (r2 : Int) (w0 w : World) (hI : IsS77 w0 w g s0_0 s0_1) (hB : Below w0.heap.size w0 w) (h : spec_l1Rd_near.f k s0_0 s0_1 a1 a2 = some (r1, r2)) :
  Calls Try.prog 59 #[.pointer (some ⟨g, 0, none⟩), .int .i64 a1, .int .i64 a2] w fun e w' => e = .returned (.int .i64 r1) ∧ IsS77 w0 w' g s0_0 r2 ∧ Below w0.heap.size w0 w' ∧ KeepBut w w' g none := by
 have HI0 := Aside0.mk hI
 have HK := Aside0.mk (KeepBut.refl w g none)
 have HL := Aside0.mk hB.size
 clear hI
 have HW0 := Aside0.mk hB.size
 have HB := Aside0.mk hB
 clear hB
 have H : ((spec_l1Rd_below.f s0_0 s0_1 8).bind fun bt101 => (if bt101.1 = 0 then (some (a1, bt101.2)) else (if bt101.1 = 1 then (some (a2, bt101.2)) else (if a2 < a1 then (some (a1, bt101.2)) else ((spec_l1Rd_word.f k s0_0 bt101.2).bind fun bt103 => (if (IntKind.u64.wrap (wrap64 ((wrap64 (a2 - a1)) + 1))) = 0 then (none) else (some (wrap64 (a1 + (wrap64 (Int.tmod (bt103.1 / 2) (IntKind.u64.wrap (wrap64 ((wrap64 (a2 - a1)) + 1)))))), bt103.2)))))))) = some (r1, r2) := h
 clear h
 replace H := Option.bind_eq_some_iff.mp H
 obtain ⟨⟨t101, t102⟩, A40, H⟩ := H
 replace H : (if t101 = 0 then (some (a1, t102)) else (if t101 = 1 then (some (a2, t102)) else (if a2 < a1 then (some (a1, t102)) else ((spec_l1Rd_word.f k s0_0 t102).bind fun bt103 => (if (IntKind.u64.wrap (wrap64 ((wrap64 (a2 - a1)) + 1))) = 0 then (none) else (some (wrap64 (a1 + (wrap64 (Int.tmod (bt103.1 / 2) (IntKind.u64.wrap (wrap64 ((wrap64 (a2 - a1)) + 1)))))), bt103.2))))))) = some (r1, r2) := H
 have A4 := Aside0.mk A40
 clear A40
 by_cases c5 : t101 = 0
 ·rw [if_pos c5] at H
  have c5b0 : (t101 == 0) = true := beq_iff_eq.mpr c5
  have c5b1 : (t101 != 0) = false := bne_eq_false_iff_eq.mpr c5
  clear c5
  simp only [Option.some.injEq, Prod.mk.injEq] at H
  obtain ⟨rfl, rfl⟩ := H
  go_enter Try.func59, Try.ntmps59
  go_wp2_with (first | ((with_reducible refine gate_callee (f := 52) rfl ?_); refine goesL_ (some 8) rfl rfl Try.func52 (by kernel_rfl) rfl #[.pointer (some ⟨g, 0, none⟩), .int .i64 8] rfl (by (try simp only [List.map_toArray, List.map_cons, List.map_nil]); first | done | rfl | (simp only [List.length_drop, List.length_take]; rfl)) ?_; (with_reducible refine (spec_l1Rd_below.calls g s0_0 s0_1 8 t101 t102 w0 _ ?side1 ?side2 A4.out).mono ?_); (case side1 => repeat (first | (with_reducible first | exact HI0.out | apply IsS77.alloc | apply IsS77.drewN | apply IsS77.drew | apply IsS77.set_1) | exact HI0.out)); (case side2 => repeat (first | (with_reducible first | exact HB.out | apply below_alloc | apply pw_below_drewN | apply below_drew1 | refine below_set ?_ (IsS77.ge HI0.out)) | exact HB.out)); rintro e w6 ⟨rfl, hi, hb, hk⟩; refine ⟨_, rfl, ?_⟩; have n0_ := Aside0.mk (KeepBut.trans (by repeat (first | (with_reducible first | exact HK.out | apply KeepBut.set_ | apply keep_drewN | apply keep_drew | apply keep_alloc) | exact HK.out)) hk (.inl rfl)); have n1_ := Aside0.mk (hb); have n2_ := Aside0.mk (hi); clear HK; clear HB; clear HI0; have HK := n0_; have HB := n1_; have HI0 := n2_; clear n0_ n1_ n2_; (try clear hb); (try clear hb2); (try clear hk); (try clear hi)))
  go_ret
  exact ⟨by first | rfl | (simp [errW_none, errW_some] <;> rfl) | (simp [*, errW_none, errW_some] <;> rfl), by repeat (first | (with_reducible first | exact HI0.out | apply IsS77.alloc | apply IsS77.drewN | apply IsS77.drew | apply IsS77.set_1) | exact HI0.out), by repeat (first | (with_reducible first | exact HB.out | apply below_alloc | apply pw_below_drewN | apply below_drew1 | refine below_set ?_ (IsS77.ge HI0.out)) | exact HB.out), by repeat (first | (with_reducible first | exact HK.out | apply KeepBut.set_ | apply keep_drewN | apply keep_drew | apply keep_alloc) | exact HK.out)⟩
 ·rw [if_neg c5] at H
  have c5b0 : (t101 == 0) = false := beq_eq_false_iff_ne.mpr c5
  have c5b1 : (t101 != 0) = true := bne_iff_ne.mpr c5
  by_cases c7 : t101 = 1
  ·rw [if_pos c7] at H
   have c7b0 : (t101 == 1) = true := beq_iff_eq.mpr c7
   have c7b1 : (t101 != 1) = false := bne_eq_false_iff_eq.mpr c7
   clear c7
   simp only [Option.some.injEq, Prod.mk.injEq] at H
   obtain ⟨rfl, rfl⟩ := H
   go_enter Try.func59, Try.ntmps59
   go_wp2_with (first | ((with_reducible refine gate_callee (f := 52) rfl ?_); refine goesL_ (some 8) rfl rfl Try.func52 (by kernel_rfl) rfl #[.pointer (some ⟨g, 0, none⟩), .int .i64 8] rfl (by (try simp only [List.map_toArray, List.map_cons, List.map_nil]); first | done | rfl | (simp only [List.length_drop, List.length_take]; rfl)) ?_; (with_reducible refine (spec_l1Rd_below.calls g s0_0 s0_1 8 t101 t102 w0 _ ?side1 ?side2 A4.out).mono ?_); (case side1 => repeat (first | (with_reducible first | exact HI0.out | apply IsS77.alloc | apply IsS77.drewN | apply IsS77.drew | apply IsS77.set_1) | exact HI0.out)); (case side2 => repeat (first | (with_reducible first | exact HB.out | apply below_alloc | apply pw_below_drewN | apply below_drew1 | refine below_set ?_ (IsS77.ge HI0.out)) | exact HB.out)); rintro e w8 ⟨rfl, hi, hb, hk⟩; refine ⟨_, rfl, ?_⟩; have n0_ := Aside0.mk (KeepBut.trans (by repeat (first | (with_reducible first | exact HK.out | apply KeepBut.set_ | apply keep_drewN | apply keep_drew | apply keep_alloc) | exact HK.out)) hk (.inl rfl)); have n1_ := Aside0.mk (hb); have n2_ := Aside0.mk (hi); clear HK; clear HB; clear HI0; have HK := n0_; have HB := n1_; have HI0 := n2_; clear n0_ n1_ n2_; (try clear hb); (try clear hb2); (try clear hk); (try clear hi)))
   go_ret
   exact ⟨by first | rfl | (simp [errW_none, errW_some] <;> rfl) | (simp [*, errW_none, errW_some] <;> rfl), by repeat (first | (with_reducible first | exact HI0.out | apply IsS77.alloc | apply IsS77.drewN | apply IsS77.drew | apply IsS77.set_1) | exact HI0.out), by repeat (first | (with_reducible first | exact HB.out | apply below_alloc | apply pw_below_drewN | apply below_drew1 | refine below_set ?_ (IsS77.ge HI0.out)) | exact HB.out), by repeat (first | (with_reducible first | exact HK.out | apply KeepBut.set_ | apply keep_drewN | apply keep_drew | apply keep_alloc) | exact HK.out)⟩
  ·rw [if_neg c7] at H
   have c7b0 : (t101 == 1) = false := beq_eq_false_iff_ne.mpr c7
   have c7b1 : (t101 != 1) = true := bne_iff_ne.mpr c7
   by_cases c9 : a2 < a1
   ·rw [if_pos c9] at H
    have c9b0 : decide (a2 < a1) = true := decide_eq_true c9
    clear c9
    simp only [Option.some.injEq, Prod.mk.injEq] at H
    obtain ⟨rfl, rfl⟩ := H
    go_enter Try.func59, Try.ntmps59
    go_wp2_with (first | ((with_reducible refine gate_callee (f := 52) rfl ?_); refine goesL_ (some 8) rfl rfl Try.func52 (by kernel_rfl) rfl #[.pointer (some ⟨g, 0, none⟩), .int .i64 8] rfl (by (try simp only [List.map_toArray, List.map_cons, List.map_nil]); first | done | rfl | (simp only [List.length_drop, List.length_take]; rfl)) ?_; (with_reducible refine (spec_l1Rd_below.calls g s0_0 s0_1 8 t101 t102 w0 _ ?side1 ?side2 A4.out).mono ?_); (case side1 => repeat (first | (with_reducible first | exact HI0.out | apply IsS77.alloc | apply IsS77.drewN | apply IsS77.drew | apply IsS77.set_1) | exact HI0.out)); (case side2 => repeat (first | (with_reducible first | exact HB.out | apply below_alloc | apply pw_below_drewN | apply below_drew1 | refine below_set ?_ (IsS77.ge HI0.out)) | exact HB.out)); rintro e w10 ⟨rfl, hi, hb, hk⟩; refine ⟨_, rfl, ?_⟩; have n0_ := Aside0.mk (KeepBut.trans (by repeat (first | (with_reducible first | exact HK.out | apply KeepBut.set_ | apply keep_drewN | apply keep_drew | apply keep_alloc) | exact HK.out)) hk (.inl rfl)); have n1_ := Aside0.mk (hb); have n2_ := Aside0.mk (hi); clear HK; clear HB; clear HI0; have HK := n0_; have HB := n1_; have HI0 := n2_; clear n0_ n1_ n2_; (try clear hb); (try clear hb2); (try clear hk); (try clear hi)))
    go_ret
    exact ⟨by first | rfl | (simp [errW_none, errW_some] <;> rfl) | (simp [*, errW_none, errW_some] <;> rfl), by repeat (first | (with_reducible first | exact HI0.out | apply IsS77.alloc | apply IsS77.drewN | apply IsS77.drew | apply IsS77.set_1) | exact HI0.out), by repeat (first | (with_reducible first | exact HB.out | apply below_alloc | apply pw_below_drewN | apply below_drew1 | refine below_set ?_ (IsS77.ge HI0.out)) | exact HB.out), by repeat (first | (with_reducible first | exact HK.out | apply KeepBut.set_ | apply keep_drewN | apply keep_drew | apply keep_alloc) | exact HK.out)⟩
   ·rw [if_neg c9] at H
    have c9b0 : decide (a2 < a1) = false := decide_eq_false c9
    clear c9
    replace H := Option.bind_eq_some_iff.mp H
    obtain ⟨⟨t103, t104⟩, A110, H⟩ := H
    replace H : (if (IntKind.u64.wrap (wrap64 ((wrap64 (a2 - a1)) + 1))) = 0 then (none) else (some (wrap64 (a1 + (wrap64 (Int.tmod (t103 / 2) (IntKind.u64.wrap (wrap64 ((wrap64 (a2 - a1)) + 1)))))), t104))) = some (r1, r2) := H
    have A11 := Aside0.mk A110
    clear A110
    by_cases c12 : (IntKind.u64.wrap (wrap64 ((wrap64 (a2 - a1)) + 1))) = 0
    ·rw [if_pos c12] at H
     exact absurd H (by simp)
    ·rw [if_neg c12] at H
     have c12b0 : ((IntKind.u64.wrap (wrap64 ((wrap64 (a2 - a1)) + 1))) == 0) = false := beq_eq_false_iff_ne.mpr c12
     have c12b1 : ((IntKind.u64.wrap (wrap64 ((wrap64 (a2 - a1)) + 1))) != 0) = true := bne_iff_ne.mpr c12
     simp only [Option.some.injEq, Prod.mk.injEq] at H
     obtain ⟨rfl, rfl⟩ := H
     go_enter Try.func59, Try.ntmps59
     go_wp2_with (first | ((with_reducible refine gate_callee (f := 52) rfl ?_); refine goesL_ (some 8) rfl rfl Try.func52 (by kernel_rfl) rfl #[.pointer (some ⟨g, 0, none⟩), .int .i64 8] rfl (by (try simp only [List.map_toArray, List.map_cons, List.map_nil]); first | done | rfl | (simp only [List.length_drop, List.length_take]; rfl)) ?_; (with_reducible refine (spec_l1Rd_below.calls g s0_0 s0_1 8 t101 t102 w0 _ ?side1 ?side2 A4.out).mono ?_); (case side1 => repeat (first | (with_reducible first | exact HI0.out | apply IsS77.alloc | apply IsS77.drewN | apply IsS77.drew | apply IsS77.set_1) | exact HI0.out)); (case side2 => repeat (first | (with_reducible first | exact HB.out | apply below_alloc | apply pw_below_drewN | apply below_drew1 | refine below_set ?_ (IsS77.ge HI0.out)) | exact HB.out)); rintro e w13 ⟨rfl, hi, hb, hk⟩; refine ⟨_, rfl, ?_⟩; have n0_ := Aside0.mk (KeepBut.trans (by repeat (first | (with_reducible first | exact HK.out | apply KeepBut.set_ | apply keep_drewN | apply keep_drew | apply keep_alloc) | exact HK.out)) hk (.inl rfl)); have n1_ := Aside0.mk (hb); have n2_ := Aside0.mk (hi); clear HK; clear HB; clear HI0; have HK := n0_; have HB := n1_; have HI0 := n2_; clear n0_ n1_ n2_; (try clear hb); (try clear hb2); (try clear hk); (try clear hi)) | ((with_reducible refine gate_callee (f := 60) rfl ?_); refine goesL_ (some 21) rfl rfl Try.func60 (by kernel_rfl) rfl #[.pointer (some ⟨g, 0, none⟩)] rfl (by (try simp only [List.map_toArray, List.map_cons, List.map_nil]); first | done | rfl | (simp only [List.length_drop, List.length_take]; rfl)) ?_; (with_reducible refine (spec_l1Rd_word.calls k g s0_0 t102 t103 t104 w0 _ ?side1 ?side2 A11.out).mono ?_); (case side1 => repeat (first | (with_reducible first | exact HI0.out | apply IsS77.alloc | apply IsS77.drewN | apply IsS77.drew | apply IsS77.set_1) | exact HI0.out)); (case side2 => repeat (first | (with_reducible first | exact HB.out | apply below_alloc | apply pw_below_drewN | apply below_drew1 | refine below_set ?_ (IsS77.ge HI0.out)) | exact HB.out)); rintro e w14 ⟨rfl, hi, hb, hk⟩; refine ⟨_, rfl, ?_⟩; have n0_ := Aside0.mk (KeepBut.trans (by repeat (first | (with_reducible first | exact HK.out | apply KeepBut.set_ | apply keep_drewN | apply keep_drew | apply keep_alloc) | exact HK.out)) hk (.inl rfl)); have n1_ := Aside0.mk (hb); have n2_ := Aside0.mk (hi); clear HK; clear HB; clear HI0; have HK := n0_; have HB := n1_; have HI0 := n2_; clear n0_ n1_ n2_; (try clear hb); (try clear hb2); (try clear hk); (try clear hi)))
     go_ret
     exact ⟨by first | rfl | (simp [errW_none, errW_some] <;> rfl) | (simp [*, errW_none, errW_some] <;> rfl), by repeat (first | (with_reducible first | exact HI0.out | apply IsS77.alloc | apply IsS77.drewN | apply IsS77.drew | apply IsS77.set_1) | exact HI0.out), by repeat (first | (with_reducible first | exact HB.out | apply below_alloc | apply pw_below_drewN | apply below_drew1 | refine below_set ?_ (IsS77.ge HI0.out)) | exact HB.out), by repeat (first | (with_reducible first | exact HK.out | apply KeepBut.set_ | apply keep_drewN | apply keep_drew | apply keep_alloc) | exact HK.out)⟩

end Go.Proofs.Ytlbjdpahhgokkaa.P
-- Made by wip/gen/pp.py of this session over the kit's print of the loaded program: a function, and the contract of its walk. Lean checks it.
namespace Go.Proofs.Ytlbjdpahhgokkaa.P
open Go.RowKit Go.Proofs.YtlbjdpahhgokkaaW.PrintWords Go.Proofs.YtlbjdpahhgokkaaW.PrintLast Go.Proofs.YtlbjdpahhgokkaaW.PrintMore
attribute [local go_sem] max2_int min2_int max_two min_two max_three min_three max_four min_four   -- for this text's walks alone
set_option linter.unusedVariables false
set_option linter.unusedSimpArgs false

/-! ### spec_l1Rd_off: function 54 -/
def spec_l1Rd_off.f (k : Nat) (s0_0 : List Int) (s0_1 : Int) (a1 : Int) (a2 : Int) : Option (Int × Int) := (spec_l1Rd_once.f s0_0 s0_1 24).bind fun bt101 => (if bt101.1 = true then ((some (([wrap64 (a1 - 1), wrap64 (a2 + 1), (-9223372036854775808), 9223372036854775807] : List Int) : List Int)).bind fun y103 => ((spec_l1Rd_below.f s0_0 bt101.2 4).bind fun bt106 => (if 0 ≤ bt106.1 then (if bt106.1 < (y103.length : Int) then (some (rd y103 bt106.1, bt106.2)) else (none)) else (none)))) else ((spec_l1Rd_near.f k s0_0 bt101.2 a1 a2).bind fun bt109 => (some (bt109.1, bt109.2))))
theorem spec_l1Rd_off.mono : ∀ a0 a1 a2 a3 k, LeO (spec_l1Rd_off.f k a0 a1 a2 a3) (spec_l1Rd_off.f (k + 1) a0 a1 a2 a3) := by
 intro a0 a1 a2 a3 k
 unfold spec_l1Rd_off.f
 repeat' first
   | (with_reducible exact spec_l1Rd_near.mono _ _ _ _ _)
   | (with_reducible exact LeO.refl _)
   | (with_reducible exact LeO.none _)
   | (with_reducible refine LeO.ite ?_ ?_)
   | (with_reducible refine LeO.bind ?_ (fun _ => ?_))
   | exact spec_l1Rd_near.mono _ _ _ _ _
   | exact LeO.none _
   | refine LeO.ite ?_ ?_
   | refine LeO.bind ?_ (fun _ => ?_)
set_option maxHeartbeats 8000000 in
set_option maxRecDepth 100000 in
theorem spec_l1Rd_off.calls (k : Nat) (g : Nat) (s0_0 : List Int) (s0_1 : Int) (a1 : Int) (a2 : Int) (r1 : Int) (r2 : Int) (w0 w : World) (hI : IsS77 w0 w g s0_0 s0_1) (hB : Below w0.heap.size w0 w) (h : spec_l1Rd_off.f k s0_0 s0_1 a1 a2 = some (r1, r2)) :
  Calls Try.prog 54 #[.pointer (some ⟨g, 0, none⟩), .int .i64 a1, .int .i64 a2] w fun e w' => e = .returned (.int .i64 r1) ∧ IsS77 w0 w' g s0_0 r2 ∧ Below w0.heap.size w0 w' ∧ KeepBut w w' g none := by
 have HI0 := Aside0.mk hI
 have HK := Aside0.mk (KeepBut.refl w g none)
 have HL := Aside0.mk hB.size
 clear hI
 have HW0 := Aside0.mk hB.size
 have HB := Aside0.mk hB
 clear hB
 have H : ((spec_l1Rd_once.f s0_0 s0_1 24).bind fun bt101 => (if bt101.1 = true then ((some (([wrap64 (a1 - 1), wrap64 (a2 + 1), (-9223372036854775808), 9223372036854775807] : List Int) : List Int)).bind fun y103 => ((spec_l1Rd_below.f s0_0 bt101.2 4).bind fun bt106 => (if 0 ≤ bt106.1 then (if bt106.1 < (y103.length : Int) then (some (rd y103 bt106.1, bt106.2)) else (none)) else (none)))) else ((spec_l1Rd_near.f k s0_0 bt101.2 a1 a2).bind fun bt109 => (some (bt109.1, bt109.2))))) = some (r1, r2) := h
 clear h
 replace H := Option.bind_eq_some_iff.mp H
 obtain ⟨⟨t101, t102⟩, A40, H⟩ := H
 replace H : (if t101 = true then ((some (([wrap64 (a1 - 1), wrap64 (a2 + 1), (-9223372036854775808), 9223372036854775807] : List Int) : List Int)).bind fun y103 => ((spec_l1Rd_below.f s0_0 t102 4).bind fun bt106 => (if 0 ≤ bt106.1 then (if bt106.1 < (y103.length : Int) then (some (rd y103 bt106.1, bt106.2)) else (none)) else (none)))) else ((spec_l1Rd_near.f k s0_0 t102 a1 a2).bind fun bt109 => (some (bt109.1, bt109.2)))) = some (r1, r2) := H
 have A4 := Aside0.mk A40
 clear A40
 by_cases c5 : t101 = true
 ·subst c5
  have H1 : ((some (([wrap64 (a1 - 1), wrap64 (a2 + 1), (-9223372036854775808), 9223372036854775807] : List Int) : List Int)).bind fun y103 => ((spec_l1Rd_below.f s0_0 t102 4).bind fun bt106 => (if 0 ≤ bt106.1 then (if bt106.1 < (y103.length : Int) then (some (rd y103 bt106.1, bt106.2)) else (none)) else (none)))) = some (r1, r2) := by rw [if_pos rfl] at H; exact H
  clear H
  have H := H1
  clear H1
  obtain ⟨y103, hy103⟩ : ∃ y_ : List Int, y_ = (([wrap64 (a1 - 1), wrap64 (a2 + 1), (-9223372036854775808), 9223372036854775807] : List Int)) := ⟨_, rfl⟩
  replace H : ((spec_l1Rd_below.f s0_0 t102 4).bind fun bt106 => (if 0 ≤ bt106.1 then (if bt106.1 < (y103.length : Int) then (some (rd y103 bt106.1, bt106.2)) else (none)) else (none))) = some (r1, r2) := by first | (rw [hy103]; with_reducible exact H) | (have H2_ := (Option.bind_some _ _).symm.trans H; rw [hy103]; with_reducible exact H2_) | (have H2_ := (Option.bind_some _ _).symm.trans H; with_reducible exact H2_) | with_reducible exact H | (rw [hy103]; exact H) | exact H
  have Ny103 := Aside0.mk hy103
  clear hy103
  replace H := Option.bind_eq_some_iff.mp H
  obtain ⟨⟨t106, t107⟩, A60, H⟩ := H
  replace H : (if 0 ≤ t106 then (if t106 < (y103.length : Int) then (some (rd y103 t106, t107)) else (none)) else (none)) = some (r1, r2) := H
  have A6 := Aside0.mk A60
  clear A60
  by_cases c7 : 0 ≤ t106
  ·rw [if_pos c7] at H
   have c7b0 : decide (0 ≤ t106) = true := decide_eq_true c7
   clear c7
   by_cases c8 : t106 < (y103.length : Int)
   ·rw [if_pos c8] at H
    have c8b0 : decide (t106 < (y103.length : Int)) = true := decide_eq_true c8
    clear c8
    simp only [Option.some.injEq, Prod.mk.injEq] at H
    obtain ⟨rfl, rfl⟩ := H
    go_enter Try.func54, Try.ntmps54
    go_wp2_with (first | ((with_reducible refine gate_callee (f := 53) rfl ?_); refine goesL_ (some 8) rfl rfl Try.func53 (by kernel_rfl) rfl #[.pointer (some ⟨g, 0, none⟩), .int .i64 24] rfl (by (try simp only [List.map_toArray, List.map_cons, List.map_nil]); first | done | rfl | (simp only [List.length_drop, List.length_take]; rfl)) ?_; (with_reducible refine (spec_l1Rd_once.calls g s0_0 s0_1 24 true t102 w0 _ ?side1 ?side2 A4.out).mono ?_); (case side1 => repeat (first | (with_reducible first | exact HI0.out | apply IsS77.alloc | apply IsS77.drewN | apply IsS77.drew | apply IsS77.set_1) | exact HI0.out)); (case side2 => repeat (first | (with_reducible first | exact HB.out | apply below_alloc | apply pw_below_drewN | apply below_drew1 | refine below_set ?_ (IsS77.ge HI0.out)) | exact HB.out)); rintro e w9 ⟨rfl, hi, hb, hk⟩; refine ⟨_, rfl, ?_⟩; have n0_ := Aside0.mk (KeepBut.trans (by repeat (first | (with_reducible first | exact HK.out | apply KeepBut.set_ | apply keep_drewN | apply keep_drew | apply keep_alloc) | exact HK.out)) hk (.inl rfl)); have n1_ := Aside0.mk (hb); have n2_ := Aside0.mk (hi); clear HK; clear HB; clear HI0; have HK := n0_; have HB := n1_; have HI0 := n2_; clear n0_ n1_ n2_; (try clear hb); (try clear hb2); (try clear hk); (try clear hi)) | ((with_reducible refine gate_dst (N := 13) rfl ?_); refine Kd.R_lit (Kd.int .i64) _ 2 ?hg (N := 13) ?hd (xs := ([wrap64 (a1 - 1), wrap64 (a2 + 1), (-9223372036854775808), 9223372036854775807] : List Int)) (inner := [.int .i64 (wrap64 (a1 - 1)), .int .i64 (wrap64 (a2 + 1)), .int .i64 (-9223372036854775808), .int .i64 9223372036854775807]) (ok := fun _ => True) (okp := fun _ => True) ?hr ?hp (fun _ hk => hk) trivial (Below.refl _ _) (Nat.le_refl _) (by simp) ?_; (case hd => rfl); (case hg => rfl); (case hr => first | (go_simp; done) | (go_simp; rfl)); (case hp => exact (Reps.one (show Kd.M (Kd.int .i64) _ _ _ (wrap64 (a1 - 1)) [.int .i64 (wrap64 (a1 - 1))] from rfl) (Reps.one (show Kd.M (Kd.int .i64) _ _ _ (wrap64 (a2 + 1)) [.int .i64 (wrap64 (a2 + 1))] from rfl) (Reps.one (show Kd.M (Kd.int .i64) _ _ _ (-9223372036854775808) [.int .i64 (-9223372036854775808)] from rfl) (Reps.one (show Kd.M (Kd.int .i64) _ _ _ 9223372036854775807 [.int .i64 9223372036854775807] from rfl) (Reps.none _ _)))))); intro v104 w10 ho11 hb hg_ hnew_; clear hg_ hnew_; (first | rw [← Ny103.out] at ho11 | (simp only [Int.reduceToNat] at ho11; rw [← Ny103.out] at ho11)); have n0_ := Aside0.mk (Kd.R_lower ho11 (keep_size (w := w) (g := g) (row := none) (by repeat (first | (with_reducible first | exact HK.out | apply KeepBut.set_ | apply keep_drewN | apply keep_drew | apply keep_alloc) | exact HK.out)))); have n1_ := Aside0.mk (IsS77.below (by repeat (first | (with_reducible first | exact HI0.out | apply IsS77.alloc | apply IsS77.drewN | apply IsS77.drew | apply IsS77.set_1) | exact HI0.out)) hb); have n2_ := Aside0.mk (KeepBut.trans (by repeat (first | (with_reducible first | exact HK.out | apply KeepBut.set_ | apply keep_drewN | apply keep_drew | apply keep_alloc) | exact HK.out)) (KeepBut.of_below hb g none) (.inl rfl)); have n3_ := Aside0.mk (below_step (by repeat (first | (with_reducible first | exact HB.out | apply below_alloc | apply pw_below_drewN | apply below_drew1 | refine below_set ?_ (IsS77.ge HI0.out)) | exact HB.out)) hb); clear HI0; clear HK; clear HB; have HO105 := n0_; have HI0 := n1_; have HK := n2_; have HB := n3_; clear n0_ n1_ n2_ n3_; clear hb ho11) | ((with_reducible refine gate_callee (f := 52) rfl ?_); refine goesL_ (some 15) rfl rfl Try.func52 (by kernel_rfl) rfl #[.pointer (some ⟨g, 0, none⟩), .int .i64 4] rfl (by (try simp only [List.map_toArray, List.map_cons, List.map_nil]); first | done | rfl | (simp only [List.length_drop, List.length_take]; rfl)) ?_; (with_reducible refine (spec_l1Rd_below.calls g s0_0 t102 4 t106 t107 w0 _ ?side1 ?side2 A6.out).mono ?_); (case side1 => repeat (first | (with_reducible first | exact HI0.out | apply IsS77.alloc | apply IsS77.drewN | apply IsS77.drew | apply IsS77.set_1) | exact HI0.out)); (case side2 => repeat (first | (with_reducible first | exact HB.out | apply below_alloc | apply pw_below_drewN | apply below_drew1 | refine below_set ?_ (IsS77.ge HI0.out)) | exact HB.out)); rintro e w12 ⟨rfl, hi, hb, hk⟩; refine ⟨_, rfl, ?_⟩; have n0_ := Aside0.mk (Kd.R_mono (Kd.R_keep (IsS77.apart (show IsS77 w0 _ g s0_0 t102 from by repeat (first | (with_reducible first | exact HI0.out | apply IsS77.alloc | apply IsS77.drewN | apply IsS77.drew | apply IsS77.set_1) | exact HI0.out)) (by (with_reducible repeat (first | apply Kd.R_alloc | apply Kd.R_drewN | apply Kd.R_drew)); exact HO105.out) (by decide)) hk (fun _ h => h.2)) (fun _ h => h.1)); have n1_ := Aside0.mk (KeepBut.trans (by repeat (first | (with_reducible first | exact HK.out | apply KeepBut.set_ | apply keep_drewN | apply keep_drew | apply keep_alloc) | exact HK.out)) hk (.inl rfl)); have n2_ := Aside0.mk (hb); have n3_ := Aside0.mk (hi); clear HO105; clear HK; clear HB; clear HI0; have HO105 := n0_; have HK := n1_; have HB := n2_; have HI0 := n3_; clear n0_ n1_ n2_ n3_; (try clear hb); (try clear hb2); (try clear hk); (try clear hi); obtain ⟨Ao13, co13, eo13⟩ := Kd.R_slice HO105.out; subst eo13; have p108 : 0 ≤ (t106 : Int) := of_decide_eq_true (by first | (with_reducible assumption) | assumption); have q108 : t106 < (y103.length : Int) := of_decide_eq_true (by first | (with_reducible assumption) | assumption); obtain ⟨ad108, e108, hx108_0⟩ := Kd.at_int (Kd.R_reads' HO105.out).2.2 t106 p108 q108; cases e108; replace p108 := eq_true p108; replace q108 := eq_true q108))
    go_ret
    exact ⟨by first | rfl | (simp [errW_none, errW_some] <;> rfl) | (simp [*, errW_none, errW_some] <;> rfl), by repeat (first | (with_reducible first | exact HI0.out | apply IsS77.alloc | apply IsS77.drewN | apply IsS77.drew | apply IsS77.set_1) | exact HI0.out), by repeat (first | (with_reducible first | exact HB.out | apply below_alloc | apply pw_below_drewN | apply below_drew1 | refine below_set ?_ (IsS77.ge HI0.out)) | exact HB.out), by repeat (first | (with_reducible first | exact HK.out | apply KeepBut.set_ | apply keep_drewN | apply keep_drew | apply keep_alloc) | exact HK.out)⟩
   ·rw [if_neg c8] at H
    exact absurd H (by simp)
  ·rw [if_neg c7] at H
   exact absurd H (by simp)
 ·replace c5 := Bool.eq_false_iff.mpr c5
  subst c5
  have H1 : ((spec_l1Rd_near.f k s0_0 t102 a1 a2).bind fun bt109 => (some (bt109.1, bt109.2))) = some (r1, r2) := by rw [if_neg (show ¬ (false = true) by decide)] at H; exact H
  clear H
  have H := H1
  clear H1
  replace H := Option.bind_eq_some_iff.mp H
  obtain ⟨⟨t109, t110⟩, A140, H⟩ := H
  replace H : (some (t109, t110)) = some (r1, r2) := H
  have A14 := Aside0.mk A140
  clear A140
  simp only [Option.some.injEq, Prod.mk.injEq] at H
  obtain ⟨rfl, rfl⟩ := H
  go_enter Try.func54, Try.ntmps54
  go_wp2_with (first | ((with_reducible refine gate_callee (f := 53) rfl ?_); refine goesL_ (some 8) rfl rfl Try.func53 (by kernel_rfl) rfl #[.pointer (some ⟨g, 0, none⟩), .int .i64 24] rfl (by (try simp only [List.map_toArray, List.map_cons, List.map_nil]); first | done | rfl | (simp only [List.length_drop, List.length_take]; rfl)) ?_; (with_reducible refine (spec_l1Rd_once.calls g s0_0 s0_1 24 false t102 w0 _ ?side1 ?side2 A4.out).mono ?_); (case side1 => repeat (first | (with_reducible first | exact HI0.out | apply IsS77.alloc | apply IsS77.drewN | apply IsS77.drew | apply IsS77.set_1) | exact HI0.out)); (case side2 => repeat (first | (with_reducible first | exact HB.out | apply below_alloc | apply pw_below_drewN | apply below_drew1 | refine below_set ?_ (IsS77.ge HI0.out)) | exact HB.out)); rintro e w15 ⟨rfl, hi, hb, hk⟩; refine ⟨_, rfl, ?_⟩; have n0_ := Aside0.mk (KeepBut.trans (by repeat (first | (with_reducible first | exact HK.out | apply KeepBut.set_ | apply keep_drewN | apply keep_drew | apply keep_alloc) | exact HK.out)) hk (.inl rfl)); have n1_ := Aside0.mk (hb); have n2_ := Aside0.mk (hi); clear HK; clear HB; clear HI0; have HK := n0_; have HB := n1_; have HI0 := n2_; clear n0_ n1_ n2_; (try clear hb); (try clear hb2); (try clear hk); (try clear hi)) | ((with_reducible refine gate_callee (f := 59) rfl ?_); refine goesL_ (some 21) rfl rfl Try.func59 (by kernel_rfl) rfl #[.pointer (some ⟨g, 0, none⟩), .int .i64 a1, .int .i64 a2] rfl (by (try simp only [List.map_toArray, List.map_cons, List.map_nil]); first | done | rfl | (simp only [List.length_drop, List.length_take]; rfl)) ?_; (with_reducible refine (spec_l1Rd_near.calls k g s0_0 t102 a1 a2 t109 t110 w0 _ ?side1 ?side2 A14.out).mono ?_); (case side1 => repeat (first | (with_reducible first | exact HI0.out | apply IsS77.alloc | apply IsS77.drewN | apply IsS77.drew | apply IsS77.set_1) | exact HI0.out)); (case side2 => repeat (first | (with_reducible first | exact HB.out | apply below_alloc | apply pw_below_drewN | apply below_drew1 | refine below_set ?_ (IsS77.ge HI0.out)) | exact HB.out)); rintro e w16 ⟨rfl, hi, hb, hk⟩; refine ⟨_, rfl, ?_⟩; have n0_ := Aside0.mk (KeepBut.trans (by repeat (first | (with_reducible first | exact HK.out | apply KeepBut.set_ | apply keep_drewN | apply keep_drew | apply keep_alloc) | exact HK.out)) hk (.inl rfl)); have n1_ := Aside0.mk (hb); have n2_ := Aside0.mk (hi); clear HK; clear HB; clear HI0; have HK := n0_; have HB := n1_; have HI0 := n2_; clear n0_ n1_ n2_; (try clear hb); (try clear hb2); (try clear hk); (try clear hi)))
  go_ret
  exact ⟨by first | rfl | (simp [errW_none, errW_some] <;> rfl) | (simp [*, errW_none, errW_some] <;> rfl), by repeat (first | (with_reducible first | exact HI0.out | apply IsS77.alloc | apply IsS77.drewN | apply IsS77.drew | apply IsS77.set_1) | exact HI0.out), by repeat (first | (with_reducible first | exact HB.out | apply below_alloc | apply pw_below_drewN | apply below_drew1 | refine below_set ?_ (IsS77.ge HI0.out)) | exact HB.out), by repeat (first | (with_reducible first | exact HK.out | apply KeepBut.set_ | apply keep_drewN | apply keep_drew | apply keep_alloc) | exact HK.out)⟩

end Go.Proofs.Ytlbjdpahhgokkaa.P
