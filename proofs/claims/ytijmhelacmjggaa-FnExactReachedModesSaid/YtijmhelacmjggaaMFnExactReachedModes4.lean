/- The law FnExactReachedModes holds for every call: part 5 of 6 of the proof (walks of functions, and what they answer). Conditions: none beyond what the given row says. -/
import Derived.Test.YtijmhelacmjggaaMFnExactReachedModes0
import Derived.Test.YtijmhelacmjggaaMFnExactReachedModes3
import Derived.Test.YtijmhelacmjggaaMFnExactReachedModes2
import Derived.Test.YtijmhelacmjggaaMFnExactReachedModes1
set_option maxHeartbeats 16000000
set_option maxRecDepth 100000
namespace Go.Proofs.Ytijmhelacmjggaa.P
open Go.RowKit Go.Shelf Go.Proofs.YtijmhelacmjggaaW.PrintWords Go.Proofs.YtijmhelacmjggaaW.PrintLast Go.Proofs.YtijmhelacmjggaaW.PrintMore Go.Proofs.YtijmhelacmjggaaEv
set_option linter.unusedVariables false
set_option linter.unusedSimpArgs false
theorem endsAt_hand (A0 : Option Addr) (c0 : Nat) (l : List S156) (w : World) (hn : l.length ≤ 1048576) (hkl : ∀ x ∈ l, x.f2.length ≤ 9223372036854775807) (hr : Kd.C k156 w A0 l.length l) (hc : l.length ≤ c0) :
    Calls Try.prog 67 #[.agg #[.slice A0 l.length c0], .string ⟨#[]⟩, .int .i64 0] w fun e w' => ∃ v, e = .returned v ∧ Kd.R (Kd.int .i64) 2 w' w.heap.size (fun _ => True) v (if rxB l && nullE l (l.length - 1) then [0] else []) ∧ Below w.heap.size w w' := by
  obtain ⟨kx, hx⟩ := ev_get (spec_RxOk_ev l hn hkl); have CN := q_ hr; have CL := q_ hc; have HX := q_ hx
  obtain ⟨gx, hgx⟩ : ∃ gx, w.heap.size = gx := ⟨_, rfl⟩
  have BX : J0 ((w.alloc (.cells #[.slice A0 l.length c0] 29)).heap[gx]? = some (.cells #[.slice A0 l.length c0] 29 (0, 0))) := ⟨by rw [← hgx]; exact blk_new w _⟩
  have HB := q_ (below_alloc (Below.refl w.heap.size w) (.cells #[.slice A0 l.length c0] 29))
  obtain ⟨tx, htx⟩ : ∃ tx : ByteArray, (⟨#[]⟩ : ByteArray) = tx := ⟨_, rfl⟩
  have ht : tx.size = 0 := by rw [← htx]; rfl
  rw [htx]
  clear hr hc hx htx
  cases hrx : rxB l with
  | false =>
    rw [hrx] at HX
    clear hrx
    go_enter Try.func67, Try.ntmps67
    go_wp2_with (first | ((with_reducible refine gate_dst (N := 11) rfl ?_); refine Kd.R_lit (Kd.int .i64) _ 2 ?hg (N := 11) ?hd (xs := ([] : List Int)) (inner := []) (ok := fun _ => True) (okp := fun _ => True) ?hr ?hp (fun _ hk => hk) trivial (Below.refl _ _) (Nat.le_refl _) (by simp) ?_; (case hd => rfl); (case hg => rfl); (case hr => first | (go_simp; done) | (go_simp; rfl)); (case hp => exact (Reps.none _ _)); intro v1 w1 ho hb hg_ hnew_; clear hg_ hnew_; have nBX := q_ (blk_below BX.o hb); have HO := q_ (Kd.R_lower ho (below_size HB.o)); have nHB := q_ (below_step HB.o hb); clear BX HB ho hb; have BX := nBX; have HB := nHB; clear nBX nHB; have hx0 : w1.cell? ⟨gx, 0, none⟩ = some (.slice A0 l.length c0) := (blk_cell BX.o 0).trans rfl) | (go_at_call 59; refine (spec_RxOk.calls kx A0 c0 l false _ (Kd.C_below CN.o (by repeat (first | (with_reducible exact HB.o) | apply below_alloc | apply pw_below_drewN | apply below_drew1))) CL.o HX.o).mono ?_; rintro e w3 ⟨rfl, hb3⟩; have nBX := q_ (blk_below (by (with_reducible repeat (first | refine blk_drewN ?_ _ | refine blk_drew ?_)); exact BX.o) hb3); have nHB := q_ (below_step (by repeat (first | (with_reducible exact HB.o) | apply below_alloc | apply pw_below_drewN | apply below_drew1)) hb3); have nO := q_ (Kd.R_below (ra_ HO.o) hb3); clear BX HB HO hb3; have BX := nBX; have HB := nHB; have HO := nO; clear nBX nHB nO; have hx0 : w3.cell? ⟨gx, 0, none⟩ = some (.slice A0 l.length c0) := (blk_cell BX.o 0).trans rfl) | (go_at_call 89; refine (spec_l1In.calls 0 0 0 true _ rfl).mono ?_; rintro e w4 ⟨rfl, ⟨nd, rfl⟩⟩))
    go_ret
    subst hgx
    exact ⟨_, rfl, by simpa using HO.o, by repeat (first | (with_reducible exact HB.o) | apply below_alloc | apply pw_below_drewN | apply below_drew1)⟩
  | true =>
    rw [hrx] at HX
    obtain ⟨hl1, hl3, hok⟩ := rxB_parts hrx; clear hrx
    obtain ⟨res, hres⟩ : ∃ res : List Int, (if (true && nullE l (l.length - 1)) = true then [0] else []) = res := ⟨_, rfl⟩
    rw [hres]
    have HRES := q_ hres; clear hres
    go_enter Try.func67, Try.ntmps67
    go_wp2_with (first | ((with_reducible refine gate_dst (N := 11) rfl ?_); refine Kd.R_lit (Kd.int .i64) _ 2 ?hg (N := 11) ?hd (xs := ([] : List Int)) (inner := []) (ok := fun _ => True) (okp := fun _ => True) ?hr ?hp (fun _ hk => hk) trivial (Below.refl _ _) (Nat.le_refl _) (by simp) ?_; (case hd => rfl); (case hg => rfl); (case hr => first | (go_simp; done) | (go_simp; rfl)); (case hp => exact (Reps.none _ _)); intro v1 w1 ho hb hg_ hnew_; clear hg_ hnew_; have nBX := q_ (blk_below BX.o hb); have HO := q_ (Kd.R_lower ho (below_size HB.o)); have nHB := q_ (below_step HB.o hb); clear BX HB ho hb; have BX := nBX; have HB := nHB; clear nBX nHB; have hx0 : w1.cell? ⟨gx, 0, none⟩ = some (.slice A0 l.length c0) := (blk_cell BX.o 0).trans rfl) | (go_at_call 59; refine (spec_RxOk.calls kx A0 c0 l true _ (Kd.C_below CN.o (by repeat (first | (with_reducible exact HB.o) | apply below_alloc | apply pw_below_drewN | apply below_drew1))) CL.o HX.o).mono ?_; rintro e w3 ⟨rfl, hb3⟩; have nBX := q_ (blk_below (by (with_reducible repeat (first | refine blk_drewN ?_ _ | refine blk_drew ?_)); exact BX.o) hb3); have nHB := q_ (below_step (by repeat (first | (with_reducible exact HB.o) | apply below_alloc | apply pw_below_drewN | apply below_drew1)) hb3); have nO := q_ (Kd.R_below (ra_ HO.o) hb3); clear BX HB HO hb3; have BX := nBX; have HB := nHB; have HO := nO; clear nBX nHB nO; have hx0 : w3.cell? ⟨gx, 0, none⟩ = some (.slice A0 l.length c0) := (blk_cell BX.o 0).trans rfl) | (go_at_call 89; refine (spec_l1In.calls 0 0 0 true _ rfl).mono ?_; rintro e w4 ⟨rfl, ⟨nd, rfl⟩⟩))
    clear hx0; replace BX := q_ (blk_drewN BX.o nd); replace HB := q_ (pw_below_drewN HB.o nd); replace HO := q_ (Kd.R_drewN HO.o nd)
    generalize hW : w3.drewN nd = W at *
    clear hW; have BX1 := q_ (blk_drew BX.o); have HB1 := q_ (below_drew1 HB.o); have HO1 := q_ (Kd.R_drew HO.o)
    have hmul : wrap64 ((l.length : Int) * wrap64 1) = (l.length : Int) := by rw [wrap_id (x := 1) (by omega) (by omega), Int.mul_one]; exact wrap_id (by omega) (by omega)
    have hwl : IntKind.i64.wrap (l.length : Int) = (l.length : Int) := by rw [i64_w]; exact wrap_id (by omega) (by omega)
    refine start_ (n := 13) (S := fun w' => w'.cell? ⟨gx, 0, none⟩ = some (.slice A0 l.length c0)) (ds := []) (bb 13 0) (by kernel_rfl) rfl rfl (by exact (blk_cell BX.o 0).trans rfl) (fun hHeld => ?_)
    generalize hW1 : W.drew = W1 at BX1 HB1 HO1 hHeld ⊢
    refine pure_ (i := 1) (N := (some 29)) (v := ?_) (a' := ?_) (bb 13 2) rfl rfl (by kernel_rfl) (fun _ _ _ h => h) (Or.inl ⟨by rfl, ?_⟩) ?_ ?_
    rotate_left
    · intro w'
      go_simp
      with_reducible rfl
    rotate_left
    · simp only [Act.put, List.setIfInBounds_toArray, List.set_cons_zero, List.set_cons_succ, i64_w, i32_w]
      rfl
    refine pure_ (i := 2) (N := (some 30)) (v := ?_) (a' := ?_) (bb 13 6) rfl rfl (by kernel_rfl) (fun _ _ _ h => h) (Or.inl ⟨by rfl, ?_⟩) ?_ ?_
    rotate_left
    · intro w'
      go_simp
      with_reducible rfl
    rotate_left
    · simp only [Act.put, List.setIfInBounds_toArray, List.set_cons_zero, List.set_cons_succ, i64_w, i32_w]
      rfl
    refine pure_ (i := 5) (N := (some 33)) (v := ?_) (a' := ?_) (bb 13 38) rfl rfl (by kernel_rfl) (fun _ _ _ h => h) (Or.inl ⟨by rfl, ?_⟩) ?_ ?_
    rotate_left
    · intro w'
      go_simp
      with_reducible rfl
    rotate_left
    · simp only [Act.put, List.setIfInBounds_toArray, List.set_cons_zero, List.set_cons_succ, i64_w, i32_w]
      rfl
    refine pure_ (i := 6) (N := (some 34)) (v := ?_) (a' := ?_) (bb 13 102) rfl rfl (by kernel_rfl) (fun _ _ _ h => h) (Or.inl ⟨by rfl, ?_⟩) ?_ ?_
    rotate_left
    · intro w'
      go_simp
      with_reducible rfl
    rotate_left
    · simp only [Act.put, List.setIfInBounds_toArray, List.set_cons_zero, List.set_cons_succ, i64_w, i32_w]
      rfl
    refine pure_ (i := 7) (N := (some 35)) (v := ?_) (a' := ?_) (bb 13 230) rfl rfl (by kernel_rfl) (fun _ _ _ h => h) (Or.inl ⟨by rfl, ?_⟩) ?_ ?_
    rotate_left
    · intro w'
      go_simp
      with_reducible rfl
    rotate_left
    · simp only [Act.put, List.setIfInBounds_toArray, List.set_cons_zero, List.set_cons_succ, i64_w, i32_w]
      rfl
    refine take_ (i := 0) (N := (some 28)) (v := ?_) (a' := ?_) (bb 13 231) rfl rfl (by kernel_rfl) (fun _ _ _ h => h) (Or.inl ⟨by rfl, ?_⟩) hHeld ?_ ?_
    rotate_left
    · rintro w' s0
      go_simp
      with_reducible rfl
    rotate_left
    · simp only [Act.put, List.setIfInBounds_toArray, List.set_cons_zero, List.set_cons_succ, i64_w, i32_w]
      rfl
    refine take_ (i := 3) (N := (some 31)) (v := ?_) (a' := ?_) (bb 13 239) rfl rfl (by kernel_rfl) (fun _ _ _ h => h) (Or.inl ⟨by rfl, ?_⟩) hHeld ?_ ?_
    rotate_left
    · rintro w' s0
      go_simp
      with_reducible rfl
    rotate_left
    · simp only [Act.put, List.setIfInBounds_toArray, List.set_cons_zero, List.set_cons_succ, i64_w, i32_w]
      rfl
    refine pure_ (i := 4) (N := (some 32)) (v := ?_) (a' := ?_) (bb 13 255) rfl rfl (by kernel_rfl) (fun _ _ _ h => h) (Or.inl ⟨by rfl, ?_⟩) ?_ ?_
    rotate_left
    · intro w'
      go_simp
      with_reducible rfl
    rotate_left
    · simp only [Act.put, List.setIfInBounds_toArray, List.set_cons_zero, List.set_cons_succ, i64_w, i32_w]
      rfl
    refine pure_ (i := 8) (N := (some 36)) (v := ?_) (a' := ?_) (bb 13 511) rfl rfl (by kernel_rfl) (fun _ _ _ h => h) (Or.inl ⟨by rfl, ?_⟩) ?_ ?_
    rotate_left
    · intro w'
      go_simp
      with_reducible rfl
    rotate_left
    · simp only [Act.put, List.setIfInBounds_toArray, List.set_cons_zero, List.set_cons_succ, i64_w, i32_w]
      rfl
    refine one_ (i := 9) (N := (some 37)) (bb 13 1023) rfl rfl (by kernel_rfl) (by decide) (fun K hK => ?_)
    rw [hmul]
    refine Kd.R_make_step (Kd.scalar (fun (_ : Unit) => Value.slice none 0 0) (fun _ => rfl)) (w0 := W1) W1.heap.size 124 (by rfl) (N := 37) rfl 162 _ _ rfl (l.length : Int) rfl rfl Try.underlying162 (.slice none 0 0) 24 (by kernel_rfl) rfl (by decide) (by omega) () (ok := fun _ => True) (okp := fun _ => True) rfl (fun _ hk => hk) trivial (by omega) (by simp; omega) (Below.refl _ _) (Nat.le_refl _) ?_
    intro v2 w2 ho hb hgr hat
    rw [Int.toNat_natCast] at ho
    obtain ⟨gg, cg, rfl, hgg0, _, cs, hC⟩ := Kd.R_form ho (by simp; omega)
    have hlen0 : (List.replicate l.length ()).length = l.length := by simp
    have hrow : ∀ k, k < l.length → cs[k]? = some (.slice none 0 0) := fun k hk => by have h := (Kd.R_cell () ho (k : Int) (by omega) (by rw [hlen0]; omega)).1; rw [Int.toNat_natCast, blk_cell hC k] at h; exact h
    rw [hlen0] at ho ⊢
    have hcg := (Kd.R_reads' ho).2.1; have HO2 := q_ (Kd.R_below HO1.o hb)
    have HGG2 : J0 (w.heap.size ≤ gg) := ⟨Nat.le_trans HB1.o.size hgg0⟩
    have HB2 := q_ (below_step HB1.o hb); have BX2 := q_ (blk_below BX1.o hb); have HC := q_ hC; have HRW := q_ hrow; have HCG := q_ hcg; have HGG := q_ hgg0
    refine hK.out _ _ (by exact (blk_cell BX2.o 0).trans rfl) (fun hHeld => ?_)
    clear hK K; refine no_ (some 37) ?_
    refine pure_ (i := 10) (N := (some 38)) (v := ?_) (a' := ?_) (bb 13 2047) rfl rfl (by kernel_rfl) (fun _ _ _ h => h) (Or.inl ⟨by rfl, ?_⟩) ?_ ?_
    rotate_left
    · intro w'
      go_simp
      with_reducible rfl
    rotate_left
    · simp only [Act.put, List.setIfInBounds_toArray, List.set_cons_zero, List.set_cons_succ, i64_w, i32_w]
      rfl
    refine one_ (i := 11) (N := (some 39)) (bb 13 4095) rfl rfl (by kernel_rfl) (by decide) (fun K hK => ?_)
    refine value_ (w1 := ?_) (v := ?_) (by rfl) rfl ?_ ?_
    rotate_left 2
    · go_simp
      constructor
      · rfl
      · rfl
    refine hK.out _ _ (by exact (World.cell?_alloc_lt _ _ _ (World.block_lt_of_cell? _ _ hHeld)).trans hHeld) (fun hHeld => ?_)
    clear hK K; refine no_ (some 39) ?_
    refine pure_ (i := 12) (N := (some 8)) (v := ?_) (a' := ?_) (bb 13 8191) rfl rfl (by kernel_rfl) (fun _ _ _ h => h) (Or.inl ⟨by rfl, ?_⟩) ?_ ?_
    rotate_left
    · intro w'
      go_simp
      with_reducible rfl
    rotate_left
    · simp only [Act.put, List.setIfInBounds_toArray, List.set_cons_zero, List.set_cons_succ, i64_w, i32_w]
      rfl
    refine done_ (by kernel_rfl) ?_
    have hgm0 : w.heap.size ≤ w2.heap.size := HB2.o.size
    have HM : J0 (Memo w w2.heap.size gg A0 c0 l tx (nullE l) (w2.alloc (.cells #[.slice A0 l.length c0, .string tx, .slice (some ⟨gg, 0, none⟩) l.length cg] 164))) := ⟨⟨cg, cs, blk_new w2 _, HCG.o, hgm0, HGG2.o, blk_alloc HC.o _, fun k hk => ⟨_, HRW.o k hk, .inl rfl⟩⟩⟩
    have HB3 := q_ (below_alloc HB2.o (.cells #[.slice A0 l.length c0, .string tx, .slice (some ⟨gg, 0, none⟩) l.length cg] 164)); have HO3 := q_ (Kd.R_alloc HO2.o (.cells #[.slice A0 l.length c0, .string tx, .slice (some ⟨gg, 0, none⟩) l.length cg] 164)); have BX3 := q_ (blk_alloc BX2.o (.cells #[.slice A0 l.length c0, .string tx, .slice (some ⟨gg, 0, none⟩) l.length cg] 164)); have HC3 := q_ (blk_alloc HC.o (.cells #[.slice A0 l.length c0, .string tx, .slice (some ⟨gg, 0, none⟩) l.length cg] 164)); clear hC hrow hcg hgg0 ho hb hgr hat hHeld HB1 BX1 HO1 HB2 BX2 HO2 HC HRW HCG BX HB HO
    obtain ⟨gm, hgm⟩ : ∃ gm, w2.heap.size = gm := ⟨_, rfl⟩
    generalize hW3 : w2.alloc (.cells #[.slice A0 l.length c0, .string tx, .slice (some ⟨gg, 0, none⟩) l.length cg] 164) = W3 at *
    clear hW3
    simp only [hgm] at HM ⊢
    have hcalls := (ends_all (gm := gm) (gg := gg) (cn := c0) ht (by omega) CN.o hok l.length (l.length - 1) (by omega) (by omega)) W3 HM.o HB3.o
    rw [show ((l.length - 1 : Nat) : Int) = (l.length : Int) - 1 by omega] at hcalls
    have HCS := q_ hcalls
    have hx0 : W3.cell? ⟨gx, 0, none⟩ = some (.slice A0 l.length c0) := (blk_cell BX3.o 0).trans rfl
    have hws : IntKind.i64.wrap ((l.length : Int) - 1) = (l.length : Int) - 1 := by rw [i64_w]; exact wrap_id (by omega) (by omega)
    clear hcalls
    generalize nullE l (l.length - 1) = b at *
    go_wp2_with (go_at_call 121; refine HCS.o.mono ?_; rintro e w5 ⟨v5, rfl, hR5, hM5, hK5, hB5⟩; obtain ⟨g5, c5, rfl, hc5⟩ := Row.form hR5; have HR5 := q_ hR5; have HB5 := q_ hB5; have HO5 := q_ (Kd.R_mono (Kd.R_step (Kd.R_types HO3.o HC3.o (by decide)) (fun k ho hlt => hK5.2 k hlt ho.2)) (ok' := fun _ => True) (fun _ _ => trivial)); clear hR5 hM5 hK5 hB5)
    go_loopg [7, 10] 2 (fun gk_ v7 v10 wr => ∃ (kk : Nat), v10 = .int .i64 (kk : Int) ∧ kk ≤ 1 ∧ 2 - kk ≤ gk_ ∧ J0 (Kd.R (Kd.int .i64) 2 wr w.heap.size (fun _ => True) v7 (if kk = 0 then [] else if b then [0] else [])) ∧ J0 (kk = 0 → Row w wr gg (.slice (some ⟨g5, 0, none⟩) 1 c5) b) ∧ J0 (Below w.heap.size w wr))
    case atStart => exact ⟨0, rfl, by omega, by omega, ⟨by simpa using HO5.o⟩, ⟨fun _ => HR5.o⟩, HB5⟩
    case round =>
      clear HO5 HR5 HB5; obtain ⟨kk, rfl, hkk, hgk, HO, HR, HB⟩ := hrel
      obtain rfl | rfl : kk = 0 ∨ kk = 1 := by omega
      · have hx5 := Row.cell (HR.o rfl)
        replace HO : J0 (Kd.R (Kd.int .i64) 2 wr w.heap.size (fun _ => True) u7 []) := ⟨by simpa using HO.o⟩
        obtain ⟨A7, c7, rfl⟩ := Kd.R_slice HO.o
        rw [show ([] : List Int).length = 0 from rfl] at HO ⊢
        clear HR
        cases b with
        | false =>
          go_wp2_with fail
          go_roundg 1
          case measure => omega
          case rel => exact ⟨1, rfl, by omega, by omega, ⟨by simpa using HO.o⟩, ⟨fun h => absurd h (by omega)⟩, HB⟩
        | true =>
          go_wp2_with ((with_reducible refine gate_builtin (b := .append) (xs := #[.tmp 57, .tmp 59]) rfl ?_); at_builtin; refine Kd.R_append (Kd.int .i64) (w0 := w) w.heap.size rfl (.tmp 57) (.tmp 59) 56 2 (.int .i64 0) 8 rfl Try.underlying56 (by kernel_rfl) rfl (by decide) (by omega) (.slice A7 0 c7) ([] : List Int) 0 [.int .i64 0] (fun _ => True) (fun _ => False) rfl rfl ?aP (fun _ hk => hk.elim) (fun _ _ => trivial) HO.o HB.o (below_size HB.o) (by simp) ?_; (case aP => exact rfl); intro v8 w8 ho hb hgr hat; have HO8 := q_ ho; have HB8 := q_ hb; clear ho hb hgr hat)
          go_roundg 1
          case measure => omega
          case rel => exact ⟨1, rfl, by omega, by omega, ⟨by simpa using HO8.o⟩, ⟨fun h => absurd h (by omega)⟩, HB8⟩
      · go_wp2_with fail
        go_ret
        first | exact ⟨_, rfl, by rw [← HRES.o]; simpa using HO.o, HB.o⟩ | (subst hgx; exact ⟨_, rfl, by rw [← HRES.o]; simpa using HO.o, HB.o⟩)
end Go.Proofs.Ytijmhelacmjggaa.P
namespace Go.Proofs.Ytijmhelacmjggaa.P
open Go.RowKit Go.Proofs.YtijmhelacmjggaaW.PrintWords Go.Proofs.YtijmhelacmjggaaW.PrintLast Go.Proofs.YtijmhelacmjggaaW.PrintMore
attribute [local go_sem] max2_int min2_int max_two min_two max_three min_three max_four min_four
set_option linter.unusedVariables false
set_option linter.unusedSimpArgs false
/-! ### spec_l1Has: function 66 -/
def spec_l1Has.l0 : Nat → List Int → Int → Int → Option (Bool)
 | 0, _, _, _ => none
 | k + 1, x0, x1, x5 => if x5 < (x0.length : Int) then (if 0 ≤ x5 then (if (rd x0 x5) = x1 then (some true) else (spec_l1Has.l0 k x0 x1 (wrap64 (x5 + 1)))) else (none)) else (some false)
def spec_l1Has.f (k : Nat) (l0 : List Int) (a1 : Int) : Option (Bool) := spec_l1Has.l0 k l0 a1 0
theorem spec_l1Has.calls (k : Nat) (A0 : Option Addr) (c0 : Nat) (l0 : List Int) (a1 : Int) (r : Bool) (w : World) (hr0 : Kd.C (Kd.int .i64) w A0 l0.length l0) (hc0 : l0.length ≤ c0) (h : spec_l1Has.f k l0 a1 = some r) :
  Calls Try.prog 66 #[.slice A0 l0.length c0, .int .i64 a1] w fun e w' => e = .returned (.bool r) ∧ Drawn0 w w' := by
 have HR0 := q_ hr0; have HC0 := q_ hc0; clear hr0 hc0
 have H : (spec_l1Has.l0 k l0 a1 0) = some r := h
 clear h
 have H' := q_ H
 clear H
 go_enter Try.func66, Try.ntmps66
 go_wp2
 go_loopg [5] k (fun kq v5 w' => ∃ (x5_1 : Int), v5 = .int .i64 x5_1 ∧ J0 (spec_l1Has.l0 kq l0 a1 x5_1 = some r) ∧ J0 (kq ≤ k) ∧ Drawn0 w w')
 case atStart => exact ⟨(0), rs_, H', ⟨Nat.le_refl _⟩, by repeat (first | exact Drawn0.refl _ | apply Drawn0.step)⟩
 case round =>
  clear H'
  obtain ⟨x5_1, rfl, HA, HK1, ⟨m1, rfl⟩⟩ := hrel
  cases gk with
  | zero => exact absurd HA.o (by simp [spec_l1Has.l0])
  | succ k1 =>
   have H := HA.o; clear HA
   simp only [spec_l1Has.l0] at H
   by_cases c3 : x5_1 < (l0.length : Int)
   ·rw [if_pos c3] at H; have c3b0 := dt_ c3; clear c3
    by_cases c4 : 0 ≤ x5_1
    ·rw [if_pos c4] at H; have c4b0 := dt_ c4; clear c4
     by_cases c5 : (rd l0 x5_1) = a1
     ·rw [if_pos c5] at H
      have c5b0 : ((rd l0 x5_1) == a1) = true := beq_iff_eq.mpr c5
      have c5b1 : ((rd l0 x5_1) != a1) = false := bne_eq_false_iff_eq.mpr c5
      clear c5; obtain rfl := Option.some.inj H
      have p101 : 0 ≤ (x5_1 : Int) := of_decide_eq_true as_
      have q101 : x5_1 < (l0.length : Int) := of_decide_eq_true as_
      obtain ⟨ad101, e101, hx101_0⟩ := Kd.at_int HR0.o x5_1 p101 q101
      cases e101
      replace p101 := eq_true p101; replace q101 := eq_true q101
      go_wp2
      go_ret
      exact ⟨by first | rfl | (simp; done) | (simp [*]; done), by repeat (first | exact Drawn0.refl _ | apply Drawn0.step)⟩
     ·rw [if_neg c5] at H
      have c5b0 : ((rd l0 x5_1) == a1) = false := beq_eq_false_iff_ne.mpr c5
      have c5b1 : ((rd l0 x5_1) != a1) = true := bne_iff_ne.mpr c5
      have H' := q_ H
      clear H
      have p101 : 0 ≤ (x5_1 : Int) := of_decide_eq_true as_
      have q101 : x5_1 < (l0.length : Int) := of_decide_eq_true as_
      obtain ⟨ad101, e101, hx101_0⟩ := Kd.at_int HR0.o x5_1 p101 q101
      cases e101
      replace p101 := eq_true p101; replace q101 := eq_true q101
      go_wp2
      go_roundg k1
      case measure => have := HK1.o; omega
      case rel => exact ⟨(wrap64 (x5_1 + 1)), rs_, H', ⟨by have := HK1.o; omega⟩, by repeat (first | exact Drawn0.refl _ | apply Drawn0.step)⟩
    ·rw [if_neg c4] at H
     exact absurd H (by simp)
   ·rw [if_neg c3] at H; have c3b0 := df_ c3; clear c3; obtain rfl := Option.some.inj H
    go_wp2
    go_ret
    exact ⟨by first | rfl | (simp; done) | (simp [*]; done), by repeat (first | exact Drawn0.refl _ | apply Drawn0.step)⟩
end Go.Proofs.Ytijmhelacmjggaa.P
namespace Go.Proofs.Ytijmhelacmjggaa.P
open Go.RowKit Go.Shelf Go.Proofs.YtijmhelacmjggaaW.PrintWords Go.Proofs.YtijmhelacmjggaaW.PrintLast Go.Proofs.YtijmhelacmjggaaW.PrintMore Go.Proofs.YtijmhelacmjggaaEv
set_option linter.unusedVariables false
set_option linter.unusedSimpArgs false
theorem has_zero (b : Bool) : ∃ k, spec_l1Has.f k (if b then [0] else []) 0 = some b := by
  refine ⟨4, ?_⟩
  cases b <;> simp [spec_l1Has.f, spec_l1Has.l0, rd]
theorem nullable_hand (A0 : Option Addr) (c0 : Nat) (l : List S156) (w : World) (hn : l.length ≤ 1048576) (hr : Kd.C k156 w A0 l.length l) (hc : l.length ≤ c0) :
    Calls Try.prog 17 #[.agg #[.slice A0 l.length c0]] w fun e w' => e = .returned (.bool (rxB l && nullE l (l.length - 1))) ∧ Below w.heap.size w w' := by
  have hkl : ∀ x ∈ l, x.f2.length ≤ 9223372036854775807 := by
    intro x hx
    obtain ⟨i, hi, rfl⟩ := List.getElem_of_mem hx
    obtain ⟨_, _, _, _, _, _, _, _, _, _, _, _, _, _, h⟩ := at_T156 hr (i : Int) (by omega) (by omega)
    have h2 := h.2.1
    have e : rd_T156 l (i : Int) = l[i] := by simp [rd_T156, hi]
    rw [e] at h2
    exact h2
  have HB := q_ (below_alloc (Below.refl w.heap.size w) (.cells #[.slice A0 l.length c0] 29))
  have HC := q_ (endsAt_hand A0 c0 l (w.alloc (.cells #[.slice A0 l.length c0] 29)) hn hkl (Kd.C_below hr HB.o) hc)
  generalize (rxB l && nullE l (l.length - 1)) = b at *
  have HZ := has_zero b
  generalize (if b then [0] else [] : List Int) = lst at *
  obtain ⟨k_, hk_⟩ := HZ
  have HZ := q_ hk_
  clear hkl hr hc hk_
  go_enter Try.func17, Try.ntmps17
  go_wp2_with (first | (go_at_call 67; refine HC.o.mono ?_; rintro e w1 ⟨v1, rfl, ho, hb⟩; obtain ⟨A1, c1, rfl⟩ := Kd.R_slice ho; have HO := q_ ho; have HB1 := q_ (below_step HB.o hb); clear ho hb) | (go_at_call 66; refine (spec_l1Has.calls k_ A1 c1 lst 0 b _ (Kd.R_reads' HO.o).2.2 (Kd.R_reads' HO.o).2.1 HZ.o).mono ?_; rintro e w2 ⟨rfl, ⟨nd, rfl⟩⟩))
  go_ret
  exact ⟨rfl, by repeat (first | (with_reducible exact HB1.o) | apply pw_below_drewN | apply below_drew1)⟩
end Go.Proofs.Ytijmhelacmjggaa.P
namespace Go.Proofs.Ytijmhelacmjggaa.P
open Go.RowKit Go.Proofs.YtijmhelacmjggaaW.PrintWords Go.Proofs.YtijmhelacmjggaaW.PrintLast Go.Proofs.YtijmhelacmjggaaW.PrintMore
attribute [local go_sem] max2_int min2_int max_two min_two max_three min_three max_four min_four
set_option linter.unusedVariables false
set_option linter.unusedSimpArgs false
/-! ### spec_Nullable: function 17 -/
def spec_Nullable.f (l0_0 : List (S156)) : Option (Bool) := if l0_0.length ≤ 1048576 then some (rxB l0_0 && nullE l0_0 (l0_0.length - 1)) else none
theorem spec_Nullable.calls (A0_0 : Option Addr) (c0_0 : Nat) (l0_0 : List (S156)) (r : Bool) (w : World) (hr0_0 : Kd.C k156 w A0_0 l0_0.length l0_0) (hc0_0 : l0_0.length ≤ c0_0) (h : spec_Nullable.f l0_0 = some r) :
    Calls Try.prog 17 #[.agg #[.slice A0_0 l0_0.length c0_0]] w fun e w' => e = .returned (.bool r) ∧ Below w.heap.size w w' := by
  unfold spec_Nullable.f at h
  by_cases hp : l0_0.length ≤ 1048576
  · rw [if_pos hp] at h
    obtain rfl := Option.some.inj h
    exact nullable_hand A0_0 c0_0 l0_0 w hp hr0_0 hc0_0
  · rw [if_neg hp] at h
    exact absurd h (by simp)
/-! ### spec_ModeAt: function 76 -/
def spec_ModeAt.l0 : Nat → ByteArray → Int → List (S108) → Option (Int)
 | 0, _, _, _ => none
 | k + 1, x1, x5, x102000 => if x5 < (x102000.length : Int) then (if 0 ≤ x5 then (if ((rd_T108 x102000 x5).f0).toList = x1.toList then (some x5) else (spec_ModeAt.l0 k x1 (wrap64 (x5 + 1)) x102000)) else (none)) else (some (-1))
def spec_ModeAt.f (k : Nat) (l0_0 : List (S108)) (a1 : ByteArray) : Option (Int) := spec_ModeAt.l0 k a1 0 l0_0
theorem spec_ModeAt.calls (k : Nat) (A0_0 : Option Addr) (c0_0 : Nat) (l0_0 : List (S108)) (a1 : ByteArray) (r : Int) (w : World) (hr0_0 : Kd.C k108 w A0_0 l0_0.length l0_0) (hc0_0 : l0_0.length ≤ c0_0) (h : spec_ModeAt.f k l0_0 a1 = some r) :
  Calls Try.prog 76 #[.agg #[.slice A0_0 l0_0.length c0_0], .string a1] w fun e w' => e = .returned (.int .i64 r) ∧ Below w.heap.size w w' := by
 have hu46 := Try.underlying46; have HR0_0 := q_ hr0_0; have HC0_0 := q_ hc0_0; clear hr0_0 hc0_0; have HB := q_ (Below.refl w.heap.size w)
 have H : (spec_ModeAt.l0 k a1 0 l0_0) = some r := h
 clear h
 have H' := q_ H
 clear H
 go_enter Try.func76, Try.ntmps76
 go_wp2_with (first | ((with_reducible refine gate_dst (N := 2) rfl ?_); refine bx_ 2 #[.slice A0_0 l0_0.length c0_0] 46 ?_; intro gb101 hg w3 hbox hb; have BK101 := q_ (hbox); have GW101 := ge_ hg HB; have GE101 := GW101; replace HB := sb_ HB hb; clear hb hbox hg))
 go_loopg [5] k (fun kq v5 w' => ∃ (x5_1 : Int), v5 = .int .i64 x5_1 ∧ J0 (spec_ModeAt.l0 kq a1 x5_1 l0_0 = some r) ∧ J0 (kq ≤ k) ∧ J0 (w'.heap[gb101]? = some (.cells #[(.slice A0_0 l0_0.length c0_0)] 46 (0, 0))) ∧ J0 (Below w.heap.size w w'))
 case atStart => exact ⟨(0), rs_, H', ⟨Nat.le_refl _⟩, ⟨bk_ BK101.o⟩, ⟨be1_ HB.o GE101.o⟩⟩
 case round =>
  clear H'; obtain ⟨x5_1, rfl, HA, HK1, BK101, HB⟩ := hrel
  cases gk with
  | zero => exact absurd HA.o (by simp [spec_ModeAt.l0])
  | succ k1 =>
   have H := HA.o; clear HA
   simp only [spec_ModeAt.l0] at H
   by_cases c4 : x5_1 < (l0_0.length : Int)
   ·rw [if_pos c4] at H; have c4b0 := dt_ c4; clear c4
    by_cases c5 : 0 ≤ x5_1
    ·rw [if_pos c5] at H; have c5b0 := dt_ c5; clear c5
     by_cases c6 : ((rd_T108 l0_0 x5_1).f0).toList = a1.toList
     ·rw [if_pos c6] at H
      have c6b0 : (((rd_T108 l0_0 x5_1).f0).toList == a1.toList) = true := beq_iff_eq.mpr c6
      have c6b1 : (((rd_T108 l0_0 x5_1).f0).toList != a1.toList) = false := bne_eq_false_iff_eq.mpr c6
      clear c6; obtain rfl := Option.some.inj H; obtain ⟨hcz7_0, hfz7_0⟩ := d1_ BK101
      have p102 : 0 ≤ (x5_1 : Int) := of_decide_eq_true as_
      have q102 : x5_1 < (l0_0.length : Int) := of_decide_eq_true as_
      obtain ⟨ad102, A102_1, c102_1, e102, hx102_0, hx102_1, hl102_1, hi102_1⟩ := at_T108 HR0_0.o x5_1 p102 q102
      cases e102
      replace hx102_0 := mv_ HB.o hx102_0; replace hx102_1 := mv_ HB.o hx102_1; have HR102_1 := q_ hi102_1; have HC102_1 := q_ hl102_1; clear hi102_1 hl102_1; replace p102 := eq_true p102; replace q102 := eq_true q102
      go_wp2
      go_ret
      exact ⟨rt_, be1_ HB.o GE101.o⟩
     ·rw [if_neg c6] at H
      have c6b0 : (((rd_T108 l0_0 x5_1).f0).toList == a1.toList) = false := beq_eq_false_iff_ne.mpr c6
      have c6b1 : (((rd_T108 l0_0 x5_1).f0).toList != a1.toList) = true := bne_iff_ne.mpr c6
      have H' := q_ H
      clear H; obtain ⟨hcz8_0, hfz8_0⟩ := d1_ BK101
      have p102 : 0 ≤ (x5_1 : Int) := of_decide_eq_true as_
      have q102 : x5_1 < (l0_0.length : Int) := of_decide_eq_true as_
      obtain ⟨ad102, A102_1, c102_1, e102, hx102_0, hx102_1, hl102_1, hi102_1⟩ := at_T108 HR0_0.o x5_1 p102 q102
      cases e102
      replace hx102_0 := mv_ HB.o hx102_0; replace hx102_1 := mv_ HB.o hx102_1; have HR102_1 := q_ hi102_1; have HC102_1 := q_ hl102_1; clear hi102_1 hl102_1; replace p102 := eq_true p102; replace q102 := eq_true q102
      go_wp2
      go_roundg k1
      case measure => have := HK1.o; omega
      case rel => exact ⟨(wrap64 (x5_1 + 1)), rs_, H', ⟨by have := HK1.o; omega⟩, ⟨bk_ BK101.o⟩, ⟨be1_ HB.o GE101.o⟩⟩
    ·rw [if_neg c5] at H
     exact absurd H (by simp)
   ·rw [if_neg c4] at H; have c4b0 := df_ c4; clear c4; obtain rfl := Option.some.inj H; obtain ⟨hcz9_0, hfz9_0⟩ := d1_ BK101
    go_wp2
    go_ret
    exact ⟨rt_, be1_ HB.o GE101.o⟩
/-! ### spec_l5Rule: function 77 -/
def spec_l5Rule.j0 : Nat → Bool → List (S108) → ByteArray → List (S156) → Bool → Int → ByteArray → Option (Bool)
 | 0, _, _, _, _, _, _, _ => none
 | k + 1, x25, x102000, x103000, x103001, x103002, x103003, x103004 => if x25 = true then (some false) else (if x103003 = 1 then ((spec_ModeAt.f k x102000 x103004).bind fun t107 => (some (decide (t107 ≥ 0)))) else (if x103003 = 2 then ((spec_ModeAt.f k x102000 x103004).bind fun t108 => (some (decide (t108 ≥ 0)))) else (some (x103004.toList == ([] : List UInt8)))))
def spec_l5Rule.f (k : Nat) (l0_0 : List (S108)) (a1_0 : ByteArray) (l1_1 : List (S156)) (a1_2 : Bool) (a1_3 : Int) (a1_4 : ByteArray) : Option (Bool) := (spec_l1Name.f k a1_0).bind fun t103 => (if t103 = true then ((spec_RxOk.f k l1_1).bind fun t104 => (if t104 = true then ((spec_Nullable.f l1_1).bind fun t105 => (if t105 = true then (spec_l5Rule.j0 k true l0_0 a1_0 l1_1 a1_2 a1_3 a1_4) else ((spec_l1In.f a1_3 0 3).bind fun t106 => (spec_l5Rule.j0 k (!t106) l0_0 a1_0 l1_1 a1_2 a1_3 a1_4)))) else (spec_l5Rule.j0 k true l0_0 a1_0 l1_1 a1_2 a1_3 a1_4))) else (spec_l5Rule.j0 k true l0_0 a1_0 l1_1 a1_2 a1_3 a1_4))
theorem spec_l5Rule.calls (k : Nat) (A0_0 : Option Addr) (c0_0 : Nat) (l0_0 : List (S108)) (a1_0 : ByteArray) (A1_1 : Option Addr) (c1_1 : Nat) (l1_1 : List (S156)) (a1_2 : Bool) (a1_3 : Int) (a1_4 : ByteArray) (r : Bool) (w : World) (hr0_0 : Kd.C k108 w A0_0 l0_0.length l0_0) (hc0_0 : l0_0.length ≤ c0_0) (hr1_1 : Kd.C k156 w A1_1 l1_1.length l1_1) (hc1_1 : l1_1.length ≤ c1_1) (h : spec_l5Rule.f k l0_0 a1_0 l1_1 a1_2 a1_3 a1_4 = some r) :
  Calls Try.prog 77 #[.agg #[.slice A0_0 l0_0.length c0_0], .agg #[.string a1_0, .slice A1_1 l1_1.length c1_1, .bool a1_2, .int .i64 a1_3, .string a1_4]] w fun e w' => e = .returned (.bool r) ∧ Below w.heap.size w w' := by
 have hu46 := Try.underlying46; have hu113 := Try.underlying113; have hu29 := Try.underlying29; have HR0_0 := q_ hr0_0; have HC0_0 := q_ hc0_0; clear hr0_0 hc0_0; have HR1_1 := q_ hr1_1; have HC1_1 := q_ hc1_1; clear hr1_1 hc1_1; have HB := q_ (Below.refl w.heap.size w)
 have H : ((spec_l1Name.f k a1_0).bind fun t103 => (if t103 = true then ((spec_RxOk.f k l1_1).bind fun t104 => (if t104 = true then ((spec_Nullable.f l1_1).bind fun t105 => (if t105 = true then (spec_l5Rule.j0 k true l0_0 a1_0 l1_1 a1_2 a1_3 a1_4) else ((spec_l1In.f a1_3 0 3).bind fun t106 => (spec_l5Rule.j0 k (!t106) l0_0 a1_0 l1_1 a1_2 a1_3 a1_4)))) else (spec_l5Rule.j0 k true l0_0 a1_0 l1_1 a1_2 a1_3 a1_4))) else (spec_l5Rule.j0 k true l0_0 a1_0 l1_1 a1_2 a1_3 a1_4))) = some r := h
 clear h; have HC3 := q_ H; clear H
 go_enter Try.func77, Try.ntmps77
 go_upto_region 1 with (first | ((with_reducible refine gate_dst (N := 2) rfl ?_); refine bx_ 2 #[.slice A0_0 l0_0.length c0_0] 46 ?_; intro gb101 hg w4 hbox hb; have BK101 := q_ (hbox); have GW101 := ge_ hg HB; have GE101 := GW101; replace HB := sb_ HB hb; clear hb hbox hg) | ((with_reducible refine gate_dst (N := 3) rfl ?_); refine bx_ 3 #[.string a1_0, .slice A1_1 l1_1.length c1_1, .bool a1_2, .int .i64 a1_3, .string a1_4] 113 ?_; intro gb102 hg w5 hbox hb; have BK102 := q_ (hbox); have GW102 := ge1_ hg HB GE101; have GE102 := GW102; have NB101_102 := nl_ hg BK101; have NB102_101 := ng_ hg BK101; replace BK101 := lb_ BK101 hb; replace HB := sb1_ HB GE101 hb; clear hb hbox hg))
 (try simp only [Act.put, List.setIfInBounds_toArray, List.set_cons_zero, List.set_cons_succ])
 go_cut [25] (fun v25 wc => ∃ (kq : Nat) (x25_2 : Bool), v25 = .bool x25_2 ∧ J0 (spec_l5Rule.j0 kq x25_2 l0_0 a1_0 l1_1 a1_2 a1_3 a1_4 = some r) ∧ J0 (kq ≤ k) ∧ J0 (wc.heap[gb101]? = some (.cells #[(.slice A0_0 l0_0.length c0_0)] 46 (0, 0))) ∧ J0 (wc.heap[gb102]? = some (.cells #[.string a1_0, (.slice A1_1 l1_1.length c1_1), .bool a1_2, .int .i64 a1_3, .string a1_4] 113 (0, 0))) ∧ J0 (Below w.heap.size w wc))
 case first =>
  have H := HC3.o; clear HC3; obtain ⟨t103, A6, H⟩ := ob_ H
  by_cases c7 : t103 = true
  ·subst c7; rw [if_pos rfl] at H; obtain ⟨t104, A8, H⟩ := ob_ H
   by_cases c9 : t104 = true
   ·subst c9; rw [if_pos rfl] at H; obtain ⟨t105, A10, H⟩ := ob_ H
    by_cases c11 : t105 = true
    ·subst c11; rw [if_pos rfl] at H
     have H' := q_ H
     clear H; have hnb12 := NB102_101.o; have hnc12 := NB101_102.o; obtain ⟨hcz13_0, hcz13_1, hcz13_2, hcz13_3, hcz13_4, hfz13_0, hfz13_1, hfz13_2, hfz13_3, hfz13_4⟩ := d5_ BK102
     go_wp2_with (first | ((with_reducible refine gate_callee (f := 75) rfl ?_); refine gl_ (some 7) rfl rfl Try.func75 #[.string a1_0] ?_; (with_reducible refine (spec_l1Name.calls k a1_0 true _ A6.o).mono ?_); rintro e w' ⟨rfl, ⟨nd, rfl⟩⟩; refine ⟨_, rfl, ?_⟩) | (go_at_call 59; (with_reducible refine (spec_RxOk.calls k _ _ l1_1 true _ ?side1 ?side2 A8.o).mono ?_); (case side1 => repeat (first | exact (Kd.C_below HR1_1.o (be2_ HB.o GE101.o GE102.o)) | (with_reducible refine Kd.C_alloc ?_ _) | (with_reducible refine Kd.C_drewN ?_ _) | (with_reducible refine Kd.C_drew ?_))); (case side2 => exact HC1_1.o); rintro e w14 ⟨rfl, hb⟩; replace BK101 := lb_ BK101 hb; replace BK102 := lb_ BK102 hb; replace HB := sb2_ HB GE101 GE102 hb; (try clear hb); obtain ⟨hcz15_0, hcz15_1, hcz15_2, hcz15_3, hcz15_4, hfz15_0, hfz15_1, hfz15_2, hfz15_3, hfz15_4⟩ := d5_ BK102) | (go_at_call 17; (with_reducible refine (spec_Nullable.calls _ _ l1_1 true _ ?side1 ?side2 A10.o).mono ?_); (case side1 => exact Kd.C_below HR1_1.o (be_ HB.o)); (case side2 => exact HC1_1.o); rintro e w16 ⟨rfl, hb⟩; replace BK101 := lb_ BK101 hb; replace BK102 := lb_ BK102 hb; replace HB := sb2_ HB GE101 GE102 hb; (try clear hb)))
     go_meet
     case rel => exact ⟨_, (true), rs_, H', ⟨by first | omega | exact Nat.le_refl _⟩, ⟨bk_ BK101.o⟩, ⟨bk_ BK102.o⟩, ⟨be2_ HB.o GE101.o GE102.o⟩⟩
    ·replace c11 := Bool.eq_false_iff.mpr c11; subst c11; rw [if_neg nft_] at H; obtain ⟨t106, A17, H⟩ := ob_ H
     have H' := q_ H
     clear H; have hnb18 := NB102_101.o; have hnc18 := NB101_102.o; obtain ⟨hcz19_0, hcz19_1, hcz19_2, hcz19_3, hcz19_4, hfz19_0, hfz19_1, hfz19_2, hfz19_3, hfz19_4⟩ := d5_ BK102
     go_wp2_with (first | ((with_reducible refine gate_callee (f := 75) rfl ?_); refine gl_ (some 7) rfl rfl Try.func75 #[.string a1_0] ?_; (with_reducible refine (spec_l1Name.calls k a1_0 true _ A6.o).mono ?_); rintro e w' ⟨rfl, ⟨nd, rfl⟩⟩; refine ⟨_, rfl, ?_⟩) | (go_at_call 59; (with_reducible refine (spec_RxOk.calls k _ _ l1_1 true _ ?side1 ?side2 A8.o).mono ?_); (case side1 => repeat (first | exact (Kd.C_below HR1_1.o (be2_ HB.o GE101.o GE102.o)) | (with_reducible refine Kd.C_alloc ?_ _) | (with_reducible refine Kd.C_drewN ?_ _) | (with_reducible refine Kd.C_drew ?_))); (case side2 => exact HC1_1.o); rintro e w20 ⟨rfl, hb⟩; replace BK101 := lb_ BK101 hb; replace BK102 := lb_ BK102 hb; replace HB := sb2_ HB GE101 GE102 hb; (try clear hb); obtain ⟨hcz21_0, hcz21_1, hcz21_2, hcz21_3, hcz21_4, hfz21_0, hfz21_1, hfz21_2, hfz21_3, hfz21_4⟩ := d5_ BK102) | (go_at_call 17; (with_reducible refine (spec_Nullable.calls _ _ l1_1 false _ ?side1 ?side2 A10.o).mono ?_); (case side1 => exact Kd.C_below HR1_1.o (be_ HB.o)); (case side2 => exact HC1_1.o); rintro e w22 ⟨rfl, hb⟩; replace BK101 := lb_ BK101 hb; replace BK102 := lb_ BK102 hb; replace HB := sb2_ HB GE101 GE102 hb; (try clear hb); obtain ⟨hcz23_0, hcz23_1, hcz23_2, hcz23_3, hcz23_4, hfz23_0, hfz23_1, hfz23_2, hfz23_3, hfz23_4⟩ := d5_ BK102) | (go_at_call 89; (with_reducible refine (spec_l1In.calls a1_3 0 3 t106 _ A17.o).mono ?_); rintro e w' ⟨rfl, ⟨nd, rfl⟩⟩))
     go_meet
     case rel => exact ⟨_, (!t106), rs_, H', ⟨by first | omega | exact Nat.le_refl _⟩, ⟨bk_ BK101.o⟩, ⟨bk_ BK102.o⟩, ⟨be2_ HB.o GE101.o GE102.o⟩⟩
   ·replace c9 := Bool.eq_false_iff.mpr c9; subst c9; rw [if_neg nft_] at H
    have H' := q_ H
    clear H; have hnb24 := NB102_101.o; have hnc24 := NB101_102.o; obtain ⟨hcz25_0, hcz25_1, hcz25_2, hcz25_3, hcz25_4, hfz25_0, hfz25_1, hfz25_2, hfz25_3, hfz25_4⟩ := d5_ BK102
    go_wp2_with (first | ((with_reducible refine gate_callee (f := 75) rfl ?_); refine gl_ (some 7) rfl rfl Try.func75 #[.string a1_0] ?_; (with_reducible refine (spec_l1Name.calls k a1_0 true _ A6.o).mono ?_); rintro e w' ⟨rfl, ⟨nd, rfl⟩⟩; refine ⟨_, rfl, ?_⟩) | (go_at_call 59; (with_reducible refine (spec_RxOk.calls k _ _ l1_1 false _ ?side1 ?side2 A8.o).mono ?_); (case side1 => repeat (first | exact (Kd.C_below HR1_1.o (be2_ HB.o GE101.o GE102.o)) | (with_reducible refine Kd.C_alloc ?_ _) | (with_reducible refine Kd.C_drewN ?_ _) | (with_reducible refine Kd.C_drew ?_))); (case side2 => exact HC1_1.o); rintro e w26 ⟨rfl, hb⟩; replace BK101 := lb_ BK101 hb; replace BK102 := lb_ BK102 hb; replace HB := sb2_ HB GE101 GE102 hb; (try clear hb)))
    go_meet
    case rel => exact ⟨_, (true), rs_, H', ⟨by first | omega | exact Nat.le_refl _⟩, ⟨bk_ BK101.o⟩, ⟨bk_ BK102.o⟩, ⟨be2_ HB.o GE101.o GE102.o⟩⟩
  ·replace c7 := Bool.eq_false_iff.mpr c7; subst c7; rw [if_neg nft_] at H
   have H' := q_ H
   clear H; have hnb27 := NB102_101.o; have hnc27 := NB101_102.o; obtain ⟨hcz28_0, hcz28_1, hcz28_2, hcz28_3, hcz28_4, hfz28_0, hfz28_1, hfz28_2, hfz28_3, hfz28_4⟩ := d5_ BK102
   go_wp2_with (first | ((with_reducible refine gate_callee (f := 75) rfl ?_); refine gl_ (some 7) rfl rfl Try.func75 #[.string a1_0] ?_; (with_reducible refine (spec_l1Name.calls k a1_0 false _ A6.o).mono ?_); rintro e w' ⟨rfl, ⟨nd, rfl⟩⟩; refine ⟨_, rfl, ?_⟩))
   go_meet
   case rel => exact ⟨_, (true), rs_, H', ⟨by first | omega | exact Nat.le_refl _⟩, ⟨bk_ BK101.o⟩, ⟨bk_ BK102.o⟩, ⟨be2_ HB.o GE101.o GE102.o⟩⟩
 case rest =>
  clear HC3; (try clear c7); (try clear c9); (try clear c11); (try clear hcz13_0); (try clear hcz13_1); (try clear hcz13_2); (try clear hcz13_3); (try clear hcz13_4); (try clear hcz15_0); (try clear hcz15_1); (try clear hcz15_2); (try clear hcz15_3); (try clear hcz15_4); (try clear hcz19_0); (try clear hcz19_1); (try clear hcz19_2); (try clear hcz19_3); (try clear hcz19_4); (try clear hcz21_0); (try clear hcz21_1); (try clear hcz21_2); (try clear hcz21_3); (try clear hcz21_4); (try clear hcz23_0); (try clear hcz23_1); (try clear hcz23_2); (try clear hcz23_3); (try clear hcz23_4); (try clear hcz25_0); (try clear hcz25_1); (try clear hcz25_2); (try clear hcz25_3); (try clear hcz25_4); (try clear hcz28_0); (try clear hcz28_1); (try clear hcz28_2); (try clear hcz28_3); (try clear hcz28_4); (try clear hfz13_0); (try clear hfz13_1); (try clear hfz13_2); (try clear hfz13_3); (try clear hfz13_4); (try clear hfz15_0); (try clear hfz15_1); (try clear hfz15_2); (try clear hfz15_3); (try clear hfz15_4); (try clear hfz19_0); (try clear hfz19_1); (try clear hfz19_2); (try clear hfz19_3); (try clear hfz19_4); (try clear hfz21_0); (try clear hfz21_1); (try clear hfz21_2); (try clear hfz21_3); (try clear hfz21_4); (try clear hfz23_0); (try clear hfz23_1); (try clear hfz23_2); (try clear hfz23_3); (try clear hfz23_4); (try clear hfz25_0); (try clear hfz25_1); (try clear hfz25_2); (try clear hfz25_3); (try clear hfz25_4); (try clear hfz28_0); (try clear hfz28_1); (try clear hfz28_2); (try clear hfz28_3); (try clear hfz28_4); obtain ⟨kq, x25_2, rfl, HA, HJ2, BK101, BK102, HB⟩ := hcut
  cases kq with
  | zero => exact absurd HA.o (by simp [spec_l5Rule.j0])
  | succ kj2 =>
   have H := HA.o; clear HA
   simp only [spec_l5Rule.j0] at H
   by_cases c29 : x25_2 = true
   ·subst c29; rw [if_pos rfl] at H; obtain rfl := Option.some.inj H
    go_wp2
    go_ret
    exact ⟨rt_, be2_ HB.o GE101.o GE102.o⟩
   ·replace c29 := Bool.eq_false_iff.mpr c29; subst c29; rw [if_neg nft_] at H
    by_cases c30 : a1_3 = 1
    ·rw [if_pos c30] at H
     have c30b0 : (a1_3 == 1) = true := beq_iff_eq.mpr c30
     have c30b1 : (a1_3 != 1) = false := bne_eq_false_iff_eq.mpr c30
     clear c30; obtain ⟨t107, A31, H⟩ := ob_ H; obtain rfl := Option.some.inj H; have hnb32 := NB102_101.o; have hnc32 := NB101_102.o; obtain ⟨hcz33_0, hcz33_1, hcz33_2, hcz33_3, hcz33_4, hfz33_0, hfz33_1, hfz33_2, hfz33_3, hfz33_4⟩ := d5_ BK102; obtain ⟨hcz34_0, hfz34_0⟩ := d1_ BK101
     go_wp2_with (first | ((with_reducible refine gate_callee (f := 76) rfl ?_); refine gl_ (some 37) rfl rfl Try.func76 #[.agg #[.slice A0_0 l0_0.length c0_0], .string a1_4] ?_; (with_reducible refine (spec_ModeAt.calls kj2 _ _ l0_0 a1_4 t107 _ ?side1 ?side2 A31.o).mono ?_); (case side1 => exact Kd.C_below HR0_0.o (be_ HB.o)); (case side2 => exact HC0_0.o); rintro e w35 ⟨rfl, hb⟩; refine ⟨_, rfl, ?_⟩; replace BK101 := lb_ BK101 hb; replace BK102 := lb_ BK102 hb; replace HB := sb2_ HB GE101 GE102 hb; (try clear hb)))
     go_ret
     exact ⟨rt_, be2_ HB.o GE101.o GE102.o⟩
    ·rw [if_neg c30] at H
     have c30b0 : (a1_3 == 1) = false := beq_eq_false_iff_ne.mpr c30
     have c30b1 : (a1_3 != 1) = true := bne_iff_ne.mpr c30
     by_cases c36 : a1_3 = 2
     ·rw [if_pos c36] at H
      have c36b0 : (a1_3 == 2) = true := beq_iff_eq.mpr c36
      have c36b1 : (a1_3 != 2) = false := bne_eq_false_iff_eq.mpr c36
      clear c36; obtain ⟨t108, A37, H⟩ := ob_ H; obtain rfl := Option.some.inj H; have hnb38 := NB102_101.o; have hnc38 := NB101_102.o; obtain ⟨hcz39_0, hcz39_1, hcz39_2, hcz39_3, hcz39_4, hfz39_0, hfz39_1, hfz39_2, hfz39_3, hfz39_4⟩ := d5_ BK102; obtain ⟨hcz40_0, hfz40_0⟩ := d1_ BK101
      go_wp2_with (first | ((with_reducible refine gate_callee (f := 76) rfl ?_); refine gl_ (some 37) rfl rfl Try.func76 #[.agg #[.slice A0_0 l0_0.length c0_0], .string a1_4] ?_; (with_reducible refine (spec_ModeAt.calls kj2 _ _ l0_0 a1_4 t108 _ ?side1 ?side2 A37.o).mono ?_); (case side1 => exact Kd.C_below HR0_0.o (be_ HB.o)); (case side2 => exact HC0_0.o); rintro e w41 ⟨rfl, hb⟩; refine ⟨_, rfl, ?_⟩; replace BK101 := lb_ BK101 hb; replace BK102 := lb_ BK102 hb; replace HB := sb2_ HB GE101 GE102 hb; (try clear hb)))
      go_ret
      exact ⟨rt_, be2_ HB.o GE101.o GE102.o⟩
     ·rw [if_neg c36] at H
      have c36b0 : (a1_3 == 2) = false := beq_eq_false_iff_ne.mpr c36
      have c36b1 : (a1_3 != 2) = true := bne_iff_ne.mpr c36
      obtain rfl := Option.some.inj H; have hnb42 := NB102_101.o; have hnc42 := NB101_102.o; obtain ⟨hcz43_0, hcz43_1, hcz43_2, hcz43_3, hcz43_4, hfz43_0, hfz43_1, hfz43_2, hfz43_3, hfz43_4⟩ := d5_ BK102
      go_wp2
      go_ret
      exact ⟨rt_, be2_ HB.o GE101.o GE102.o⟩
/-! ### spec_GrammarOk: function 26 -/
mutual
def spec_GrammarOk.j0 : Nat → Bool → List (S108) → Option (Bool)
 | 0, _, _ => none
 | k + 1, x15, x102000 => if x15 = true then (some false) else (spec_GrammarOk.l0 k 0 x102000)
def spec_GrammarOk.l0 : Nat → Int → List (S108) → Option (Bool)
 | 0, _, _ => none
 | k + 1, x3, x102000 => if x3 < (x102000.length : Int) then (if 0 ≤ x3 then ((spec_l1Name.f k ((rd_T108 x102000 x3).f0)).bind fun t104 => (if t104 = true then ((spec_ModeAt.f k x102000 ((rd_T108 x102000 x3).f0)).bind fun t105 => (if t105 = x3 then (if (((rd_T108 x102000 x3).f1).length : Int) < 1 then (spec_GrammarOk.j2 k x3 true x102000 ((rd_T108 x102000 x3).f0) ((rd_T108 x102000 x3).f1)) else (spec_GrammarOk.j2 k x3 (decide ((((rd_T108 x102000 x3).f1).length : Int) > 40)) x102000 ((rd_T108 x102000 x3).f0) ((rd_T108 x102000 x3).f1))) else (spec_GrammarOk.j2 k x3 true x102000 ((rd_T108 x102000 x3).f0) ((rd_T108 x102000 x3).f1)))) else (spec_GrammarOk.j2 k x3 true x102000 ((rd_T108 x102000 x3).f0) ((rd_T108 x102000 x3).f1)))) else (none)) else (some true)
def spec_GrammarOk.j2 : Nat → Int → Bool → List (S108) → ByteArray → List (S113) → Option (Bool)
 | 0, _, _, _, _, _ => none
 | k + 1, x3, x51, x102000, x104000, x104001 => if x51 = true then (some false) else (spec_GrammarOk.l1 k x3 0 x102000 x104000 x104001)
def spec_GrammarOk.l1 : Nat → Int → Int → List (S108) → ByteArray → List (S113) → Option (Bool)
 | 0, _, _, _, _, _ => none
 | k + 1, x3, x5, x102000, x104000, x104001 => if x5 < (x104001.length : Int) then (if 0 ≤ x5 then ((spec_l5Rule.f k x102000 ((rd_T113 x104001 x5).f0) ((rd_T113 x104001 x5).f1.f0) ((rd_T113 x104001 x5).f2) ((rd_T113 x104001 x5).f3) ((rd_T113 x104001 x5).f4)).bind fun t107 => (if t107 = true then (spec_GrammarOk.l1 k x3 (wrap64 (x5 + 1)) x102000 x104000 x104001) else (some false))) else (none)) else (spec_GrammarOk.l0 k (wrap64 (x3 + 1)) x102000)
end
def spec_GrammarOk.f (k : Nat) (l0_0 : List (S108)) : Option (Bool) := if (l0_0.length : Int) < 1 then (spec_GrammarOk.j0 k true l0_0) else (spec_GrammarOk.j0 k (decide ((l0_0.length : Int) > 12)) l0_0)
def spec_GrammarOk.T12 : Bool × List (List Nat × List Nat) := (true, [([], []), ([], []), ([1], [1]), ([], []), ([2, 3], [2, 3]), ([4], [4]), ([0, 5], [0, 5]), ([6], [6])])
def spec_GrammarOk.B12 : List Nat := [0, 0, 2, 0, 14, 30, 63, 127]
theorem spec_GrammarOk.tab12 : rtab .any (opsOf Try.f26 12) = spec_GrammarOk.T12 := by kernel_rfl
theorem spec_GrammarOk.bits12 : waitsOk spec_GrammarOk.T12.2 spec_GrammarOk.B12 = true := by kernel_rfl
theorem spec_GrammarOk.calls (k : Nat) (A0_0 : Option Addr) (c0_0 : Nat) (l0_0 : List (S108)) (r : Bool) (w : World) (hr0_0 : Kd.C k108 w A0_0 l0_0.length l0_0) (hc0_0 : l0_0.length ≤ c0_0) (h : spec_GrammarOk.f k l0_0 = some r) :
  Calls Try.prog 26 #[.agg #[.slice A0_0 l0_0.length c0_0]] w fun e w' => e = .returned (.bool r) ∧ Below w.heap.size w w' := by
 have hu46 := Try.underlying46; have hu108 := Try.underlying108; have hu113 := Try.underlying113; have HR0_0 := q_ hr0_0; have HC0_0 := q_ hc0_0; clear hr0_0 hc0_0; have HB := q_ (Below.refl w.heap.size w)
 have H : (if (l0_0.length : Int) < 1 then (spec_GrammarOk.j0 k true l0_0) else (spec_GrammarOk.j0 k (decide ((l0_0.length : Int) > 12)) l0_0)) = some r := h
 clear h; have HC2 := q_ H; clear H
 go_enter Try.func26, Try.ntmps26
 go_upto_region 1 with (first | ((with_reducible refine gate_dst (N := 1) rfl ?_); (try (refine gate_guard (by rfl) ?_; dsimp only)); refine bx_ 1 #[.slice A0_0 l0_0.length c0_0] 46 ?_; intro gb101 hg w3 hbox hb; have BK101 := q_ (hbox); have GW101 := ge_ hg HB; have GE101 := GW101; replace HB := sb_ HB hb; clear hb hbox hg))
 (try simp only [Act.put, List.setIfInBounds_toArray, List.set_cons_zero, List.set_cons_succ])
 go_cut [15] (fun v15 wc => ∃ (kq : Nat) (x15_1 : Bool), v15 = .bool x15_1 ∧ J0 (spec_GrammarOk.j0 kq x15_1 l0_0 = some r) ∧ J0 (kq ≤ k) ∧ J0 (wc.heap[gb101]? = some (.cells #[(.slice A0_0 l0_0.length c0_0)] 46 (0, 0))) ∧ J0 (Below w.heap.size w wc))
 case first =>
  have H := HC2.o; clear HC2
  by_cases c4 : (l0_0.length : Int) < 1
  ·rw [if_pos c4] at H; have c4b0 := dt_ c4
   have c4b1 : decide (l0_0.length < 1) = true := decide_eq_true (by omega)
   clear c4
   (first | rw [c4b0] | (simp only [i64_w, i32_w]; rw [c4b0]) | skip)
   have H' := q_ H
   clear H; obtain ⟨hcz5_0, hfz5_0⟩ := d1_ BK101
   go_wp2
   go_meet
   case rel => exact ⟨_, (true), rs_, H', ⟨by first | omega | exact Nat.le_refl _⟩, ⟨bk_ BK101.o⟩, ⟨be1_ HB.o GE101.o⟩⟩
  ·rw [if_neg c4] at H; have c4b0 := df_ c4
   have c4b1 : decide (l0_0.length < 1) = false := decide_eq_false (by omega)
   clear c4
   (first | rw [c4b0] | (simp only [i64_w, i32_w]; rw [c4b0]) | skip)
   have H' := q_ H
   clear H; obtain ⟨hcz6_0, hfz6_0⟩ := d1_ BK101
   go_wp2
   go_meet
   case rel => exact ⟨_, (decide ((l0_0.length : Int) > 12)), rs_, H', ⟨by first | omega | exact Nat.le_refl _⟩, ⟨bk_ BK101.o⟩, ⟨be1_ HB.o GE101.o⟩⟩
 case rest =>
  clear HC2; (try clear c4); (try clear c4b0); (try clear c4b1); (try clear hcz5_0); (try clear hcz6_0); (try clear hfz5_0); (try clear hfz6_0); obtain ⟨kq, x15_1, rfl, HA, HJ1, BK101, HB⟩ := hcut
  cases kq with
  | zero => exact absurd HA.o (by simp [spec_GrammarOk.j0])
  | succ kj1 =>
   have H := HA.o; clear HA
   simp only [spec_GrammarOk.j0] at H
   by_cases c7 : x15_1 = true
   ·subst c7; rw [if_pos rfl] at H; obtain rfl := Option.some.inj H
    go_wp2
    go_ret
    exact ⟨rt_, be1_ HB.o GE101.o⟩
   ·replace c7 := Bool.eq_false_iff.mpr c7; subst c7; rw [if_neg nft_] at H
    have H' := q_ H
    clear H
    go_wp2
    go_loopg [3] kj1 (fun kq v3 w' => ∃ (x3_2 : Int), v3 = .int .i64 x3_2 ∧ J0 (spec_GrammarOk.l0 kq x3_2 l0_0 = some r) ∧ J0 (kq ≤ kj1) ∧ J0 (w'.heap[gb101]? = some (.cells #[(.slice A0_0 l0_0.length c0_0)] 46 (0, 0))) ∧ J0 (Below w.heap.size w w'))
    case atStart => exact ⟨(0), rs_, H', ⟨Nat.le_refl _⟩, ⟨bk_ BK101.o⟩, ⟨be1_ HB.o GE101.o⟩⟩
    case round =>
     clear H'; (try clear c4); (try clear c4b0); (try clear c4b1); (try clear c7); (try clear hcz5_0); (try clear hcz6_0); (try clear hfz5_0); (try clear hfz6_0); obtain ⟨x3_2, rfl, HA, HK2, BK101, HB⟩ := hrel
     cases gk with
     | zero => exact absurd HA.o (by simp [spec_GrammarOk.l0])
     | succ k2 =>
      have H := HA.o; clear HA
      simp only [spec_GrammarOk.l0] at H
      by_cases c8 : x3_2 < (l0_0.length : Int)
      ·rw [if_pos c8] at H; have c8b0 := dt_ c8; clear c8
       by_cases c9 : 0 ≤ x3_2
       ·rw [if_pos c9] at H; have c9b0 := dt_ c9; clear c9; have HC10 := q_ H; clear H; obtain ⟨hcz11_0, hfz11_0⟩ := d1_ BK101
        have p102 : 0 ≤ (x3_2 : Int) := of_decide_eq_true as_
        have q102 : x3_2 < (l0_0.length : Int) := of_decide_eq_true as_
        obtain ⟨ad102, A102_1, c102_1, e102, hx102_0, hx102_1, hl102_1, hi102_1⟩ := at_T108 HR0_0.o x3_2 p102 q102
        cases e102
        replace hx102_0 := mv_ HB.o hx102_0; replace hx102_1 := mv_ HB.o hx102_1; have HR102_1 := q_ hi102_1; have HC102_1 := q_ hl102_1; clear hi102_1 hl102_1; replace p102 := eq_true p102; replace q102 := eq_true q102
        go_upto_region 7 with (first | ((with_reducible refine gate_dst (N := 4) rfl ?_); (try (refine gate_guard (by rfl) ?_; dsimp only)); refine bx_ 4 #[.string (⟨#[]⟩ : ByteArray), .slice none 0 0] 108 ?_; intro gb103 hg w12 hbox hb; have BK103 := q_ (hbox); have GW103 := ge1_ hg HB GE101; have GE103 := GW103; have NB101_103 := nl_ hg BK101; have NB103_101 := ng_ hg BK101; replace BK101 := lb_ BK101 hb; replace HB := sb1_ HB GE101 hb; clear hb hbox hg; have hnb13 := NB103_101.o; have hnc13 := NB101_103.o; obtain ⟨hcz14_0, hcz14_1, hfz14_0, hfz14_1⟩ := d2_ BK103))
        (try simp only [Act.put, List.setIfInBounds_toArray, List.set_cons_zero, List.set_cons_succ])
        go_cut [51] (fun v51 wc => ∃ (kq : Nat) (x51_9 : Bool), v51 = .bool x51_9 ∧ J0 (spec_GrammarOk.j2 kq x3_2 x51_9 l0_0 ((rd_T108 l0_0 x3_2).f0) ((rd_T108 l0_0 x3_2).f1) = some r) ∧ J0 (kq ≤ k2) ∧ J0 (wc.heap[gb101]? = some (.cells #[(.slice (some ad102) l0_0.length c0_0)] 46 (0, 0))) ∧ J0 (wc.heap[gb103]? = some (.cells #[.string ((rd_T108 l0_0 x3_2).f0), (.slice A102_1 ((rd_T108 l0_0 x3_2).f1).length c102_1)] 108 (0, 0))) ∧ J0 (Below w.heap.size w wc))
        case first =>
         have H := HC10.o; clear HC10; obtain ⟨t104, A15, H⟩ := ob_ H
         by_cases c16 : t104 = true
         ·subst c16; rw [if_pos rfl] at H; obtain ⟨t105, A17, H⟩ := ob_ H
          by_cases c18 : t105 = x3_2
          ·rw [if_pos c18] at H
           have c18b0 : (t105 == x3_2) = true := beq_iff_eq.mpr c18
           have c18b1 : (t105 != x3_2) = false := bne_eq_false_iff_eq.mpr c18
           clear c18
           (first | rw [c18b0] | (simp only [i64_w, i32_w]; rw [c18b0]) | skip)
           by_cases c19 : (((rd_T108 l0_0 x3_2).f1).length : Int) < 1
           ·rw [if_pos c19] at H; have c19b0 := dt_ c19
            have c19b1 : decide (((rd_T108 l0_0 x3_2).f1).length < 1) = true := decide_eq_true (by omega)
            clear c19
            have H' := q_ H
            clear H; have hnb20 := NB103_101.o; have hnc20 := NB101_103.o; obtain ⟨hcz21_0, hcz21_1, hfz21_0, hfz21_1⟩ := d2_ BK103
            go_wp2_with (first | ((with_reducible refine gate_callee (f := 75) rfl ?_); refine gl_ (some 30) rfl rfl Try.func75 #[.string ((rd_T108 l0_0 x3_2).f0)] ?_; (with_reducible refine (spec_l1Name.calls k2 ((rd_T108 l0_0 x3_2).f0) true _ A15.o).mono ?_); rintro e w' ⟨rfl, ⟨nd, rfl⟩⟩; refine ⟨_, rfl, ?_⟩; obtain ⟨hcz22_0, hfz22_0⟩ := d1_ BK101) | (go_at_call 76; (with_reducible refine (spec_ModeAt.calls k2 _ _ l0_0 ((rd_T108 l0_0 x3_2).f0) t105 _ ?side1 ?side2 A17.o).mono ?_); (case side1 => exact Kd.C_below HR0_0.o (be2_ HB.o GE101.o GE103.o)); (case side2 => exact HC0_0.o); rintro e w23 ⟨rfl, hb⟩; replace BK101 := q_ (blk_below (g := gb101) (o := .cells #[.slice (some ad102) l0_0.length c0_0] 46 (0, 0)) (by (with_reducible repeat (first | refine blk_drewN ?_ _ | refine blk_drew ?_ | refine blk_alloc ?_ _)); refine blk_far ?_ NB101_103.o _; (with_reducible repeat (first | refine blk_drewN ?_ _ | refine blk_drew ?_ | refine blk_alloc ?_ _)); refine blk_far ?_ NB101_103.o _; (with_reducible repeat (first | refine blk_drewN ?_ _ | refine blk_drew ?_ | refine blk_alloc ?_ _)); exact BK101.o) hb); replace BK103 := q_ (blk_below (g := gb103) (o := .cells #[.string ((rd_T108 l0_0 x3_2).f0), .slice A102_1 ((rd_T108 l0_0 x3_2).f1).length c102_1] 108 (0, 0)) (by (with_reducible repeat (first | refine blk_drewN ?_ _ | refine blk_drew ?_ | refine blk_alloc ?_ _)); refine blk_put (cs := #[.string ((rd_T108 l0_0 x3_2).f0), .slice none 0 0]) ?_ 1 _ rfl; (with_reducible repeat (first | refine blk_drewN ?_ _ | refine blk_drew ?_ | refine blk_alloc ?_ _)); refine blk_put (cs := #[.string (⟨#[]⟩ : ByteArray), .slice none 0 0]) ?_ 0 _ rfl; (with_reducible repeat (first | refine blk_drewN ?_ _ | refine blk_drew ?_ | refine blk_alloc ?_ _)); exact BK103.o) hb); replace HB := sb2_ HB GE101 GE103 hb; (try clear hb); obtain ⟨hcz24_0, hcz24_1, hfz24_0, hfz24_1⟩ := d2_ BK103))
            go_meet
            case rel => exact ⟨_, (true), rs_, H', ⟨by have := HJ1.o; have := HK2.o; first | omega | exact Nat.le_refl _⟩, ⟨bk_ BK101.o⟩, ⟨bk_ BK103.o⟩, ⟨be2_ HB.o GE101.o GE103.o⟩⟩
           ·rw [if_neg c19] at H; have c19b0 := df_ c19
            have c19b1 : decide (((rd_T108 l0_0 x3_2).f1).length < 1) = false := decide_eq_false (by omega)
            clear c19
            have H' := q_ H
            clear H; have hnb25 := NB103_101.o; have hnc25 := NB101_103.o; obtain ⟨hcz26_0, hcz26_1, hfz26_0, hfz26_1⟩ := d2_ BK103
            go_wp2_with (first | ((with_reducible refine gate_callee (f := 75) rfl ?_); refine gl_ (some 30) rfl rfl Try.func75 #[.string ((rd_T108 l0_0 x3_2).f0)] ?_; (with_reducible refine (spec_l1Name.calls k2 ((rd_T108 l0_0 x3_2).f0) true _ A15.o).mono ?_); rintro e w' ⟨rfl, ⟨nd, rfl⟩⟩; refine ⟨_, rfl, ?_⟩; obtain ⟨hcz27_0, hfz27_0⟩ := d1_ BK101) | (go_at_call 76; (with_reducible refine (spec_ModeAt.calls k2 _ _ l0_0 ((rd_T108 l0_0 x3_2).f0) t105 _ ?side1 ?side2 A17.o).mono ?_); (case side1 => exact Kd.C_below HR0_0.o (be2_ HB.o GE101.o GE103.o)); (case side2 => exact HC0_0.o); rintro e w28 ⟨rfl, hb⟩; replace BK101 := q_ (blk_below (g := gb101) (o := .cells #[.slice (some ad102) l0_0.length c0_0] 46 (0, 0)) (by (with_reducible repeat (first | refine blk_drewN ?_ _ | refine blk_drew ?_ | refine blk_alloc ?_ _)); refine blk_far ?_ NB101_103.o _; (with_reducible repeat (first | refine blk_drewN ?_ _ | refine blk_drew ?_ | refine blk_alloc ?_ _)); refine blk_far ?_ NB101_103.o _; (with_reducible repeat (first | refine blk_drewN ?_ _ | refine blk_drew ?_ | refine blk_alloc ?_ _)); exact BK101.o) hb); replace BK103 := q_ (blk_below (g := gb103) (o := .cells #[.string ((rd_T108 l0_0 x3_2).f0), .slice A102_1 ((rd_T108 l0_0 x3_2).f1).length c102_1] 108 (0, 0)) (by (with_reducible repeat (first | refine blk_drewN ?_ _ | refine blk_drew ?_ | refine blk_alloc ?_ _)); refine blk_put (cs := #[.string ((rd_T108 l0_0 x3_2).f0), .slice none 0 0]) ?_ 1 _ rfl; (with_reducible repeat (first | refine blk_drewN ?_ _ | refine blk_drew ?_ | refine blk_alloc ?_ _)); refine blk_put (cs := #[.string (⟨#[]⟩ : ByteArray), .slice none 0 0]) ?_ 0 _ rfl; (with_reducible repeat (first | refine blk_drewN ?_ _ | refine blk_drew ?_ | refine blk_alloc ?_ _)); exact BK103.o) hb); replace HB := sb2_ HB GE101 GE103 hb; (try clear hb); obtain ⟨hcz29_0, hcz29_1, hfz29_0, hfz29_1⟩ := d2_ BK103))
            go_meet
            case rel => exact ⟨_, (decide ((((rd_T108 l0_0 x3_2).f1).length : Int) > 40)), rs_, H', ⟨by have := HJ1.o; have := HK2.o; first | omega | exact Nat.le_refl _⟩, ⟨bk_ BK101.o⟩, ⟨bk_ BK103.o⟩, ⟨be2_ HB.o GE101.o GE103.o⟩⟩
          ·rw [if_neg c18] at H
           have c18b0 : (t105 == x3_2) = false := beq_eq_false_iff_ne.mpr c18
           have c18b1 : (t105 != x3_2) = true := bne_iff_ne.mpr c18
           (first | rw [c18b0] | (simp only [i64_w, i32_w]; rw [c18b0]) | skip)
           have H' := q_ H
           clear H; have hnb30 := NB103_101.o; have hnc30 := NB101_103.o; obtain ⟨hcz31_0, hcz31_1, hfz31_0, hfz31_1⟩ := d2_ BK103
           go_wp2_with (first | ((with_reducible refine gate_callee (f := 75) rfl ?_); refine gl_ (some 30) rfl rfl Try.func75 #[.string ((rd_T108 l0_0 x3_2).f0)] ?_; (with_reducible refine (spec_l1Name.calls k2 ((rd_T108 l0_0 x3_2).f0) true _ A15.o).mono ?_); rintro e w' ⟨rfl, ⟨nd, rfl⟩⟩; refine ⟨_, rfl, ?_⟩; obtain ⟨hcz32_0, hfz32_0⟩ := d1_ BK101) | (go_at_call 76; (with_reducible refine (spec_ModeAt.calls k2 _ _ l0_0 ((rd_T108 l0_0 x3_2).f0) t105 _ ?side1 ?side2 A17.o).mono ?_); (case side1 => exact Kd.C_below HR0_0.o (be2_ HB.o GE101.o GE103.o)); (case side2 => exact HC0_0.o); rintro e w33 ⟨rfl, hb⟩; replace BK101 := q_ (blk_below (g := gb101) (o := .cells #[.slice (some ad102) l0_0.length c0_0] 46 (0, 0)) (by (with_reducible repeat (first | refine blk_drewN ?_ _ | refine blk_drew ?_ | refine blk_alloc ?_ _)); refine blk_far ?_ NB101_103.o _; (with_reducible repeat (first | refine blk_drewN ?_ _ | refine blk_drew ?_ | refine blk_alloc ?_ _)); refine blk_far ?_ NB101_103.o _; (with_reducible repeat (first | refine blk_drewN ?_ _ | refine blk_drew ?_ | refine blk_alloc ?_ _)); exact BK101.o) hb); replace BK103 := q_ (blk_below (g := gb103) (o := .cells #[.string ((rd_T108 l0_0 x3_2).f0), .slice A102_1 ((rd_T108 l0_0 x3_2).f1).length c102_1] 108 (0, 0)) (by (with_reducible repeat (first | refine blk_drewN ?_ _ | refine blk_drew ?_ | refine blk_alloc ?_ _)); refine blk_put (cs := #[.string ((rd_T108 l0_0 x3_2).f0), .slice none 0 0]) ?_ 1 _ rfl; (with_reducible repeat (first | refine blk_drewN ?_ _ | refine blk_drew ?_ | refine blk_alloc ?_ _)); refine blk_put (cs := #[.string (⟨#[]⟩ : ByteArray), .slice none 0 0]) ?_ 0 _ rfl; (with_reducible repeat (first | refine blk_drewN ?_ _ | refine blk_drew ?_ | refine blk_alloc ?_ _)); exact BK103.o) hb); replace HB := sb2_ HB GE101 GE103 hb; (try clear hb)))
           go_meet
           case rel => exact ⟨_, (true), rs_, H', ⟨by have := HJ1.o; have := HK2.o; first | omega | exact Nat.le_refl _⟩, ⟨bk_ BK101.o⟩, ⟨bk_ BK103.o⟩, ⟨be2_ HB.o GE101.o GE103.o⟩⟩
         ·replace c16 := Bool.eq_false_iff.mpr c16; subst c16; rw [if_neg nft_] at H
          have H' := q_ H
          clear H; have hnb34 := NB103_101.o; have hnc34 := NB101_103.o; obtain ⟨hcz35_0, hcz35_1, hfz35_0, hfz35_1⟩ := d2_ BK103
          go_wp2_with (first | ((with_reducible refine gate_callee (f := 75) rfl ?_); refine gl_ (some 30) rfl rfl Try.func75 #[.string ((rd_T108 l0_0 x3_2).f0)] ?_; (with_reducible refine (spec_l1Name.calls k2 ((rd_T108 l0_0 x3_2).f0) false _ A15.o).mono ?_); rintro e w' ⟨rfl, ⟨nd, rfl⟩⟩; refine ⟨_, rfl, ?_⟩))
          go_meet
          case rel => exact ⟨_, (true), rs_, H', ⟨by have := HJ1.o; have := HK2.o; first | omega | exact Nat.le_refl _⟩, ⟨by (with_reducible repeat (first | refine blk_drewN ?_ _ | refine blk_drew ?_ | refine blk_alloc ?_ _)); refine blk_far ?_ NB101_103.o _; (with_reducible repeat (first | refine blk_drewN ?_ _ | refine blk_drew ?_ | refine blk_alloc ?_ _)); refine blk_far ?_ NB101_103.o _; (with_reducible repeat (first | refine blk_drewN ?_ _ | refine blk_drew ?_ | refine blk_alloc ?_ _)); exact BK101.o⟩, ⟨by (with_reducible repeat (first | refine blk_drewN ?_ _ | refine blk_drew ?_ | refine blk_alloc ?_ _)); refine blk_put (cs := #[.string ((rd_T108 l0_0 x3_2).f0), .slice none 0 0]) ?_ 1 _ rfl; (with_reducible repeat (first | refine blk_drewN ?_ _ | refine blk_drew ?_ | refine blk_alloc ?_ _)); refine blk_put (cs := #[.string (⟨#[]⟩ : ByteArray), .slice none 0 0]) ?_ 0 _ rfl; (with_reducible repeat (first | refine blk_drewN ?_ _ | refine blk_drew ?_ | refine blk_alloc ?_ _)); exact BK103.o⟩, ⟨be2_ HB.o GE101.o GE103.o⟩⟩
        case rest =>
         clear HC10; (try clear c4); (try clear c4b0); (try clear c4b1); (try clear c7); (try clear c8); (try clear c8b0); (try clear c9); (try clear c9b0); (try clear c16); (try clear c18); (try clear c18b0); (try clear c18b1); (try clear c19); (try clear c19b0); (try clear c19b1); (try clear hcz11_0); (try clear hcz14_0); (try clear hcz14_1); (try clear hcz21_0); (try clear hcz21_1); (try clear hcz22_0); (try clear hcz24_0); (try clear hcz24_1); (try clear hcz26_0); (try clear hcz26_1); (try clear hcz27_0); (try clear hcz29_0); (try clear hcz29_1); (try clear hcz31_0); (try clear hcz31_1); (try clear hcz32_0); (try clear hcz35_0); (try clear hcz35_1); (try clear hcz5_0); (try clear hcz6_0); (try clear hfz11_0); (try clear hfz14_0); (try clear hfz14_1); (try clear hfz21_0); (try clear hfz21_1); (try clear hfz22_0); (try clear hfz24_0); (try clear hfz24_1); (try clear hfz26_0); (try clear hfz26_1); (try clear hfz27_0); (try clear hfz29_0); (try clear hfz29_1); (try clear hfz31_0); (try clear hfz31_1); (try clear hfz32_0); (try clear hfz35_0); (try clear hfz35_1); (try clear hfz5_0); (try clear hfz6_0); (try clear hx102_0); (try clear hx102_1); (try clear p102); (try clear q102); obtain ⟨kq, x51_9, rfl, HA, HJ9, BK101, BK103, HB⟩ := hcut
         cases kq with
         | zero => exact absurd HA.o (by simp [spec_GrammarOk.j2])
         | succ kj9 =>
          have H := HA.o; clear HA
          simp only [spec_GrammarOk.j2] at H
          by_cases c36 : x51_9 = true
          ·subst c36; rw [if_pos rfl] at H; obtain rfl := Option.some.inj H
           go_wp2
           go_ret
           exact ⟨rt_, be2_ HB.o GE101.o GE103.o⟩
          ·replace c36 := Bool.eq_false_iff.mpr c36; subst c36; rw [if_neg nft_] at H
           have H' := q_ H
           clear H
           go_wp2
           go_loopg [5] kj9 (fun kq v5 w' => ∃ (x5_4 : Int), v5 = .int .i64 x5_4 ∧ J0 (spec_GrammarOk.l1 kq x3_2 x5_4 l0_0 ((rd_T108 l0_0 x3_2).f0) ((rd_T108 l0_0 x3_2).f1) = some r) ∧ J0 (kq ≤ kj9) ∧ J0 (w'.heap[gb101]? = some (.cells #[(.slice (some ad102) l0_0.length c0_0)] 46 (0, 0))) ∧ J0 (w'.heap[gb103]? = some (.cells #[.string ((rd_T108 l0_0 x3_2).f0), (.slice A102_1 ((rd_T108 l0_0 x3_2).f1).length c102_1)] 108 (0, 0))) ∧ J0 (Below w.heap.size w w'))
           case atStart => exact ⟨(0), rs_, H', ⟨Nat.le_refl _⟩, ⟨bk_ BK101.o⟩, ⟨bk_ BK103.o⟩, ⟨be2_ HB.o GE101.o GE103.o⟩⟩
           case round =>
            clear H'; (try clear c4); (try clear c4b0); (try clear c4b1); (try clear c7); (try clear c8); (try clear c8b0); (try clear c9); (try clear c9b0); (try clear c16); (try clear c18); (try clear c18b0); (try clear c18b1); (try clear c19); (try clear c19b0); (try clear c19b1); (try clear c36); (try clear hcz11_0); (try clear hcz14_0); (try clear hcz14_1); (try clear hcz21_0); (try clear hcz21_1); (try clear hcz22_0); (try clear hcz24_0); (try clear hcz24_1); (try clear hcz26_0); (try clear hcz26_1); (try clear hcz27_0); (try clear hcz29_0); (try clear hcz29_1); (try clear hcz31_0); (try clear hcz31_1); (try clear hcz32_0); (try clear hcz35_0); (try clear hcz35_1); (try clear hcz5_0); (try clear hcz6_0); (try clear hfz11_0); (try clear hfz14_0); (try clear hfz14_1); (try clear hfz21_0); (try clear hfz21_1); (try clear hfz22_0); (try clear hfz24_0); (try clear hfz24_1); (try clear hfz26_0); (try clear hfz26_1); (try clear hfz27_0); (try clear hfz29_0); (try clear hfz29_1); (try clear hfz31_0); (try clear hfz31_1); (try clear hfz32_0); (try clear hfz35_0); (try clear hfz35_1); (try clear hfz5_0); (try clear hfz6_0); (try clear hx102_0); (try clear hx102_1); (try clear p102); (try clear q102); obtain ⟨x5_4, rfl, HA, HK4, BK101, BK103, HB⟩ := hrel
            cases gk with
            | zero => exact absurd HA.o (by simp [spec_GrammarOk.l1])
            | succ k4 =>
             have H := HA.o; clear HA
             simp only [spec_GrammarOk.l1] at H
             by_cases c37 : x5_4 < (((rd_T108 l0_0 x3_2).f1).length : Int)
             ·rw [if_pos c37] at H; have c37b0 := dt_ c37; clear c37
              by_cases c38 : 0 ≤ x5_4
              ·rw [if_pos c38] at H; have c38b0 := dt_ c38; clear c38; obtain ⟨t107, A39, H⟩ := ob_ H
               by_cases c40 : t107 = true
               ·subst c40; rw [if_pos rfl] at H
                have H' := q_ H
                clear H; have hnb41 := NB103_101.o; have hnc41 := NB101_103.o; obtain ⟨hcz42_0, hcz42_1, hfz42_0, hfz42_1⟩ := d2_ BK103
                try go_wp2
                replace BK101 := q_ (blk_drew BK101.o); replace BK103 := q_ (blk_drew BK103.o); replace HB := q_ (below_drew1 HB.o)
                have p106 : 0 ≤ (x5_4 : Int) := of_decide_eq_true as_
                have q106 : x5_4 < (((rd_T108 l0_0 x3_2).f1).length : Int) := of_decide_eq_true as_
                obtain ⟨ad106, A106_1, c106_1, e106, hx106_0, hx106_1, hx106_2, hx106_3, hx106_4, hl106_1, hi106_1⟩ := at_T113 HR102_1.o x5_4 p106 q106; have hw106_4 := hx106_4; have hw106_3 := hx106_3; have hw106_2 := hx106_2; have hw106_1 := hx106_1; have hw106_0 := hx106_0
                cases e106
                replace hx106_0 := mv_ HB.o hx106_0; replace hx106_1 := mv_ HB.o hx106_1; replace hx106_2 := mv_ HB.o hx106_2; replace hx106_3 := mv_ HB.o hx106_3; replace hx106_4 := mv_ HB.o hx106_4; have HR106_1 := q_ hi106_1; have HC106_1 := q_ hl106_1; clear hi106_1 hl106_1; replace p106 := eq_true p106; replace q106 := eq_true q106
                refine start_ (n := 8) (S := fun w' => w'.cell? ⟨gb101, 0, none⟩ = some (.slice (some ad102) l0_0.length c0_0) ∧ w'.cell? ⟨gb103, 0, none⟩ = some (.string ((rd_T108 l0_0 x3_2).f0)) ∧ w'.cell? ⟨gb103, 1, none⟩ = some (.slice (some ad106) ((rd_T108 l0_0 x3_2).f1).length c102_1) ∧ w'.cell? (ad106.add ((x5_4).toNat * 5)) = some (.string ((rd_T113 ((rd_T108 l0_0 x3_2).f1) x5_4).f0)) ∧ w'.cell? ⟨(ad106.add ((x5_4).toNat * 5)).block, (ad106.add ((x5_4).toNat * 5)).off + 1, none⟩ = some (.slice A106_1 ((rd_T113 ((rd_T108 l0_0 x3_2).f1) x5_4).f1.f0).length c106_1) ∧ w'.cell? ⟨(ad106.add ((x5_4).toNat * 5)).block, (ad106.add ((x5_4).toNat * 5)).off + 2, none⟩ = some (.bool ((rd_T113 ((rd_T108 l0_0 x3_2).f1) x5_4).f2)) ∧ w'.cell? ⟨(ad106.add ((x5_4).toNat * 5)).block, (ad106.add ((x5_4).toNat * 5)).off + 3, none⟩ = some (.int .i64 ((rd_T113 ((rd_T108 l0_0 x3_2).f1) x5_4).f3)) ∧ w'.cell? ⟨(ad106.add ((x5_4).toNat * 5)).block, (ad106.add ((x5_4).toNat * 5)).off + 4, none⟩ = some (.string ((rd_T113 ((rd_T108 l0_0 x3_2).f1) x5_4).f4))) (ds := []) (bb 8 0) (by kernel_rfl) rfl rfl ⟨(blk_cell BK101.o 0).trans rfl, (blk_cell BK103.o 0).trans rfl, (blk_cell BK103.o 1).trans rfl, (mv_ HB.o hw106_0), (mv_ HB.o hw106_1), (mv_ HB.o hw106_2), (mv_ HB.o hw106_3), (mv_ HB.o hw106_4)⟩ (fun hHeld => ?_); refine with_tabW spec_GrammarOk.tab12 spec_GrammarOk.bits12 (fun HT_ HW_ => ?_)
                generalize wr.drew = w43 at BK101 BK103 HB HR106_1 hx106_0 hx106_1 hx106_2 hx106_3 hx106_4 hHeld ⊢
                refine pv_ 1 60 2 HT_.o ?_; refine pv_ 3 62 10 HT_.o ?_; refine tv_ 0 59 11 HT_.o HW_.o hHeld ?_; refine tv_ 2 61 15 HT_.o HW_.o hHeld ?_; refine pv_ 4 63 31 HT_.o ?_; refine tv_ 5 64 63 HT_.o HW_.o hHeld ?_
                refine one_ (i := 6) (N := some 65) (bb 8 127) rfl rfl (one_of HT_.o (by kernel_rfl)) (by decide) (fun K hK => ?_)
                refine gs_ Try.func77 #[.agg #[.slice (some ad102) l0_0.length c0_0], .agg #[.string ((rd_T113 ((rd_T108 l0_0 x3_2).f1) x5_4).f0), .slice A106_1 ((rd_T113 ((rd_T108 l0_0 x3_2).f1) x5_4).f1.f0).length c106_1, .bool ((rd_T113 ((rd_T108 l0_0 x3_2).f1) x5_4).f2), .int .i64 ((rd_T113 ((rd_T108 l0_0 x3_2).f1) x5_4).f3), .string ((rd_T113 ((rd_T108 l0_0 x3_2).f1) x5_4).f4)]] ?_
                with_reducible refine (spec_l5Rule.calls k4 _ _ l0_0 ((rd_T113 ((rd_T108 l0_0 x3_2).f1) x5_4).f0) _ _ ((rd_T113 ((rd_T108 l0_0 x3_2).f1) x5_4).f1.f0) ((rd_T113 ((rd_T108 l0_0 x3_2).f1) x5_4).f2) ((rd_T113 ((rd_T108 l0_0 x3_2).f1) x5_4).f3) ((rd_T113 ((rd_T108 l0_0 x3_2).f1) x5_4).f4) true _ ?side1 ?side2 ?side3 ?side4 A39.o).mono ?_
                (case side1 => exact Kd.C_below HR0_0.o (be_ HB.o))
                (case side2 => exact HC0_0.o)
                (case side3 => exact Kd.C_below HR106_1.o (be_ HB.o))
                (case side4 => exact HC106_1.o)
                rintro e w44 ⟨rfl, hb⟩
                refine ⟨_, rfl, ?_⟩; replace BK101 := lb_ BK101 hb; replace BK103 := lb_ BK103 hb; replace HB := sb2_ HB GE101 GE103 hb
                (try clear hb)
                (try clear hb2)
                (try clear hk)
                (try clear hi)
                refine hK.out _ _ ⟨(blk_cell BK101.o 0).trans rfl, (blk_cell BK103.o 0).trans rfl, (blk_cell BK103.o 1).trans rfl, (mv_ HB.o hw106_0), (mv_ HB.o hw106_1), (mv_ HB.o hw106_2), (mv_ HB.o hw106_3), (mv_ HB.o hw106_4)⟩ (fun hHeld => ?_)
                clear hK K; refine no_ (some 65) ?_; refine pv_ 7 66 255 HT_.o ?_
                refine done_ (done_of HT_.o (by kernel_rfl)) ?_
                try go_wp2
                go_roundg k4
                case measure => have := HJ1.o; have := HK2.o; have := HJ9.o; have := HK4.o; omega
                case rel => exact ⟨(wrap64 (x5_4 + 1)), rs_, H', ⟨by have := HJ1.o; have := HK2.o; have := HJ9.o; have := HK4.o; omega⟩, ⟨bk_ BK101.o⟩, ⟨bk_ BK103.o⟩, ⟨be2_ HB.o GE101.o GE103.o⟩⟩
               ·replace c40 := Bool.eq_false_iff.mpr c40; subst c40; rw [if_neg nft_] at H; obtain rfl := Option.some.inj H; have hnb45 := NB103_101.o; have hnc45 := NB101_103.o; obtain ⟨hcz46_0, hcz46_1, hfz46_0, hfz46_1⟩ := d2_ BK103
                try go_wp2
                replace BK101 := q_ (blk_drew BK101.o); replace BK103 := q_ (blk_drew BK103.o); replace HB := q_ (below_drew1 HB.o)
                have p106 : 0 ≤ (x5_4 : Int) := of_decide_eq_true as_
                have q106 : x5_4 < (((rd_T108 l0_0 x3_2).f1).length : Int) := of_decide_eq_true as_
                obtain ⟨ad106, A106_1, c106_1, e106, hx106_0, hx106_1, hx106_2, hx106_3, hx106_4, hl106_1, hi106_1⟩ := at_T113 HR102_1.o x5_4 p106 q106; have hw106_4 := hx106_4; have hw106_3 := hx106_3; have hw106_2 := hx106_2; have hw106_1 := hx106_1; have hw106_0 := hx106_0
                cases e106
                replace hx106_0 := mv_ HB.o hx106_0; replace hx106_1 := mv_ HB.o hx106_1; replace hx106_2 := mv_ HB.o hx106_2; replace hx106_3 := mv_ HB.o hx106_3; replace hx106_4 := mv_ HB.o hx106_4; have HR106_1 := q_ hi106_1; have HC106_1 := q_ hl106_1; clear hi106_1 hl106_1; replace p106 := eq_true p106; replace q106 := eq_true q106
                refine start_ (n := 8) (S := fun w' => w'.cell? ⟨gb101, 0, none⟩ = some (.slice (some ad102) l0_0.length c0_0) ∧ w'.cell? ⟨gb103, 0, none⟩ = some (.string ((rd_T108 l0_0 x3_2).f0)) ∧ w'.cell? ⟨gb103, 1, none⟩ = some (.slice (some ad106) ((rd_T108 l0_0 x3_2).f1).length c102_1) ∧ w'.cell? (ad106.add ((x5_4).toNat * 5)) = some (.string ((rd_T113 ((rd_T108 l0_0 x3_2).f1) x5_4).f0)) ∧ w'.cell? ⟨(ad106.add ((x5_4).toNat * 5)).block, (ad106.add ((x5_4).toNat * 5)).off + 1, none⟩ = some (.slice A106_1 ((rd_T113 ((rd_T108 l0_0 x3_2).f1) x5_4).f1.f0).length c106_1) ∧ w'.cell? ⟨(ad106.add ((x5_4).toNat * 5)).block, (ad106.add ((x5_4).toNat * 5)).off + 2, none⟩ = some (.bool ((rd_T113 ((rd_T108 l0_0 x3_2).f1) x5_4).f2)) ∧ w'.cell? ⟨(ad106.add ((x5_4).toNat * 5)).block, (ad106.add ((x5_4).toNat * 5)).off + 3, none⟩ = some (.int .i64 ((rd_T113 ((rd_T108 l0_0 x3_2).f1) x5_4).f3)) ∧ w'.cell? ⟨(ad106.add ((x5_4).toNat * 5)).block, (ad106.add ((x5_4).toNat * 5)).off + 4, none⟩ = some (.string ((rd_T113 ((rd_T108 l0_0 x3_2).f1) x5_4).f4))) (ds := []) (bb 8 0) (by kernel_rfl) rfl rfl ⟨(blk_cell BK101.o 0).trans rfl, (blk_cell BK103.o 0).trans rfl, (blk_cell BK103.o 1).trans rfl, (mv_ HB.o hw106_0), (mv_ HB.o hw106_1), (mv_ HB.o hw106_2), (mv_ HB.o hw106_3), (mv_ HB.o hw106_4)⟩ (fun hHeld => ?_); refine with_tabW spec_GrammarOk.tab12 spec_GrammarOk.bits12 (fun HT_ HW_ => ?_)
                generalize wr.drew = w47 at BK101 BK103 HB HR106_1 hx106_0 hx106_1 hx106_2 hx106_3 hx106_4 hHeld ⊢
                refine pv_ 1 60 2 HT_.o ?_; refine pv_ 3 62 10 HT_.o ?_; refine tv_ 0 59 11 HT_.o HW_.o hHeld ?_; refine tv_ 2 61 15 HT_.o HW_.o hHeld ?_; refine pv_ 4 63 31 HT_.o ?_; refine tv_ 5 64 63 HT_.o HW_.o hHeld ?_
                refine one_ (i := 6) (N := some 65) (bb 8 127) rfl rfl (one_of HT_.o (by kernel_rfl)) (by decide) (fun K hK => ?_)
                refine gs_ Try.func77 #[.agg #[.slice (some ad102) l0_0.length c0_0], .agg #[.string ((rd_T113 ((rd_T108 l0_0 x3_2).f1) x5_4).f0), .slice A106_1 ((rd_T113 ((rd_T108 l0_0 x3_2).f1) x5_4).f1.f0).length c106_1, .bool ((rd_T113 ((rd_T108 l0_0 x3_2).f1) x5_4).f2), .int .i64 ((rd_T113 ((rd_T108 l0_0 x3_2).f1) x5_4).f3), .string ((rd_T113 ((rd_T108 l0_0 x3_2).f1) x5_4).f4)]] ?_
                with_reducible refine (spec_l5Rule.calls k4 _ _ l0_0 ((rd_T113 ((rd_T108 l0_0 x3_2).f1) x5_4).f0) _ _ ((rd_T113 ((rd_T108 l0_0 x3_2).f1) x5_4).f1.f0) ((rd_T113 ((rd_T108 l0_0 x3_2).f1) x5_4).f2) ((rd_T113 ((rd_T108 l0_0 x3_2).f1) x5_4).f3) ((rd_T113 ((rd_T108 l0_0 x3_2).f1) x5_4).f4) false _ ?side1 ?side2 ?side3 ?side4 A39.o).mono ?_
                (case side1 => exact Kd.C_below HR0_0.o (be_ HB.o))
                (case side2 => exact HC0_0.o)
                (case side3 => exact Kd.C_below HR106_1.o (be_ HB.o))
                (case side4 => exact HC106_1.o)
                rintro e w48 ⟨rfl, hb⟩
                refine ⟨_, rfl, ?_⟩; replace BK101 := lb_ BK101 hb; replace BK103 := lb_ BK103 hb; replace HB := sb2_ HB GE101 GE103 hb
                (try clear hb)
                (try clear hb2)
                (try clear hk)
                (try clear hi)
                refine hK.out _ _ ⟨(blk_cell BK101.o 0).trans rfl, (blk_cell BK103.o 0).trans rfl, (blk_cell BK103.o 1).trans rfl, (mv_ HB.o hw106_0), (mv_ HB.o hw106_1), (mv_ HB.o hw106_2), (mv_ HB.o hw106_3), (mv_ HB.o hw106_4)⟩ (fun hHeld => ?_)
                clear hK K; refine no_ (some 65) ?_; refine pv_ 7 66 255 HT_.o ?_
                refine done_ (done_of HT_.o (by kernel_rfl)) ?_
                try go_wp2
                go_ret
                exact ⟨rt_, be2_ HB.o GE101.o GE103.o⟩
              ·rw [if_neg c38] at H
               exact absurd H (by simp)
             ·rw [if_neg c37] at H; have c37b0 := df_ c37; clear c37
              have H' := q_ H
              clear H; have hnb49 := NB103_101.o; have hnc49 := NB101_103.o; obtain ⟨hcz50_0, hcz50_1, hfz50_0, hfz50_1⟩ := d2_ BK103
              go_wp2
              go_roundg k4
              case measure => have := HJ1.o; have := HK2.o; have := HJ9.o; have := HK4.o; omega
              case rel => exact ⟨(wrap64 (x3_2 + 1)), rs_, H', ⟨by have := HJ1.o; have := HK2.o; have := HJ9.o; have := HK4.o; omega⟩, ⟨bk_ BK101.o⟩, ⟨be2_ HB.o GE101.o GE103.o⟩⟩
       ·rw [if_neg c9] at H
        exact absurd H (by simp)
      ·rw [if_neg c8] at H; have c8b0 := df_ c8; clear c8; obtain rfl := Option.some.inj H; obtain ⟨hcz51_0, hfz51_0⟩ := d1_ BK101
       go_wp2
       go_ret
       exact ⟨rt_, be1_ HB.o GE101.o⟩
end Go.Proofs.Ytijmhelacmjggaa.P
namespace Go.Proofs.Ytijmhelacmjggaa.P
open Go.RowKit Go.Proofs.YtijmhelacmjggaaW.PrintWords Go.Proofs.YtijmhelacmjggaaW.PrintLast Go.Proofs.YtijmhelacmjggaaEv
set_option linter.unusedVariables false
set_option linter.unusedSimpArgs false
def okB (i : Nat) (b : Int) : Bool := decide (97 ≤ b ∧ b ≤ 122) || (decide (i ≠ 0) && decide (48 ≤ b ∧ b ≤ 57))
def okS (b : Int) : Bool := decide (97 ≤ b ∧ b ≤ 122) || decide (48 ≤ b ∧ b ≤ 57)
def nameB (s : ByteArray) : Bool := (List.range s.size).all (fun i => okB i (bt s (i : Int))) && decide (1 ≤ s.size ∧ s.size ≤ 12)
theorem all_range (n : Nat) (p : Nat → Bool) (i : Nat) (h : i < n) : ((List.range n).drop i).all p = (p i && ((List.range n).drop (i + 1)).all p) := by
  rw [all_drop (List.range n) 0 p i (by simpa using h)]
  have : (List.range n).getD i 0 = i := by
    rw [List.getD_eq_getElem?_getD, List.getElem?_eq_getElem (by simpa using h)]
    simp
  rw [this]
theorem impl_isName_ev (s : ByteArray) (hs : s.size ≤ 1048576) : Ev (fun k => impl_isName.f k s) (nameB s) := by
  unfold impl_isName.f nameB
  refine ev_congr (ev_loop s.size (fun k i => impl_isName.l0 k s (s.size : Int) (i : Nat)) (fun i => ((List.range s.size).drop i).all (fun j => okB j (bt s (j : Int))) && decide (1 ≤ s.size ∧ s.size ≤ 12)) ?_ ?_ 0 (by omega)) (by simp)
  · rw [ev_succ]
    simp only [impl_isName.l0, impl_length.f, impl_within_eq, Option.bind_some, ev_ite]
    rw [if_neg (by omega)]
    refine ev_some.2 ?_
    rw [List.drop_eq_nil_of_le (by simp)]
    simp only [List.all_nil, Bool.true_and]
    exact decide_eq_decide.2 (by omega)
  · intro i hi ih
    rw [ev_succ, all_range _ _ _ hi]
    simp only [impl_isName.l0, ev_ite]
    rw [if_pos (by omega), if_pos (by omega), if_pos (by omega), wrap_succ hi (by omega)]
    generalize bt s (i : Int) = b at *
    by_cases c : 97 ≤ b ∧ b ≤ 122
    · rw [if_pos (by omega), if_pos (by omega)]
      have : okB i b = true := by simp [okB, c]
      rw [this, Bool.true_and]
      exact ih
    · have e1 : okB i b = (decide (i ≠ 0) && decide (48 ≤ b ∧ b ≤ 57)) := by simp [okB, decide_eq_false c]
      rw [e1]
      by_cases c0 : i = 0
      · have e2 : (decide (i ≠ 0) && decide (48 ≤ b ∧ b ≤ 57)) = false := by simp [c0]
        rw [e2]
        split
        · rw [if_neg (by omega)]
          rw [if_pos (by omega)]
          exact ev_some.2 (by simp)
        · rw [if_pos (by omega)]
          exact ev_some.2 (by simp)
      · by_cases c1 : 48 ≤ b ∧ b ≤ 57
        · have e2 : (decide (i ≠ 0) && decide (48 ≤ b ∧ b ≤ 57)) = true := by simp [c0, c1]
          rw [e2, Bool.true_and]
          split
          · rw [if_neg (by omega), if_neg (by omega), if_neg (by omega), if_neg (by omega)]
            exact ih
          · rw [if_neg (by omega), if_neg (by omega), if_neg (by omega)]
            exact ih
        · have e2 : (decide (i ≠ 0) && decide (48 ≤ b ∧ b ≤ 57)) = false := by simp [decide_eq_false c1]
          rw [e2]
          repeat' split
          all_goals first | exact ev_some.2 (by simp) | (exfalso; omega)
theorem spec_l1Digit_eq (b : Int) : spec_l1Digit.f b = some (decide (48 ≤ b ∧ b ≤ 57)) := by
  unfold spec_l1Digit.f
  by_cases h : b ≥ 48 <;> simp [h]
theorem nameB_split (s : ByteArray) (h : 0 < s.size) (hd : ¬ (48 ≤ bt s 0 ∧ bt s 0 ≤ 57)) : (List.range s.size).all (fun i => okB i (bt s (i : Int))) = (List.range s.size).all (fun i => okS (bt s (i : Int))) := by
  rw [Bool.eq_iff_iff, List.all_eq_true, List.all_eq_true]
  have hb : ∀ i, okB i (bt s (i : Int)) = okS (bt s (i : Int)) := by
    intro i
    unfold okB okS
    by_cases h0 : i = 0
    · subst h0
      have e : decide (48 ≤ bt s ((0 : Nat) : Int) ∧ bt s ((0 : Nat) : Int) ≤ 57) = false := decide_eq_false hd
      rw [e]
      simp
    · simp [h0]
  constructor
  · intro h i hi
    rw [← hb]
    exact h i hi
  · intro h i hi
    rw [hb]
    exact h i hi
theorem spec_l1Name_ev (s : ByteArray) : Ev (fun k => spec_l1Name.f k s) (nameB s) := by
  unfold spec_l1Name.f
  simp only [ev_ite]
  by_cases c1 : (s.size : Int) < 1
  · rw [if_pos c1, ev_succ]
    simp only [spec_l1Name.j0, if_true]
    exact ev_some.2 (by simp [nameB]; omega)
  by_cases c2 : (s.size : Int) > 12
  · rw [if_neg c1, if_pos c2, ev_succ]
    simp only [spec_l1Name.j0, if_true]
    exact ev_some.2 (by simp [nameB]; omega)
  rw [if_neg c1, if_neg c2, if_pos (by omega)]
  simp only [spec_l1Digit_eq, Option.bind_some]
  by_cases c3 : 48 ≤ bt s 0 ∧ bt s 0 ≤ 57
  · rw [decide_eq_true c3, ev_succ]
    simp only [spec_l1Name.j0, if_true]
    refine ev_some.2 ?_
    symm
    rw [nameB, Bool.and_eq_false_iff]
    left
    rw [← List.drop_zero (l := List.range s.size), all_range _ _ 0 (by omega)]
    have : okB 0 (bt s ((0 : Nat) : Int)) = false := by
      simp only [okB]
      rw [decide_eq_false (by show ¬ (97 ≤ bt s 0 ∧ bt s 0 ≤ 122); omega)]
      simp
    rw [this, Bool.false_and]
  · rw [decide_eq_false c3, ev_succ]
    simp only [spec_l1Name.j0, Bool.false_eq_true, if_false]
    rw [nameB, nameB_split s (by omega) c3, decide_eq_true (by omega), Bool.and_true]
    refine ev_congr (ev_loop s.size (fun k i => spec_l1Name.l0 k s (i : Nat)) (fun i => ((List.range s.size).drop i).all (fun j => okS (bt s (j : Int)))) ?_ ?_ 0 (by omega)) (by simp)
    · rw [ev_succ]
      simp only [spec_l1Name.l0, ev_ite]
      rw [if_neg (by omega)]
      refine ev_some.2 ?_
      rw [List.drop_eq_nil_of_le (by simp)]
      simp
    · intro i hi ih
      rw [ev_succ, all_range _ _ _ hi]
      simp only [spec_l1Name.l0, spec_l1Digit_eq, Option.bind_some, ev_ite]
      rw [if_pos (by omega), if_pos (by omega), wrap_succ hi (by omega)]
      generalize bt s (i : Int) = b at *
      by_cases c : 48 ≤ b ∧ b ≤ 57
      · rw [if_pos (decide_eq_true c), show okS b = true by simp [okS, c], Bool.true_and]
        exact ih
      · rw [if_neg (by simpa using c)]
        by_cases c4 : b < 97
        · rw [if_pos c4, show okS b = false by simp only [okS]; rw [decide_eq_false c, decide_eq_false (by omega)]; rfl]
          exact ev_some.2 (by simp)
        · rw [if_neg c4]
          by_cases c5 : b > 122
          · rw [if_pos c5, show okS b = false by simp only [okS]; rw [decide_eq_false c, decide_eq_false (by omega)]; rfl]
            exact ev_some.2 (by simp)
          · rw [if_neg c5, show okS b = true by simp only [okS]; rw [decide_eq_true (show 97 ≤ b ∧ b ≤ 122 by omega)]; rfl, Bool.true_and]
            exact ih
theorem spec_ModeAt_ev (l : List S108) (nm : ByteArray) (hl : l.length ≤ 9223372036854775807) : Ev (fun k => spec_ModeAt.f k l nm) (modeAtP l nm) := by
  unfold spec_ModeAt.f modeAtP
  refine ev_congr (ev_loop l.length (fun k i => spec_ModeAt.l0 k nm (i : Nat) l) (fun i => idxP (named nm) (l.drop i) (i : Nat)) ?_ ?_ 0 (by omega)) (by simp)
  · rw [ev_succ]
    simp only [spec_ModeAt.l0, ev_ite]
    rw [if_neg (by omega)]
    exact ev_some.2 (by simp [idxP])
  · intro i hi ih
    rw [ev_succ]
    simp only [spec_ModeAt.l0, ev_ite]
    rw [if_pos (by omega), if_pos (by omega), wrap_succ hi (by omega), drop_cons l z108 i hi]
    have hr : l.getD i z108 = rd_T108 l i := by simp [rd_T108]
    rw [hr]
    unfold idxP named
    by_cases c : (rd_T108 l i).f0.toList = nm.toList
    · rw [if_pos c, if_pos (by simpa using c)]
      exact ev_some.2 rfl
    · rw [if_neg c, if_neg (by simpa using c)]
      exact ih
def targetB (g : List S108) (x : S113) : Bool := if x.f3 = 1 then decide (modeAtP g x.f4 ≥ 0) else if x.f3 = 2 then decide (modeAtP g x.f4 ≥ 0) else x.f4.toList == ([] : List UInt8)
def ruleB (g : List S108) (x : S113) : Bool := nameB x.f0 && (rxB x.f1.f0 && (!(rxB x.f1.f0 && nullE x.f1.f0 (x.f1.f0.length - 1)) && (decide (0 ≤ x.f3 ∧ x.f3 ≤ 3) && targetB g x)))
def smallR (x : S113) : Prop := x.f0.size ≤ 1048576 ∧ x.f1.f0.length ≤ 1048576 ∧ ∀ y ∈ x.f1.f0, y.f2.length ≤ 9223372036854775807
def smallM (m : S108) : Prop := m.f0.size ≤ 1048576 ∧ m.f1.length ≤ 1048576 ∧ ∀ x ∈ m.f1, smallR x
def smallG (g : List S108) : Prop := g.length ≤ 1048576 ∧ ∀ m ∈ g, smallM m
theorem impl_ruleOk_ev (g : List S108) (x : S113) (hx : smallR x) : Ev (fun k => impl_ruleOk.f k g x.f0 x.f1.f0 x.f2 x.f3 x.f4) (ruleB g x) := by
  have hj : ∀ b : Bool, Ev (fun k => impl_ruleOk.j0 k b g x.f0 x.f1.f0 x.f2 x.f3 x.f4) (!b && targetB g x) := by
    intro b
    rw [ev_succ]
    cases b
    · simp only [impl_ruleOk.j0, impl_Rule_hasTarget.f, impl_ModeAt.f, Bool.false_eq_true, if_false]
      unfold targetB
      by_cases c1 : x.f3 = 1
      · simp only [if_pos c1, Option.bind_some, if_true]
        exact ev_some.2 (by simp)
      · simp only [if_neg c1, Option.bind_some]
        by_cases c2 : x.f3 = 2
        · simp only [c2, beq_self_eq_true, if_true, Option.bind_some]
          exact ev_some.2 (by simp)
        · rw [if_neg (by simpa using c2), if_neg c2]
          exact ev_some.2 (by simp)
    · simp only [impl_ruleOk.j0, if_true]
      exact ev_some.2 (by simp)
  unfold impl_ruleOk.f ruleB
  rw [ev_bind (impl_isName_ev x.f0 hx.1)]
  cases nameB x.f0
  · simp only [Bool.false_eq_true, if_false]
    exact hj true
  simp only [if_true]
  rw [ev_bind (impl_RxOk_ev x.f1.f0 hx.2.1)]
  cases hr : rxB x.f1.f0
  · simp only [Bool.false_eq_true, if_false]
    exact hj true
  simp only [if_true]
  rw [ev_bind (impl_Nullable_ev x.f1.f0 hx.2.1), hr]
  cases nullE x.f1.f0 (x.f1.f0.length - 1)
  · simp only [Bool.and_false, Bool.false_eq_true, if_false, impl_within_eq, Option.bind_some]
    refine ev_congr (hj _) ?_
    simp
  · simp only [Bool.and_true, if_true]
    exact hj true
theorem spec_l5Rule_ev (g : List S108) (hg : g.length ≤ 9223372036854775807) (x : S113) (hx : smallR x) : Ev (fun k => spec_l5Rule.f k g x.f0 x.f1.f0 x.f2 x.f3 x.f4) (ruleB g x) := by
  have hj : ∀ b : Bool, Ev (fun k => spec_l5Rule.j0 k b g x.f0 x.f1.f0 x.f2 x.f3 x.f4) (!b && targetB g x) := by
    intro b
    rw [ev_succ]
    cases b
    · simp only [spec_l5Rule.j0, Bool.false_eq_true, if_false]
      unfold targetB
      by_cases c1 : x.f3 = 1
      · simp only [if_pos c1]
        rw [ev_bind (spec_ModeAt_ev g x.f4 hg)]
        exact ev_some.2 (by simp)
      · simp only [if_neg c1]
        by_cases c2 : x.f3 = 2
        · simp only [if_pos c2]
          rw [ev_bind (spec_ModeAt_ev g x.f4 hg)]
          exact ev_some.2 (by simp)
        · simp only [if_neg c2]
          exact ev_some.2 (by simp)
    · simp only [spec_l5Rule.j0, if_true]
      exact ev_some.2 (by simp)
  have hn : spec_Nullable.f x.f1.f0 = some (rxB x.f1.f0 && nullE x.f1.f0 (x.f1.f0.length - 1)) := if_pos hx.2.1
  unfold spec_l5Rule.f ruleB
  rw [ev_bind (spec_l1Name_ev x.f0)]
  cases nameB x.f0
  · simp only [Bool.false_eq_true, if_false]
    exact hj true
  simp only [if_true]
  rw [ev_bind (spec_RxOk_ev x.f1.f0 hx.2.1 hx.2.2)]
  simp only [hn]
  cases rxB x.f1.f0
  · simp only [Bool.false_eq_true, if_false]
    exact hj true
  simp only [if_true, Option.bind_some]
  cases nullE x.f1.f0 (x.f1.f0.length - 1)
  · simp only [Bool.and_false, Bool.false_eq_true, if_false, spec_l1In_eq, Option.bind_some]
    refine ev_congr (hj _) ?_
    simp
  · simp only [Bool.and_true, if_true]
    exact hj true
def modeB (g : List S108) (i : Nat) (m : S108) : Bool := nameB m.f0 && (decide (modeAtP g m.f0 = (i : Int)) && (decide (1 ≤ m.f1.length ∧ m.f1.length ≤ 40) && m.f1.all (ruleB g)))
def modesB (g : List S108) (i : Nat) : Bool := ((List.range g.length).drop i).all fun j => modeB g j (rd_T108 g (j : Int))
def grammarB (g : List S108) : Bool := decide (1 ≤ g.length ∧ g.length ≤ 12) && modesB g 0
theorem modesB_step (g : List S108) (i : Nat) (h : i < g.length) : modesB g i = (modeB g i (rd_T108 g (i : Int)) && modesB g (i + 1)) := all_range _ _ _ h
theorem modesB_end (g : List S108) : modesB g g.length = true := by
  unfold modesB
  rw [List.drop_eq_nil_of_le (by simp)]
  rfl
theorem rd_mode_mem (g : List S108) (i : Nat) (h : i < g.length) : rd_T108 g (i : Int) ∈ g := by
  unfold rd_T108
  rw [List.getD_eq_getElem?_getD, List.getElem?_eq_getElem (by simpa using h)]
  exact List.getElem_mem _
theorem rd_rule_mem (l : List S113) (i : Nat) (h : i < l.length) : rd_T113 l (i : Int) ∈ l := by
  unfold rd_T113
  rw [List.getD_eq_getElem?_getD, List.getElem?_eq_getElem (by simpa using h)]
  exact List.getElem_mem _
theorem spec_GrammarOk_l1 (g : List S108) (hg : smallG g) (i : Nat) (nm : ByteArray) (rs : List S113) (hrs : ∀ x ∈ rs, smallR x) (hl : rs.length ≤ 1048576) (R : Bool) (hi : i < g.length) (ih : Ev (fun k => spec_GrammarOk.l0 k ((i + 1 : Nat) : Int) g) R) : Ev (fun k => spec_GrammarOk.l1 k (i : Int) 0 g nm rs) (rs.all (ruleB g) && R) := by
  have hgl := hg.1
  refine ev_congr (ev_loop rs.length (fun k j => spec_GrammarOk.l1 k (i : Int) (j : Nat) g nm rs) (fun j => (rs.drop j).all (ruleB g) && R) ?_ ?_ 0 (by omega)) (by simp)
  · rw [ev_succ]
    simp only [spec_GrammarOk.l1, ev_ite]
    rw [if_neg (by omega), wrap_succ hi (by omega), List.drop_length]
    simpa using ih
  · intro j hj ihj
    rw [ev_succ, all_drop rs z113 (ruleB g) j hj]
    have hr : rs.getD j z113 = rd_T113 rs j := by simp [rd_T113]
    rw [hr]
    simp only [spec_GrammarOk.l1, ev_ite]
    rw [if_pos (by omega), if_pos (by omega), wrap_succ hj (by omega), ev_bind (spec_l5Rule_ev g (by omega) (rd_T113 rs j) (hrs _ (rd_rule_mem rs j hj)))]
    cases ruleB g (rd_T113 rs j)
    · exact ev_some.2 (by simp)
    · simp only [if_true, Bool.true_and]
      exact ihj
theorem spec_GrammarOk_ev (g : List S108) (hg : smallG g) : Ev (fun k => spec_GrammarOk.f k g) (grammarB g) := by
  have hgl := hg.1
  have h0 : Ev (fun k => spec_GrammarOk.l0 k 0 g) (modesB g 0) := by
    refine ev_loop g.length (fun k i => spec_GrammarOk.l0 k (i : Nat) g) (fun i => modesB g i) ?_ ?_ 0 (by omega)
    · rw [ev_succ, modesB_end]
      simp only [spec_GrammarOk.l0, ev_ite]
      rw [if_neg (by omega)]
      exact ev_some.2 rfl
    · intro i hi ih
      rw [ev_succ, modesB_step g i hi]
      simp only [spec_GrammarOk.l0, ev_ite]
      rw [if_pos (by omega), if_pos (by omega)]
      have hm := hg.2 _ (rd_mode_mem g i hi)
      have hj : ∀ b : Bool, Ev (fun k => spec_GrammarOk.j2 k (i : Int) b g (rd_T108 g i).f0 (rd_T108 g i).f1) (!b && ((rd_T108 g i).f1.all (ruleB g) && modesB g (i + 1))) := by
        intro b
        rw [ev_succ]
        cases b
        · simp only [spec_GrammarOk.j2, Bool.false_eq_true, if_false]
          simpa using spec_GrammarOk_l1 g hg i _ _ hm.2.2 hm.2.1 _ hi ih
        · simp only [spec_GrammarOk.j2, if_true]
          exact ev_some.2 (by simp)
      unfold modeB
      generalize rd_T108 g (i : Int) = m at *
      rw [ev_bind (spec_l1Name_ev m.f0)]
      cases nameB m.f0
      · simp only [Bool.false_eq_true, if_false, Bool.false_and]
        exact hj true
      simp only [if_true, Bool.true_and]
      rw [ev_bind (spec_ModeAt_ev g m.f0 (by omega))]
      simp only [ev_ite]
      by_cases c1 : modeAtP g m.f0 = (i : Int)
      · rw [if_pos c1, decide_eq_true c1, Bool.true_and]
        by_cases c2 : (m.f1.length : Int) < 1
        · rw [if_pos c2, decide_eq_false (by omega)]
          exact hj true
        · rw [if_neg c2]
          refine ev_congr (hj _) ?_
          by_cases c3 : (m.f1.length : Int) > 40
          · rw [decide_eq_true c3, decide_eq_false (by omega)]
            rfl
          · rw [decide_eq_false c3, decide_eq_true (by omega)]
            rfl
      · rw [if_neg c1, decide_eq_false c1]
        exact hj true
  have hj : ∀ b : Bool, Ev (fun k => spec_GrammarOk.j0 k b g) (!b && modesB g 0) := by
    intro b
    rw [ev_succ]
    cases b
    · simp only [spec_GrammarOk.j0, Bool.false_eq_true, if_false]
      simpa using h0
    · simp only [spec_GrammarOk.j0, if_true]
      exact ev_some.2 (by simp)
  unfold spec_GrammarOk.f grammarB
  simp only [ev_ite]
  by_cases c1 : (g.length : Int) < 1
  · rw [if_pos c1, decide_eq_false (by omega)]
    exact hj true
  · rw [if_neg c1]
    refine ev_congr (hj _) ?_
    by_cases c2 : (g.length : Int) > 12
    · rw [decide_eq_true c2, decide_eq_false (by omega)]
      rfl
    · rw [decide_eq_false c2, decide_eq_true (by omega)]
      rfl
end Go.Proofs.Ytijmhelacmjggaa.P
namespace Go.Proofs.Ytijmhelacmjggaa.P
open Go.RowKit Go.Proofs.YtijmhelacmjggaaW.PrintWords Go.Proofs.YtijmhelacmjggaaW.PrintLast Go.Proofs.YtijmhelacmjggaaW.PrintMore
attribute [local go_sem] max2_int min2_int max_two min_two max_three min_three max_four min_four
set_option linter.unusedVariables false
set_option linter.unusedSimpArgs false
/-! ### impl_Mode_80: function 80 -/
def impl_Mode_80.f (l0 : List (S108)) : Option (Int) := some (l0.length : Int)
theorem impl_Mode_80.calls (A0 : Option Addr) (c0 : Nat) (l0 : List (S108)) (r : Int) (w : World) (hr0 : Kd.C k108 w A0 l0.length l0) (hc0 : l0.length ≤ c0) (h : impl_Mode_80.f l0 = some r) :
  Calls Try.prog 80 #[.slice A0 l0.length c0] w fun e w' => e = .returned (.int .i64 r) ∧ Drawn0 w w' := by
 have HR0 := q_ hr0; have HC0 := q_ hc0; clear hr0 hc0
 have H : (some (l0.length : Int)) = some r := h
 clear h; obtain rfl := Option.some.inj H
 go_enter Try.func80, Try.ntmps80
 go_wp2
 go_ret
 exact ⟨by first | rfl | (simp; done) | (simp [*]; done), by repeat (first | exact Drawn0.refl _ | apply Drawn0.step)⟩
/-! ### impl_Rule_83: function 83 -/
def impl_Rule_83.f (l0 : List (S113)) : Option (Int) := some (l0.length : Int)
theorem impl_Rule_83.calls (A0 : Option Addr) (c0 : Nat) (l0 : List (S113)) (r : Int) (w : World) (hr0 : Kd.C k113 w A0 l0.length l0) (hc0 : l0.length ≤ c0) (h : impl_Rule_83.f l0 = some r) :
  Calls Try.prog 83 #[.slice A0 l0.length c0] w fun e w' => e = .returned (.int .i64 r) ∧ Drawn0 w w' := by
 have HR0 := q_ hr0; have HC0 := q_ hc0; clear hr0 hc0
 have H : (some (l0.length : Int)) = some r := h
 clear h; obtain rfl := Option.some.inj H
 go_enter Try.func83, Try.ntmps83
 go_wp2
 go_ret
 exact ⟨by first | rfl | (simp; done) | (simp [*]; done), by repeat (first | exact Drawn0.refl _ | apply Drawn0.step)⟩
end Go.Proofs.Ytijmhelacmjggaa.P
namespace Go.Proofs.Ytijmhelacmjggaa.P
open Go.RowKit Go.Shelf Go.Proofs.YtijmhelacmjggaaW.PrintWords Go.Proofs.YtijmhelacmjggaaW.PrintLast Go.Proofs.YtijmhelacmjggaaW.PrintMore Go.Proofs.YtijmhelacmjggaaEv
set_option linter.unusedVariables false
set_option linter.unusedSimpArgs false
theorem GrammarOk_1_calls (g : List S108) (x : S113) (A0 A1 : Option Addr) (c0 c1 B : Nat) (W : World) (hx : smallR x) (hB : W.heap[B]? = some (.cells #[.slice A0 g.length c0] 46)) (hr0 : Kd.C k108 W A0 g.length g) (hc0 : g.length ≤ c0) (hr1 : Kd.C k156 W A1 x.f1.f0.length x.f1.f0) (hc1 : x.f1.f0.length ≤ c1) :
    Calls Try.prog 85 (#[.agg #[.string x.f0, .slice A1 x.f1.f0.length c1, .bool x.f2, .int .i64 x.f3, .string x.f4]] ++ #[.pointer (some ⟨B, 0, none⟩)]) W fun e w' => e = .returned (.bool (!ruleB g x)) ∧ Below W.heap.size W w' := by
  obtain ⟨k, hk⟩ := ev_get (impl_ruleOk_ev g x hx)
  generalize ruleB g x = b at *
  have HK := q_ hk
  have hcell : W.cell? ⟨B, 0, none⟩ = some (.slice A0 g.length c0) := (blk_cell hB 0).trans rfl
  have hlt := blk_lt hB
  have hc2 : ∀ o, (W.alloc o).cell? ⟨B, 0, none⟩ = some (.slice A0 g.length c0) := fun o => ((below_alloc (Below.refl _ _) o : Below W.heap.size W _).cell hlt).trans hcell
  have hne : (B == W.heap.size) = false := beq_eq_false_iff_ne.mpr (by omega)
  have HB := q_ (below_alloc (Below.refl W.heap.size W) (.cells #[.string x.f0, .slice A1 x.f1.f0.length c1, .bool x.f2, .int .i64 x.f3, .string x.f4] 113))
  have HR0 := q_ (Kd.C_below hr0 HB.o)
  have HR1 := q_ (Kd.C_below hr1 HB.o)
  have HC0 := q_ hc0
  have HC1 := q_ hc1
  clear hk hr0 hr1 hc0 hc1 hx hB
  show Calls Try.prog _ #[.agg #[.string x.f0, .slice A1 x.f1.f0.length c1, .bool x.f2, .int .i64 x.f3, .string x.f4], .pointer (some ⟨B, 0, none⟩)] W _
  go_enter Try.func85, Try.ntmps85
  go_wp2_with (go_at_call 86; refine (impl_ruleOk.calls k A0 c0 g x.f0 A1 c1 x.f1.f0 x.f2 x.f3 x.f4 b _ HR0.o HC0.o HR1.o HC1.o HK.o).mono ?_; rintro e w' ⟨rfl, hb⟩)
  go_ret
  exact ⟨rfl, below_then HB.o HB.o.size hb⟩
theorem any_not_all {α : Type} (l : List α) (p : α → Bool) : (l.any fun x => !p x) = !l.all p := by
  induction l with
  | nil => rfl
  | cons a r ih => simp [ih, Bool.not_and]
theorem rules_calls (l0 : List S108) (rs : List S113) (A0 A1 : Option Addr) (c0 c1 g : Nat) (w W : World) (hrs : ∀ x ∈ rs, smallR x) (hr0 : Kd.C k108 w A0 l0.length l0) (hc0 : l0.length ≤ c0) (hr1 : Kd.C k113 w A1 rs.length rs) (hB : W.heap[g]? = some (.cells #[.slice A0 l0.length c0] 46)) (hb : Below w.heap.size w W) :
    Calls Try.prog 84 #[.slice A1 rs.length c1, .func (.func 85) #[] #[.pointer (some ⟨g, 0, none⟩)]] W fun e w' => e = .returned (.bool (!rs.all (ruleB l0))) ∧ Below W.heap.size W w' := by
  have eg : ∀ args w, (callFunc 85 args).run Try.prog w = .ok (.enter 85 args) w := enters_of Try.func85 (by kernel_rfl) rfl
  rw [← any_not_all]
  refine ContainsFunc_Rule _ _ eg (fun x => !ruleB l0 x) A1 c1 rs W (Kd.C_below hr1 hb) ?_
  intro W2 x A2 c2 hx hb2 hr2 hc2
  exact GrammarOk_1_calls l0 x A0 A2 c0 c2 g W2 (hrs x hx) (blk_below hB hb2) (Kd.C_below (Kd.C_below hr0 hb) hb2) hc0 hr2 hc2
theorem GrammarOk_hand (A0 : Option Addr) (c0 : Nat) (l0 : List S108) (w : World) (hg : smallG l0) (hr0 : Kd.C k108 w A0 l0.length l0) (hc0 : l0.length ≤ c0) :
    Calls Try.prog 28 #[.agg #[.slice A0 l0.length c0]] w fun e w' => e = .returned (.bool (grammarB l0)) ∧ Below w.heap.size w w' := by
  have HR := q_ hr0
  have HC := q_ hc0
  have HG := q_ hg
  have hn := hr0.2.1
  have hg1 := hg.1
  clear hr0 hc0 hg
  have HB := q_ (below_alloc (Below.refl w.heap.size w) (.cells #[.slice A0 l0.length c0] 46))
  have BK := q_ (blk_new w (.cells #[.slice A0 l0.length c0] 46))
  have HI := q_ (impl_within_eq (l0.length : Int) 1 12)
  have hgd : grammarB l0 = (decide (1 ≤ (l0.length : Int) ∧ (l0.length : Int) ≤ 12) && modesB l0 0) := by
    unfold grammarB
    congr 1
    exact decide_eq_decide.2 (by omega)
  cases hb1 : decide (1 ≤ (l0.length : Int) ∧ (l0.length : Int) ≤ 12)
  · rw [hb1] at HI hgd
    rw [hgd, Bool.false_and]
    clear hgd hb1
    go_enter Try.func28, Try.ntmps28
    go_wp2_with (first | (go_at_call 80; refine (impl_Mode_80.calls A0 c0 l0 _ _ (Kd.C_below HR.o HB.o) HC.o rfl).mono ?_; rintro e w' ⟨rfl, ⟨nd, rfl⟩⟩) | (go_at_call 79; refine (impl_within.calls _ _ _ false _ HI.o).mono ?_; rintro e w' ⟨rfl, ⟨nd2, rfl⟩⟩))
    go_ret
    exact ⟨rfl, by repeat (first | (with_reducible exact HB.o) | apply pw_below_drewN | apply below_drew1)⟩
  rw [hb1] at HI hgd
  rw [Bool.true_and] at hgd
  have HA0 := q_ hgd
  clear hgd hb1
  generalize hgB : grammarB l0 = gb at *
  clear hgB
  go_enter Try.func28, Try.ntmps28
  go_wp2_with (first | (go_at_call 80; refine (impl_Mode_80.calls A0 c0 l0 _ _ (Kd.C_below HR.o HB.o) HC.o rfl).mono ?_; rintro e w' ⟨rfl, ⟨nd, rfl⟩⟩) | (go_at_call 79; refine (impl_within.calls _ _ _ true _ HI.o).mono ?_; rintro e w' ⟨rfl, ⟨nd2, rfl⟩⟩))
  go_loopg [13] l0.length (fun gg s13 wr => ∃ kk : Nat, kk ≤ l0.length ∧ l0.length - kk ≤ gg ∧ s13 = .int .i64 kk ∧ J0 (gb = modesB l0 kk) ∧ J0 (wr.heap[w.heap.size]? = some (.cells #[.slice A0 l0.length c0] 46)) ∧ J0 (Below w.heap.size w wr))
  case atStart => exact ⟨0, Nat.zero_le _, by omega, rfl, HA0, ⟨BK.o⟩, ⟨by repeat (first | (with_reducible exact HB.o) | apply pw_below_drewN | apply below_drew1)⟩⟩
  case round =>
    clear HA0 HB BK
    obtain ⟨kk, hkk, hgg, rfl, HA, BK, HB⟩ := hrel
    by_cases hlt : kk < l0.length
    · have hltz : (kk : Int) < (l0.length : Int) := by omega
      have hk0 : (0 : Int) ≤ (kk : Int) := by omega
      obtain ⟨ad, A1, c1, e1, hx0, hx1, hl, hi⟩ := at_T108 HR.o (kk : Int) (by omega) hltz
      cases e1
      rw [Int.toNat_natCast] at hx0 hx1
      replace hx0 := mv_ HB.o hx0
      replace hx1 := mv_ HB.o hx1
      have hm := HG.o.2 _ (rd_mode_mem l0 kk hlt)
      have hs := HA.o.trans (modesB_step l0 kk hlt)
      unfold modeB at hs
      clear HA
      generalize rd_T108 l0 (kk : Int) = y at *
      have HI1 := q_ hi
      have HC1 := q_ hl
      obtain ⟨kn, hkn⟩ := ev_get (impl_isName_ev y.f0 hm.1)
      have HN := q_ hkn
      have HM := q_ hm
      have HS := q_ hs
      clear hi hl hkn hm hs
      have hcg : wr.cell? ⟨w.heap.size, 0, none⟩ = some (.slice (some ad) l0.length c0) := (blk_cell BK.o 0).trans rfl
      go_upto_region 6 with ((with_reducible refine gate_dst (N := 4) rfl ?_); refine box_event ?hg (N := 4) ?hd (cs := #[.string ⟨#[]⟩, .slice none 0 0]) (t := 108) ?hr ?_; (case hd => rfl); (case hg => rfl); (case hr => first | (go_simp; done) | (go_simp; rfl)); intro gm hgm w20 hbox hb; have n0_ := q_ (blk_below BK.o hb); have n1_ := q_ (below_step HB.o hb); have n2_ := q_ (show w.heap.size ≤ gm by rw [hgm]; exact below_size HB.o); have n3_ := q_ (show w.heap.size ≠ gm by rw [hgm]; exact Nat.ne_of_lt (blk_lt BK.o)); clear BK HB; have BK := n0_; have HB := n1_; have GE := n2_; have NE := n3_; have BKm := q_ hbox; clear n0_ n1_ n2_ n3_ hb hbox hgm; have hcz0 : w20.cell? ⟨gm, 0, none⟩ = some (.string ⟨#[]⟩) := (blk_cell BKm.o 0).trans rfl; have hcz1 : w20.cell? ⟨gm, 1, none⟩ = some (.slice none 0 0) := (blk_cell BKm.o 1).trans rfl; have hfz0 := blk_frozen BKm.o 0; have hfz1 := blk_frozen BKm.o 1)
      (try simp only [Act.put, List.setIfInBounds_toArray, List.set_cons_zero, List.set_cons_succ])
      have BM2 : J0 (((w20.setCell ⟨gm, 0, none⟩ (.string y.f0)).setCell ⟨gm, 1, none⟩ (.slice A1 y.f1.length c1)).heap[gm]? = some (.cells #[.string y.f0, .slice A1 y.f1.length c1] 108)) := ⟨blk_put (blk_put BKm.o 0 _ rfl) 1 _ rfl⟩
      have BK2 : J0 (((w20.setCell ⟨gm, 0, none⟩ (.string y.f0)).setCell ⟨gm, 1, none⟩ (.slice A1 y.f1.length c1)).heap[w.heap.size]? = some (.cells #[.slice (some ad) l0.length c0] 46)) := ⟨blk_far (blk_far BK.o NE.o _) NE.o _⟩
      have HB2 : J0 (Below w.heap.size w ((w20.setCell ⟨gm, 0, none⟩ (.string y.f0)).setCell ⟨gm, 1, none⟩ (.slice A1 y.f1.length c1))) := ⟨below_set (below_set HB.o GE.o) GE.o⟩
      clear BKm BK HB hcz0 hcz1 hfz0 hfz1 hx0 hx1 hcg
      generalize (w20.setCell ⟨gm, 0, none⟩ (.string y.f0)).setCell ⟨gm, 1, none⟩ (.slice A1 y.f1.length c1) = w3 at *
      have hc0m : w3.cell? ⟨gm, 0, none⟩ = some (.string y.f0) := (blk_cell BM2.o 0).trans rfl
      have hc1m : w3.cell? ⟨gm, 1, none⟩ = some (.slice A1 y.f1.length c1) := (blk_cell BM2.o 1).trans rfl
      have hcg : w3.cell? ⟨w.heap.size, 0, none⟩ = some (.slice (some ad) l0.length c0) := (blk_cell BK2.o 0).trans rfl
      cases hq1 : nameB y.f0
      · rw [hq1] at HN HS
        have hs2 : J0 (gb = false) := ⟨by rw [HS.o]; rfl⟩
        clear HS hq1
        go_wp2_with (go_at_call 81; refine (impl_isName.calls kn y.f0 false _ HN.o).mono ?_; rintro e w' ⟨rfl, ⟨nd3, rfl⟩⟩)
        go_ret
        exact ⟨by (rw [hs2.o]; try rfl), by repeat (first | (with_reducible exact HB2.o) | apply pw_below_drewN | apply below_drew1)⟩
      rw [hq1] at HN HS
      simp only [Bool.true_and] at HS
      clear hq1
      have hma : ∀ nd : Nat, Calls Try.prog 82 #[.agg #[.slice (some ad) l0.length c0], .string y.f0] (w3.drewN nd) fun e w' => e = .returned (.int .i64 (modeAtP l0 y.f0)) ∧ Below (w3.drewN nd).heap.size (w3.drewN nd) w' := fun nd => impl_ModeAt.calls (some ad) c0 l0 y.f0 _ _ (Kd.C_below HR.o (pw_below_drewN HB2.o nd)) HC.o rfl
      have HMA := Lib.hid hma
      clear hma
      generalize modeAtP l0 y.f0 = mm at *
      by_cases hq2 : mm = (kk : Int)
      · subst hq2
        have hne0 : ((kk : Int) != (kk : Int)) = false := by simp
        have HW := q_ (impl_within_eq (y.f1.length : Int) 1 40)
        have hd : decide (1 ≤ y.f1.length ∧ y.f1.length ≤ 40) = decide (1 ≤ (y.f1.length : Int) ∧ (y.f1.length : Int) ≤ 40) := decide_eq_decide.2 (by omega)
        rw [hd] at HS
        clear hd
        cases hq3 : decide (1 ≤ (y.f1.length : Int) ∧ (y.f1.length : Int) ≤ 40)
        · rw [hq3] at HS HW
          have hs2 : J0 (gb = false) := ⟨by rw [HS.o]; simp⟩
          clear HS hq3
          go_wp2_with (first | (go_at_call 81; refine (impl_isName.calls kn y.f0 true _ HN.o).mono ?_; rintro e w' ⟨rfl, ⟨nd3, rfl⟩⟩) | (go_at_call 82; refine (HMA.out nd3).mono ?_; rintro e w4 ⟨rfl, hb⟩; have HB4 := q_ (below_step (pw_below_drewN HB2.o nd3) hb); have hc4 : w4.cell? ⟨gm, 1, none⟩ = some (.slice A1 y.f1.length c1) := (blk_cell (blk_below (blk_drewN BM2.o nd3) hb) 1).trans rfl; clear hb) | (go_at_call 83; refine (impl_Rule_83.calls A1 c1 y.f1 _ _ (Kd.C_below HI1.o HB4.o) HC1.o rfl).mono ?_; rintro e w' ⟨rfl, ⟨nd4, rfl⟩⟩) | (go_at_call 79; refine (impl_within.calls _ _ _ false _ HW.o).mono ?_; rintro e w' ⟨rfl, ⟨nd5, rfl⟩⟩))
          go_ret
          exact ⟨by (rw [hs2.o]; try rfl), by repeat (first | (with_reducible exact HB4.o) | apply pw_below_drewN | apply below_drew1)⟩
        rw [hq3] at HS HW
        clear hq3
        have hs0 : J0 (gb = (y.f1.all (ruleB l0) && modesB l0 (kk + 1))) := ⟨by rw [HS.o]; simp⟩
        clear HS
        have hca : ∀ W : World, W.heap[w.heap.size]? = some (.cells #[.slice (some ad) l0.length c0] 46) → Below w.heap.size w W → Calls Try.prog 84 #[.slice A1 y.f1.length c1, .func (.func 85) #[] #[.pointer (some ⟨w.heap.size, 0, none⟩)]] W fun e w' => e = .returned (.bool (!y.f1.all (ruleB l0))) ∧ Below W.heap.size W w' := fun W h1 h2 => rules_calls l0 y.f1 (some ad) A1 c0 c1 _ w W HM.o.2.2 HR.o HC.o HI1.o h1 h2
        have HCA := Lib.hid hca
        clear hca
        cases hq4 : y.f1.all (ruleB l0)
        · rw [hq4] at hs0 HCA
          have hs2 : J0 (gb = false) := ⟨by rw [hs0.o]; rfl⟩
          clear hs0 hq4
          go_wp2_with (first | (go_at_call 81; refine (impl_isName.calls kn y.f0 true _ HN.o).mono ?_; rintro e w' ⟨rfl, ⟨nd3, rfl⟩⟩) | (go_at_call 82; refine (HMA.out nd3).mono ?_; rintro e w4 ⟨rfl, hb⟩; have HB4 := q_ (below_step (pw_below_drewN HB2.o nd3) hb); have BK4 := q_ (blk_below (blk_drewN BK2.o nd3) hb); have hc4 : w4.cell? ⟨gm, 1, none⟩ = some (.slice A1 y.f1.length c1) := (blk_cell (blk_below (blk_drewN BM2.o nd3) hb) 1).trans rfl; clear hb) | (go_at_call 83; refine (impl_Rule_83.calls A1 c1 y.f1 _ _ (Kd.C_below HI1.o HB4.o) HC1.o rfl).mono ?_; rintro e w' ⟨rfl, ⟨nd4, rfl⟩⟩) | (go_at_call 79; refine (impl_within.calls _ _ _ true _ HW.o).mono ?_; rintro e w' ⟨rfl, ⟨nd5, rfl⟩⟩) | (go_at_call 84; refine (HCA.out _ (blk_drewN BK4.o _) (pw_below_drewN HB4.o _)).mono ?_; rintro e w5 ⟨rfl, hb⟩; have HB5 := q_ (below_step (pw_below_drewN HB4.o _) hb); clear hb))
          go_ret
          exact ⟨by (rw [hs2.o]; try rfl), by repeat (first | (with_reducible exact HB5.o) | apply pw_below_drewN | apply below_drew1)⟩
        · rw [hq4] at hs0 HCA
          have hs2 : J0 (gb = modesB l0 (kk + 1)) := ⟨by rw [hs0.o]; rfl⟩
          clear hs0 hq4
          go_wp2_with (first | (go_at_call 81; refine (impl_isName.calls kn y.f0 true _ HN.o).mono ?_; rintro e w' ⟨rfl, ⟨nd3, rfl⟩⟩) | (go_at_call 82; refine (HMA.out nd3).mono ?_; rintro e w4 ⟨rfl, hb⟩; have HB4 := q_ (below_step (pw_below_drewN HB2.o nd3) hb); have BK4 := q_ (blk_below (blk_drewN BK2.o nd3) hb); have hc4 : w4.cell? ⟨gm, 1, none⟩ = some (.slice A1 y.f1.length c1) := (blk_cell (blk_below (blk_drewN BM2.o nd3) hb) 1).trans rfl; clear hb) | (go_at_call 83; refine (impl_Rule_83.calls A1 c1 y.f1 _ _ (Kd.C_below HI1.o HB4.o) HC1.o rfl).mono ?_; rintro e w' ⟨rfl, ⟨nd4, rfl⟩⟩) | (go_at_call 79; refine (impl_within.calls _ _ _ true _ HW.o).mono ?_; rintro e w' ⟨rfl, ⟨nd5, rfl⟩⟩) | (go_at_call 84; refine (HCA.out _ (blk_drewN BK4.o _) (pw_below_drewN HB4.o _)).mono ?_; rintro e w5 ⟨rfl, hb⟩; have BK5 := q_ (blk_below (blk_drewN BK4.o _) hb); have HB5 := q_ (below_step (pw_below_drewN HB4.o _) hb); clear hb))
          go_roundg (l0.length - (kk + 1))
          case measure => omega
          case rel => exact ⟨kk + 1, by omega, by omega, by go_num, hs2, ⟨BK5.o⟩, ⟨HB5.o⟩⟩
      · have hne1 : (mm != (kk : Int)) = true := by simpa using hq2
        have hs2 : J0 (gb = false) := ⟨by rw [HS.o, decide_eq_false hq2]; rfl⟩
        clear HS hq2
        go_wp2_with (first | (go_at_call 81; refine (impl_isName.calls kn y.f0 true _ HN.o).mono ?_; rintro e w' ⟨rfl, ⟨nd3, rfl⟩⟩) | (go_at_call 82; refine (HMA.out nd3).mono ?_; rintro e w4 ⟨rfl, hb⟩; have HB4 := q_ (below_step (pw_below_drewN HB2.o nd3) hb); clear hb))
        go_ret
        exact ⟨by (rw [hs2.o]; try rfl), by repeat (first | (with_reducible exact HB4.o) | apply pw_below_drewN | apply below_drew1)⟩
    · have hltz : ¬ (kk : Int) < (l0.length : Int) := by omega
      have hk : kk = l0.length := by omega
      have hs2 : J0 (gb = true) := ⟨by rw [HA.o, hk, modesB_end]⟩
      clear hk HA
      go_wp2
      go_ret
      exact ⟨by (rw [hs2.o]; try rfl), HB.o⟩
end Go.Proofs.Ytijmhelacmjggaa.P
namespace Go.Proofs.Ytijmhelacmjggaa.P
open Go.RowKit Go.Proofs.YtijmhelacmjggaaW.PrintWords Go.Proofs.YtijmhelacmjggaaW.PrintLast Go.Proofs.YtijmhelacmjggaaW.PrintMore
attribute [local go_sem] max2_int min2_int max_two min_two max_three min_three max_four min_four
set_option linter.unusedVariables false
set_option linter.unusedSimpArgs false
/-! ### impl_GrammarOk: function 28 -/
def smallRB (x : S113) : Bool := decide (x.f0.size ≤ 1048576) && (decide (x.f1.f0.length ≤ 1048576) && x.f1.f0.all fun y => decide (y.f2.length ≤ 9223372036854775807))
def smallMB (m : S108) : Bool := decide (m.f0.size ≤ 1048576) && (decide (m.f1.length ≤ 1048576) && m.f1.all smallRB)
def smallGB (g : List (S108)) : Bool := decide (g.length ≤ 1048576) && g.all smallMB
theorem smallG_iff (g : List (S108)) : smallGB g = true ↔ smallG g := by
  simp only [smallGB, smallMB, smallRB, smallG, smallM, smallR, Bool.and_eq_true, decide_eq_true_eq, List.all_eq_true]
def impl_GrammarOk.f (l0_0 : List (S108)) : Option (Bool) := if smallGB l0_0 = true then some (grammarB l0_0) else none
theorem impl_GrammarOk.calls (A0_0 : Option Addr) (c0_0 : Nat) (l0_0 : List (S108)) (r : Bool) (w : World) (hr0_0 : Kd.C k108 w A0_0 l0_0.length l0_0) (hc0_0 : l0_0.length ≤ c0_0) (h : impl_GrammarOk.f l0_0 = some r) :
    Calls Try.prog 28 #[.agg #[.slice A0_0 l0_0.length c0_0]] w fun e w' => e = .returned (.bool r) ∧ Below w.heap.size w w' := by
  unfold impl_GrammarOk.f at h
  by_cases hp : smallGB l0_0 = true
  · rw [if_pos hp] at h
    obtain rfl := Option.some.inj h
    exact GrammarOk_hand A0_0 c0_0 l0_0 w ((smallG_iff l0_0).1 hp) hr0_0 hc0_0
  · rw [if_neg hp] at h
    exact absurd h (by simp)
end Go.Proofs.Ytijmhelacmjggaa.P
namespace Go.Proofs.Ytijmhelacmjggaa.P
open Go.RowKit Go.Proofs.YtijmhelacmjggaaW.PrintWords Go.Proofs.YtijmhelacmjggaaW.PrintLast Go.Proofs.YtijmhelacmjggaaEv
set_option linter.unusedVariables false
set_option linter.unusedSimpArgs false
theorem smallR_of (x : S218) (hw : wRule x ≤ 1048576) (hg : g218 x) : smallR (cRule x) := by
  have e : x.f0.size + (x.f1.f0.length + ws wRNode x.f1.f0) + x.f4.size ≤ 1048576 := hw
  refine ⟨by show x.f0.size ≤ _; omega, by show (x.f1.f0.map cRNode).length ≤ _; rw [List.length_map]; omega, fun y hy => ?_⟩
  obtain ⟨z, hz, rfl⟩ := List.mem_map.1 (show y ∈ x.f1.f0.map cRNode from hy)
  exact (hRNode_of_g (hg.2.1.2 z hz)).2
theorem smallM_of (x : S171) (hw : wMode x ≤ 1048576) (hg : g171 x) : smallM (cMode x) := by
  have e : x.f0.size + (x.f1.length + ws wRule x.f1) ≤ 1048576 := hw
  refine ⟨by show x.f0.size ≤ _; omega, by show (x.f1.map cRule).length ≤ _; rw [List.length_map]; omega, fun y hy => ?_⟩
  obtain ⟨z, hz, rfl⟩ := List.mem_map.1 (show y ∈ x.f1.map cRule from hy)
  have := ws_mem wRule _ z hz
  exact smallR_of z (by omega) (hg.2.2 z hz)
theorem smallG_of (l : List S171) (hw : l.length + ws wMode l ≤ 1048576) (hg : ∀ y ∈ l, g171 y) : smallG (l.map cMode) := by
  refine ⟨by rw [List.length_map]; omega, fun y hy => ?_⟩
  obtain ⟨z, hz, rfl⟩ := List.mem_map.1 hy
  have := ws_mem wMode _ z hz
  exact smallM_of z (by omega) (hg z hz)
theorem hMode_all (l : List S171) (hg : ∀ y ∈ l, g171 y) : ∀ x ∈ l.map cMode, h108 x := fun y hy => by
  obtain ⟨z, hz, rfl⟩ := List.mem_map.1 hy
  exact hMode_of_g (hg z hz)
theorem impl_GrammarOk_eq (g : List S108) (h : smallG g) : impl_GrammarOk.f g = some (grammarB g) := if_pos ((smallG_iff g).2 h)
end Go.Proofs.Ytijmhelacmjggaa.P
namespace Go.Proofs.Ytijmhelacmjggaa.P
open Go.RowKit Go.Proofs.YtijmhelacmjggaaW.PrintWords Go.Proofs.YtijmhelacmjggaaW.PrintLast Go.Proofs.YtijmhelacmjggaaW.PrintMore
attribute [local go_sem] max2_int min2_int max_two min_two max_three min_three max_four min_four
set_option linter.unusedVariables false
set_option linter.unusedSimpArgs false
/-! ### spec_l6List: function 94 -/
def spec_l6List.l0 : Nat → List Bool → List Int → Int → Option (List Int)
 | 0, _, _, _ => none
 | k + 1, x0, x3, x4 => if x4 < (x0.length : Int) then (if 0 ≤ x4 then (if rdOf false x0 x4 = true then (if x3.length < 17592186044416 then (spec_l6List.l0 k x0 (x3 ++ [x4]) (wrap64 (x4 + 1))) else (none)) else (spec_l6List.l0 k x0 x3 (wrap64 (x4 + 1)))) else (none)) else (some x3)
def spec_l6List.f (k : Nat) (l0 : List Bool) : Option (List Int) := spec_l6List.l0 k l0 (([] : List Int)) 0
theorem spec_l6List.calls (k : Nat) (A0 : Option Addr) (c0 : Nat) (l0 : List Bool) (r : List Int) (w : World) (hr0 : Kd.C Kd.bool w A0 l0.length l0) (hc0 : l0.length ≤ c0) (h : spec_l6List.f k l0 = some r) :
  Calls Try.prog 94 #[.slice A0 l0.length c0] w fun e w' => ∃ v0_ : Value, e = .returned (v0_) ∧ Kd.R (Kd.int .i64) 2 w' w.heap.size (fun _ => True) v0_ r ∧ Below w.heap.size w w' := by
 have HR0 := q_ hr0; have HC0 := q_ hc0; clear hr0 hc0; have HB := q_ (Below.refl w.heap.size w)
 have H : (spec_l6List.l0 k l0 (([] : List Int)) 0) = some r := h
 clear h
 obtain ⟨y101, hy101⟩ : ∃ y_ : List Int, y_ = (([] : List Int)) := ⟨_, rfl⟩
 replace H : (spec_l6List.l0 k l0 y101 0) = some r := by first | (rw [hy101]; with_reducible exact H) | (have H2_ := (Option.bind_some _ _).symm.trans H; rw [hy101]; with_reducible exact H2_) | (have H2_ := (Option.bind_some _ _).symm.trans H; with_reducible exact H2_) | with_reducible exact H | (rw [hy101]; exact H) | exact H
 have Ny101 := q_ hy101; clear hy101
 have H' := q_ H
 clear H
 go_enter Try.func94, Try.ntmps94
 go_wp2_with (first | ((with_reducible refine gate_dst (N := 5) rfl ?_); refine Kd.R_lit (Kd.int .i64) _ 2 ?hg (N := 5) ?hd (xs := ([] : List Int)) (inner := []) (ok := fun _ => True) (okp := fun _ => True) ?hr ?hp (fun _ hk => hk) trivial (Below.refl _ _) (Nat.le_refl _) (by simp) ?_; (case hd => rfl); (case hg => rfl); (case hr => first | (go_simp; done) | (go_simp; rfl)); (case hp => exact (Reps.none _ _)); intro v102 w2 ho3 hb hg_ hnew_; clear hg_ hnew_; (first | rw [← Ny101.o] at ho3 | (simp only [Int.reduceToNat] at ho3; rw [← Ny101.o] at ho3)); have HO103 := q_ (Kd.R_lower ho3 (below_size (be_ HB.o))); replace HB := sb_ HB hb; clear hb ho3))
 go_loopg [3, 4] k (fun kq v3 v4 w' => ∃ (x3_1 : List Int) (x4_1 : Int), v4 = .int .i64 x4_1 ∧ J0 (spec_l6List.l0 kq l0 x3_1 x4_1 = some r) ∧ J0 (kq ≤ k) ∧ J0 (Kd.R (Kd.int .i64) 2 w' w.heap.size (fun _ => True) v3 x3_1) ∧ J0 (Below w.heap.size w w'))
 case atStart => exact ⟨(y101), (0), rs_, H', ⟨Nat.le_refl _⟩, ⟨ra_ HO103.o⟩, ⟨be_ HB.o⟩⟩
 case round =>
  clear H'; obtain ⟨x3_1, x4_1, rfl, HA, HK1, HO_3, HB⟩ := hrel
  cases gk with
  | zero => exact absurd HA.o (by simp [spec_l6List.l0])
  | succ k1 =>
   have H := HA.o; clear HA
   simp only [spec_l6List.l0] at H
   by_cases c4 : x4_1 < (l0.length : Int)
   ·rw [if_pos c4] at H; have c4b0 := dt_ c4; clear c4
    by_cases c5 : 0 ≤ x4_1
    ·rw [if_pos c5] at H; have c5b0 := dt_ c5; clear c5
     obtain ⟨bq6, hbq6⟩ : ∃ b_ : Bool, b_ = (rdOf false l0 x4_1) := ⟨_, rfl⟩
     replace H : (if bq6 = true then (if x3_1.length < 17592186044416 then (spec_l6List.l0 k1 l0 (x3_1 ++ [x4_1]) (wrap64 (x4_1 + 1))) else (none)) else (spec_l6List.l0 k1 l0 x3_1 (wrap64 (x4_1 + 1)))) = some r := by rw [← hbq6] at H; exact H
     have Nbq6 := q_ hbq6; clear hbq6
     by_cases c7 : bq6 = true
     ·subst c7; rw [if_pos rfl] at H
      by_cases c8 : x3_1.length < 17592186044416
      ·rw [if_pos c8] at H; have LMc8 := q_ c8; clear c8
       obtain ⟨y105, hy105⟩ : ∃ y_ : List Int, y_ = (x3_1 ++ [x4_1]) := ⟨_, rfl⟩
       replace H : (spec_l6List.l0 k1 l0 y105 (wrap64 (x4_1 + 1))) = some r := by first | (rw [hy105]; with_reducible exact H) | (have H2_ := (Option.bind_some _ _).symm.trans H; rw [hy105]; with_reducible exact H2_) | (have H2_ := (Option.bind_some _ _).symm.trans H; with_reducible exact H2_) | with_reducible exact H | (rw [hy105]; exact H) | exact H
       have Ny105 := q_ hy105; clear hy105
       have H' := q_ H
       clear H
       have p104 : 0 ≤ (x4_1 : Int) := of_decide_eq_true as_
       have q104 : x4_1 < (l0.length : Int) := of_decide_eq_true as_
       obtain ⟨ad104, e104, hx104_0⟩ := Kd.at_bool HR0.o x4_1 p104 q104
       (try rw [← Nbq6.o] at hx104_0)
       cases e104
       replace hx104_0 := mv_ HB.o hx104_0; replace p104 := eq_true p104; replace q104 := eq_true q104
       go_wp2_with (first | ((with_reducible refine gate_builtin (b := .append) (xs := #[.tmp 16, .tmp 18]) rfl ?_); at_builtin; refine Kd.R_append (Kd.int .i64) (w0 := w) w.heap.size rfl (.tmp 16) (.tmp 18) 56 2 (.int .i64 0) 8 rfl Try.underlying56 info2 rfl (by decide) (by omega) u3 x3_1 x4_1 [.int .i64 x4_1] (fun _ => True) (fun _ => False) rfl rfl ?aP (fun _ hk => hk.elim) ?aF ?aO ?aB ?aS ?aL ?_; (case aP => exact rfl); (case aB => exact (be_ HB.o)); (case aF => exact (fun _ _ => trivial)); (case aO => exact (ra_ HO_3.o)); (case aS => exact (below_size (be_ HB.o))); (case aL => have := LMc8.o; omega); intro v106 w9 ho hb hg hat; rw [← Ny105.o] at ho; have HO107 := q_ (ho); replace HB := q_ (hb); clear HO_3; clear ho hb hg hat))
       go_roundg k1
       case measure => have := HK1.o; omega
       case rel => exact ⟨(y105), (wrap64 (x4_1 + 1)), rs_, H', ⟨by have := HK1.o; omega⟩, ⟨ra_ HO107.o⟩, ⟨be_ HB.o⟩⟩
      ·rw [if_neg c8] at H
       exact absurd H (by simp)
     ·replace c7 := Bool.eq_false_iff.mpr c7; subst c7; rw [if_neg nft_] at H
      have H' := q_ H
      clear H
      have p104 : 0 ≤ (x4_1 : Int) := of_decide_eq_true as_
      have q104 : x4_1 < (l0.length : Int) := of_decide_eq_true as_
      obtain ⟨ad104, e104, hx104_0⟩ := Kd.at_bool HR0.o x4_1 p104 q104
      (try rw [← Nbq6.o] at hx104_0)
      cases e104
      replace hx104_0 := mv_ HB.o hx104_0; replace p104 := eq_true p104; replace q104 := eq_true q104
      go_wp2
      go_roundg k1
      case measure => have := HK1.o; omega
      case rel => exact ⟨(x3_1), (wrap64 (x4_1 + 1)), rs_, H', ⟨by have := HK1.o; omega⟩, ⟨ra_ HO_3.o⟩, ⟨be_ HB.o⟩⟩
    ·rw [if_neg c5] at H
     exact absurd H (by simp)
   ·rw [if_neg c4] at H; have c4b0 := df_ c4; clear c4; obtain rfl := Option.some.inj H
    go_wp2
    go_ret
    exact ⟨_, rt_, ra_ HO_3.o, be_ HB.o⟩
/-! ### spec_ReachedModes: function 38 -/
mutual
def spec_ReachedModes.l0 : Nat → List Bool → Int → List (S108) → Option (List Int)
 | 0, _, _, _ => none
 | k + 1, x4, x5, x102000 => if x5 < (x102000.length : Int) then (spec_ReachedModes.l1 k x4 x5 0 x102000) else ((spec_l6List.f k x4).bind fun t110 => (some t110))
def spec_ReachedModes.l1 : Nat → List Bool → Int → Int → List (S108) → Option (List Int)
 | 0, _, _, _, _ => none
 | k + 1, x4, x5, x6, x102000 => if x6 < (x102000.length : Int) then (spec_ReachedModes.l2 k x4 x5 x6 0 x102000) else (spec_ReachedModes.l0 k x4 (wrap64 (x5 + 1)) x102000)
def spec_ReachedModes.l2 : Nat → List Bool → Int → Int → Int → List (S108) → Option (List Int)
 | 0, _, _, _, _, _ => none
 | k + 1, x4, x5, x6, x7, x102000 => if 0 ≤ x6 then (if x6 < (x4.length : Int) then (if rdOf false x4 x6 = true then (if x6 < (x102000.length : Int) then (spec_ReachedModes.j3 k x4 x5 x6 x7 (decide (x7 < (((rd_T108 x102000 x6).f1).length : Int))) x102000) else (none)) else (spec_ReachedModes.j3 k x4 x5 x6 x7 false x102000)) else (none)) else (none)
def spec_ReachedModes.j3 : Nat → List Bool → Int → Int → Int → Bool → List (S108) → Option (List Int)
 | 0, _, _, _, _, _, _ => none
 | k + 1, x4, x5, x6, x7, x48, x102000 => if x48 = true then (if 0 ≤ x6 then (if x6 < (x102000.length : Int) then (if 0 ≤ x7 then (if x7 < (((rd_T108 x102000 x6).f1).length : Int) then ((spec_ModeAt.f k x102000 ((rd_T113 ((rd_T108 x102000 x6).f1) x7).f4)).bind fun t117 => (if t117 ≥ 0 then (if 0 ≤ t117 then (if t117 < (x4.length : Int) then (spec_ReachedModes.l2 k (x4.set (t117 : Int).toNat true) x5 x6 (wrap64 (x7 + 1)) x102000) else (none)) else (none)) else (spec_ReachedModes.l2 k x4 x5 x6 (wrap64 (x7 + 1)) x102000))) else (none)) else (none)) else (none)) else (none)) else (spec_ReachedModes.l1 k x4 x5 (wrap64 (x6 + 1)) x102000)
end
def spec_ReachedModes.f (k : Nat) (l0_0 : List (S108)) : Option (List Int) := (spec_GrammarOk.f k l0_0).bind fun t105 => (if t105 = true then (if 0 ≤ (l0_0.length : Int) then (if ((l0_0.length : Int) : Int).toNat ≤ 281474976710656 then ((some (List.replicate ((l0_0.length : Int) : Int).toNat false : List Bool)).bind fun y106 => (if 0 < (y106.length : Int) then (spec_ReachedModes.l0 k (y106.set (0 : Int).toNat true) 0 l0_0) else (none))) else (none)) else (none)) else (some (([] : List Int))))
def spec_ReachedModes.T15 : Bool × List (List Nat × List Nat) := (true, [([], []), ([], []), ([1], [1]), ([], []), ([2, 3], [2, 3]), ([4], [4]), ([5], [5]), ([], []), ([6, 7], [6, 7]), ([8], [8]), ([9], [9]), ([0, 10], [0, 10]), ([11, 11, 0, 1, 2, 3, 4, 5, 6, 7, 8, 9, 10, 11], [11])])
def spec_ReachedModes.B15 : List Nat := [0, 0, 2, 0, 14, 30, 62, 0, 254, 510, 1022, 2047, 4095]
theorem spec_ReachedModes.tab15 : rtab .any (opsOf Try.f38 15) = spec_ReachedModes.T15 := by kernel_rfl
theorem spec_ReachedModes.bits15 : waitsOk spec_ReachedModes.T15.2 spec_ReachedModes.B15 = true := by kernel_rfl
theorem spec_ReachedModes.calls (k : Nat) (A0_0 : Option Addr) (c0_0 : Nat) (l0_0 : List (S108)) (r : List Int) (w : World) (hr0_0 : Kd.C k108 w A0_0 l0_0.length l0_0) (hc0_0 : l0_0.length ≤ c0_0) (h : spec_ReachedModes.f k l0_0 = some r) :
  Calls Try.prog 38 #[.agg #[.slice A0_0 l0_0.length c0_0]] w fun e w' => ∃ v0_ : Value, e = .returned (v0_) ∧ Kd.R (Kd.int .i64) 2 w' w.heap.size (fun _ => True) v0_ r ∧ Below w.heap.size w w' := by
 have hu46 := Try.underlying46; have HR0_0 := q_ hr0_0; have HC0_0 := q_ hc0_0; clear hr0_0 hc0_0; have HB := q_ (Below.refl w.heap.size w)
 have H : ((spec_GrammarOk.f k l0_0).bind fun t105 => (if t105 = true then (if 0 ≤ (l0_0.length : Int) then (if ((l0_0.length : Int) : Int).toNat ≤ 281474976710656 then ((some (List.replicate ((l0_0.length : Int) : Int).toNat false : List Bool)).bind fun y106 => (if 0 < (y106.length : Int) then (spec_ReachedModes.l0 k (y106.set (0 : Int).toNat true) 0 l0_0) else (none))) else (none)) else (none)) else (some (([] : List Int))))) = some r := h
 clear h
 obtain ⟨y102, hy102⟩ : ∃ y_ : List Int, y_ = (([] : List Int)) := ⟨_, rfl⟩
 replace H : ((spec_GrammarOk.f k l0_0).bind fun t105 => (if t105 = true then (if 0 ≤ (l0_0.length : Int) then (if ((l0_0.length : Int) : Int).toNat ≤ 281474976710656 then ((some (List.replicate ((l0_0.length : Int) : Int).toNat false : List Bool)).bind fun y106 => (if 0 < (y106.length : Int) then (spec_ReachedModes.l0 k (y106.set (0 : Int).toNat true) 0 l0_0) else (none))) else (none)) else (none)) else (some y102))) = some r := by first | (rw [hy102]; with_reducible exact H) | (have H2_ := (Option.bind_some _ _).symm.trans H; rw [hy102]; with_reducible exact H2_) | (have H2_ := (Option.bind_some _ _).symm.trans H; with_reducible exact H2_) | with_reducible exact H | (rw [hy102]; exact H) | exact H
 have Ny102 := q_ hy102; clear hy102; obtain ⟨t105, A2, H⟩ := ob_ H
 by_cases c3 : t105 = true
 ·subst c3; rw [if_pos rfl] at H
  by_cases c4 : 0 ≤ (l0_0.length : Int)
  ·rw [if_pos c4] at H; have c4b0 := eq_true c4; have c4b1 := dt_ c4; clear c4
   by_cases c5 : ((l0_0.length : Int) : Int).toNat ≤ 281474976710656
   ·rw [if_pos c5] at H; have c5b0 := eq_true c5; have c5b1 := dt_ c5; clear c5
    obtain ⟨y106, hy106⟩ : ∃ y_ : List Bool, y_ = (List.replicate ((l0_0.length : Int) : Int).toNat false) := ⟨_, rfl⟩
    replace H : (if 0 < (y106.length : Int) then (spec_ReachedModes.l0 k (y106.set (0 : Int).toNat true) 0 l0_0) else (none)) = some r := by first | (rw [hy106]; with_reducible exact H) | (have H2_ := (Option.bind_some _ _).symm.trans H; rw [hy106]; with_reducible exact H2_) | (have H2_ := (Option.bind_some _ _).symm.trans H; with_reducible exact H2_) | with_reducible exact H | (rw [hy106]; exact H) | exact H
    have Ny106 := q_ hy106; clear hy106
    by_cases c6 : 0 < (y106.length : Int)
    ·rw [if_pos c6] at H; have c6b0 := dt_ c6
     have c6b1 : decide (0 < y106.length) = true := decide_eq_true (by omega)
     clear c6
     obtain ⟨y109, hy109⟩ : ∃ y_ : List Bool, y_ = (y106.set (0 : Int).toNat true) := ⟨_, rfl⟩
     replace H : (spec_ReachedModes.l0 k y109 0 l0_0) = some r := by first | (rw [hy109]; with_reducible exact H) | (have H2_ := (Option.bind_some _ _).symm.trans H; rw [hy109]; with_reducible exact H2_) | (have H2_ := (Option.bind_some _ _).symm.trans H; with_reducible exact H2_) | with_reducible exact H | (rw [hy109]; exact H) | exact H
     have Ny109 := q_ hy109; clear hy109
     have H' := q_ H
     clear H
     go_enter Try.func38, Try.ntmps38
     go_wp2_with (first | ((with_reducible refine gate_dst (N := 1) rfl ?_); (try (refine gate_guard (by rfl) ?_; dsimp only)); refine bx_ 1 #[.slice A0_0 l0_0.length c0_0] 46 ?_; intro gb101 hg w8 hbox hb; have BK101 := q_ (hbox); have GW101 := ge_ hg HB; have GE101 := GW101; replace HB := sb_ HB hb; clear hb hbox hg) | ((with_reducible refine gate_dst (N := 9) rfl ?_); (try (refine gate_guard (by rfl) ?_; dsimp only)); refine Kd.R_lit (Kd.int .i64) _ 2 ?hg (N := 9) ?hd (xs := ([] : List Int)) (inner := []) (ok := fun _ => True) (okp := fun _ => True) ?hr ?hp (fun _ hk => hk) trivial (Below.refl _ _) (Nat.le_refl _) (by simp) ?_; (case hd => rfl); (case hg => rfl); (case hr => first | (go_simp; done) | (go_simp; rfl)); (case hp => exact (Reps.none _ _)); intro v103 w9 ho10 hb hg_ hnew_; clear hg_ hnew_; (first | rw [← Ny102.o] at ho10 | (simp only [Int.reduceToNat] at ho10; rw [← Ny102.o] at ho10)); have HO104 := q_ (Kd.R_lower ho10 (below_size (be1_ HB.o GE101.o))); replace BK101 := lb_ BK101 hb; replace HB := sb1_ HB GE101 hb; clear hb ho10; obtain ⟨hcz11_0, hfz11_0⟩ := d1_ BK101) | ((with_reducible refine gate_callee (f := 26) rfl ?_); refine gl_ (some 11) rfl rfl Try.func26 #[.agg #[.slice A0_0 l0_0.length c0_0]] ?_; (with_reducible refine (spec_GrammarOk.calls k _ _ l0_0 true _ ?side1 ?side2 A2.o).mono ?_); (case side1 => exact Kd.C_below HR0_0.o (be_ HB.o)); (case side2 => exact HC0_0.o); rintro e w12 ⟨rfl, hb⟩; refine ⟨_, rfl, ?_⟩; replace HO104 := q_ (Kd.R_below (ra_ HO104.o) hb); replace BK101 := lb_ BK101 hb; replace HB := sb1_ HB GE101 hb; (try clear hb); obtain ⟨hcz13_0, hfz13_0⟩ := d1_ BK101) | ((with_reducible refine gate_dst (N := 17) rfl ?_); (try (refine gate_guard (by rfl) ?_; dsimp only)); refine Kd.R_make Kd.bool _ 4 rfl (N := 17) rfl 124 _ _ rfl (l0_0.length : Int) rfl rfl Try.underlying124 (.bool false) 1 info4 rfl (by decide) (by omega) false (ok := fun _ => True) (okp := fun _ => True) rfl (fun _ hk => hk) trivial (of_decide_eq_true as_) (Nat.le_trans (Nat.mul_le_mul_right _ (of_decide_eq_true as_ : (l0_0.length : Int).toNat ≤ 281474976710656)) (by omega)) (Below.refl _ _) (Nat.le_refl _) ?_; intro v107 w14 ho15 hb hg_ hnew_; clear hg_ hnew_; (first | rw [← Ny106.o] at ho15 | (simp only [Int.reduceToNat] at ho15; rw [← Ny106.o] at ho15)); have HO108 := q_ (Kd.R_lower ho15 (below_size (be1_ HB.o GE101.o))); replace HO104 := q_ (Kd.R_below (ra_ HO104.o) hb); replace BK101 := lb_ BK101 hb; replace HB := sb1_ HB GE101 hb; clear hb ho15; have p7 : 0 ≤ (0 : Int) := (by omega); have q7 : (0 : Int) < ((y106.length : Int) : Int) := of_decide_eq_true as_; have qi7 : (0 < y106.length) = True := eq_true (by omega); obtain ⟨go7, co7, eo7, gb7, gl7, cl7, HG7⟩ := Kd.R_form HO108.o (by omega); (first | cases eo7 | (injection eo7 with ea_ en_ ec_; (first | subst ea_ | (injection ea_ with ea_; subst ea_)); subst ec_; clear en_)); have GB7 := q_ gb7; have GG7 := q_ HG7; clear gb7 gl7 HG7; obtain ⟨hx7_0, hf7_0⟩ := Kd.R_celln false HO108.o (0 : Int) p7 q7; (try rw [show ((0 : Int)).toNat = 0 from rfl] at hx7_0); (try simp only [Nat.reduceMul, Nat.zero_mul, Nat.zero_add, Nat.reduceAdd] at hx7_0); (try rw [show ((0 : Int)).toNat = 0 from rfl] at hf7_0); (try simp only [Nat.reduceMul, Nat.zero_mul, Nat.zero_add, Nat.reduceAdd] at hf7_0); replace p7 := eq_true p7; replace q7 := eq_true q7; obtain ⟨hy16_, hz16_⟩ := Kd.R_celln false HO108.o (0 : Int) (by omega) (of_decide_eq_true as_); (try simp only [Int.reduceToNat, Int.toNat_zero, Int.toNat_ofNat, Nat.reduceMul, Nat.zero_mul, Nat.zero_add] at hy16_ hz16_); (try rw [show ((0 : Int)).toNat = 0 from rfl] at hy16_); (try rw [show ((0 : Int)).toNat = 0 from rfl] at hz16_); have HP16 := Kd.R_putg HO108.o (0 : Int) true) | ((with_reducible refine gate_store (t := 4) (p := 19) rfl ?_); refine store_event (t := 4) (p := 19) (v := ?vo_w17) (w1 := (w14.setCell ⟨go7, (0 : Int).toNat, none⟩ (.bool true))) ?hg ?ho ?hn ?hr ?_; (case ho => rfl); (case hg => rfl); (case hn => rfl); (case hr => first | (go_simp; done) | (go_simp; rfl)); intro w17 hw; have hg : w14.grownBy w17 (some go7) := (by rw [hw]; exact HP16.2); have hp_ : Kd.R Kd.bool 4 w17 w.heap.size (fun _ => True) (.slice (some ⟨go7, 0, none⟩) y106.length co7) y109 := (by rw [hw, Ny109.o]; exact HP16.1); clear HP16; replace BK101 := q_ (blk_grown (g := gb101) (o := .cells #[.slice A0_0 l0_0.length c0_0] 46 (0, 0)) (bk_ BK101.o) hg (Kd.R_ne HO108.o BK101.o (by decide))); replace HO104 := q_ (Kd.R_over' (v := (.slice (some ⟨go7, 0, none⟩) y106.length co7)) (ra_ HO104.o) (Kd.R_typed HO108.o) (by decide) hg); replace HO108 := q_ (hp_); replace HB := q_ ((by rw [hw]; exact below_set (HB.o) GB7.out : Below w.heap.size w w17)); clear hg hw hp_))
     go_loopg [5] k (fun kq v5 w' => ∃ (x4_1 : List Bool) (x5_1 : Int), v5 = .int .i64 x5_1 ∧ J0 (spec_ReachedModes.l0 kq x4_1 x5_1 l0_0 = some r) ∧ J0 (kq ≤ k) ∧ J0 (Kd.R Kd.bool 4 w' w.heap.size (fun _ => True) (.slice (some ⟨go7, 0, none⟩) y106.length co7) x4_1) ∧ J0 (w'.heap[gb101]? = some (.cells #[(.slice A0_0 l0_0.length c0_0)] 46 (0, 0))) ∧ J0 (Below w.heap.size w w'))
     case atStart => exact ⟨(y109), (0), rs_, H', ⟨Nat.le_refl _⟩, ⟨ra_ HO108.o⟩, ⟨bk_ BK101.o⟩, ⟨be1_ HB.o GE101.o⟩⟩
     case round =>
      clear H'; (try clear c3); (try clear c4); (try clear c4b0); (try clear c4b1); (try clear c5); (try clear c5b0); (try clear c5b1); (try clear c6); (try clear c6b0); (try clear c6b1); (try clear p7); (try clear q7); (try clear qi7); (try clear hcz11_0); (try clear hcz13_0); (try clear hfz11_0); (try clear hfz13_0); (try clear hx7_0); (try clear p7); (try clear q7); obtain ⟨x4_1, x5_1, rfl, HA, HK1, HO_4, BK101, HB⟩ := hrel; have hl4_1 := (Kd.R_reads' HO_4.o).1
      rw [hl4_1] at HO_4
      (try simp only [hl4_1])
      (try simp only [hl4_1] at BK101)
      cases gk with
      | zero => exact absurd HA.o (by simp [spec_ReachedModes.l0])
      | succ k1 =>
       have H := HA.o; clear HA
       simp only [spec_ReachedModes.l0] at H
       by_cases c18 : x5_1 < (l0_0.length : Int)
       ·rw [if_pos c18] at H; have c18b0 := dt_ c18; clear c18
        have H' := q_ H
        clear H; obtain ⟨hcz19_0, hfz19_0⟩ := d1_ BK101
        go_wp2
        go_loopg [6] k1 (fun kq v6 w' => ∃ (x4_2 : List Bool) (x6_2 : Int), v6 = .int .i64 x6_2 ∧ J0 (spec_ReachedModes.l1 kq x4_2 x5_1 x6_2 l0_0 = some r) ∧ J0 (kq ≤ k1) ∧ J0 (Kd.R Kd.bool 4 w' w.heap.size (fun _ => True) (.slice (some ⟨go7, 0, none⟩) x4_1.length co7) x4_2) ∧ J0 (w'.heap[gb101]? = some (.cells #[(.slice A0_0 l0_0.length c0_0)] 46 (0, 0))) ∧ J0 (Below w.heap.size w w'))
        case atStart => exact ⟨(x4_1), (0), rs_, H', ⟨Nat.le_refl _⟩, ⟨by (try simp only [hl4_1]); (with_reducible repeat (first | apply Kd.R_alloc | apply Kd.R_drewN | apply Kd.R_drew)); exact HO_4.o⟩, ⟨by (try simp only [hl4_1]); (with_reducible repeat (first | refine blk_drewN ?_ _ | refine blk_drew ?_ | refine blk_alloc ?_ _)); exact BK101.o⟩, ⟨be1_ HB.o GE101.o⟩⟩
        case round =>
         clear H'; (try clear c3); (try clear c4); (try clear c4b0); (try clear c4b1); (try clear c5); (try clear c5b0); (try clear c5b1); (try clear c6); (try clear c6b0); (try clear c6b1); (try clear p7); (try clear q7); (try clear qi7); (try clear c18); (try clear c18b0); (try clear hcz11_0); (try clear hcz13_0); (try clear hcz19_0); (try clear hfz11_0); (try clear hfz13_0); (try clear hfz19_0); (try clear hx7_0); (try clear p7); (try clear q7); obtain ⟨x4_2, x6_2, rfl, HA, HK2, HO_4, BK101, HB⟩ := hrel; have hl4_2 := (Kd.R_reads' HO_4.o).1
         rw [hl4_2] at HO_4
         (try simp only [hl4_2])
         (try simp only [hl4_2] at BK101)
         cases gk with
         | zero => exact absurd HA.o (by simp [spec_ReachedModes.l1])
         | succ k2 =>
          have H := HA.o; clear HA
          simp only [spec_ReachedModes.l1] at H
          by_cases c20 : x6_2 < (l0_0.length : Int)
          ·rw [if_pos c20] at H; have c20b0 := dt_ c20; clear c20
           have H' := q_ H
           clear H; obtain ⟨hcz21_0, hfz21_0⟩ := d1_ BK101
           go_wp2
           go_loopg [7] k2 (fun kq v7 w' => ∃ (x4_3 : List Bool) (x7_3 : Int), v7 = .int .i64 x7_3 ∧ J0 (spec_ReachedModes.l2 kq x4_3 x5_1 x6_2 x7_3 l0_0 = some r) ∧ J0 (kq ≤ k2) ∧ J0 (Kd.R Kd.bool 4 w' w.heap.size (fun _ => True) (.slice (some ⟨go7, 0, none⟩) x4_2.length co7) x4_3) ∧ J0 (w'.heap[gb101]? = some (.cells #[(.slice A0_0 l0_0.length c0_0)] 46 (0, 0))) ∧ J0 (Below w.heap.size w w'))
           case atStart => exact ⟨(x4_2), (0), rs_, H', ⟨Nat.le_refl _⟩, ⟨by (try simp only [hl4_1]); (try simp only [hl4_2]); (with_reducible repeat (first | apply Kd.R_alloc | apply Kd.R_drewN | apply Kd.R_drew)); exact HO_4.o⟩, ⟨by (try simp only [hl4_1]); (try simp only [hl4_2]); (with_reducible repeat (first | refine blk_drewN ?_ _ | refine blk_drew ?_ | refine blk_alloc ?_ _)); exact BK101.o⟩, ⟨be1_ HB.o GE101.o⟩⟩
           case round =>
            clear H'; (try clear c3); (try clear c4); (try clear c4b0); (try clear c4b1); (try clear c5); (try clear c5b0); (try clear c5b1); (try clear c6); (try clear c6b0); (try clear c6b1); (try clear p7); (try clear q7); (try clear qi7); (try clear c18); (try clear c18b0); (try clear c20); (try clear c20b0); (try clear hcz11_0); (try clear hcz13_0); (try clear hcz19_0); (try clear hcz21_0); (try clear hfz11_0); (try clear hfz13_0); (try clear hfz19_0); (try clear hfz21_0); (try clear hx7_0); (try clear p7); (try clear q7); obtain ⟨x4_3, x7_3, rfl, HA, HK3, HO_4, BK101, HB⟩ := hrel; have hl4_3 := (Kd.R_reads' HO_4.o).1
            rw [hl4_3] at HO_4
            (try simp only [hl4_3])
            (try simp only [hl4_3] at BK101)
            cases gk with
            | zero => exact absurd HA.o (by simp [spec_ReachedModes.l2])
            | succ k3 =>
             have H := HA.o; clear HA
             simp only [spec_ReachedModes.l2] at H
             have HC22 := q_ H; clear H
             go_upto_region 13 with (fail)
             go_cut [48] (fun v48 wc => ∃ (kq : Nat) (x48_21 : Bool), v48 = .bool x48_21 ∧ J0 (spec_ReachedModes.j3 kq x4_3 x5_1 x6_2 x7_3 x48_21 l0_0 = some r) ∧ J0 (kq ≤ k3) ∧ J0 (Kd.R Kd.bool 4 wc w.heap.size (fun _ => True) (.slice (some ⟨go7, 0, none⟩) x4_3.length co7) x4_3) ∧ J0 (wc.heap[gb101]? = some (.cells #[(.slice A0_0 l0_0.length c0_0)] 46 (0, 0))) ∧ J0 (Below w.heap.size w wc))
             case first =>
              have H := HC22.o; clear HC22
              by_cases c23 : 0 ≤ x6_2
              ·rw [if_pos c23] at H; have c23b0 := dt_ c23; clear c23
               (first | rw [c23b0] | (simp only [i64_w, i32_w]; rw [c23b0]) | skip)
               by_cases c24 : x6_2 < (x4_3.length : Int)
               ·rw [if_pos c24] at H; have c24b0 := dt_ c24; clear c24
                obtain ⟨bq25, hbq25⟩ : ∃ b_ : Bool, b_ = (rdOf false x4_3 x6_2) := ⟨_, rfl⟩
                replace H : (if bq25 = true then (if x6_2 < (l0_0.length : Int) then (spec_ReachedModes.j3 k3 x4_3 x5_1 x6_2 x7_3 (decide (x7_3 < (((rd_T108 l0_0 x6_2).f1).length : Int))) l0_0) else (none)) else (spec_ReachedModes.j3 k3 x4_3 x5_1 x6_2 x7_3 false l0_0)) = some r := by rw [← hbq25] at H; exact H
                have Nbq25 := q_ hbq25; clear hbq25
                by_cases c26 : bq25 = true
                ·subst c26; rw [if_pos rfl] at H
                 by_cases c27 : x6_2 < (l0_0.length : Int)
                 ·rw [if_pos c27] at H; have c27b0 := dt_ c27; clear c27
                  have H' := q_ H
                  clear H
                  have p113 : 0 ≤ (x6_2 : Int) := of_decide_eq_true as_
                  have q113 : x6_2 < (x4_3.length : Int) := of_decide_eq_true as_
                  obtain ⟨ad113, e113, hx113_0⟩ := Kd.at_bool (Kd.R_reads' HO_4.o).2.2 x6_2 p113 q113
                  (try rw [← Nbq25.o] at hx113_0)
                  obtain rfl : (⟨go7, 0, none⟩ : Addr) = ad113 := (by injection e113)
                  (first | simp only [add_plain] at hx113_0 | simp only [add_at] at hx113_0 | simp only [Addr.add, Nat.zero_add] at hx113_0 | skip)
                  replace p113 := eq_true p113; replace q113 := eq_true q113; obtain ⟨hcz28_0, hfz28_0⟩ := d1_ BK101
                  have p114 : 0 ≤ (x6_2 : Int) := of_decide_eq_true as_
                  have q114 : x6_2 < (l0_0.length : Int) := of_decide_eq_true as_
                  obtain ⟨ad114, A114_1, c114_1, e114, hx114_0, hx114_1, hl114_1, hi114_1⟩ := at_T108 HR0_0.o x6_2 p114 q114
                  cases e114
                  replace hx114_0 := mv_ HB.o hx114_0; replace hx114_1 := mv_ HB.o hx114_1; have HR114_1 := q_ hi114_1; have HC114_1 := q_ hl114_1; clear hi114_1 hl114_1; replace p114 := eq_true p114; replace q114 := eq_true q114
                  go_wp2
                  go_meet
                  case rel => exact ⟨_, (decide (x7_3 < (((rd_T108 l0_0 x6_2).f1).length : Int))), rs_, H', ⟨by have := HK1.o; have := HK2.o; have := HK3.o; first | omega | exact Nat.le_refl _⟩, ⟨by (try simp only [hl4_1]); (try simp only [hl4_2]); (try simp only [hl4_3]); (with_reducible repeat (first | apply Kd.R_alloc | apply Kd.R_drewN | apply Kd.R_drew)); exact HO_4.o⟩, ⟨by (try simp only [hl4_1]); (try simp only [hl4_2]); (try simp only [hl4_3]); (with_reducible repeat (first | refine blk_drewN ?_ _ | refine blk_drew ?_ | refine blk_alloc ?_ _)); exact BK101.o⟩, ⟨be1_ HB.o GE101.o⟩⟩
                 ·rw [if_neg c27] at H
                  exact absurd H (by simp)
                ·replace c26 := Bool.eq_false_iff.mpr c26; subst c26; rw [if_neg nft_] at H
                 have H' := q_ H
                 clear H
                 have p113 : 0 ≤ (x6_2 : Int) := of_decide_eq_true as_
                 have q113 : x6_2 < (x4_3.length : Int) := of_decide_eq_true as_
                 obtain ⟨ad113, e113, hx113_0⟩ := Kd.at_bool (Kd.R_reads' HO_4.o).2.2 x6_2 p113 q113
                 (try rw [← Nbq25.o] at hx113_0)
                 obtain rfl : (⟨go7, 0, none⟩ : Addr) = ad113 := (by injection e113)
                 (first | simp only [add_plain] at hx113_0 | simp only [add_at] at hx113_0 | simp only [Addr.add, Nat.zero_add] at hx113_0 | skip)
                 replace p113 := eq_true p113; replace q113 := eq_true q113
                 go_wp2
                 go_meet
                 case rel => exact ⟨_, (false), rs_, H', ⟨by have := HK1.o; have := HK2.o; have := HK3.o; first | omega | exact Nat.le_refl _⟩, ⟨by (try simp only [hl4_1]); (try simp only [hl4_2]); (try simp only [hl4_3]); (with_reducible repeat (first | apply Kd.R_alloc | apply Kd.R_drewN | apply Kd.R_drew)); exact HO_4.o⟩, ⟨by (try simp only [hl4_1]); (try simp only [hl4_2]); (try simp only [hl4_3]); (with_reducible repeat (first | refine blk_drewN ?_ _ | refine blk_drew ?_ | refine blk_alloc ?_ _)); exact BK101.o⟩, ⟨be1_ HB.o GE101.o⟩⟩
               ·rw [if_neg c24] at H
                exact absurd H (by simp)
              ·rw [if_neg c23] at H
               exact absurd H (by simp)
             case rest =>
              clear HC22; (try clear c3); (try clear c4); (try clear c4b0); (try clear c4b1); (try clear c5); (try clear c5b0); (try clear c5b1); (try clear c6); (try clear c6b0); (try clear c6b1); (try clear p7); (try clear q7); (try clear qi7); (try clear c18); (try clear c18b0); (try clear c20); (try clear c20b0); (try clear c23); (try clear c23b0); (try clear c24); (try clear c24b0); (try clear c26); (try clear c27); (try clear c27b0); (try clear hcz11_0); (try clear hcz13_0); (try clear hcz19_0); (try clear hcz21_0); (try clear hcz28_0); (try clear hfz11_0); (try clear hfz13_0); (try clear hfz19_0); (try clear hfz21_0); (try clear hfz28_0); (try clear hx113_0); (try clear hx114_0); (try clear hx114_1); (try clear hx7_0); (try clear p113); (try clear p114); (try clear p7); (try clear q113); (try clear q114); (try clear q7); obtain ⟨kq, x48_21, rfl, HA, HJ21, HO_4, BK101, HB⟩ := hcut
              cases kq with
              | zero => exact absurd HA.o (by simp [spec_ReachedModes.j3])
              | succ kj21 =>
               have H := HA.o; clear HA
               simp only [spec_ReachedModes.j3] at H
               by_cases c29 : x48_21 = true
               ·subst c29; rw [if_pos rfl] at H
                by_cases c30 : 0 ≤ x6_2
                ·rw [if_pos c30] at H; have c30b0 := dt_ c30; clear c30
                 by_cases c31 : x6_2 < (l0_0.length : Int)
                 ·rw [if_pos c31] at H; have c31b0 := dt_ c31; clear c31
                  by_cases c32 : 0 ≤ x7_3
                  ·rw [if_pos c32] at H; have c32b0 := dt_ c32; clear c32
                   by_cases c33 : x7_3 < (((rd_T108 l0_0 x6_2).f1).length : Int)
                   ·rw [if_pos c33] at H; have c33b0 := dt_ c33; clear c33; obtain ⟨t117, A34, H⟩ := ob_ H
                    by_cases c35 : t117 ≥ 0
                    ·rw [if_pos c35] at H
                     have c35b0 : decide (0 ≤ t117) = true := dt_ c35
                     clear c35
                     by_cases c36 : 0 ≤ t117
                     ·rw [if_pos c36] at H; have c36b0 := dt_ c36; clear c36
                      by_cases c37 : t117 < (x4_3.length : Int)
                      ·rw [if_pos c37] at H; have c37b0 := dt_ c37; clear c37
                       obtain ⟨y118, hy118⟩ : ∃ y_ : List Bool, y_ = (x4_3.set (t117 : Int).toNat true) := ⟨_, rfl⟩
                       replace H : (spec_ReachedModes.l2 kj21 y118 x5_1 x6_2 (wrap64 (x7_3 + 1)) l0_0) = some r := by first | (rw [hy118]; with_reducible exact H) | (have H2_ := (Option.bind_some _ _).symm.trans H; rw [hy118]; with_reducible exact H2_) | (have H2_ := (Option.bind_some _ _).symm.trans H; with_reducible exact H2_) | with_reducible exact H | (rw [hy118]; exact H) | exact H
                       have Ny118 := q_ hy118; clear hy118
                       have H' := q_ H
                       clear H
                       try go_wp2
                       replace HO_4 := q_ (Kd.R_drew HO_4.o); replace BK101 := q_ (blk_drew BK101.o); replace HB := q_ (below_drew1 HB.o)
                       have p115 : 0 ≤ (x6_2 : Int) := of_decide_eq_true as_
                       have q115 : x6_2 < (l0_0.length : Int) := of_decide_eq_true as_
                       obtain ⟨ad115, A115_1, c115_1, e115, hx115_0, hx115_1, hl115_1, hi115_1⟩ := at_T108 HR0_0.o x6_2 p115 q115; have hw115_1 := hx115_1; have hw115_0 := hx115_0
                       cases e115
                       replace hx115_0 := mv_ HB.o hx115_0; replace hx115_1 := mv_ HB.o hx115_1; have HR115_1 := q_ hi115_1; have HC115_1 := q_ hl115_1; clear hi115_1 hl115_1; replace p115 := eq_true p115; replace q115 := eq_true q115
                       have p116 : 0 ≤ (x7_3 : Int) := of_decide_eq_true as_
                       have q116 : x7_3 < (((rd_T108 l0_0 x6_2).f1).length : Int) := of_decide_eq_true as_
                       obtain ⟨ad116, A116_1, c116_1, e116, hx116_0, hx116_1, hx116_2, hx116_3, hx116_4, hl116_1, hi116_1⟩ := at_T113 HR115_1.o x7_3 p116 q116; have hw116_4 := hx116_4; have hw116_3 := hx116_3; have hw116_2 := hx116_2; have hw116_1 := hx116_1; have hw116_0 := hx116_0
                       cases e116
                       replace hx116_0 := mv_ HB.o hx116_0; replace hx116_1 := mv_ HB.o hx116_1; replace hx116_2 := mv_ HB.o hx116_2; replace hx116_3 := mv_ HB.o hx116_3; replace hx116_4 := mv_ HB.o hx116_4; have HR116_1 := q_ hi116_1; have HC116_1 := q_ hl116_1; clear hi116_1 hl116_1; replace p116 := eq_true p116; replace q116 := eq_true q116
                       refine start_ (n := 13) (S := fun w' => w'.cell? ⟨gb101, 0, none⟩ = some (.slice (some ad115) l0_0.length c0_0) ∧ w'.cell? (ad115.add ((x6_2).toNat * 2)) = some (.string ((rd_T108 l0_0 x6_2).f0)) ∧ w'.cell? ⟨(ad115.add ((x6_2).toNat * 2)).block, (ad115.add ((x6_2).toNat * 2)).off + 1, none⟩ = some (.slice (some ad116) ((rd_T108 l0_0 x6_2).f1).length c115_1) ∧ w'.cell? (ad116.add ((x7_3).toNat * 5)) = some (.string ((rd_T113 ((rd_T108 l0_0 x6_2).f1) x7_3).f0)) ∧ w'.cell? ⟨(ad116.add ((x7_3).toNat * 5)).block, (ad116.add ((x7_3).toNat * 5)).off + 1, none⟩ = some (.slice A116_1 ((rd_T113 ((rd_T108 l0_0 x6_2).f1) x7_3).f1.f0).length c116_1) ∧ w'.cell? ⟨(ad116.add ((x7_3).toNat * 5)).block, (ad116.add ((x7_3).toNat * 5)).off + 2, none⟩ = some (.bool ((rd_T113 ((rd_T108 l0_0 x6_2).f1) x7_3).f2)) ∧ w'.cell? ⟨(ad116.add ((x7_3).toNat * 5)).block, (ad116.add ((x7_3).toNat * 5)).off + 3, none⟩ = some (.int .i64 ((rd_T113 ((rd_T108 l0_0 x6_2).f1) x7_3).f3)) ∧ w'.cell? ⟨(ad116.add ((x7_3).toNat * 5)).block, (ad116.add ((x7_3).toNat * 5)).off + 4, none⟩ = some (.string ((rd_T113 ((rd_T108 l0_0 x6_2).f1) x7_3).f4))) (ds := []) (bb 13 0) (by kernel_rfl) rfl rfl ⟨(blk_cell BK101.o 0).trans rfl, (mv_ HB.o hw115_0), (mv_ HB.o hw115_1), (mv_ HB.o hw116_0), (mv_ HB.o hw116_1), (mv_ HB.o hw116_2), (mv_ HB.o hw116_3), (mv_ HB.o hw116_4)⟩ (fun hHeld => ?_); refine with_tabW spec_ReachedModes.tab15 spec_ReachedModes.bits15 (fun HT_ HW_ => ?_)
                       generalize wc.drew = w39 at HO_4 BK101 HB HR115_1 HR116_1 hx115_0 hx115_1 hx116_0 hx116_1 hx116_2 hx116_3 hx116_4 hHeld ⊢
                       refine pv_ 1 52 2 HT_.o ?_; refine pv_ 3 54 10 HT_.o ?_; refine pv_ 7 58 138 HT_.o ?_; refine tv_ 0 51 139 HT_.o HW_.o hHeld ?_; refine tv_ 2 53 143 HT_.o HW_.o hHeld ?_; refine pv_ 4 55 159 HT_.o ?_; refine pv_ 5 56 191 HT_.o ?_; refine tv_ 6 57 255 HT_.o HW_.o hHeld ?_; refine pv_ 8 59 511 HT_.o ?_; refine pv_ 9 60 1023 HT_.o ?_; refine tv_ 10 61 2047 HT_.o HW_.o hHeld ?_
                       refine one_ (i := 11) (N := some 62) (bb 13 4095) rfl rfl (one_of HT_.o (by kernel_rfl)) (by decide) (fun K hK => ?_)
                       refine gs_ Try.func76 #[.agg #[.slice (some ad115) l0_0.length c0_0], .string ((rd_T113 ((rd_T108 l0_0 x6_2).f1) x7_3).f4)] ?_
                       with_reducible refine (spec_ModeAt.calls kj21 _ _ l0_0 ((rd_T113 ((rd_T108 l0_0 x6_2).f1) x7_3).f4) t117 _ ?side1 ?side2 A34.o).mono ?_
                       (case side1 => exact Kd.C_below HR0_0.o (be_ HB.o))
                       (case side2 => exact HC0_0.o)
                       rintro e w40 ⟨rfl, hb⟩
                       refine ⟨_, rfl, ?_⟩; replace HO_4 := q_ (Kd.R_below (ra_ HO_4.o) hb); replace BK101 := lb_ BK101 hb; replace HB := sb1_ HB GE101 hb
                       (try clear hb)
                       (try clear hb2)
                       (try clear hk)
                       (try clear hi)
                       refine hK.out _ _ ⟨(blk_cell BK101.o 0).trans rfl, (mv_ HB.o hw115_0), (mv_ HB.o hw115_1), (mv_ HB.o hw116_0), (mv_ HB.o hw116_1), (mv_ HB.o hw116_2), (mv_ HB.o hw116_3), (mv_ HB.o hw116_4)⟩ (fun hHeld => ?_)
                       clear hK K; refine no_ (some 62) ?_; refine pv_ 12 8 8191 HT_.o ?_
                       refine done_ (done_of HT_.o (by kernel_rfl)) ?_
                       have p38 : 0 ≤ (t117 : Int) := of_decide_eq_true as_
                       have q38 : (t117 : Int) < ((x4_3.length : Int) : Int) := of_decide_eq_true as_
                       obtain ⟨hx38_0, hf38_0⟩ := Kd.R_celln false HO_4.o (t117 : Int) p38 q38; replace p38 := eq_true p38; replace q38 := eq_true q38; obtain ⟨hy41_, hz41_⟩ := Kd.R_celln false HO_4.o (t117 : Int) (of_decide_eq_true as_) (of_decide_eq_true as_); have HP41 := Kd.R_putg HO_4.o (t117 : Int) true
                       try go_wp2_with (first | ((with_reducible refine gate_store (t := 4) (p := 67) rfl ?_); refine store_event (t := 4) (p := 67) (v := ?vo_w42) (w1 := (w40.setCell ⟨go7, (t117 : Int).toNat, none⟩ (.bool true))) ?hg ?ho ?hn ?hr ?_; (case ho => rfl); (case hg => rfl); (case hn => rfl); (case hr => first | (go_simp; done) | (go_simp; rfl)); intro w42 hw; have hg : w40.grownBy w42 (some go7) := (by rw [hw]; exact HP41.2); have hp_ : Kd.R Kd.bool 4 w42 w.heap.size (fun _ => True) (.slice (some ⟨go7, 0, none⟩) x4_3.length co7) y118 := (by rw [hw, Ny118.o]; exact HP41.1); clear HP41; replace BK101 := q_ (blk_grown (g := gb101) (o := .cells #[.slice (some ad115) l0_0.length c0_0] 46 (0, 0)) (bk_ BK101.o) hg (Kd.R_ne HO_4.o BK101.o (by decide))); replace HO_4 := q_ (hp_); replace HB := q_ ((by rw [hw]; exact below_set (HB.o) GB7.out : Below w.heap.size w w42)); clear hg hw hp_))
                       (try simp only [← hl4_3])
                       go_roundg kj21
                       case measure => have := HK1.o; have := HK2.o; have := HK3.o; have := HJ21.o; omega
                       case rel => exact ⟨(y118), (wrap64 (x7_3 + 1)), rs_, H', ⟨by have := HK1.o; have := HK2.o; have := HK3.o; have := HJ21.o; omega⟩, ⟨by (try simp only [hl4_1]); (try simp only [hl4_2]); (try simp only [hl4_3]); (with_reducible repeat (first | apply Kd.R_alloc | apply Kd.R_drewN | apply Kd.R_drew)); exact HO_4.o⟩, ⟨by (try simp only [hl4_1]); (try simp only [hl4_2]); (try simp only [hl4_3]); (with_reducible repeat (first | refine blk_drewN ?_ _ | refine blk_drew ?_ | refine blk_alloc ?_ _)); exact BK101.o⟩, ⟨be1_ HB.o GE101.o⟩⟩
                      ·rw [if_neg c37] at H
                       exact absurd H (by simp)
                     ·rw [if_neg c36] at H
                      exact absurd H (by simp)
                    ·rw [if_neg c35] at H
                     have c35b0 : decide (0 ≤ t117) = false := df_ c35
                     clear c35
                     have H' := q_ H
                     clear H
                     try go_wp2
                     replace HO_4 := q_ (Kd.R_drew HO_4.o); replace BK101 := q_ (blk_drew BK101.o); replace HB := q_ (below_drew1 HB.o)
                     have p115 : 0 ≤ (x6_2 : Int) := of_decide_eq_true as_
                     have q115 : x6_2 < (l0_0.length : Int) := of_decide_eq_true as_
                     obtain ⟨ad115, A115_1, c115_1, e115, hx115_0, hx115_1, hl115_1, hi115_1⟩ := at_T108 HR0_0.o x6_2 p115 q115; have hw115_1 := hx115_1; have hw115_0 := hx115_0
                     cases e115
                     replace hx115_0 := mv_ HB.o hx115_0; replace hx115_1 := mv_ HB.o hx115_1; have HR115_1 := q_ hi115_1; have HC115_1 := q_ hl115_1; clear hi115_1 hl115_1; replace p115 := eq_true p115; replace q115 := eq_true q115
                     have p116 : 0 ≤ (x7_3 : Int) := of_decide_eq_true as_
                     have q116 : x7_3 < (((rd_T108 l0_0 x6_2).f1).length : Int) := of_decide_eq_true as_
                     obtain ⟨ad116, A116_1, c116_1, e116, hx116_0, hx116_1, hx116_2, hx116_3, hx116_4, hl116_1, hi116_1⟩ := at_T113 HR115_1.o x7_3 p116 q116; have hw116_4 := hx116_4; have hw116_3 := hx116_3; have hw116_2 := hx116_2; have hw116_1 := hx116_1; have hw116_0 := hx116_0
                     cases e116
                     replace hx116_0 := mv_ HB.o hx116_0; replace hx116_1 := mv_ HB.o hx116_1; replace hx116_2 := mv_ HB.o hx116_2; replace hx116_3 := mv_ HB.o hx116_3; replace hx116_4 := mv_ HB.o hx116_4; have HR116_1 := q_ hi116_1; have HC116_1 := q_ hl116_1; clear hi116_1 hl116_1; replace p116 := eq_true p116; replace q116 := eq_true q116
                     refine start_ (n := 13) (S := fun w' => w'.cell? ⟨gb101, 0, none⟩ = some (.slice (some ad115) l0_0.length c0_0) ∧ w'.cell? (ad115.add ((x6_2).toNat * 2)) = some (.string ((rd_T108 l0_0 x6_2).f0)) ∧ w'.cell? ⟨(ad115.add ((x6_2).toNat * 2)).block, (ad115.add ((x6_2).toNat * 2)).off + 1, none⟩ = some (.slice (some ad116) ((rd_T108 l0_0 x6_2).f1).length c115_1) ∧ w'.cell? (ad116.add ((x7_3).toNat * 5)) = some (.string ((rd_T113 ((rd_T108 l0_0 x6_2).f1) x7_3).f0)) ∧ w'.cell? ⟨(ad116.add ((x7_3).toNat * 5)).block, (ad116.add ((x7_3).toNat * 5)).off + 1, none⟩ = some (.slice A116_1 ((rd_T113 ((rd_T108 l0_0 x6_2).f1) x7_3).f1.f0).length c116_1) ∧ w'.cell? ⟨(ad116.add ((x7_3).toNat * 5)).block, (ad116.add ((x7_3).toNat * 5)).off + 2, none⟩ = some (.bool ((rd_T113 ((rd_T108 l0_0 x6_2).f1) x7_3).f2)) ∧ w'.cell? ⟨(ad116.add ((x7_3).toNat * 5)).block, (ad116.add ((x7_3).toNat * 5)).off + 3, none⟩ = some (.int .i64 ((rd_T113 ((rd_T108 l0_0 x6_2).f1) x7_3).f3)) ∧ w'.cell? ⟨(ad116.add ((x7_3).toNat * 5)).block, (ad116.add ((x7_3).toNat * 5)).off + 4, none⟩ = some (.string ((rd_T113 ((rd_T108 l0_0 x6_2).f1) x7_3).f4))) (ds := []) (bb 13 0) (by kernel_rfl) rfl rfl ⟨(blk_cell BK101.o 0).trans rfl, (mv_ HB.o hw115_0), (mv_ HB.o hw115_1), (mv_ HB.o hw116_0), (mv_ HB.o hw116_1), (mv_ HB.o hw116_2), (mv_ HB.o hw116_3), (mv_ HB.o hw116_4)⟩ (fun hHeld => ?_); refine with_tabW spec_ReachedModes.tab15 spec_ReachedModes.bits15 (fun HT_ HW_ => ?_)
                     generalize wc.drew = w43 at HO_4 BK101 HB HR115_1 HR116_1 hx115_0 hx115_1 hx116_0 hx116_1 hx116_2 hx116_3 hx116_4 hHeld ⊢
                     refine pv_ 1 52 2 HT_.o ?_; refine pv_ 3 54 10 HT_.o ?_; refine pv_ 7 58 138 HT_.o ?_; refine tv_ 0 51 139 HT_.o HW_.o hHeld ?_; refine tv_ 2 53 143 HT_.o HW_.o hHeld ?_; refine pv_ 4 55 159 HT_.o ?_; refine pv_ 5 56 191 HT_.o ?_; refine tv_ 6 57 255 HT_.o HW_.o hHeld ?_; refine pv_ 8 59 511 HT_.o ?_; refine pv_ 9 60 1023 HT_.o ?_; refine tv_ 10 61 2047 HT_.o HW_.o hHeld ?_
                     refine one_ (i := 11) (N := some 62) (bb 13 4095) rfl rfl (one_of HT_.o (by kernel_rfl)) (by decide) (fun K hK => ?_)
                     refine gs_ Try.func76 #[.agg #[.slice (some ad115) l0_0.length c0_0], .string ((rd_T113 ((rd_T108 l0_0 x6_2).f1) x7_3).f4)] ?_
                     with_reducible refine (spec_ModeAt.calls kj21 _ _ l0_0 ((rd_T113 ((rd_T108 l0_0 x6_2).f1) x7_3).f4) t117 _ ?side1 ?side2 A34.o).mono ?_
                     (case side1 => exact Kd.C_below HR0_0.o (be_ HB.o))
                     (case side2 => exact HC0_0.o)
                     rintro e w44 ⟨rfl, hb⟩
                     refine ⟨_, rfl, ?_⟩; replace HO_4 := q_ (Kd.R_below (ra_ HO_4.o) hb); replace BK101 := lb_ BK101 hb; replace HB := sb1_ HB GE101 hb
                     (try clear hb)
                     (try clear hb2)
                     (try clear hk)
                     (try clear hi)
                     refine hK.out _ _ ⟨(blk_cell BK101.o 0).trans rfl, (mv_ HB.o hw115_0), (mv_ HB.o hw115_1), (mv_ HB.o hw116_0), (mv_ HB.o hw116_1), (mv_ HB.o hw116_2), (mv_ HB.o hw116_3), (mv_ HB.o hw116_4)⟩ (fun hHeld => ?_)
                     clear hK K; refine no_ (some 62) ?_; refine pv_ 12 8 8191 HT_.o ?_
                     refine done_ (done_of HT_.o (by kernel_rfl)) ?_
                     try go_wp2
                     (try simp only [← hl4_3])
                     go_roundg kj21
                     case measure => have := HK1.o; have := HK2.o; have := HK3.o; have := HJ21.o; omega
                     case rel => exact ⟨(x4_3), (wrap64 (x7_3 + 1)), rs_, H', ⟨by have := HK1.o; have := HK2.o; have := HK3.o; have := HJ21.o; omega⟩, ⟨by (try simp only [hl4_1]); (try simp only [hl4_2]); (try simp only [hl4_3]); (with_reducible repeat (first | apply Kd.R_alloc | apply Kd.R_drewN | apply Kd.R_drew)); exact HO_4.o⟩, ⟨by (try simp only [hl4_1]); (try simp only [hl4_2]); (try simp only [hl4_3]); (with_reducible repeat (first | refine blk_drewN ?_ _ | refine blk_drew ?_ | refine blk_alloc ?_ _)); exact BK101.o⟩, ⟨be1_ HB.o GE101.o⟩⟩
                   ·rw [if_neg c33] at H
                    exact absurd H (by simp)
                  ·rw [if_neg c32] at H
                   exact absurd H (by simp)
                 ·rw [if_neg c31] at H
                  exact absurd H (by simp)
                ·rw [if_neg c30] at H
                 exact absurd H (by simp)
               ·replace c29 := Bool.eq_false_iff.mpr c29; subst c29; rw [if_neg nft_] at H
                have H' := q_ H
                clear H
                go_wp2
                (try simp only [← hl4_2, ← hl4_3])
                go_roundg kj21
                case measure => have := HK1.o; have := HK2.o; have := HK3.o; have := HJ21.o; omega
                case rel => exact ⟨(x4_3), (wrap64 (x6_2 + 1)), rs_, H', ⟨by have := HK1.o; have := HK2.o; have := HK3.o; have := HJ21.o; omega⟩, ⟨by (try simp only [hl4_1]); (try simp only [hl4_2]); (try simp only [hl4_3]); (with_reducible repeat (first | apply Kd.R_alloc | apply Kd.R_drewN | apply Kd.R_drew)); exact HO_4.o⟩, ⟨by (try simp only [hl4_1]); (try simp only [hl4_2]); (try simp only [hl4_3]); (with_reducible repeat (first | refine blk_drewN ?_ _ | refine blk_drew ?_ | refine blk_alloc ?_ _)); exact BK101.o⟩, ⟨be1_ HB.o GE101.o⟩⟩
          ·rw [if_neg c20] at H; have c20b0 := df_ c20; clear c20
           have H' := q_ H
           clear H; obtain ⟨hcz45_0, hfz45_0⟩ := d1_ BK101
           go_wp2
           (try simp only [← hl4_1, ← hl4_2])
           go_roundg k2
           case measure => have := HK1.o; have := HK2.o; omega
           case rel => exact ⟨(x4_2), (wrap64 (x5_1 + 1)), rs_, H', ⟨by have := HK1.o; have := HK2.o; omega⟩, ⟨by (try simp only [hl4_1]); (try simp only [hl4_2]); (with_reducible repeat (first | apply Kd.R_alloc | apply Kd.R_drewN | apply Kd.R_drew)); exact HO_4.o⟩, ⟨by (try simp only [hl4_1]); (try simp only [hl4_2]); (with_reducible repeat (first | refine blk_drewN ?_ _ | refine blk_drew ?_ | refine blk_alloc ?_ _)); exact BK101.o⟩, ⟨be1_ HB.o GE101.o⟩⟩
       ·rw [if_neg c18] at H; have c18b0 := df_ c18; clear c18; obtain ⟨t110, A46, H⟩ := ob_ H; obtain rfl := Option.some.inj H; obtain ⟨hcz47_0, hfz47_0⟩ := d1_ BK101
        go_wp2_with (first | ((with_reducible refine gate_callee (f := 94) rfl ?_); refine gl_ (some 69) rfl rfl Try.func94 #[.slice (some ⟨go7, 0, none⟩) x4_1.length co7] ?_; (with_reducible refine (spec_l6List.calls k1 _ _ x4_1 t110 _ ?side1 ?side2 A46.o).mono ?_); (case side1 => repeat (first | exact (Kd.R_reads' HO_4.o).2.2 | (with_reducible refine Kd.C_alloc ?_ _) | (with_reducible refine Kd.C_drewN ?_ _) | (with_reducible refine Kd.C_drew ?_))); (case side2 => exact (Kd.R_reads' HO_4.o).2.1); rintro e w48 ⟨v111, rfl, ho0, hb⟩; refine ⟨_, rfl, ?_⟩; have HO112 := q_ (Kd.R_lower ho0 (below_size (be1_ HB.o GE101.o))); replace HO_4 := q_ (Kd.R_below (ra_ HO_4.o) hb); replace BK101 := lb_ BK101 hb; replace HB := sb1_ HB GE101 hb; (try clear hb); (try clear ho0)))
        go_ret
        exact ⟨_, rt_, ra_ HO112.o, be1_ HB.o GE101.o⟩
    ·rw [if_neg c6] at H
     exact absurd H (by simp)
   ·rw [if_neg c5] at H
    exact absurd H (by simp)
  ·rw [if_neg c4] at H
   exact absurd H (by simp)
 ·replace c3 := Bool.eq_false_iff.mpr c3; subst c3; rw [if_neg nft_] at H; obtain rfl := Option.some.inj H
  go_enter Try.func38, Try.ntmps38
  go_wp2_with (first | ((with_reducible refine gate_dst (N := 1) rfl ?_); (try (refine gate_guard (by rfl) ?_; dsimp only)); refine bx_ 1 #[.slice A0_0 l0_0.length c0_0] 46 ?_; intro gb101 hg w49 hbox hb; have BK101 := q_ (hbox); have GW101 := ge_ hg HB; have GE101 := GW101; replace HB := sb_ HB hb; clear hb hbox hg) | ((with_reducible refine gate_dst (N := 9) rfl ?_); (try (refine gate_guard (by rfl) ?_; dsimp only)); refine Kd.R_lit (Kd.int .i64) _ 2 ?hg (N := 9) ?hd (xs := ([] : List Int)) (inner := []) (ok := fun _ => True) (okp := fun _ => True) ?hr ?hp (fun _ hk => hk) trivial (Below.refl _ _) (Nat.le_refl _) (by simp) ?_; (case hd => rfl); (case hg => rfl); (case hr => first | (go_simp; done) | (go_simp; rfl)); (case hp => exact (Reps.none _ _)); intro v103 w50 ho51 hb hg_ hnew_; clear hg_ hnew_; (first | rw [← Ny102.o] at ho51 | (simp only [Int.reduceToNat] at ho51; rw [← Ny102.o] at ho51)); have HO104 := q_ (Kd.R_lower ho51 (below_size (be1_ HB.o GE101.o))); replace BK101 := lb_ BK101 hb; replace HB := sb1_ HB GE101 hb; clear hb ho51; obtain ⟨hcz52_0, hfz52_0⟩ := d1_ BK101) | ((with_reducible refine gate_callee (f := 26) rfl ?_); refine gl_ (some 11) rfl rfl Try.func26 #[.agg #[.slice A0_0 l0_0.length c0_0]] ?_; (with_reducible refine (spec_GrammarOk.calls k _ _ l0_0 false _ ?side1 ?side2 A2.o).mono ?_); (case side1 => exact Kd.C_below HR0_0.o (be_ HB.o)); (case side2 => exact HC0_0.o); rintro e w53 ⟨rfl, hb⟩; refine ⟨_, rfl, ?_⟩; replace HO104 := q_ (Kd.R_below (ra_ HO104.o) hb); replace BK101 := lb_ BK101 hb; replace HB := sb1_ HB GE101 hb; (try clear hb)))
  go_ret
  exact ⟨_, rt_, ra_ HO104.o, be1_ HB.o GE101.o⟩
/-! ### impl_ReachedModes: function 39 -/
mutual
def impl_ReachedModes.l0 : Nat → List Bool → List Int → List Int → List (S108) → Option (List Int)
 | 0, _, _, _, _ => none
 | k + 1, x3, x4, x5, x102000 => if (x4.length : Int) > 0 then (if 0 < (x4.length : Int) then (if 1 ≤ (x4.length : Int) then ((some (x4.drop (1 : Int).toNat : List Int)).bind fun y113 => (if 0 ≤ (rd x4 0) then (if (rd x4 0) < (x3.length : Int) then (if rdOf false x3 (rd x4 0) = true then (impl_ReachedModes.l0 k x3 y113 x5 x102000) else (if (rd x4 0) < (x102000.length : Int) then (impl_ReachedModes.l1 k (x3.set ((rd x4 0) : Int).toNat true) y113 x5 ((rd_T108 x102000 (rd x4 0)).f1) (((rd_T108 x102000 (rd x4 0)).f1).length : Int) 0 x102000) else (none))) else (none)) else (none))) else (none)) else (none)) else (impl_ReachedModes.l2 k x5 x3 (x3.length : Int) 0)
def impl_ReachedModes.l1 : Nat → List Bool → List Int → List Int → List (S113) → Int → Int → List (S108) → Option (List Int)
 | 0, _, _, _, _, _, _, _ => none
 | k + 1, x3, x4, x5, x40, x41, x42, x102000 => if x42 < x41 then (if 0 ≤ x42 then (if x42 < (x40.length : Int) then ((impl_Rule_hasTarget.f ((rd_T113 x40 x42).f0) ((rd_T113 x40 x42).f1.f0) ((rd_T113 x40 x42).f2) ((rd_T113 x40 x42).f3) ((rd_T113 x40 x42).f4)).bind fun t121 => (if t121 = true then ((impl_ModeAt.f x102000 ((rd_T113 x40 x42).f4)).bind fun t122 => (if x4.length < 17592186044416 then (impl_ReachedModes.l1 k x3 (x4 ++ [t122]) x5 x40 x41 (wrap64 (x42 + 1)) x102000) else (none))) else (impl_ReachedModes.l1 k x3 x4 x5 x40 x41 (wrap64 (x42 + 1)) x102000))) else (none)) else (none)) else (impl_ReachedModes.l0 k x3 x4 x5 x102000)
def impl_ReachedModes.l2 : Nat → List Int → List Bool → Int → Int → Option (List Int)
 | 0, _, _, _, _ => none
 | k + 1, x5, x56, x57, x58 => if x58 < x57 then (if 0 ≤ x58 then (if x58 < (x56.length : Int) then (if rdOf false x56 x58 = true then (if x5.length < 17592186044416 then (impl_ReachedModes.l2 k (x5 ++ [x58]) x56 x57 (wrap64 (x58 + 1))) else (none)) else (impl_ReachedModes.l2 k x5 x56 x57 (wrap64 (x58 + 1)))) else (none)) else (none)) else (some x5)
end
def impl_ReachedModes.f (k : Nat) (l0_0 : List (S108)) : Option (List Int) := (impl_GrammarOk.f l0_0).bind fun t102 => (if t102 = true then (if 0 ≤ (l0_0.length : Int) then (if ((l0_0.length : Int) : Int).toNat ≤ 281474976710656 then (impl_ReachedModes.l0 k (List.replicate ((l0_0.length : Int) : Int).toNat false) (([0] : List Int)) (([] : List Int)) l0_0) else (none)) else (none)) else (some ([] : List Int)))
theorem impl_ReachedModes.calls (k : Nat) (A0_0 : Option Addr) (c0_0 : Nat) (l0_0 : List (S108)) (r : List Int) (w : World) (hr0_0 : Kd.C k108 w A0_0 l0_0.length l0_0) (hc0_0 : l0_0.length ≤ c0_0) (h : impl_ReachedModes.f k l0_0 = some r) :
  Calls Try.prog 39 #[.agg #[.slice A0_0 l0_0.length c0_0]] w fun e w' => ∃ v0_ : Value, e = .returned (v0_) ∧ Kd.R (Kd.int .i64) 2 w' w.heap.size (fun _ => True) v0_ r ∧ Below w.heap.size w w' := by
 have hu46 := Try.underlying46; have hu113 := Try.underlying113; have HR0_0 := q_ hr0_0; have HC0_0 := q_ hc0_0; clear hr0_0 hc0_0; have HB := q_ (Below.refl w.heap.size w)
 have H : ((impl_GrammarOk.f l0_0).bind fun t102 => (if t102 = true then (if 0 ≤ (l0_0.length : Int) then (if ((l0_0.length : Int) : Int).toNat ≤ 281474976710656 then (impl_ReachedModes.l0 k (List.replicate ((l0_0.length : Int) : Int).toNat false) (([0] : List Int)) (([] : List Int)) l0_0) else (none)) else (none)) else (some ([] : List Int)))) = some r := h
 clear h; obtain ⟨t102, A2, H⟩ := ob_ H
 by_cases c3 : t102 = true
 ·subst c3; rw [if_pos rfl] at H
  by_cases c4 : 0 ≤ (l0_0.length : Int)
  ·rw [if_pos c4] at H; have c4b0 := eq_true c4; have c4b1 := dt_ c4; clear c4
   by_cases c5 : ((l0_0.length : Int) : Int).toNat ≤ 281474976710656
   ·rw [if_pos c5] at H; have c5b0 := eq_true c5; have c5b1 := dt_ c5; clear c5
    obtain ⟨y103, hy103⟩ : ∃ y_ : List Bool, y_ = (List.replicate ((l0_0.length : Int) : Int).toNat false) := ⟨_, rfl⟩
    replace H : (impl_ReachedModes.l0 k y103 (([0] : List Int)) (([] : List Int)) l0_0) = some r := by first | (rw [hy103]; with_reducible exact H) | (have H2_ := (Option.bind_some _ _).symm.trans H; rw [hy103]; with_reducible exact H2_) | (have H2_ := (Option.bind_some _ _).symm.trans H; with_reducible exact H2_) | with_reducible exact H | (rw [hy103]; exact H) | exact H
    have Ny103 := q_ hy103; clear hy103
    obtain ⟨y106, hy106⟩ : ∃ y_ : List Int, y_ = (([0] : List Int)) := ⟨_, rfl⟩
    replace H : (impl_ReachedModes.l0 k y103 y106 (([] : List Int)) l0_0) = some r := by first | (rw [hy106]; with_reducible exact H) | (have H2_ := (Option.bind_some _ _).symm.trans H; rw [hy106]; with_reducible exact H2_) | (have H2_ := (Option.bind_some _ _).symm.trans H; with_reducible exact H2_) | with_reducible exact H | (rw [hy106]; exact H) | exact H
    have Ny106 := q_ hy106; clear hy106
    obtain ⟨y109, hy109⟩ : ∃ y_ : List Int, y_ = (([] : List Int)) := ⟨_, rfl⟩
    replace H : (impl_ReachedModes.l0 k y103 y106 y109 l0_0) = some r := by first | (rw [hy109]; with_reducible exact H) | (have H2_ := (Option.bind_some _ _).symm.trans H; rw [hy109]; with_reducible exact H2_) | (have H2_ := (Option.bind_some _ _).symm.trans H; with_reducible exact H2_) | with_reducible exact H | (rw [hy109]; exact H) | exact H
    have Ny109 := q_ hy109; clear hy109
    have H' := q_ H
    clear H
    go_enter Try.func39, Try.ntmps39
    go_wp2_with (first | ((with_reducible refine gate_dst (N := 1) rfl ?_); refine bx_ 1 #[.slice A0_0 l0_0.length c0_0] 46 ?_; intro gb101 hg w6 hbox hb; have BK101 := q_ (hbox); have GW101 := ge_ hg HB; have GE101 := GW101; replace HB := sb_ HB hb; clear hb hbox hg; obtain ⟨hcz7_0, hfz7_0⟩ := d1_ BK101) | ((with_reducible refine gate_callee (f := 28) rfl ?_); refine gl_ (some 12) rfl rfl Try.func28 #[.agg #[.slice A0_0 l0_0.length c0_0]] ?_; (with_reducible refine (impl_GrammarOk.calls _ _ l0_0 true _ ?side1 ?side2 A2.o).mono ?_); (case side1 => exact Kd.C_below HR0_0.o (be_ HB.o)); (case side2 => exact HC0_0.o); rintro e w8 ⟨rfl, hb⟩; refine ⟨_, rfl, ?_⟩; replace BK101 := lb_ BK101 hb; replace HB := sb1_ HB GE101 hb; (try clear hb); obtain ⟨hcz9_0, hfz9_0⟩ := d1_ BK101) | ((with_reducible refine gate_dst (N := 17) rfl ?_); refine Kd.R_make Kd.bool _ 4 rfl (N := 17) rfl 124 _ _ rfl (l0_0.length : Int) rfl rfl Try.underlying124 (.bool false) 1 info4 rfl (by decide) (by omega) false (ok := fun _ => True) (okp := fun _ => True) rfl (fun _ hk => hk) trivial (of_decide_eq_true as_) (Nat.le_trans (Nat.mul_le_mul_right _ (of_decide_eq_true as_ : (l0_0.length : Int).toNat ≤ 281474976710656)) (by omega)) (Below.refl _ _) (Nat.le_refl _) ?_; intro v104 w10 ho11 hb hg_ hnew_; clear hg_ hnew_; (first | rw [← Ny103.o] at ho11 | (simp only [Int.reduceToNat] at ho11; rw [← Ny103.o] at ho11)); have HO105 := q_ (Kd.R_lower ho11 (below_size (be1_ HB.o GE101.o))); replace BK101 := lb_ BK101 hb; replace HB := sb1_ HB GE101 hb; clear hb ho11) | ((with_reducible refine gate_dst (N := 18) rfl ?_); refine Kd.R_lit (Kd.int .i64) _ 2 ?hg (N := 18) ?hd (xs := ([0] : List Int)) (inner := [.int .i64 0]) (ok := fun _ => True) (okp := fun _ => True) ?hr ?hp (fun _ hk => hk) trivial (Below.refl _ _) (Nat.le_refl _) (by simp) ?_; (case hd => rfl); (case hg => rfl); (case hr => first | (go_simp; done) | (go_simp; rfl)); (case hp => exact (Reps.one (show Kd.M (Kd.int .i64) _ _ _ 0 [.int .i64 0] from rfl) (Reps.none _ _))); intro v107 w12 ho13 hb hg_ hnew_; clear hg_ hnew_; (first | rw [← Ny106.o] at ho13 | (simp only [Int.reduceToNat] at ho13; rw [← Ny106.o] at ho13)); have HO108 := q_ (Kd.R_lower ho13 (below_size (be1_ HB.o GE101.o))); replace HO105 := q_ (Kd.R_below (ra_ HO105.o) hb); replace BK101 := lb_ BK101 hb; replace HB := sb1_ HB GE101 hb; clear hb ho13) | ((with_reducible refine gate_dst (N := 19) rfl ?_); refine Kd.R_lit (Kd.int .i64) _ 2 ?hg (N := 19) ?hd (xs := ([] : List Int)) (inner := []) (ok := fun _ => True) (okp := fun _ => True) ?hr ?hp (fun _ hk => hk) trivial (Below.refl _ _) (Nat.le_refl _) (by simp) ?_; (case hd => rfl); (case hg => rfl); (case hr => first | (go_simp; done) | (go_simp; rfl)); (case hp => exact (Reps.none _ _)); intro v110 w14 ho15 hb hg_ hnew_; clear hg_ hnew_; (first | rw [← Ny109.o] at ho15 | (simp only [Int.reduceToNat] at ho15; rw [← Ny109.o] at ho15)); have HO111 := q_ (Kd.R_lower (Kd.R_new' ho15 (Kd.R_lt (ra_ HO108.o))) (below_size (be1_ HB.o GE101.o))); replace HO105 := q_ (Kd.R_below (ra_ HO105.o) hb); replace HO108 := q_ (Kd.R_elder' (ra_ HO108.o) (Kd.R_base ho15) hb); replace BK101 := lb_ BK101 hb; replace HB := sb1_ HB GE101 hb; clear hb ho15))
    go_loopg [4] k (fun kq v4 w' => ∃ (x3_1 : List Bool) (x4_1 : List Int), J0 (impl_ReachedModes.l0 kq x3_1 x4_1 y109 l0_0 = some r) ∧ J0 (kq ≤ k) ∧ J0 (Kd.R Kd.bool 4 w' w.heap.size (fun _ => True) v104 x3_1) ∧ J0 (Kd.Q (Kd.int .i64) 2 w' w.heap.size (fun k_ => some k_ ≠ (v110 : Value).ownBlock) v4 x4_1) ∧ J0 (Kd.R (Kd.int .i64) 2 w' w.heap.size (fun k_ => some k_ ≠ (v4 : Value).ownBlock) v110 y109) ∧ J0 (w'.heap[gb101]? = some (.cells #[(.slice A0_0 l0_0.length c0_0)] 46 (0, 0))) ∧ J0 (Below w.heap.size w w'))
    case atStart => exact ⟨(y103), (y106), H', ⟨Nat.le_refl _⟩, ⟨ra_ HO105.o⟩, ⟨Kd.Q_of_R (by (with_reducible repeat (first | apply Kd.R_alloc | apply Kd.R_drewN | apply Kd.R_drew)); exact Kd.R_mono HO108.o (fun _ hk => hk.2))⟩, ⟨by (with_reducible repeat (first | apply Kd.R_alloc | apply Kd.R_drewN | apply Kd.R_drew)); exact Kd.R_mono HO111.o (fun _ hk => hk.2)⟩, ⟨bk_ BK101.o⟩, ⟨be1_ HB.o GE101.o⟩⟩
    case round =>
     clear H'; (try clear c3); (try clear c4); (try clear c4b0); (try clear c4b1); (try clear c5); (try clear c5b0); (try clear c5b1); (try clear hcz7_0); (try clear hcz9_0); (try clear hfz7_0); (try clear hfz9_0); obtain ⟨x3_1, x4_1, HA, HK1, HO_3, HO_4, HO_5, BK101, HB⟩ := hrel
     cases gk with
     | zero => exact absurd HA.o (by simp [impl_ReachedModes.l0])
     | succ k1 =>
      have H := HA.o; clear HA
      simp only [impl_ReachedModes.l0] at H
      by_cases c16 : (x4_1.length : Int) > 0
      ·rw [if_pos c16] at H
       have c16b0 : decide (0 < (x4_1.length : Int)) = true := dt_ c16
       have c16b1 : decide (0 < x4_1.length) = true := decide_eq_true (by omega)
       clear c16
       by_cases c17 : 0 < (x4_1.length : Int)
       ·rw [if_pos c17] at H; have c17b0 := dt_ c17
        have c17b1 : decide (0 < x4_1.length) = true := decide_eq_true (by omega)
        clear c17
        by_cases c18 : 1 ≤ (x4_1.length : Int)
        ·rw [if_pos c18] at H; have c18b0 := eq_true c18; have c18b1 := dt_ c18; clear c18
         obtain ⟨y113, hy113⟩ : ∃ y_ : List Int, y_ = (x4_1.drop (1 : Int).toNat) := ⟨_, rfl⟩
         replace H : (if 0 ≤ (rd x4_1 0) then (if (rd x4_1 0) < (x3_1.length : Int) then (if rdOf false x3_1 (rd x4_1 0) = true then (impl_ReachedModes.l0 k1 x3_1 y113 y109 l0_0) else (if (rd x4_1 0) < (l0_0.length : Int) then (impl_ReachedModes.l1 k1 (x3_1.set ((rd x4_1 0) : Int).toNat true) y113 y109 ((rd_T108 l0_0 (rd x4_1 0)).f1) (((rd_T108 l0_0 (rd x4_1 0)).f1).length : Int) 0 l0_0) else (none))) else (none)) else (none)) = some r := by first | (rw [hy113]; with_reducible exact H) | (have H2_ := (Option.bind_some _ _).symm.trans H; rw [hy113]; with_reducible exact H2_) | (have H2_ := (Option.bind_some _ _).symm.trans H; with_reducible exact H2_) | with_reducible exact H | (rw [hy113]; exact H) | exact H
         have Ny113 := q_ hy113; clear hy113
         by_cases c19 : 0 ≤ (rd x4_1 0)
         ·rw [if_pos c19] at H; have c19b0 := dt_ c19; clear c19
          by_cases c20 : (rd x4_1 0) < (x3_1.length : Int)
          ·rw [if_pos c20] at H; have c20b0 := dt_ c20; clear c20
           obtain ⟨bq21, hbq21⟩ : ∃ b_ : Bool, b_ = (rdOf false x3_1 (rd x4_1 0)) := ⟨_, rfl⟩
           replace H : (if bq21 = true then (impl_ReachedModes.l0 k1 x3_1 y113 y109 l0_0) else (if (rd x4_1 0) < (l0_0.length : Int) then (impl_ReachedModes.l1 k1 (x3_1.set ((rd x4_1 0) : Int).toNat true) y113 y109 ((rd_T108 l0_0 (rd x4_1 0)).f1) (((rd_T108 l0_0 (rd x4_1 0)).f1).length : Int) 0 l0_0) else (none))) = some r := by rw [← hbq21] at H; exact H
           have Nbq21 := q_ hbq21; clear hbq21
           by_cases c22 : bq21 = true
           ·subst c22; rw [if_pos rfl] at H
            have H' := q_ H
            clear H; obtain ⟨Ao23, co23, eo23, _⟩ := Kd.Q_slice HO_4.o; subst eo23
            have p112 : 0 ≤ (0 : Int) := (by omega)
            have q112 : 0 < (x4_1.length : Int) := of_decide_eq_true as_
            obtain ⟨ad112, e112, hx112_0⟩ := Kd.at_int (Kd.Q_reads' HO_4.o).2.2 0 p112 q112
            cases e112
            have qi112 : (0 < x4_1.length) = True := eq_true (by omega)
            (try rw [show ((0 : Int)).toNat = 0 from rfl] at hx112_0)
            (try rw [Addr.add_zero'] at hx112_0)
            replace p112 := eq_true p112; replace q112 := eq_true q112
            have q24 : (1 : Int) ≤ ((x4_1.length : Int) : Int) := of_decide_eq_true as_
            obtain ⟨i024, hi024, _, hsz24, _⟩ := info_parts info2
            have hcut24 := cut_from (P := Try.prog) 56 2 .i64 Try.underlying56 hi024 1 hsz24 (some ad112) x4_1.length co23 1 (by omega) q24
            have hr24 := Kd.Q_drop (k := (1 : Int).toNat) HO_4.o (by omega)
            obtain ⟨A24, hA24⟩ : ∃ A1, A1 = (if co23 = (1 : Int).toNat then (some ad112) else ((some ad112) : Option Addr).map (·.add ((1 : Int).toNat * 1))) := ⟨_, rfl⟩
            obtain ⟨c24, hc24⟩ : ∃ c1, c1 = co23 - (1 : Int).toNat := ⟨_, rfl⟩
            have hy24 : y113.length = x4_1.length - (1 : Int).toNat := (by rw [Ny113.o, List.length_drop])
            rw [← Ny113.o] at hr24
            rw [← hy24, ← hA24, ← hc24] at hcut24
            replace hr24 : Kd.Q (Kd.int .i64) 2 wr w.heap.size (fun k_ => some k_ ≠ (v110 : Value).ownBlock) (.slice A24 y113.length c24) y113 := (by rw [hA24, hc24, hy24]; exact hr24)
            have HE24 : J0 ((Value.slice A24 y113.length c24).ownBlock = (.slice (some ad112) x4_1.length co23 : Value).ownBlock) := ⟨by rw [hA24]; split <;> (cases ((some ad112) : Option Addr) <;> rfl)⟩
            clear hy24 hi024 hsz24 HO_4 hA24 hc24; have HO115 := q_ hr24; clear hr24; replace q24 := eq_true q24
            have n_ := q_ (Kd.R_mono (ok' := fun k_ => some k_ ≠ (.slice A24 y113.length c24 : Value).ownBlock) HO_5.o (fun k_ hk => (by rw [HE24.o]; exact hk)))
            clear HO_5; have HO_5 := n_; clear n_; obtain ⟨Ao25, co25, eo25⟩ := Kd.R_slice HO_3.o; subst eo25
            have p116 : 0 ≤ ((rd x4_1 0) : Int) := of_decide_eq_true as_
            have q116 : (rd x4_1 0) < (x3_1.length : Int) := of_decide_eq_true as_
            obtain ⟨ad116, e116, hx116_0⟩ := Kd.at_bool (Kd.R_reads' HO_3.o).2.2 (rd x4_1 0) p116 q116
            (try rw [← Nbq21.o] at hx116_0)
            cases e116
            replace p116 := eq_true p116; replace q116 := eq_true q116
            go_wp2
            go_roundg k1
            case measure => have := HK1.o; omega
            case rel => exact ⟨(x3_1), (y113), H', ⟨by have := HK1.o; omega⟩, ⟨ra_ HO_3.o⟩, ⟨by (with_reducible repeat (first | apply Kd.Q_alloc | apply Kd.Q_drewN | apply Kd.Q_drew)); exact HO115.o⟩, ⟨ra_ HO_5.o⟩, ⟨bk_ BK101.o⟩, ⟨be1_ HB.o GE101.o⟩⟩
           ·replace c22 := Bool.eq_false_iff.mpr c22; subst c22; rw [if_neg nft_] at H
            obtain ⟨y117, hy117⟩ : ∃ y_ : List Bool, y_ = (x3_1.set ((rd x4_1 0) : Int).toNat true) := ⟨_, rfl⟩
            replace H : (if (rd x4_1 0) < (l0_0.length : Int) then (impl_ReachedModes.l1 k1 y117 y113 y109 ((rd_T108 l0_0 (rd x4_1 0)).f1) (((rd_T108 l0_0 (rd x4_1 0)).f1).length : Int) 0 l0_0) else (none)) = some r := by first | (rw [hy117]; with_reducible exact H) | (have H2_ := (Option.bind_some _ _).symm.trans H; rw [hy117]; with_reducible exact H2_) | (have H2_ := (Option.bind_some _ _).symm.trans H; with_reducible exact H2_) | with_reducible exact H | (rw [hy117]; exact H) | exact H
            have Ny117 := q_ hy117; clear hy117
            by_cases c27 : (rd x4_1 0) < (l0_0.length : Int)
            ·rw [if_pos c27] at H; have c27b0 := dt_ c27; clear c27
             have H' := q_ H
             clear H; obtain ⟨Ao28, co28, eo28, _⟩ := Kd.Q_slice HO_4.o; subst eo28
             have p112 : 0 ≤ (0 : Int) := (by omega)
             have q112 : 0 < (x4_1.length : Int) := of_decide_eq_true as_
             obtain ⟨ad112, e112, hx112_0⟩ := Kd.at_int (Kd.Q_reads' HO_4.o).2.2 0 p112 q112
             cases e112
             have qi112 : (0 < x4_1.length) = True := eq_true (by omega)
             (try rw [show ((0 : Int)).toNat = 0 from rfl] at hx112_0)
             (try rw [Addr.add_zero'] at hx112_0)
             replace p112 := eq_true p112; replace q112 := eq_true q112
             have q29 : (1 : Int) ≤ ((x4_1.length : Int) : Int) := of_decide_eq_true as_
             obtain ⟨i029, hi029, _, hsz29, _⟩ := info_parts info2
             have hcut29 := cut_from (P := Try.prog) 56 2 .i64 Try.underlying56 hi029 1 hsz29 (some ad112) x4_1.length co28 1 (by omega) q29
             have hr29 := Kd.Q_drop (k := (1 : Int).toNat) HO_4.o (by omega)
             obtain ⟨A29, hA29⟩ : ∃ A1, A1 = (if co28 = (1 : Int).toNat then (some ad112) else ((some ad112) : Option Addr).map (·.add ((1 : Int).toNat * 1))) := ⟨_, rfl⟩
             obtain ⟨c29, hc29⟩ : ∃ c1, c1 = co28 - (1 : Int).toNat := ⟨_, rfl⟩
             have hy29 : y113.length = x4_1.length - (1 : Int).toNat := (by rw [Ny113.o, List.length_drop])
             rw [← Ny113.o] at hr29
             rw [← hy29, ← hA29, ← hc29] at hcut29
             replace hr29 : Kd.Q (Kd.int .i64) 2 wr w.heap.size (fun k_ => some k_ ≠ (v110 : Value).ownBlock) (.slice A29 y113.length c29) y113 := (by rw [hA29, hc29, hy29]; exact hr29)
             have HE29 : J0 ((Value.slice A29 y113.length c29).ownBlock = (.slice (some ad112) x4_1.length co28 : Value).ownBlock) := ⟨by rw [hA29]; split <;> (cases ((some ad112) : Option Addr) <;> rfl)⟩
             clear hy29 hi029 hsz29 HO_4 hA29 hc29; have HO115 := q_ hr29; clear hr29; replace q29 := eq_true q29
             have n_ := q_ (Kd.R_mono (ok' := fun k_ => some k_ ≠ (.slice A29 y113.length c29 : Value).ownBlock) HO_5.o (fun k_ hk => (by rw [HE29.o]; exact hk)))
             clear HO_5; have HO_5 := n_; clear n_; obtain ⟨Ao30, co30, eo30⟩ := Kd.R_slice HO_3.o; subst eo30
             have p116 : 0 ≤ ((rd x4_1 0) : Int) := of_decide_eq_true as_
             have q116 : (rd x4_1 0) < (x3_1.length : Int) := of_decide_eq_true as_
             obtain ⟨ad116, e116, hx116_0⟩ := Kd.at_bool (Kd.R_reads' HO_3.o).2.2 (rd x4_1 0) p116 q116
             (try rw [← Nbq21.o] at hx116_0)
             cases e116
             replace p116 := eq_true p116; replace q116 := eq_true q116
             have p26 : 0 ≤ ((rd x4_1 0) : Int) := of_decide_eq_true as_
             have q26 : ((rd x4_1 0) : Int) < ((x3_1.length : Int) : Int) := of_decide_eq_true as_
             obtain ⟨go26, co26, eo26, gb26, gl26, cl26, HG26⟩ := Kd.R_form HO_3.o (by omega)
             (first | cases eo26 | (injection eo26 with ea_ en_ ec_; (first | subst ea_ | (injection ea_ with ea_; subst ea_)); subst ec_; clear en_))
             have GB26 := q_ gb26; have GG26 := q_ HG26; clear gb26 gl26 HG26
             (first | simp only [add_plain] at hx116_0 | skip)
             obtain ⟨hx26_0, hf26_0⟩ := Kd.R_celln false HO_3.o ((rd x4_1 0) : Int) p26 q26; replace p26 := eq_true p26; replace q26 := eq_true q26; have HP31 := Kd.R_putg HO_3.o ((rd x4_1 0) : Int) true
             go_wp2_with (first | ((with_reducible refine gate_store (t := 4) (p := 34) rfl ?_); refine store_event (t := 4) (p := 34) (v := ?vo_w32) (w1 := (wr.setCell ⟨go26, ((rd x4_1 0) : Int).toNat, none⟩ (.bool true))) ?hg ?ho ?hn ?hr ?_; (case ho => rfl); (case hg => rfl); (case hn => rfl); (case hr => first | (go_simp; done) | (go_simp; rfl)); intro w32 hw; have hg : wr.grownBy w32 (some go26) := (by rw [hw]; exact HP31.2); have hp_ : Kd.R Kd.bool 4 w32 w.heap.size (fun _ => True) (.slice (some ⟨go26, 0, none⟩) x3_1.length co30) y117 := (by rw [hw, Ny117.o]; exact HP31.1); clear HP31; replace HO115 := q_ (Kd.Q_over' (v := (.slice (some ⟨go26, 0, none⟩) x3_1.length co30)) (by (with_reducible repeat (first | apply Kd.Q_alloc | apply Kd.Q_drewN | apply Kd.Q_drew)); exact HO115.o) (Kd.R_typed HO_3.o) (by decide) hg); replace HO_5 := q_ (Kd.R_over' (v := (.slice (some ⟨go26, 0, none⟩) x3_1.length co30)) (ra_ HO_5.o) (Kd.R_typed HO_3.o) (by decide) hg); replace BK101 := q_ (blk_grown (g := gb101) (o := .cells #[.slice A0_0 l0_0.length c0_0] 46 (0, 0)) (bk_ BK101.o) hg (Kd.R_ne HO_3.o BK101.o (by decide))); replace HO_3 := q_ (hp_); replace HB := q_ ((by rw [hw]; exact below_set (HB.o) GB26.out : Below w.heap.size w w32)); clear hg hw hp_; obtain ⟨hcz33_0, hfz33_0⟩ := d1_ BK101; have p118 : 0 ≤ ((rd x4_1 0) : Int) := of_decide_eq_true as_; have q118 : (rd x4_1 0) < (l0_0.length : Int) := of_decide_eq_true as_; obtain ⟨ad118, A118_1, c118_1, e118, hx118_0, hx118_1, hl118_1, hi118_1⟩ := at_T108 HR0_0.o (rd x4_1 0) p118 q118; cases e118; replace hx118_0 := mv_ HB.o hx118_0; replace hx118_1 := mv_ HB.o hx118_1; have HR118_1 := q_ hi118_1; have HC118_1 := q_ hl118_1; clear hi118_1 hl118_1; replace p118 := eq_true p118; replace q118 := eq_true q118))
             go_loopg [4, 42] k1 (fun kq v4 v42 w' => ∃ (x4_2 : List Int) (x42_2 : Int), v42 = .int .i64 x42_2 ∧ J0 (impl_ReachedModes.l1 kq y117 x4_2 y109 ((rd_T108 l0_0 (rd x4_1 0)).f1) (((rd_T108 l0_0 (rd x4_1 0)).f1).length : Int) x42_2 l0_0 = some r) ∧ J0 (kq ≤ k1) ∧ J0 (Kd.R Kd.bool 4 w' w.heap.size (fun _ => True) (.slice (some ⟨go26, 0, none⟩) x3_1.length co30) y117) ∧ J0 (Kd.Q (Kd.int .i64) 2 w' w.heap.size (fun k_ => some k_ ≠ (v110 : Value).ownBlock) v4 x4_2) ∧ J0 (Kd.R (Kd.int .i64) 2 w' w.heap.size (fun k_ => some k_ ≠ (v4 : Value).ownBlock) v110 y109) ∧ J0 (w'.heap[gb101]? = some (.cells #[(.slice (some ad118) l0_0.length c0_0)] 46 (0, 0))) ∧ J0 (Below w.heap.size w w'))
             case atStart => exact ⟨(y113), (0), rs_, H', ⟨Nat.le_refl _⟩, ⟨ra_ HO_3.o⟩, ⟨by (with_reducible repeat (first | apply Kd.Q_alloc | apply Kd.Q_drewN | apply Kd.Q_drew)); exact HO115.o⟩, ⟨ra_ HO_5.o⟩, ⟨bk_ BK101.o⟩, ⟨be1_ HB.o GE101.o⟩⟩
             case round =>
              clear H'; (try clear c1); (try clear c3); (try clear c4); (try clear c4b0); (try clear c4b1); (try clear c5); (try clear c5b0); (try clear c5b1); (try clear c16); (try clear c16b0); (try clear c16b1); (try clear c17); (try clear c17b0); (try clear c17b1); (try clear c18); (try clear c18b0); (try clear c18b1); (try clear c19); (try clear c19b0); (try clear c20); (try clear c20b0); (try clear c22); (try clear c24); (try clear q24); (try clear p26); (try clear q26); (try clear c27); (try clear c27b0); (try clear c29); (try clear q29); (try clear hcz33_0); (try clear hcz7_0); (try clear hcz9_0); (try clear hfz33_0); (try clear hfz7_0); (try clear hfz9_0); (try clear hx112_0); (try clear hx116_0); (try clear hx118_0); (try clear hx118_1); (try clear hx26_0); (try clear p112); (try clear p116); (try clear p118); (try clear p26); (try clear q112); (try clear q116); (try clear q118); (try clear q24); (try clear q26); (try clear q29); obtain ⟨x4_2, x42_2, rfl, HA, HK2, HO_3, HO_4, HO_5, BK101, HB⟩ := hrel; have hl3_2 := (Kd.R_reads' HO_3.o).1
              rw [hl3_2] at HO_3
              (try simp only [hl3_2])
              (try simp only [hl3_2] at BK101)
              (try simp only [hl3_2] at HO_4)
              (try simp only [hl3_2] at HO_5)
              cases gk with
              | zero => exact absurd HA.o (by simp [impl_ReachedModes.l1])
              | succ k2 =>
               have H := HA.o; clear HA
               simp only [impl_ReachedModes.l1] at H
               by_cases c34 : x42_2 < (((rd_T108 l0_0 (rd x4_1 0)).f1).length : Int)
               ·rw [if_pos c34] at H; have c34b0 := dt_ c34; clear c34
                by_cases c35 : 0 ≤ x42_2
                ·rw [if_pos c35] at H; have c35b0 := dt_ c35; clear c35
                 by_cases c36 : x42_2 < (((rd_T108 l0_0 (rd x4_1 0)).f1).length : Int)
                 ·rw [if_pos c36] at H; have c36b0 := dt_ c36; clear c36; obtain ⟨t121, A37, H⟩ := ob_ H
                  by_cases c38 : t121 = true
                  ·subst c38; rw [if_pos rfl] at H; obtain ⟨t122, A39, H⟩ := ob_ H
                   by_cases c40 : x4_2.length < 17592186044416
                   ·rw [if_pos c40] at H; have LMc40 := q_ c40; clear c40
                    obtain ⟨y123, hy123⟩ : ∃ y_ : List Int, y_ = (x4_2 ++ [t122]) := ⟨_, rfl⟩
                    replace H : (impl_ReachedModes.l1 k2 y117 y123 y109 ((rd_T108 l0_0 (rd x4_1 0)).f1) (((rd_T108 l0_0 (rd x4_1 0)).f1).length : Int) (wrap64 (x42_2 + 1)) l0_0) = some r := by first | (rw [hy123]; with_reducible exact H) | (have H2_ := (Option.bind_some _ _).symm.trans H; rw [hy123]; with_reducible exact H2_) | (have H2_ := (Option.bind_some _ _).symm.trans H; with_reducible exact H2_) | with_reducible exact H | (rw [hy123]; exact H) | exact H
                    have Ny123 := q_ hy123; clear hy123
                    have H' := q_ H
                    clear H
                    have p119 : 0 ≤ (x42_2 : Int) := of_decide_eq_true as_
                    have q119 : x42_2 < (((rd_T108 l0_0 (rd x4_1 0)).f1).length : Int) := of_decide_eq_true as_
                    obtain ⟨ad119, A119_1, c119_1, e119, hx119_0, hx119_1, hx119_2, hx119_3, hx119_4, hl119_1, hi119_1⟩ := at_T113 HR118_1.o x42_2 p119 q119
                    (try rw [← Nbq21.o] at hx119_2)
                    cases e119
                    replace hx119_0 := mv_ HB.o hx119_0; replace hx119_1 := mv_ HB.o hx119_1; replace hx119_2 := mv_ HB.o hx119_2; replace hx119_3 := mv_ HB.o hx119_3; replace hx119_4 := mv_ HB.o hx119_4; have HR119_1 := q_ hi119_1; have HC119_1 := q_ hl119_1; clear hi119_1 hl119_1; replace p119 := eq_true p119; replace q119 := eq_true q119
                    go_wp2_with (first | ((with_reducible refine gate_dst (N := 8) rfl ?_); refine bx_ 8 #[.string (⟨#[]⟩ : ByteArray), .slice none 0 0, .bool false, .int .i64 0, .string (⟨#[]⟩ : ByteArray)] 113 ?_; intro gb120 hg w41 hbox hb; have BK120 := q_ (hbox); have GW120 := ge1_ hg HB GE101; have GE120 := GW120; have NB101_120 := nl_ hg BK101; have NB120_101 := ng_ hg BK101; replace HO_3 := q_ (Kd.R_below (ra_ HO_3.o) hb); replace HO_4 := q_ (Kd.Q_below (by (with_reducible repeat (first | apply Kd.Q_alloc | apply Kd.Q_drewN | apply Kd.Q_drew)); exact HO_4.o) hb); replace HO_5 := q_ (Kd.R_below (ra_ HO_5.o) hb); replace BK101 := lb_ BK101 hb; replace HB := sb1_ HB GE101 hb; clear hb hbox hg; have hnb42 := NB120_101.o; have hnc42 := NB101_120.o; obtain ⟨hcz43_0, hcz43_1, hcz43_2, hcz43_3, hcz43_4, hfz43_0, hfz43_1, hfz43_2, hfz43_3, hfz43_4⟩ := d5_ BK120) | ((with_reducible refine gate_callee (f := 95) rfl ?_); refine gl_ (some 47) rfl rfl Try.func95 #[.agg #[.string ((rd_T113 ((rd_T108 l0_0 (rd x4_1 0)).f1) x42_2).f0), .slice A119_1 ((rd_T113 ((rd_T108 l0_0 (rd x4_1 0)).f1) x42_2).f1.f0).length c119_1, .bool ((rd_T113 ((rd_T108 l0_0 (rd x4_1 0)).f1) x42_2).f2), .int .i64 ((rd_T113 ((rd_T108 l0_0 (rd x4_1 0)).f1) x42_2).f3), .string ((rd_T113 ((rd_T108 l0_0 (rd x4_1 0)).f1) x42_2).f4)]] ?_; (with_reducible refine (impl_Rule_hasTarget.calls ((rd_T113 ((rd_T108 l0_0 (rd x4_1 0)).f1) x42_2).f0) _ _ ((rd_T113 ((rd_T108 l0_0 (rd x4_1 0)).f1) x42_2).f1.f0) ((rd_T113 ((rd_T108 l0_0 (rd x4_1 0)).f1) x42_2).f2) ((rd_T113 ((rd_T108 l0_0 (rd x4_1 0)).f1) x42_2).f3) ((rd_T113 ((rd_T108 l0_0 (rd x4_1 0)).f1) x42_2).f4) true _ ?side1 ?side2 A37.o).mono ?_); (case side1 => exact Kd.C_below HR119_1.o (be2_ HB.o GE101.o GE120.o)); (case side2 => exact HC119_1.o); rintro e w44 ⟨rfl, hb⟩; refine ⟨_, rfl, ?_⟩; replace HO_3 := q_ (Kd.R_below (by (with_reducible repeat (first | apply Kd.R_alloc | apply Kd.R_drewN | apply Kd.R_drew)); exact (Kd.R_mono (Kd.R_far (p := ⟨gb120, 4, none⟩) (Kd.R_far (p := ⟨gb120, 3, none⟩) (Kd.R_far (p := ⟨gb120, 2, none⟩) (Kd.R_far (p := ⟨gb120, 1, none⟩) (Kd.R_far (p := ⟨gb120, 0, none⟩) (Kd.R_types HO_3.o BK120.o (by decide)) (fun _ hk => hk.2) (.string ((rd_T113 ((rd_T108 l0_0 (rd x4_1 0)).f1) x42_2).f0))) (fun _ hk => hk.2) (.slice A119_1 ((rd_T113 ((rd_T108 l0_0 (rd x4_1 0)).f1) x42_2).f1.f0).length c119_1)) (fun _ hk => hk.2) (.bool ((rd_T113 ((rd_T108 l0_0 (rd x4_1 0)).f1) x42_2).f2))) (fun _ hk => hk.2) (.int .i64 ((rd_T113 ((rd_T108 l0_0 (rd x4_1 0)).f1) x42_2).f3))) (fun _ hk => hk.2) (.string ((rd_T113 ((rd_T108 l0_0 (rd x4_1 0)).f1) x42_2).f4))) (fun _ h_ => h_.1))) hb); replace HO_4 := q_ (Kd.Q_below (by (with_reducible repeat (first | apply Kd.Q_alloc | apply Kd.Q_drewN | apply Kd.Q_drew)); exact (Kd.Q_mono (Kd.Q_far (p := ⟨gb120, 4, none⟩) (Kd.Q_far (p := ⟨gb120, 3, none⟩) (Kd.Q_far (p := ⟨gb120, 2, none⟩) (Kd.Q_far (p := ⟨gb120, 1, none⟩) (Kd.Q_far (p := ⟨gb120, 0, none⟩) (Kd.Q_types HO_4.o BK120.o (by decide)) (fun _ hk => hk.2) (.string ((rd_T113 ((rd_T108 l0_0 (rd x4_1 0)).f1) x42_2).f0))) (fun _ hk => hk.2) (.slice A119_1 ((rd_T113 ((rd_T108 l0_0 (rd x4_1 0)).f1) x42_2).f1.f0).length c119_1)) (fun _ hk => hk.2) (.bool ((rd_T113 ((rd_T108 l0_0 (rd x4_1 0)).f1) x42_2).f2))) (fun _ hk => hk.2) (.int .i64 ((rd_T113 ((rd_T108 l0_0 (rd x4_1 0)).f1) x42_2).f3))) (fun _ hk => hk.2) (.string ((rd_T113 ((rd_T108 l0_0 (rd x4_1 0)).f1) x42_2).f4))) (fun _ h_ => h_.1))) hb); replace HO_5 := q_ (Kd.R_below (by (with_reducible repeat (first | apply Kd.R_alloc | apply Kd.R_drewN | apply Kd.R_drew)); exact (Kd.R_mono (Kd.R_far (p := ⟨gb120, 4, none⟩) (Kd.R_far (p := ⟨gb120, 3, none⟩) (Kd.R_far (p := ⟨gb120, 2, none⟩) (Kd.R_far (p := ⟨gb120, 1, none⟩) (Kd.R_far (p := ⟨gb120, 0, none⟩) (Kd.R_types HO_5.o BK120.o (by decide)) (fun _ hk => hk.2) (.string ((rd_T113 ((rd_T108 l0_0 (rd x4_1 0)).f1) x42_2).f0))) (fun _ hk => hk.2) (.slice A119_1 ((rd_T113 ((rd_T108 l0_0 (rd x4_1 0)).f1) x42_2).f1.f0).length c119_1)) (fun _ hk => hk.2) (.bool ((rd_T113 ((rd_T108 l0_0 (rd x4_1 0)).f1) x42_2).f2))) (fun _ hk => hk.2) (.int .i64 ((rd_T113 ((rd_T108 l0_0 (rd x4_1 0)).f1) x42_2).f3))) (fun _ hk => hk.2) (.string ((rd_T113 ((rd_T108 l0_0 (rd x4_1 0)).f1) x42_2).f4))) (fun _ h_ => h_.1))) hb); replace BK101 := q_ (blk_below (g := gb101) (o := .cells #[.slice (some ad118) l0_0.length c0_0] 46 (0, 0)) (by (with_reducible repeat (first | refine blk_drewN ?_ _ | refine blk_drew ?_ | refine blk_alloc ?_ _)); refine blk_far ?_ NB101_120.o _; (with_reducible repeat (first | refine blk_drewN ?_ _ | refine blk_drew ?_ | refine blk_alloc ?_ _)); refine blk_far ?_ NB101_120.o _; (with_reducible repeat (first | refine blk_drewN ?_ _ | refine blk_drew ?_ | refine blk_alloc ?_ _)); refine blk_far ?_ NB101_120.o _; (with_reducible repeat (first | refine blk_drewN ?_ _ | refine blk_drew ?_ | refine blk_alloc ?_ _)); refine blk_far ?_ NB101_120.o _; (with_reducible repeat (first | refine blk_drewN ?_ _ | refine blk_drew ?_ | refine blk_alloc ?_ _)); refine blk_far ?_ NB101_120.o _; (with_reducible repeat (first | refine blk_drewN ?_ _ | refine blk_drew ?_ | refine blk_alloc ?_ _)); exact BK101.o) hb); replace BK120 := q_ (blk_below (g := gb120) (o := .cells #[.string ((rd_T113 ((rd_T108 l0_0 (rd x4_1 0)).f1) x42_2).f0), .slice A119_1 ((rd_T113 ((rd_T108 l0_0 (rd x4_1 0)).f1) x42_2).f1.f0).length c119_1, .bool ((rd_T113 ((rd_T108 l0_0 (rd x4_1 0)).f1) x42_2).f2), .int .i64 ((rd_T113 ((rd_T108 l0_0 (rd x4_1 0)).f1) x42_2).f3), .string ((rd_T113 ((rd_T108 l0_0 (rd x4_1 0)).f1) x42_2).f4)] 113 (0, 0)) (by (with_reducible repeat (first | refine blk_drewN ?_ _ | refine blk_drew ?_ | refine blk_alloc ?_ _)); refine blk_put (cs := #[.string ((rd_T113 ((rd_T108 l0_0 (rd x4_1 0)).f1) x42_2).f0), .slice A119_1 ((rd_T113 ((rd_T108 l0_0 (rd x4_1 0)).f1) x42_2).f1.f0).length c119_1, .bool ((rd_T113 ((rd_T108 l0_0 (rd x4_1 0)).f1) x42_2).f2), .int .i64 ((rd_T113 ((rd_T108 l0_0 (rd x4_1 0)).f1) x42_2).f3), .string (⟨#[]⟩ : ByteArray)]) ?_ 4 _ rfl; (with_reducible repeat (first | refine blk_drewN ?_ _ | refine blk_drew ?_ | refine blk_alloc ?_ _)); refine blk_put (cs := #[.string ((rd_T113 ((rd_T108 l0_0 (rd x4_1 0)).f1) x42_2).f0), .slice A119_1 ((rd_T113 ((rd_T108 l0_0 (rd x4_1 0)).f1) x42_2).f1.f0).length c119_1, .bool ((rd_T113 ((rd_T108 l0_0 (rd x4_1 0)).f1) x42_2).f2), .int .i64 0, .string (⟨#[]⟩ : ByteArray)]) ?_ 3 _ rfl; (with_reducible repeat (first | refine blk_drewN ?_ _ | refine blk_drew ?_ | refine blk_alloc ?_ _)); refine blk_put (cs := #[.string ((rd_T113 ((rd_T108 l0_0 (rd x4_1 0)).f1) x42_2).f0), .slice A119_1 ((rd_T113 ((rd_T108 l0_0 (rd x4_1 0)).f1) x42_2).f1.f0).length c119_1, .bool false, .int .i64 0, .string (⟨#[]⟩ : ByteArray)]) ?_ 2 _ rfl; (with_reducible repeat (first | refine blk_drewN ?_ _ | refine blk_drew ?_ | refine blk_alloc ?_ _)); refine blk_put (cs := #[.string ((rd_T113 ((rd_T108 l0_0 (rd x4_1 0)).f1) x42_2).f0), .slice none 0 0, .bool false, .int .i64 0, .string (⟨#[]⟩ : ByteArray)]) ?_ 1 _ rfl; (with_reducible repeat (first | refine blk_drewN ?_ _ | refine blk_drew ?_ | refine blk_alloc ?_ _)); refine blk_put (cs := #[.string (⟨#[]⟩ : ByteArray), .slice none 0 0, .bool false, .int .i64 0, .string (⟨#[]⟩ : ByteArray)]) ?_ 0 _ rfl; (with_reducible repeat (first | refine blk_drewN ?_ _ | refine blk_drew ?_ | refine blk_alloc ?_ _)); exact BK120.o) hb); replace HB := sb2_ HB GE101 GE120 hb; (try clear hb); obtain ⟨hcz45_0, hfz45_0⟩ := d1_ BK101; obtain ⟨hcz46_0, hcz46_1, hcz46_2, hcz46_3, hcz46_4, hfz46_0, hfz46_1, hfz46_2, hfz46_3, hfz46_4⟩ := d5_ BK120) | ((with_reducible refine gate_callee (f := 82) rfl ?_); refine gl_ (some 52) rfl rfl Try.func82 #[.agg #[.slice (some ad118) l0_0.length c0_0], .string ((rd_T113 ((rd_T108 l0_0 (rd x4_1 0)).f1) x42_2).f4)] ?_; (with_reducible refine (impl_ModeAt.calls _ _ l0_0 ((rd_T113 ((rd_T108 l0_0 (rd x4_1 0)).f1) x42_2).f4) t122 _ ?side1 ?side2 A39.o).mono ?_); (case side1 => exact Kd.C_below HR0_0.o (be_ HB.o)); (case side2 => exact HC0_0.o); rintro e w47 ⟨rfl, hb⟩; refine ⟨_, rfl, ?_⟩; replace HO_3 := q_ (Kd.R_below (ra_ HO_3.o) hb); replace HO_4 := q_ (Kd.Q_below (by (with_reducible repeat (first | apply Kd.Q_alloc | apply Kd.Q_drewN | apply Kd.Q_drew)); exact HO_4.o) hb); replace HO_5 := q_ (Kd.R_below (ra_ HO_5.o) hb); replace BK101 := lb_ BK101 hb; replace BK120 := lb_ BK120 hb; replace HB := sb2_ HB GE101 GE120 hb; (try clear hb)) | ((with_reducible refine gate_builtin (b := .append) (xs := #[.tmp 48, .tmp 53]) rfl ?_); at_builtin; refine Kd.Q_append (Kd.int .i64) (w0 := w) w.heap.size rfl (.tmp 48) (.tmp 53) 56 2 (.int .i64 0) 8 rfl Try.underlying56 info2 rfl (by decide) (by omega) u4 x4_2 t122 [.int .i64 t122] (fun k_ => some k_ ≠ (v110 : Value).ownBlock) (fun _ => False) rfl rfl ?aP (fun _ hk => hk.elim) ?aF ?aO ?aB ?aS ?aL ?_; (case aP => exact rfl); (case aB => exact (be2_ HB.o GE101.o GE120.o)); (case aF => exact (fun k_ hk => Kd.fresh' (Kd.R_lt (ra_ HO_5.o)) k_ hk)); (case aO => exact (by (with_reducible repeat (first | apply Kd.Q_alloc | apply Kd.Q_drewN | apply Kd.Q_drew)); exact HO_4.o)); (case aS => exact (below_size (be2_ HB.o GE101.o GE120.o))); (case aL => have := LMc40.o; omega); intro v124 w48 ho hb hg hat; rw [← Ny123.o] at ho; have HO125 := q_ (ho); replace HO_3 := q_ (Kd.R_over' (ra_ HO_3.o) (Kd.Q_typed (by (with_reducible repeat (first | apply Kd.Q_alloc | apply Kd.Q_drewN | apply Kd.Q_drew)); exact HO_4.o)) (by decide) hg); replace HO_5 := q_ (Kd.R_after (ok := (fun _ => True)) (by (with_reducible repeat (first | apply Kd.R_alloc | apply Kd.R_drewN | apply Kd.R_drew)); exact Kd.R_mono HO_5.o (fun _ hk => ⟨trivial, hk⟩)) hg hat); replace BK101 := q_ (blk_grown (g := gb101) (o := .cells #[.slice (some ad118) l0_0.length c0_0] 46 (0, 0)) (bk_ BK101.o) hg (Kd.Q_ne HO_4.o BK101.o (by decide))); replace BK120 := q_ (blk_grown (g := gb120) (o := .cells #[.string ((rd_T113 ((rd_T108 l0_0 (rd x4_1 0)).f1) x42_2).f0), .slice A119_1 ((rd_T113 ((rd_T108 l0_0 (rd x4_1 0)).f1) x42_2).f1.f0).length c119_1, .bool ((rd_T113 ((rd_T108 l0_0 (rd x4_1 0)).f1) x42_2).f2), .int .i64 ((rd_T113 ((rd_T108 l0_0 (rd x4_1 0)).f1) x42_2).f3), .string ((rd_T113 ((rd_T108 l0_0 (rd x4_1 0)).f1) x42_2).f4)] 113 (0, 0)) (bk_ BK120.o) hg (Kd.Q_ne HO_4.o BK120.o (by decide))); replace HB := q_ (hb); clear HO_4; clear ho hb hg hat))
                    (try simp only [← hl3_2])
                    go_roundg k2
                    case measure => have := HK1.o; have := HK2.o; omega
                    case rel => exact ⟨(y123), (wrap64 (x42_2 + 1)), rs_, H', ⟨by have := HK1.o; have := HK2.o; omega⟩, ⟨by (try simp only [hl3_2]); (with_reducible repeat (first | apply Kd.R_alloc | apply Kd.R_drewN | apply Kd.R_drew)); exact HO_3.o⟩, ⟨by (try simp only [hl3_2]); (with_reducible repeat (first | apply Kd.Q_alloc | apply Kd.Q_drewN | apply Kd.Q_drew)); exact HO125.o⟩, ⟨by (try simp only [hl3_2]); (with_reducible repeat (first | apply Kd.R_alloc | apply Kd.R_drewN | apply Kd.R_drew)); exact Kd.R_mono HO_5.o (fun _ hk => hk.2)⟩, ⟨by (try simp only [hl3_2]); (with_reducible repeat (first | refine blk_drewN ?_ _ | refine blk_drew ?_ | refine blk_alloc ?_ _)); exact BK101.o⟩, ⟨be2_ HB.o GE101.o GE120.o⟩⟩
                   ·rw [if_neg c40] at H
                    exact absurd H (by simp)
                  ·replace c38 := Bool.eq_false_iff.mpr c38; subst c38; rw [if_neg nft_] at H
                   have H' := q_ H
                   clear H
                   have p119 : 0 ≤ (x42_2 : Int) := of_decide_eq_true as_
                   have q119 : x42_2 < (((rd_T108 l0_0 (rd x4_1 0)).f1).length : Int) := of_decide_eq_true as_
                   obtain ⟨ad119, A119_1, c119_1, e119, hx119_0, hx119_1, hx119_2, hx119_3, hx119_4, hl119_1, hi119_1⟩ := at_T113 HR118_1.o x42_2 p119 q119
                   (try rw [← Nbq21.o] at hx119_2)
                   cases e119
                   replace hx119_0 := mv_ HB.o hx119_0; replace hx119_1 := mv_ HB.o hx119_1; replace hx119_2 := mv_ HB.o hx119_2; replace hx119_3 := mv_ HB.o hx119_3; replace hx119_4 := mv_ HB.o hx119_4; have HR119_1 := q_ hi119_1; have HC119_1 := q_ hl119_1; clear hi119_1 hl119_1; replace p119 := eq_true p119; replace q119 := eq_true q119
                   go_wp2_with (first | ((with_reducible refine gate_dst (N := 8) rfl ?_); refine bx_ 8 #[.string (⟨#[]⟩ : ByteArray), .slice none 0 0, .bool false, .int .i64 0, .string (⟨#[]⟩ : ByteArray)] 113 ?_; intro gb120 hg w49 hbox hb; have BK120 := q_ (hbox); have GW120 := ge1_ hg HB GE101; have GE120 := GW120; have NB101_120 := nl_ hg BK101; have NB120_101 := ng_ hg BK101; replace HO_3 := q_ (Kd.R_below (ra_ HO_3.o) hb); replace HO_4 := q_ (Kd.Q_below (by (with_reducible repeat (first | apply Kd.Q_alloc | apply Kd.Q_drewN | apply Kd.Q_drew)); exact HO_4.o) hb); replace HO_5 := q_ (Kd.R_below (ra_ HO_5.o) hb); replace BK101 := lb_ BK101 hb; replace HB := sb1_ HB GE101 hb; clear hb hbox hg; have hnb50 := NB120_101.o; have hnc50 := NB101_120.o; obtain ⟨hcz51_0, hcz51_1, hcz51_2, hcz51_3, hcz51_4, hfz51_0, hfz51_1, hfz51_2, hfz51_3, hfz51_4⟩ := d5_ BK120) | ((with_reducible refine gate_callee (f := 95) rfl ?_); refine gl_ (some 47) rfl rfl Try.func95 #[.agg #[.string ((rd_T113 ((rd_T108 l0_0 (rd x4_1 0)).f1) x42_2).f0), .slice A119_1 ((rd_T113 ((rd_T108 l0_0 (rd x4_1 0)).f1) x42_2).f1.f0).length c119_1, .bool ((rd_T113 ((rd_T108 l0_0 (rd x4_1 0)).f1) x42_2).f2), .int .i64 ((rd_T113 ((rd_T108 l0_0 (rd x4_1 0)).f1) x42_2).f3), .string ((rd_T113 ((rd_T108 l0_0 (rd x4_1 0)).f1) x42_2).f4)]] ?_; (with_reducible refine (impl_Rule_hasTarget.calls ((rd_T113 ((rd_T108 l0_0 (rd x4_1 0)).f1) x42_2).f0) _ _ ((rd_T113 ((rd_T108 l0_0 (rd x4_1 0)).f1) x42_2).f1.f0) ((rd_T113 ((rd_T108 l0_0 (rd x4_1 0)).f1) x42_2).f2) ((rd_T113 ((rd_T108 l0_0 (rd x4_1 0)).f1) x42_2).f3) ((rd_T113 ((rd_T108 l0_0 (rd x4_1 0)).f1) x42_2).f4) false _ ?side1 ?side2 A37.o).mono ?_); (case side1 => exact Kd.C_below HR119_1.o (be2_ HB.o GE101.o GE120.o)); (case side2 => exact HC119_1.o); rintro e w52 ⟨rfl, hb⟩; refine ⟨_, rfl, ?_⟩; replace HO_3 := q_ (Kd.R_below (by (with_reducible repeat (first | apply Kd.R_alloc | apply Kd.R_drewN | apply Kd.R_drew)); exact (Kd.R_mono (Kd.R_far (p := ⟨gb120, 4, none⟩) (Kd.R_far (p := ⟨gb120, 3, none⟩) (Kd.R_far (p := ⟨gb120, 2, none⟩) (Kd.R_far (p := ⟨gb120, 1, none⟩) (Kd.R_far (p := ⟨gb120, 0, none⟩) (Kd.R_types HO_3.o BK120.o (by decide)) (fun _ hk => hk.2) (.string ((rd_T113 ((rd_T108 l0_0 (rd x4_1 0)).f1) x42_2).f0))) (fun _ hk => hk.2) (.slice A119_1 ((rd_T113 ((rd_T108 l0_0 (rd x4_1 0)).f1) x42_2).f1.f0).length c119_1)) (fun _ hk => hk.2) (.bool ((rd_T113 ((rd_T108 l0_0 (rd x4_1 0)).f1) x42_2).f2))) (fun _ hk => hk.2) (.int .i64 ((rd_T113 ((rd_T108 l0_0 (rd x4_1 0)).f1) x42_2).f3))) (fun _ hk => hk.2) (.string ((rd_T113 ((rd_T108 l0_0 (rd x4_1 0)).f1) x42_2).f4))) (fun _ h_ => h_.1))) hb); replace HO_4 := q_ (Kd.Q_below (by (with_reducible repeat (first | apply Kd.Q_alloc | apply Kd.Q_drewN | apply Kd.Q_drew)); exact (Kd.Q_mono (Kd.Q_far (p := ⟨gb120, 4, none⟩) (Kd.Q_far (p := ⟨gb120, 3, none⟩) (Kd.Q_far (p := ⟨gb120, 2, none⟩) (Kd.Q_far (p := ⟨gb120, 1, none⟩) (Kd.Q_far (p := ⟨gb120, 0, none⟩) (Kd.Q_types HO_4.o BK120.o (by decide)) (fun _ hk => hk.2) (.string ((rd_T113 ((rd_T108 l0_0 (rd x4_1 0)).f1) x42_2).f0))) (fun _ hk => hk.2) (.slice A119_1 ((rd_T113 ((rd_T108 l0_0 (rd x4_1 0)).f1) x42_2).f1.f0).length c119_1)) (fun _ hk => hk.2) (.bool ((rd_T113 ((rd_T108 l0_0 (rd x4_1 0)).f1) x42_2).f2))) (fun _ hk => hk.2) (.int .i64 ((rd_T113 ((rd_T108 l0_0 (rd x4_1 0)).f1) x42_2).f3))) (fun _ hk => hk.2) (.string ((rd_T113 ((rd_T108 l0_0 (rd x4_1 0)).f1) x42_2).f4))) (fun _ h_ => h_.1))) hb); replace HO_5 := q_ (Kd.R_below (by (with_reducible repeat (first | apply Kd.R_alloc | apply Kd.R_drewN | apply Kd.R_drew)); exact (Kd.R_mono (Kd.R_far (p := ⟨gb120, 4, none⟩) (Kd.R_far (p := ⟨gb120, 3, none⟩) (Kd.R_far (p := ⟨gb120, 2, none⟩) (Kd.R_far (p := ⟨gb120, 1, none⟩) (Kd.R_far (p := ⟨gb120, 0, none⟩) (Kd.R_types HO_5.o BK120.o (by decide)) (fun _ hk => hk.2) (.string ((rd_T113 ((rd_T108 l0_0 (rd x4_1 0)).f1) x42_2).f0))) (fun _ hk => hk.2) (.slice A119_1 ((rd_T113 ((rd_T108 l0_0 (rd x4_1 0)).f1) x42_2).f1.f0).length c119_1)) (fun _ hk => hk.2) (.bool ((rd_T113 ((rd_T108 l0_0 (rd x4_1 0)).f1) x42_2).f2))) (fun _ hk => hk.2) (.int .i64 ((rd_T113 ((rd_T108 l0_0 (rd x4_1 0)).f1) x42_2).f3))) (fun _ hk => hk.2) (.string ((rd_T113 ((rd_T108 l0_0 (rd x4_1 0)).f1) x42_2).f4))) (fun _ h_ => h_.1))) hb); replace BK101 := q_ (blk_below (g := gb101) (o := .cells #[.slice (some ad118) l0_0.length c0_0] 46 (0, 0)) (by (with_reducible repeat (first | refine blk_drewN ?_ _ | refine blk_drew ?_ | refine blk_alloc ?_ _)); refine blk_far ?_ NB101_120.o _; (with_reducible repeat (first | refine blk_drewN ?_ _ | refine blk_drew ?_ | refine blk_alloc ?_ _)); refine blk_far ?_ NB101_120.o _; (with_reducible repeat (first | refine blk_drewN ?_ _ | refine blk_drew ?_ | refine blk_alloc ?_ _)); refine blk_far ?_ NB101_120.o _; (with_reducible repeat (first | refine blk_drewN ?_ _ | refine blk_drew ?_ | refine blk_alloc ?_ _)); refine blk_far ?_ NB101_120.o _; (with_reducible repeat (first | refine blk_drewN ?_ _ | refine blk_drew ?_ | refine blk_alloc ?_ _)); refine blk_far ?_ NB101_120.o _; (with_reducible repeat (first | refine blk_drewN ?_ _ | refine blk_drew ?_ | refine blk_alloc ?_ _)); exact BK101.o) hb); replace BK120 := q_ (blk_below (g := gb120) (o := .cells #[.string ((rd_T113 ((rd_T108 l0_0 (rd x4_1 0)).f1) x42_2).f0), .slice A119_1 ((rd_T113 ((rd_T108 l0_0 (rd x4_1 0)).f1) x42_2).f1.f0).length c119_1, .bool ((rd_T113 ((rd_T108 l0_0 (rd x4_1 0)).f1) x42_2).f2), .int .i64 ((rd_T113 ((rd_T108 l0_0 (rd x4_1 0)).f1) x42_2).f3), .string ((rd_T113 ((rd_T108 l0_0 (rd x4_1 0)).f1) x42_2).f4)] 113 (0, 0)) (by (with_reducible repeat (first | refine blk_drewN ?_ _ | refine blk_drew ?_ | refine blk_alloc ?_ _)); refine blk_put (cs := #[.string ((rd_T113 ((rd_T108 l0_0 (rd x4_1 0)).f1) x42_2).f0), .slice A119_1 ((rd_T113 ((rd_T108 l0_0 (rd x4_1 0)).f1) x42_2).f1.f0).length c119_1, .bool ((rd_T113 ((rd_T108 l0_0 (rd x4_1 0)).f1) x42_2).f2), .int .i64 ((rd_T113 ((rd_T108 l0_0 (rd x4_1 0)).f1) x42_2).f3), .string (⟨#[]⟩ : ByteArray)]) ?_ 4 _ rfl; (with_reducible repeat (first | refine blk_drewN ?_ _ | refine blk_drew ?_ | refine blk_alloc ?_ _)); refine blk_put (cs := #[.string ((rd_T113 ((rd_T108 l0_0 (rd x4_1 0)).f1) x42_2).f0), .slice A119_1 ((rd_T113 ((rd_T108 l0_0 (rd x4_1 0)).f1) x42_2).f1.f0).length c119_1, .bool ((rd_T113 ((rd_T108 l0_0 (rd x4_1 0)).f1) x42_2).f2), .int .i64 0, .string (⟨#[]⟩ : ByteArray)]) ?_ 3 _ rfl; (with_reducible repeat (first | refine blk_drewN ?_ _ | refine blk_drew ?_ | refine blk_alloc ?_ _)); refine blk_put (cs := #[.string ((rd_T113 ((rd_T108 l0_0 (rd x4_1 0)).f1) x42_2).f0), .slice A119_1 ((rd_T113 ((rd_T108 l0_0 (rd x4_1 0)).f1) x42_2).f1.f0).length c119_1, .bool false, .int .i64 0, .string (⟨#[]⟩ : ByteArray)]) ?_ 2 _ rfl; (with_reducible repeat (first | refine blk_drewN ?_ _ | refine blk_drew ?_ | refine blk_alloc ?_ _)); refine blk_put (cs := #[.string ((rd_T113 ((rd_T108 l0_0 (rd x4_1 0)).f1) x42_2).f0), .slice none 0 0, .bool false, .int .i64 0, .string (⟨#[]⟩ : ByteArray)]) ?_ 1 _ rfl; (with_reducible repeat (first | refine blk_drewN ?_ _ | refine blk_drew ?_ | refine blk_alloc ?_ _)); refine blk_put (cs := #[.string (⟨#[]⟩ : ByteArray), .slice none 0 0, .bool false, .int .i64 0, .string (⟨#[]⟩ : ByteArray)]) ?_ 0 _ rfl; (with_reducible repeat (first | refine blk_drewN ?_ _ | refine blk_drew ?_ | refine blk_alloc ?_ _)); exact BK120.o) hb); replace HB := sb2_ HB GE101 GE120 hb; (try clear hb)))
                   (try simp only [← hl3_2])
                   go_roundg k2
                   case measure => have := HK1.o; have := HK2.o; omega
                   case rel => exact ⟨(x4_2), (wrap64 (x42_2 + 1)), rs_, H', ⟨by have := HK1.o; have := HK2.o; omega⟩, ⟨by (try simp only [hl3_2]); (with_reducible repeat (first | apply Kd.R_alloc | apply Kd.R_drewN | apply Kd.R_drew)); exact HO_3.o⟩, ⟨by (try simp only [hl3_2]); (with_reducible repeat (first | apply Kd.Q_alloc | apply Kd.Q_drewN | apply Kd.Q_drew)); exact HO_4.o⟩, ⟨by (try simp only [hl3_2]); (with_reducible repeat (first | apply Kd.R_alloc | apply Kd.R_drewN | apply Kd.R_drew)); exact HO_5.o⟩, ⟨by (try simp only [hl3_2]); (with_reducible repeat (first | refine blk_drewN ?_ _ | refine blk_drew ?_ | refine blk_alloc ?_ _)); exact BK101.o⟩, ⟨be2_ HB.o GE101.o GE120.o⟩⟩
                 ·rw [if_neg c36] at H
                  exact absurd H (by simp)
                ·rw [if_neg c35] at H
                 exact absurd H (by simp)
               ·rw [if_neg c34] at H; have c34b0 := df_ c34; clear c34
                have H' := q_ H
                clear H
                go_wp2
                (try simp only [← hl3_2])
                go_roundg k2
                case measure => have := HK1.o; have := HK2.o; omega
                case rel => exact ⟨(y117), (x4_2), H', ⟨by have := HK1.o; have := HK2.o; omega⟩, ⟨by (try simp only [hl3_2]); (with_reducible repeat (first | apply Kd.R_alloc | apply Kd.R_drewN | apply Kd.R_drew)); exact HO_3.o⟩, ⟨by (try simp only [hl3_2]); (with_reducible repeat (first | apply Kd.Q_alloc | apply Kd.Q_drewN | apply Kd.Q_drew)); exact HO_4.o⟩, ⟨by (try simp only [hl3_2]); (with_reducible repeat (first | apply Kd.R_alloc | apply Kd.R_drewN | apply Kd.R_drew)); exact HO_5.o⟩, ⟨by (try simp only [hl3_2]); (with_reducible repeat (first | refine blk_drewN ?_ _ | refine blk_drew ?_ | refine blk_alloc ?_ _)); exact BK101.o⟩, ⟨be1_ HB.o GE101.o⟩⟩
            ·rw [if_neg c27] at H
             exact absurd H (by simp)
          ·rw [if_neg c20] at H
           exact absurd H (by simp)
         ·rw [if_neg c19] at H
          exact absurd H (by simp)
        ·rw [if_neg c18] at H
         exact absurd H (by simp)
       ·rw [if_neg c17] at H
        exact absurd H (by simp)
      ·rw [if_neg c16] at H
       have c16b0 : decide (0 < (x4_1.length : Int)) = false := df_ c16
       have c16b1 : decide (0 < x4_1.length) = false := decide_eq_false (by omega)
       clear c16
       have H' := q_ H
       clear H; obtain ⟨Ao53, co53, eo53, _⟩ := Kd.Q_slice HO_4.o; subst eo53; obtain ⟨Ao54, co54, eo54⟩ := Kd.R_slice HO_3.o; subst eo54
       go_wp2
       go_loopg [5, 58] k1 (fun kq v5 v58 w' => ∃ (x5_2 : List Int) (x58_2 : Int), v58 = .int .i64 x58_2 ∧ J0 (impl_ReachedModes.l2 kq x5_2 x3_1 (x3_1.length : Int) x58_2 = some r) ∧ J0 (kq ≤ k1) ∧ J0 (Kd.R (Kd.int .i64) 2 w' w.heap.size (fun _ => True) v5 x5_2) ∧ J0 (Kd.R Kd.bool 4 w' w.heap.size (fun _ => True) (.slice Ao54 x3_1.length co54) x3_1) ∧ J0 (w'.heap[gb101]? = some (.cells #[(.slice A0_0 l0_0.length c0_0)] 46 (0, 0))) ∧ J0 (Below w.heap.size w w'))
       case atStart => exact ⟨(y109), (0), rs_, H', ⟨Nat.le_refl _⟩, ⟨by (with_reducible repeat (first | apply Kd.R_alloc | apply Kd.R_drewN | apply Kd.R_drew)); exact Kd.R_mono HO_5.o (fun _ hk => trivial)⟩, ⟨ra_ HO_3.o⟩, ⟨bk_ BK101.o⟩, ⟨be1_ HB.o GE101.o⟩⟩
       case round =>
        clear H'; (try clear c1); (try clear c3); (try clear c4); (try clear c4b0); (try clear c4b1); (try clear c5); (try clear c5b0); (try clear c5b1); (try clear c16); (try clear c16b0); (try clear c16b1); (try clear c17); (try clear c17b0); (try clear c17b1); (try clear c18); (try clear c18b0); (try clear c18b1); (try clear c19); (try clear c19b0); (try clear c20); (try clear c20b0); (try clear c22); (try clear c24); (try clear q24); (try clear p26); (try clear q26); (try clear c27); (try clear c27b0); (try clear c29); (try clear q29); (try clear c34); (try clear c34b0); (try clear c35); (try clear c35b0); (try clear c36); (try clear c36b0); (try clear c38); (try clear c40); (try clear hcz33_0); (try clear hcz43_0); (try clear hcz43_1); (try clear hcz43_2); (try clear hcz43_3); (try clear hcz43_4); (try clear hcz45_0); (try clear hcz46_0); (try clear hcz46_1); (try clear hcz46_2); (try clear hcz46_3); (try clear hcz46_4); (try clear hcz51_0); (try clear hcz51_1); (try clear hcz51_2); (try clear hcz51_3); (try clear hcz51_4); (try clear hcz7_0); (try clear hcz9_0); (try clear hfz33_0); (try clear hfz43_0); (try clear hfz43_1); (try clear hfz43_2); (try clear hfz43_3); (try clear hfz43_4); (try clear hfz45_0); (try clear hfz46_0); (try clear hfz46_1); (try clear hfz46_2); (try clear hfz46_3); (try clear hfz46_4); (try clear hfz51_0); (try clear hfz51_1); (try clear hfz51_2); (try clear hfz51_3); (try clear hfz51_4); (try clear hfz7_0); (try clear hfz9_0); (try clear hx112_0); (try clear hx116_0); (try clear hx118_0); (try clear hx118_1); (try clear hx119_0); (try clear hx119_1); (try clear hx119_2); (try clear hx119_3); (try clear hx119_4); (try clear hx26_0); (try clear p112); (try clear p116); (try clear p118); (try clear p119); (try clear p26); (try clear q112); (try clear q116); (try clear q118); (try clear q119); (try clear q24); (try clear q26); (try clear q29); obtain ⟨x5_2, x58_2, rfl, HA, HK2, HO_5, HO_56, BK101, HB⟩ := hrel
        cases gk with
        | zero => exact absurd HA.o (by simp [impl_ReachedModes.l2])
        | succ k2 =>
         have H := HA.o; clear HA
         simp only [impl_ReachedModes.l2] at H
         by_cases c55 : x58_2 < (x3_1.length : Int)
         ·rw [if_pos c55] at H; have c55b0 := dt_ c55; clear c55
          by_cases c56 : 0 ≤ x58_2
          ·rw [if_pos c56] at H; have c56b0 := dt_ c56; clear c56
           by_cases c57 : x58_2 < (x3_1.length : Int)
           ·rw [if_pos c57] at H; have c57b0 := dt_ c57; clear c57
            obtain ⟨bq58, hbq58⟩ : ∃ b_ : Bool, b_ = (rdOf false x3_1 x58_2) := ⟨_, rfl⟩
            replace H : (if bq58 = true then (if x5_2.length < 17592186044416 then (impl_ReachedModes.l2 k2 (x5_2 ++ [x58_2]) x3_1 (x3_1.length : Int) (wrap64 (x58_2 + 1))) else (none)) else (impl_ReachedModes.l2 k2 x5_2 x3_1 (x3_1.length : Int) (wrap64 (x58_2 + 1)))) = some r := by rw [← hbq58] at H; exact H
            have Nbq58 := q_ hbq58; clear hbq58
            by_cases c59 : bq58 = true
            ·subst c59; rw [if_pos rfl] at H
             by_cases c60 : x5_2.length < 17592186044416
             ·rw [if_pos c60] at H; have LMc60 := q_ c60; clear c60
              obtain ⟨y127, hy127⟩ : ∃ y_ : List Int, y_ = (x5_2 ++ [x58_2]) := ⟨_, rfl⟩
              replace H : (impl_ReachedModes.l2 k2 y127 x3_1 (x3_1.length : Int) (wrap64 (x58_2 + 1))) = some r := by first | (rw [hy127]; with_reducible exact H) | (have H2_ := (Option.bind_some _ _).symm.trans H; rw [hy127]; with_reducible exact H2_) | (have H2_ := (Option.bind_some _ _).symm.trans H; with_reducible exact H2_) | with_reducible exact H | (rw [hy127]; exact H) | exact H
              have Ny127 := q_ hy127; clear hy127
              have H' := q_ H
              clear H
              have p126 : 0 ≤ (x58_2 : Int) := of_decide_eq_true as_
              have q126 : x58_2 < (x3_1.length : Int) := of_decide_eq_true as_
              obtain ⟨ad126, e126, hx126_0⟩ := Kd.at_bool (Kd.R_reads' HO_56.o).2.2 x58_2 p126 q126
              (try rw [← Nbq58.o] at hx126_0)
              cases e126
              replace p126 := eq_true p126; replace q126 := eq_true q126
              go_wp2_with (first | ((with_reducible refine gate_builtin (b := .append) (xs := #[.tmp 64, .tmp 66]) rfl ?_); at_builtin; refine Kd.R_append (Kd.int .i64) (w0 := w) w.heap.size rfl (.tmp 64) (.tmp 66) 56 2 (.int .i64 0) 8 rfl Try.underlying56 info2 rfl (by decide) (by omega) u5 x5_2 x58_2 [.int .i64 x58_2] (fun _ => True) (fun _ => False) rfl rfl ?aP (fun _ hk => hk.elim) ?aF ?aO ?aB ?aS ?aL ?_; (case aP => exact rfl); (case aB => exact (be1_ HB.o GE101.o)); (case aF => exact (fun _ _ => trivial)); (case aO => exact (ra_ HO_5.o)); (case aS => exact (below_size (be1_ HB.o GE101.o))); (case aL => have := LMc60.o; omega); intro v128 w61 ho hb hg hat; rw [← Ny127.o] at ho; have HO129 := q_ (ho); replace HO_56 := q_ (Kd.R_over' (ra_ HO_56.o) (Kd.R_typed (ra_ HO_5.o)) (by decide) hg); replace BK101 := q_ (blk_grown (g := gb101) (o := .cells #[.slice A0_0 l0_0.length c0_0] 46 (0, 0)) (bk_ BK101.o) hg (Kd.R_ne HO_5.o BK101.o (by decide))); replace HB := q_ (hb); clear HO_5; clear ho hb hg hat))
              go_roundg k2
              case measure => have := HK1.o; have := HK2.o; omega
              case rel => exact ⟨(y127), (wrap64 (x58_2 + 1)), rs_, H', ⟨by have := HK1.o; have := HK2.o; omega⟩, ⟨ra_ HO129.o⟩, ⟨ra_ HO_56.o⟩, ⟨bk_ BK101.o⟩, ⟨be1_ HB.o GE101.o⟩⟩
             ·rw [if_neg c60] at H
              exact absurd H (by simp)
            ·replace c59 := Bool.eq_false_iff.mpr c59; subst c59; rw [if_neg nft_] at H
             have H' := q_ H
             clear H
             have p126 : 0 ≤ (x58_2 : Int) := of_decide_eq_true as_
             have q126 : x58_2 < (x3_1.length : Int) := of_decide_eq_true as_
             obtain ⟨ad126, e126, hx126_0⟩ := Kd.at_bool (Kd.R_reads' HO_56.o).2.2 x58_2 p126 q126
             (try rw [← Nbq58.o] at hx126_0)
             cases e126
             replace p126 := eq_true p126; replace q126 := eq_true q126
             go_wp2
             go_roundg k2
             case measure => have := HK1.o; have := HK2.o; omega
             case rel => exact ⟨(x5_2), (wrap64 (x58_2 + 1)), rs_, H', ⟨by have := HK1.o; have := HK2.o; omega⟩, ⟨ra_ HO_5.o⟩, ⟨ra_ HO_56.o⟩, ⟨bk_ BK101.o⟩, ⟨be1_ HB.o GE101.o⟩⟩
           ·rw [if_neg c57] at H
            exact absurd H (by simp)
          ·rw [if_neg c56] at H
           exact absurd H (by simp)
         ·rw [if_neg c55] at H; have c55b0 := df_ c55; clear c55; obtain rfl := Option.some.inj H
          go_wp2
          go_ret
          exact ⟨_, rt_, ra_ HO_5.o, be1_ HB.o GE101.o⟩
   ·rw [if_neg c5] at H
    exact absurd H (by simp)
  ·rw [if_neg c4] at H
   exact absurd H (by simp)
 ·replace c3 := Bool.eq_false_iff.mpr c3; subst c3; rw [if_neg nft_] at H; obtain rfl := Option.some.inj H
  go_enter Try.func39, Try.ntmps39
  go_wp2_with (first | ((with_reducible refine gate_dst (N := 1) rfl ?_); refine bx_ 1 #[.slice A0_0 l0_0.length c0_0] 46 ?_; intro gb101 hg w62 hbox hb; have BK101 := q_ (hbox); have GW101 := ge_ hg HB; have GE101 := GW101; replace HB := sb_ HB hb; clear hb hbox hg; obtain ⟨hcz63_0, hfz63_0⟩ := d1_ BK101) | ((with_reducible refine gate_callee (f := 28) rfl ?_); refine gl_ (some 12) rfl rfl Try.func28 #[.agg #[.slice A0_0 l0_0.length c0_0]] ?_; (with_reducible refine (impl_GrammarOk.calls _ _ l0_0 false _ ?side1 ?side2 A2.o).mono ?_); (case side1 => exact Kd.C_below HR0_0.o (be_ HB.o)); (case side2 => exact HC0_0.o); rintro e w64 ⟨rfl, hb⟩; refine ⟨_, rfl, ?_⟩; replace BK101 := lb_ BK101 hb; replace HB := sb1_ HB GE101 hb; (try clear hb)))
  go_ret
  exact ⟨_, rt_, by first | exact Kd.R_nil _ _ _ _ _ | exact Kd.N_nil _ _ _ _ _ | exact Kd.V_nil _ _ _ _ _ | exact Kd.Q_nil _ _ _ _ _ | exact Kd.S_nil _ _ _ _ _, be1_ HB.o GE101.o⟩
end Go.Proofs.Ytijmhelacmjggaa.P
namespace Go.Proofs.Ytijmhelacmjggaa.P
open Go.RowKit Go.Proofs.YtijmhelacmjggaaW.PrintWords Go.Proofs.YtijmhelacmjggaaW.PrintLast Go.Proofs.YtijmhelacmjggaaEv
set_option linter.unusedVariables false
set_option linter.unusedSimpArgs false
theorem idxP_lt {α : Type} (p : α → Bool) : ∀ (xs : List α) (i : Int), 0 ≤ idxP p xs i → idxP p xs i < i + xs.length
  | [], i => by simp [idxP]
  | x :: xs, i => by
    unfold idxP
    split
    · intro _; simp only [List.length_cons]; omega
    · intro h
      have := idxP_lt p xs (i + 1) h
      simp only [List.length_cons]
      omega
theorem modeAtP_lt (g : List S108) (s : ByteArray) (h : 0 ≤ modeAtP g s) : modeAtP g s < g.length := by
  have := idxP_lt (named s) g 0 h
  unfold modeAtP
  omega
inductive Reach (g : List S108) : Nat → Prop
  | zero : Reach g 0
  | step {i : Nat} {r : S113} : Reach g i → i < g.length → r ∈ (rd_T108 g (i : Int)).f1 → 0 ≤ modeAtP g r.f4 → Reach g (modeAtP g r.f4).toNat
def trueAt (s : List Bool) (n : Nat) : List Int := ((List.range n).filter fun i => s.getD i false).map fun i : Nat => (i : Int)
theorem trueAt_succ (s : List Bool) (n : Nat) : trueAt s (n + 1) = if s.getD n false = true then trueAt s n ++ [(n : Int)] else trueAt s n := by
  unfold trueAt
  rw [List.range_succ, List.filter_append, List.map_append]
  have e : List.filter (fun i => s.getD i false) [n] = if s.getD n false = true then [n] else [] := by
    rw [List.filter_cons]
    rfl
  rw [e]
  by_cases h : s.getD n false = true
  · rw [if_pos h, if_pos h]
    rfl
  · rw [if_neg h, if_neg h, List.map_nil, List.append_nil]
theorem trueAt_length (s : List Bool) (n : Nat) : (trueAt s n).length ≤ n := by
  unfold trueAt
  rw [List.length_map]
  exact Nat.le_trans (List.length_filter_le _ _) (by simp)
theorem trueAt_congr (s t : List Bool) (n : Nat) (h : ∀ i : Nat, i < n → (s[i]? = some true ↔ t[i]? = some true)) : trueAt s n = trueAt t n := by
  unfold trueAt
  congr 1
  apply List.filter_congr
  intro i hi
  have h1 := h i (List.mem_range.1 hi)
  rw [List.getD_eq_getElem?_getD, List.getD_eq_getElem?_getD]
  rw [Bool.eq_iff_iff]
  cases hs : s[i]? with
  | none =>
    cases ht : t[i]? with
    | none => simp
    | some b => rw [hs, ht] at h1; cases b <;> simp at h1 ⊢
  | some a =>
    cases ht : t[i]? with
    | none => rw [hs, ht] at h1; cases a <;> simp at h1 ⊢
    | some b => rw [hs, ht] at h1; cases a <;> cases b <;> simp at h1 ⊢
theorem rdOf_sn (s : List Bool) (k : Nat) : rdOf false s (k : Int) = true ↔ s[k]? = some true := by
  unfold rdOf
  rw [Int.toNat_natCast, List.getD_eq_getElem?_getD]
  cases s[k]? <;> simp
theorem set_sn (s : List Bool) (j k : Nat) (hj : j < s.length) : (s.set j true)[k]? = some true ↔ k = j ∨ s[k]? = some true := by
  rw [List.getElem?_set]
  by_cases h : j = k
  · subst h
    simp [hj]
  · rw [if_neg h]
    constructor
    · exact Or.inr
    · rintro (rfl | h2)
      · exact absurd rfl h
      · exact h2
theorem spec_l6List_ev (s : List Bool) (hl : s.length ≤ 1048576) : Ev (fun k => spec_l6List.f k s) (trueAt s s.length) := by
  unfold spec_l6List.f
  refine ev_loop s.length (fun k i => spec_l6List.l0 k s (trueAt s i) (i : Nat)) (fun _ => trueAt s s.length) ?_ ?_ 0 (by omega)
  · rw [ev_succ]
    simp only [spec_l6List.l0, ev_ite]
    rw [if_neg (by omega)]
    exact ev_some.2 rfl
  · intro i hi ih
    have hlen := trueAt_length s i
    rw [ev_succ]
    simp only [spec_l6List.l0, ev_ite]
    rw [if_pos (by omega), if_pos (by omega), wrap_succ hi (by omega)]
    have hr : rdOf false s (i : Int) = s.getD i false := by simp [rdOf]
    rw [hr]
    rw [trueAt_succ] at ih
    by_cases h : s.getD i false = true
    · rw [if_pos h, if_pos (by omega)]
      rw [if_pos h] at ih
      exact ih
    · rw [if_neg h]
      rw [if_neg h] at ih
      exact ih
theorem impl_Reached_l2_ev (s : List Bool) (hl : s.length ≤ 1048576) : Ev (fun k => impl_ReachedModes.l2 k [] s (s.length : Int) 0) (trueAt s s.length) := by
  refine ev_loop s.length (fun k i => impl_ReachedModes.l2 k (trueAt s i) s (s.length : Int) (i : Nat)) (fun _ => trueAt s s.length) ?_ ?_ 0 (by omega)
  · rw [ev_succ]
    simp only [impl_ReachedModes.l2, ev_ite]
    rw [if_neg (by omega)]
    exact ev_some.2 rfl
  · intro i hi ih
    have hlen := trueAt_length s i
    rw [ev_succ]
    simp only [impl_ReachedModes.l2, ev_ite]
    rw [if_pos (by omega), if_pos (by omega), if_pos (by omega), wrap_succ hi (by omega)]
    have hr : rdOf false s (i : Int) = s.getD i false := by simp [rdOf]
    rw [hr]
    rw [trueAt_succ] at ih
    by_cases h : s.getD i false = true
    · rw [if_pos h, if_pos (by omega)]
      rw [if_pos h] at ih
      exact ih
    · rw [if_neg h]
      rw [if_neg h] at ih
      exact ih
def markT (g : List S108) (s : List Bool) (r : S113) : List Bool := if modeAtP g r.f4 ≥ 0 then s.set (modeAtP g r.f4).toNat true else s
def markRs (g : List S108) (s : List Bool) (rs : List S113) : List Bool := rs.foldl (markT g) s
def sweepM (g : List S108) (s : List Bool) (i : Nat) : List Bool := if s[i]? = some true then markRs g s (rd_T108 g (i : Int)).f1 else s
def sweepTo (g : List S108) (s : List Bool) (n : Nat) : List Bool := (List.range n).foldl (sweepM g) s
def roundsTo (g : List S108) (s : List Bool) : Nat → List Bool
  | 0 => s
  | n + 1 => sweepTo g (roundsTo g s n) g.length
theorem markT_length (g : List S108) (s : List Bool) (r : S113) : (markT g s r).length = s.length := by
  unfold markT
  split <;> simp
theorem markRs_length (g : List S108) (rs : List S113) : ∀ s : List Bool, (markRs g s rs).length = s.length := by
  induction rs with
  | nil => intro s; rfl
  | cons r rs ih => intro s; exact (ih (markT g s r)).trans (markT_length g s r)
theorem sweepM_length (g : List S108) (s : List Bool) (i : Nat) : (sweepM g s i).length = s.length := by
  unfold sweepM
  split
  · exact markRs_length g _ s
  · rfl
theorem sweepTo_succ (g : List S108) (s : List Bool) (n : Nat) : sweepTo g s (n + 1) = sweepM g (sweepTo g s n) n := by
  unfold sweepTo
  rw [List.range_succ, List.foldl_append]
  rfl
theorem sweepTo_length (g : List S108) (s : List Bool) : ∀ n, (sweepTo g s n).length = s.length
  | 0 => rfl
  | n + 1 => by rw [sweepTo_succ, sweepM_length, sweepTo_length g s n]
theorem roundsTo_length (g : List S108) (s : List Bool) : ∀ n, (roundsTo g s n).length = s.length
  | 0 => rfl
  | n + 1 => by rw [roundsTo, sweepTo_length, roundsTo_length g s n]
def Sub (s t : List Bool) : Prop := ∀ k : Nat, s[k]? = some true → t[k]? = some true
theorem markT_sub (g : List S108) (s : List Bool) (hs : s.length = g.length) (r : S113) : Sub s (markT g s r) := by
  intro k hk
  unfold markT
  split
  · rename_i h
    have := modeAtP_lt g r.f4 h
    exact (set_sn s _ k (by omega)).2 (.inr hk)
  · exact hk
theorem markRs_sub (g : List S108) (rs : List S113) : ∀ s : List Bool, s.length = g.length → Sub s (markRs g s rs) := by
  induction rs with
  | nil => intro s _ k hk; exact hk
  | cons r rs ih => intro s hs k hk; exact ih (markT g s r) ((markT_length g s r).trans hs) k (markT_sub g s hs r k hk)
theorem markRs_has (g : List S108) (rs : List S113) : ∀ s : List Bool, s.length = g.length → ∀ r ∈ rs, 0 ≤ modeAtP g r.f4 → (markRs g s rs)[(modeAtP g r.f4).toNat]? = some true := by
  induction rs with
  | nil => intro s _ r hr; simp at hr
  | cons x rs ih =>
    intro s hs r hr h0
    have hl := (markT_length g s x).trans hs
    rcases List.mem_cons.1 hr with rfl | hr
    · refine markRs_sub g rs _ hl _ ?_
      unfold markT
      rw [if_pos h0]
      have := modeAtP_lt g r.f4 h0
      exact (set_sn s _ _ (by omega)).2 (.inl rfl)
    · exact ih (markT g s x) hl r hr h0
theorem markRs_reach (g : List S108) (i : Nat) (hi : Reach g i) (hlt : i < g.length) (rs : List S113) : ∀ s : List Bool, s.length = g.length → (∀ r ∈ rs, r ∈ (rd_T108 g (i : Int)).f1) → (∀ k : Nat, s[k]? = some true → Reach g k) → ∀ k : Nat, (markRs g s rs)[k]? = some true → Reach g k := by
  induction rs with
  | nil => intro s _ _ h; exact h
  | cons x rs ih =>
    intro s hs hm h
    refine ih (markT g s x) ((markT_length g s x).trans hs) (fun r hr => hm r (List.mem_cons_of_mem _ hr)) ?_
    intro k hk
    unfold markT at hk
    split at hk
    · rename_i h0
      have := modeAtP_lt g x.f4 h0
      rcases (set_sn s _ k (by omega)).1 hk with rfl | hk
      · exact Reach.step hi hlt (hm x List.mem_cons_self) h0
      · exact h k hk
    · exact h k hk
def Closed (g : List S108) (s : List Bool) : Prop := ∀ i : Nat, i < g.length → s[i]? = some true → ∀ r ∈ (rd_T108 g (i : Int)).f1, 0 ≤ modeAtP g r.f4 → s[(modeAtP g r.f4).toNat]? = some true
theorem closed_reach (g : List S108) (s : List Bool) (h0 : s[0]? = some true) (hc : Closed g s) : ∀ k : Nat, Reach g k → s[k]? = some true := by
  intro k hk
  induction hk with
  | zero => exact h0
  | step _ hlt hr h ih => exact hc _ hlt ih _ hr h
theorem set_same (s : List Bool) (k : Nat) (h : s[k]? = some true) : s.set k true = s := by
  apply List.ext_getElem?
  intro j
  rw [List.getElem?_set]
  by_cases e : k = j
  · subst e
    have hk : k < s.length := (List.getElem?_eq_some_iff.1 h).1
    rw [if_pos rfl, if_pos hk, h]
  · rw [if_neg e]
theorem markRs_same (g : List S108) (rs : List S113) : ∀ s : List Bool, (∀ r ∈ rs, 0 ≤ modeAtP g r.f4 → s[(modeAtP g r.f4).toNat]? = some true) → markRs g s rs = s := by
  induction rs with
  | nil => intro s _; rfl
  | cons x rs ih =>
    intro s h
    have e : markT g s x = s := by
      unfold markT
      split
      · rename_i h0
        exact set_same s _ (h x List.mem_cons_self h0)
      · rfl
    show markRs g (markT g s x) rs = s
    rw [e]
    exact ih s (fun r hr => h r (List.mem_cons_of_mem _ hr))
theorem sweepTo_same (g : List S108) (s : List Bool) (hc : Closed g s) : ∀ n, n ≤ g.length → sweepTo g s n = s
  | 0, _ => rfl
  | n + 1, h => by
    rw [sweepTo_succ, sweepTo_same g s hc n (by omega)]
    unfold sweepM
    split
    · rename_i hs
      exact markRs_same g _ s (fun r hr h0 => hc n (by omega) hs r hr h0)
    · rfl
theorem sweepM_sub (g : List S108) (s : List Bool) (hs : s.length = g.length) (i : Nat) : Sub s (sweepM g s i) := by
  unfold sweepM
  split
  · exact markRs_sub g _ s hs
  · exact fun k hk => hk
theorem sweepTo_sub (g : List S108) (s : List Bool) (hs : s.length = g.length) : ∀ n, Sub s (sweepTo g s n)
  | 0 => fun k hk => hk
  | n + 1 => fun k hk => by
    rw [sweepTo_succ]
    exact sweepM_sub g _ ((sweepTo_length g s n).trans hs) n k (sweepTo_sub g s hs n k hk)
theorem sweepTo_has (g : List S108) (s : List Bool) (hs : s.length = g.length) (i : Nat) (hi : s[i]? = some true) (r : S113) (hr : r ∈ (rd_T108 g (i : Int)).f1) (h0 : 0 ≤ modeAtP g r.f4) : ∀ n, i < n → (sweepTo g s n)[(modeAtP g r.f4).toNat]? = some true
  | 0, h => by omega
  | n + 1, h => by
    have hl := (sweepTo_length g s n).trans hs
    rw [sweepTo_succ]
    by_cases e : i = n
    · subst e
      unfold sweepM
      rw [if_pos (sweepTo_sub g s hs i i hi)]
      exact markRs_has g _ _ hl r hr h0
    · exact sweepM_sub g _ hl n _ (sweepTo_has g s hs i hi r hr h0 n (by omega))
theorem sweepTo_reach (g : List S108) (s : List Bool) (hs : s.length = g.length) (h : ∀ k : Nat, s[k]? = some true → Reach g k) : ∀ n, n ≤ g.length → ∀ k : Nat, (sweepTo g s n)[k]? = some true → Reach g k
  | 0, _ => h
  | n + 1, hn => by
    intro k hk
    have ih := sweepTo_reach g s hs h n (by omega)
    rw [sweepTo_succ] at hk
    unfold sweepM at hk
    split at hk
    · rename_i hsn
      exact markRs_reach g n (ih n hsn) (by omega) _ _ ((sweepTo_length g s n).trans hs) (fun r hr => hr) ih k hk
    · exact ih k hk
theorem roundsTo_reach (g : List S108) (s : List Bool) (hs : s.length = g.length) (h : ∀ k : Nat, s[k]? = some true → Reach g k) : ∀ n, ∀ k : Nat, (roundsTo g s n)[k]? = some true → Reach g k
  | 0 => h
  | n + 1 => sweepTo_reach g _ ((roundsTo_length g s n).trans hs) (roundsTo_reach g s hs h n) _ (Nat.le_refl _)
theorem roundsTo_sub (g : List S108) (s : List Bool) (hs : s.length = g.length) : ∀ n, Sub s (roundsTo g s n)
  | 0 => fun k hk => hk
  | n + 1 => fun k hk => sweepTo_sub g _ ((roundsTo_length g s n).trans hs) _ k (roundsTo_sub g s hs n k hk)
def held (s : List Bool) : Nat := s.countP id
theorem held_le (s t : List Bool) (hl : s.length = t.length) (h : Sub s t) : held s ≤ held t := by
  induction s generalizing t with
  | nil => simp [held]
  | cons a s ih =>
    cases t with
    | nil => simp at hl
    | cons b t =>
      have h1 := ih t (by simpa using hl) (fun k hk => by simpa using h (k + 1) (by simpa using hk))
      have h2 : a = true → b = true := fun ha => by simpa using h 0 (by simp [ha])
      unfold held at h1 ⊢
      rw [List.countP_cons, List.countP_cons]
      cases a <;> cases b <;> simp at h2 ⊢ <;> omega
theorem held_lt (s t : List Bool) (hl : s.length = t.length) (h : Sub s t) (k : Nat) (h1 : s[k]? ≠ some true) (h2 : t[k]? = some true) : held s < held t := by
  induction s generalizing t k with
  | nil =>
    have : t = [] := List.length_eq_zero_iff.1 hl.symm
    subst this
    simp at h2
  | cons a s ih =>
    cases t with
    | nil => simp at hl
    | cons b t =>
      have hsub : Sub s t := fun k hk => by simpa using h (k + 1) (by simpa using hk)
      have hab : a = true → b = true := fun ha => by simpa using h 0 (by simp [ha])
      cases k with
      | zero =>
        have hle := held_le s t (by simpa using hl) hsub
        have ha : a = false := by simpa using h1
        have hb : b = true := by simpa using h2
        subst ha
        subst hb
        unfold held at hle ⊢
        rw [List.countP_cons, List.countP_cons]
        simp
        omega
      | succ k =>
        have := ih t (by simpa using hl) hsub k (by simpa using h1) (by simpa using h2)
        unfold held at this ⊢
        rw [List.countP_cons, List.countP_cons]
        cases a <;> cases b <;> simp at hab ⊢ <;> omega
open Classical in
theorem roundsTo_grow (g : List S108) (s : List Bool) (hs : s.length = g.length) (h1 : 1 ≤ held s) : ∀ n, Closed g (roundsTo g s n) ∨ n + 1 ≤ held (roundsTo g s n)
  | 0 => .inr h1
  | n + 1 => by
    have hl := (roundsTo_length g s n).trans hs
    rcases roundsTo_grow g s hs h1 n with hc | hn
    · left
      rw [roundsTo, sweepTo_same g _ hc _ (Nat.le_refl _)]
      exact hc
    · by_cases hc : Closed g (roundsTo g s n)
      · left
        rw [roundsTo, sweepTo_same g _ hc _ (Nat.le_refl _)]
        exact hc
      · right
        unfold Closed at hc
        simp only [Classical.not_forall] at hc
        obtain ⟨i, hi, hsn, r, hr, h0, hno⟩ := hc
        have h2 := sweepTo_has g _ hl i hsn r hr h0 g.length hi
        have := held_lt _ _ (by rw [sweepTo_length]) (sweepTo_sub g _ hl g.length) _ hno h2
        rw [roundsTo]
        omega
theorem rounds_closed (g : List S108) (s : List Bool) (hs : s.length = g.length) (h1 : 1 ≤ held s) : Closed g (roundsTo g s g.length) := by
  rcases roundsTo_grow g s hs h1 g.length with h | h
  · exact h
  · have : held (roundsTo g s g.length) ≤ (roundsTo g s g.length).length := List.countP_le_length
    rw [roundsTo_length] at this
    omega
def first0 (n : Nat) : List Bool := (List.replicate n false).set 0 true
theorem first0_sn (n : Nat) (hn : 0 < n) (k : Nat) : (first0 n)[k]? = some true ↔ k = 0 := by
  unfold first0
  rw [set_sn _ _ _ (by simpa using hn)]
  constructor
  · rintro (h | h)
    · exact h
    · exfalso
      have := List.getElem?_replicate (a := false) (n := n) (i := k)
      rw [this] at h
      split at h <;> simp at h
  · exact Or.inl
def reachedB (g : List S108) : List Int := if grammarB g = true then trueAt (roundsTo g (first0 g.length) g.length) g.length else []
theorem rounds_iff (g : List S108) (hn : 0 < g.length) (k : Nat) : (roundsTo g (first0 g.length) g.length)[k]? = some true ↔ Reach g k := by
  have hl : (first0 g.length).length = g.length := by simp [first0]
  have h0 : (first0 g.length)[0]? = some true := (first0_sn _ hn 0).2 rfl
  constructor
  · exact roundsTo_reach g _ hl (fun k hk => by rw [(first0_sn _ hn k).1 hk]; exact Reach.zero) g.length k
  · refine closed_reach g _ (roundsTo_sub g _ hl _ 0 h0) (rounds_closed g _ hl ?_) k
    have := held_lt (List.replicate g.length false) (first0 g.length) (by simp [first0]) (fun k hk => by
      have h2 := List.getElem?_replicate (a := false) (n := g.length) (i := k)
      rw [h2] at hk
      split at hk <;> simp at hk) 0 (by
      have h2 := List.getElem?_replicate (a := false) (n := g.length) (i := 0)
      rw [h2]
      split <;> simp) h0
    omega
theorem spec_Reached_l2_ev (g : List S108) (hg : smallG g) (s : List Bool) (hs : s.length = g.length) (x : Int) (i : Nat) (hi : i < g.length) (R : List Int) (ih : Ev (fun k => spec_ReachedModes.l1 k (sweepM g s i) x ((i + 1 : Nat) : Int) g) R) : Ev (fun k => spec_ReachedModes.l2 k s x (i : Int) 0 g) R := by
  have hgl := hg.1
  have hrl := (hg.2 _ (rd_mode_mem g i hi)).2.1
  unfold sweepM at ih
  by_cases h : s[i]? = some true
  · rw [if_pos h] at ih
    refine ev_loop (rd_T108 g (i : Int)).f1.length (fun k j => spec_ReachedModes.l2 k (markRs g s ((rd_T108 g (i : Int)).f1.take j)) x (i : Int) (j : Nat) g) (fun _ => R) ?_ ?_ 0 (by omega)
    · have hl := (markRs_length g ((rd_T108 g (i : Int)).f1) s).trans hs
      have hsn := (rdOf_sn _ i).2 (markRs_sub g (rd_T108 g (i : Int)).f1 s hs i h)
      rw [ev_succ, List.take_length]
      simp only [spec_ReachedModes.l2, ev_ite]
      rw [if_pos (by omega), if_pos (by omega), if_pos hsn, if_pos (by omega), decide_eq_false (by omega), ev_succ]
      simp only [spec_ReachedModes.j3, Bool.false_eq_true, if_false]
      rw [wrap_succ hi (by omega)]
      exact ih
    · intro j hj ihj
      have hl := (markRs_length g ((rd_T108 g (i : Int)).f1.take j) s).trans hs
      have hsn := (rdOf_sn _ i).2 (markRs_sub g ((rd_T108 g (i : Int)).f1.take j) s hs i h)
      have e : markRs g s ((rd_T108 g (i : Int)).f1.take (j + 1)) = markT g (markRs g s ((rd_T108 g (i : Int)).f1.take j)) (rd_T113 (rd_T108 g (i : Int)).f1 (j : Int)) := by
        have e2 : rd_T113 (rd_T108 g (i : Int)).f1 (j : Int) = (rd_T108 g (i : Int)).f1[j] := by simp [rd_T113, hj]
        unfold markRs
        rw [List.take_succ_eq_append_getElem hj, List.foldl_append, e2]
        rfl
      rw [e] at ihj
      rw [ev_succ]
      simp only [spec_ReachedModes.l2, ev_ite]
      rw [if_pos (by omega), if_pos (by omega), if_pos hsn, if_pos (by omega), decide_eq_true (by omega), ev_succ]
      simp only [spec_ReachedModes.j3, if_true, ev_ite]
      rw [if_pos (by omega), if_pos (by omega), if_pos (by omega), if_pos (by omega), ev_bind (spec_ModeAt_ev g _ (by omega)), wrap_succ hj (by omega)]
      unfold markT at ihj
      by_cases h0 : modeAtP g (rd_T113 (rd_T108 g (i : Int)).f1 (j : Int)).f4 ≥ 0
      · have := modeAtP_lt g _ h0
        rw [if_pos h0] at ihj
        rw [ev_ite, if_pos h0, ev_ite, if_pos (by omega), ev_ite, if_pos (by omega)]
        exact ihj
      · rw [if_neg h0] at ihj
        rw [ev_ite, if_neg h0]
        exact ihj
  · rw [if_neg h] at ih
    have hsn : ¬ rdOf false s (i : Int) = true := fun hc => h ((rdOf_sn s i).1 hc)
    rw [ev_succ]
    simp only [spec_ReachedModes.l2, ev_ite]
    rw [if_pos (by omega), if_pos (by omega), if_neg hsn, ev_succ]
    simp only [spec_ReachedModes.j3, Bool.false_eq_true, if_false]
    rw [wrap_succ hi (by omega)]
    exact ih
theorem spec_Reached_l1_ev (g : List S108) (hg : smallG g) (s : List Bool) (hs : s.length = g.length) (x : Nat) (hx : x < g.length) (R : List Int) (ih : Ev (fun k => spec_ReachedModes.l0 k (sweepTo g s g.length) ((x + 1 : Nat) : Int) g) R) : Ev (fun k => spec_ReachedModes.l1 k s (x : Int) 0 g) R := by
  have hgl := hg.1
  refine ev_loop g.length (fun k i => spec_ReachedModes.l1 k (sweepTo g s i) (x : Int) (i : Nat) g) (fun _ => R) ?_ ?_ 0 (by omega)
  · rw [ev_succ]
    simp only [spec_ReachedModes.l1, ev_ite]
    rw [if_neg (by omega), wrap_succ hx (by omega)]
    exact ih
  · intro i hi ihi
    rw [ev_succ]
    simp only [spec_ReachedModes.l1, ev_ite]
    rw [if_pos (by omega)]
    rw [sweepTo_succ] at ihi
    exact spec_Reached_l2_ev g hg _ ((sweepTo_length g s i).trans hs) (x : Int) i hi R ihi
theorem spec_ReachedModes_ev (g : List S108) (hg : smallG g) : Ev (fun k => spec_ReachedModes.f k g) (reachedB g) := by
  have hgl := hg.1
  unfold spec_ReachedModes.f reachedB
  rw [ev_bind (spec_GrammarOk_ev g hg)]
  cases hb : grammarB g
  · simp only [Bool.false_eq_true, if_false]
    exact ev_some.2 rfl
  have hn : 0 < g.length := by
    unfold grammarB at hb
    rw [Bool.and_eq_true, decide_eq_true_eq] at hb
    omega
  simp only [if_true, ev_ite, Option.bind_some, List.length_replicate, Int.toNat_natCast]
  rw [if_pos (by omega), if_pos (by omega), if_pos (by omega)]
  have hl : (first0 g.length).length = g.length := by simp [first0]
  refine ev_loop g.length (fun k r => spec_ReachedModes.l0 k (roundsTo g (first0 g.length) r) (r : Nat) g) (fun _ => trueAt (roundsTo g (first0 g.length) g.length) g.length) ?_ ?_ 0 (by omega)
  · have hl2 := (roundsTo_length g (first0 g.length) g.length).trans hl
    have h6 := spec_l6List_ev (roundsTo g (first0 g.length) g.length) (by omega)
    rw [hl2] at h6
    rw [ev_succ]
    simp only [spec_ReachedModes.l0, ev_ite]
    rw [if_neg (by omega), ev_bind h6]
    exact ev_some.2 rfl
  · intro r hr ih
    rw [ev_succ]
    simp only [spec_ReachedModes.l0, ev_ite]
    rw [if_pos (by omega)]
    exact spec_Reached_l1_ev g hg _ ((roundsTo_length g (first0 g.length) r).trans hl) r hr _ ih
def hasT (r : S113) : Bool := if r.f3 = 1 then true else r.f3 == 2
theorem hasTarget_eq (r : S113) : impl_Rule_hasTarget.f r.f0 r.f1.f0 r.f2 r.f3 r.f4 = some (hasT r) := by
  unfold impl_Rule_hasTarget.f hasT
  split <;> rfl
theorem modesB_all (g : List S108) (h : modesB g 0 = true) (i : Nat) (hi : i < g.length) : modeB g i (rd_T108 g (i : Int)) = true := by
  unfold modesB at h
  rw [List.drop_zero, List.all_eq_true] at h
  exact h i (List.mem_range.2 hi)
theorem modeAtP_empty (g : List S108) (hb : grammarB g = true) (s : ByteArray) (hs : s.toList = []) : modeAtP g s < 0 := by
  have hm : modesB g 0 = true := by
    unfold grammarB at hb
    rw [Bool.and_eq_true] at hb
    exact hb.2
  by_cases h : 0 ≤ modeAtP g s
  · exfalso
    have h2 := (idxP_ge (named s) g 0 (by omega)).1 h
    rw [List.any_eq_true] at h2
    obtain ⟨m, hmem, hn⟩ := h2
    obtain ⟨i, hi, rfl⟩ := List.getElem_of_mem hmem
    have e : rd_T108 g (i : Int) = g[i] := by simp [rd_T108, hi]
    have h3 := modesB_all g hm i hi
    rw [e] at h3
    unfold modeB at h3
    rw [Bool.and_eq_true] at h3
    have h4 := h3.1
    unfold nameB at h4
    rw [Bool.and_eq_true, decide_eq_true_eq] at h4
    unfold named at hn
    rw [beq_iff_eq, hs, ByteArray.toList_eq] at hn
    have h5 : g[i].f0.size = 0 := by
      have := congrArg List.length hn
      simpa using this
    omega
  · omega
theorem rule_edge (g : List S108) (hb : grammarB g = true) (i : Nat) (hi : i < g.length) (r : S113) (hr : r ∈ (rd_T108 g (i : Int)).f1) : hasT r = true ↔ 0 ≤ modeAtP g r.f4 := by
  have hm : modesB g 0 = true := by
    unfold grammarB at hb
    rw [Bool.and_eq_true] at hb
    exact hb.2
  have h3 := modesB_all g hm i hi
  unfold modeB at h3
  simp only [Bool.and_eq_true] at h3
  have h4 := List.all_eq_true.1 h3.2.2.2 r hr
  unfold ruleB at h4
  simp only [Bool.and_eq_true] at h4
  have h5 := h4.2.2.2.2
  unfold targetB at h5
  unfold hasT
  by_cases c1 : r.f3 = 1
  · rw [if_pos c1] at h5 ⊢
    simpa using h5
  · rw [if_neg c1] at h5 ⊢
    by_cases c2 : r.f3 = 2
    · rw [if_pos c2] at h5
      simp only [c2, beq_self_eq_true, true_iff]
      simpa using h5
    · rw [if_neg c2, beq_iff_eq] at h5
      have := modeAtP_empty g hb r.f4 h5
      constructor
      · intro h; simp [c2] at h
      · intro h; omega
def pushR (g : List S108) (o : List Int) (rs : List S113) : List Int := rs.foldl (fun o r => if hasT r = true then o ++ [modeAtP g r.f4] else o) o
theorem pushR_length (g : List S108) (rs : List S113) : ∀ o : List Int, (pushR g o rs).length ≤ o.length + rs.length := by
  induction rs with
  | nil => intro o; exact Nat.le_refl _
  | cons r rs ih =>
    intro o
    have h := ih (if hasT r = true then o ++ [modeAtP g r.f4] else o)
    have h2 : (if hasT r = true then o ++ [modeAtP g r.f4] else o).length ≤ o.length + 1 := by split <;> simp
    simp only [pushR, List.foldl_cons, List.length_cons] at h ⊢
    omega
theorem pushR_take (g : List S108) (o : List Int) (rs : List S113) (j : Nat) (h : j < rs.length) : pushR g o (rs.take (j + 1)) = if hasT (rd_T113 rs (j : Int)) = true then pushR g o (rs.take j) ++ [modeAtP g (rd_T113 rs (j : Int)).f4] else pushR g o (rs.take j) := by
  have e : rd_T113 rs (j : Int) = rs[j] := by simp [rd_T113, h]
  unfold pushR
  rw [List.take_succ_eq_append_getElem h, List.foldl_append, e]
  rfl
theorem pushR_mem (g : List S108) (rs : List S113) : ∀ (o : List Int) (m : Int), m ∈ pushR g o rs ↔ m ∈ o ∨ ∃ r ∈ rs, hasT r = true ∧ m = modeAtP g r.f4 := by
  induction rs with
  | nil => intro o m; simp [pushR]
  | cons r rs ih =>
    intro o m
    have h := ih (if hasT r = true then o ++ [modeAtP g r.f4] else o) m
    show m ∈ pushR g (if hasT r = true then o ++ [modeAtP g r.f4] else o) rs ↔ _
    rw [h]
    by_cases c : hasT r = true
    · rw [if_pos c]
      simp only [List.mem_append, List.mem_cons, List.not_mem_nil, or_false]
      constructor
      · rintro ((h1 | h1) | ⟨r2, h1, h2⟩)
        · exact .inl h1
        · exact .inr ⟨r, .inl rfl, c, h1⟩
        · exact .inr ⟨r2, .inr h1, h2⟩
      · rintro (h1 | ⟨r2, rfl | h1, h2, h3⟩)
        · exact .inl (.inl h1)
        · exact .inl (.inr h3)
        · exact .inr ⟨r2, h1, h2, h3⟩
    · rw [if_neg c]
      simp only [List.mem_cons]
      constructor
      · rintro (h1 | ⟨r2, h1, h2⟩)
        · exact .inl h1
        · exact .inr ⟨r2, .inr h1, h2⟩
      · rintro (h1 | ⟨r2, rfl | h1, h2, h3⟩)
        · exact .inl h1
        · exact absurd h2 c
        · exact .inr ⟨r2, h1, h2, h3⟩
theorem impl_Reached_l1_ev (g : List S108) (rs : List S113) (hrs : rs.length ≤ 1048576) (s : List Bool) (o : List Int) (ho : o.length ≤ 17592180000000) (R : List Int) (ih : Ev (fun k => impl_ReachedModes.l0 k s (pushR g o rs) [] g) R) : Ev (fun k => impl_ReachedModes.l1 k s o [] rs (rs.length : Int) 0 g) R := by
  refine ev_loop rs.length (fun k j => impl_ReachedModes.l1 k s (pushR g o (rs.take j)) [] rs (rs.length : Int) (j : Nat) g) (fun _ => R) ?_ ?_ 0 (by omega)
  · rw [ev_succ, List.take_length]
    simp only [impl_ReachedModes.l1, ev_ite]
    rw [if_neg (by omega)]
    exact ih
  · intro j hj ihj
    have hlen := pushR_length g (rs.take j) o
    rw [List.length_take] at hlen
    rw [pushR_take g o rs j hj] at ihj
    rw [ev_succ]
    simp only [impl_ReachedModes.l1, hasTarget_eq, impl_ModeAt.f, Option.bind_some, ev_ite]
    rw [if_pos (by omega), if_pos (by omega), if_pos (by omega), wrap_succ hj (by omega)]
    by_cases c : hasT (rd_T113 rs (j : Int)) = true
    · rw [if_pos c] at ihj
      rw [if_pos c, if_pos (by omega)]
      exact ihj
    · rw [if_neg c] at ihj
      rw [if_neg c]
      exact ihj
theorem held_len (s : List Bool) : held s ≤ s.length := List.countP_le_length
theorem impl_Reached_l0_ev (g : List S108) (hg : smallG g) (hb : grammarB g = true) (hn : 0 < g.length) : ∀ (N : Nat) (s : List Bool) (o : List Int), s.length = g.length → o.length + 1048577 * (g.length - held s) ≤ N → N ≤ 1 + 1048577 * g.length → (∀ m ∈ o, 0 ≤ m ∧ m < g.length ∧ Reach g m.toNat) → (∀ k : Nat, s[k]? = some true → Reach g k) → (∀ i : Nat, i < g.length → s[i]? = some true → ∀ r ∈ (rd_T108 g (i : Int)).f1, 0 ≤ modeAtP g r.f4 → s[(modeAtP g r.f4).toNat]? = some true ∨ modeAtP g r.f4 ∈ o) → (s[0]? = some true ∨ (0 : Int) ∈ o) → Ev (fun k => impl_ReachedModes.l0 k s o [] g) (reachedB g) := by
  have hgl := hg.1
  intro N
  induction N with
  | zero =>
    intro s o hs hN hN2 ho hr hc h0
    have e : o = [] := List.length_eq_zero_iff.1 (by omega)
    subst e
    have hsn : s[0]? = some true := h0.elim id (fun h => by simp at h)
    have hcl : Closed g s := fun i hi h r hrm hp => (hc i hi h r hrm hp).elim id (fun h => by simp at h)
    have hsame : trueAt s g.length = reachedB g := by
      unfold reachedB
      rw [if_pos hb]
      exact trueAt_congr _ _ _ fun i _ => ⟨fun h => (rounds_iff g hn i).2 (hr i h), fun h => closed_reach g s hsn hcl i ((rounds_iff g hn i).1 h)⟩
    rw [ev_succ]
    simp only [impl_ReachedModes.l0, ev_ite]
    rw [if_neg (by simp)]
    have h2 := impl_Reached_l2_ev s (by omega)
    rw [hs, hsame] at h2
    rw [hs]
    exact h2
  | succ N ih =>
    intro s o hs hN hN2 ho hr hc h0
    cases o with
    | nil => exact (by
        have hsn : s[0]? = some true := h0.elim id (fun h => by simp at h)
        have hcl : Closed g s := fun i hi h r hrm hp => (hc i hi h r hrm hp).elim id (fun h => by simp at h)
        have hsame : trueAt s g.length = reachedB g := by
          unfold reachedB
          rw [if_pos hb]
          exact trueAt_congr _ _ _ fun i _ => ⟨fun h => (rounds_iff g hn i).2 (hr i h), fun h => closed_reach g s hsn hcl i ((rounds_iff g hn i).1 h)⟩
        rw [ev_succ]
        simp only [impl_ReachedModes.l0, ev_ite]
        rw [if_neg (by simp)]
        have h2 := impl_Reached_l2_ev s (by omega)
        rw [hs, hsame] at h2
        rw [hs]
        exact h2)
    | cons m o =>
      obtain ⟨hm0, hm1, hmr⟩ := ho m List.mem_cons_self
      obtain ⟨i, rfl⟩ : ∃ i : Nat, m = (i : Int) := ⟨m.toNat, by omega⟩
      rw [Int.toNat_natCast] at hmr
      have hi : i < g.length := by omega
      have hrd : rd ((i : Int) :: o) 0 = (i : Int) := rfl
      have hdr : ((i : Int) :: o).drop (1 : Int).toNat = o := rfl
      simp only [List.length_cons] at hN
      rw [ev_succ]
      simp only [impl_ReachedModes.l0, ev_ite, Option.bind_some, hrd, hdr, List.length_cons]
      rw [if_pos (by omega), if_pos (by omega), if_pos (by omega), if_pos (by omega), if_pos (by omega)]
      by_cases h : s[i]? = some true
      · rw [if_pos ((rdOf_sn s i).2 h)]
        refine ih s o hs (by omega) (by omega) (fun m hm => ho m (List.mem_cons_of_mem _ hm)) hr ?_ ?_
        · intro j hj hjs r hrm hp
          rcases hc j hj hjs r hrm hp with h1 | h1
          · exact .inl h1
          · rcases List.mem_cons.1 h1 with h1 | h1
            · left
              rw [h1, Int.toNat_natCast]
              exact h
            · exact .inr h1
        · rcases h0 with h0 | h0
          · exact .inl h0
          · rcases List.mem_cons.1 h0 with h0 | h0
            · left
              have : i = 0 := by omega
              rw [← this]
              exact h
            · exact .inr h0
      · rw [if_neg (fun hx => h ((rdOf_sn s i).1 hx)), if_pos (by omega), Int.toNat_natCast]
        have hrl := (hg.2 _ (rd_mode_mem g i hi)).2.1
        have hset : ∀ k : Nat, (s.set i true)[k]? = some true ↔ k = i ∨ s[k]? = some true := fun k => set_sn s i k (by omega)
        have hlt := held_lt s (s.set i true) (by simp) (fun k hk => (hset k).2 (.inr hk)) i h ((hset i).2 (.inl rfl))
        have hle := held_len (s.set i true)
        rw [List.length_set] at hle
        have hpl := pushR_length g (rd_T108 g (i : Int)).f1 o
        refine impl_Reached_l1_ev g _ hrl _ o (by omega) _ (ih _ _ (by simp [hs]) (by omega) (by omega) ?_ ?_ ?_ ?_)
        · intro m hm
          rcases (pushR_mem g _ o m).1 hm with h1 | ⟨r, hrm, ht, rfl⟩
          · exact ho m (List.mem_cons_of_mem _ h1)
          · have hp := (rule_edge g hb i hi r hrm).1 ht
            exact ⟨hp, modeAtP_lt g _ hp, Reach.step hmr hi hrm hp⟩
        · intro k hk
          rcases (hset k).1 hk with rfl | h1
          · exact hmr
          · exact hr k h1
        · intro j hj hjs r hrm hp
          rcases (hset j).1 hjs with rfl | h1
          · exact .inr ((pushR_mem g _ o _).2 (.inr ⟨r, hrm, (rule_edge g hb j hj r hrm).2 hp, rfl⟩))
          · rcases hc j hj h1 r hrm hp with h2 | h2
            · exact .inl ((hset _).2 (.inr h2))
            · rcases List.mem_cons.1 h2 with h2 | h2
              · left
                refine (hset _).2 (.inl ?_)
                rw [h2, Int.toNat_natCast]
              · exact .inr ((pushR_mem g _ o _).2 (.inl h2))
        · rcases h0 with h0 | h0
          · exact .inl ((hset 0).2 (.inr h0))
          · rcases List.mem_cons.1 h0 with h0 | h0
            · exact .inl ((hset 0).2 (.inl (by omega)))
            · exact .inr ((pushR_mem g _ o _).2 (.inl h0))
theorem impl_ReachedModes_ev (g : List S108) (hg : smallG g) : Ev (fun k => impl_ReachedModes.f k g) (reachedB g) := by
  have hgl := hg.1
  unfold impl_ReachedModes.f
  simp only [impl_GrammarOk_eq g hg, Option.bind_some]
  cases hb : grammarB g
  · simp only [Bool.false_eq_true, if_false]
    exact ev_some.2 (by simp [reachedB, hb])
  have hn : 0 < g.length := by
    unfold grammarB at hb
    rw [Bool.and_eq_true, decide_eq_true_eq] at hb
    omega
  simp only [if_true, ev_ite, Int.toNat_natCast]
  rw [if_pos (by omega), if_pos (by omega)]
  have hno : ∀ k : Nat, (List.replicate g.length false)[k]? ≠ some true := fun k hk => by
    have h2 := List.getElem?_replicate (a := false) (n := g.length) (i := k)
    rw [h2] at hk
    split at hk <;> simp at hk
  refine impl_Reached_l0_ev g hg hb hn (1 + 1048577 * g.length) _ _ (by simp) (by simp only [List.length_cons, List.length_nil]; omega) (Nat.le_refl _) ?_ (fun k hk => absurd hk (hno k)) (fun i _ hk => absurd hk (hno i)) (.inr (by simp))
  intro m hm
  have : m = 0 := by simpa using hm
  subst this
  exact ⟨by omega, by omega, Reach.zero⟩
theorem reachedB_length (g : List S108) : (reachedB g).length ≤ g.length := by
  unfold reachedB
  split
  · exact trueAt_length _ _
  · simp
end Go.Proofs.Ytijmhelacmjggaa.P
